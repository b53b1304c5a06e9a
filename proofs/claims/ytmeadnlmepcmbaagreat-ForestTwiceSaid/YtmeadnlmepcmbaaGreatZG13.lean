/- Lemmas of the proof. -/
import Derived.Laws.EntriesVeiled
import Derived.Test.YtmeadnlmepcmbaaGreatZG12
set_option linter.all false
set_option maxHeartbeats 8000000
open Go.Proofs.Tryz
namespace Go.Proofs.YtmeadnlmepcmbaaGreat
open Go.RowKit
def Xl(D:Nat->Prop)(B lo b g:Nat)(k:Option Nat)(S:Sto)(lvl:Int)(l held:List It)(w:World)(e:Ending)(W:World):Prop:=Qh lo b g k w W /\
 match Qs S lvl l held with
 |.error er=>e=.returned (.tuple #[.slice none 0 0,.int .i64 er])
 |.ok (up,S')=>∃k' D' A c,e=.returned (.tuple #[.slice A up.length c,.int .i64 0])/\Zj w.heap.size k k'/\KL w.heap.size D D'/\Bch D' B lo b g k' S' W/\qm S'=true/\W.ownsRow w.heap.size 51 5 (.slice A up.length c) up.length (qC (upV up))/\∀q,(Value.slice A up.length c).ownBlock=some q->¬D' q
theorem Xl.bad{D:Nat->Prop}{B lo b g:Nat}{k:Option Nat}{S:Sto}{lvl:Int}{l held:List It}{w W:World}{er:Int}(h:Qs S lvl l held=.error er)(hB:Qh lo b g k w W):Xl D B lo b g k S lvl l held w (.returned (.tuple #[.slice none 0 0,.int .i64 er])) W:=by refine⟨hB,?_⟩;rw[h]
structure BdI(D:Nat->Prop)(B lo b g:Nat)(k:Option Nat)(S:Sto)(lvl:Int)(ps:List (List It))(P:Nat)(pv:List Value)(w:World)(v i:Value)(wr:World):Prop where
 ex:∃(j:Nat)(ups:List It)(S':Sto)(k':Option Nat)(D':Nat->Prop)(Av:OA)(cv:Nat),j<=ps.length/\i=.int .i64 (j:Int)/\v=.slice Av j cv/\ups.length=j/\makeL lvl (ps.take j) S=.ok (ups,S')/\qm S'=true/\Zj w.heap.size k k'/\KL w.heap.size D D'/\Bch D' B lo b g k' S' wr/\Qh lo b g k w wr /\
  wr.ownsRow w.heap.size 51 5 (.slice Av j cv) j (qC (upV ups))/\(∀q,(Value.slice Av j cv).ownBlock=some q->¬D' q/\P<q)/\wr.heap[P]?=some (.cells pv.toArray 55 (0,0))/\P<wr.heap.size
structure HdI(D:Nat->Prop)(B lo b g:Nat)(k:Option Nat)(S:Sto)(held:List It)(vu:Value)(wm:World)(v i:Value)(wr:World):Prop where
 ex:∃(j:Nat)(t:List UInt8),v=vu/\j<=held.length/\i=.int .i64 (j:Int)/\looseL (qB (held.take j)) S.now=.ok t/\Bch D B lo b g k (qv S t) wr/\Qh lo b g k wm wr
theorem GB{R:Ending->World->Prop}{a:Act}{W:World}{u v:Value}(h8:a.tmps[8]?.getD undef=u)(h9:a.tmps[9]?.getD undef=v)(hd:a.defers=[])(hR:R (.returned (.tuple #[u,v])) W):bodyPost prog Tryz.f130 R .ret a W:=by refine bodyPost_ret (v:=.tuple #[u,v]) ?_ hd hR;simp[results,results130,go_sem,h8,h9]
set_option maxRecDepth 100000 in
theorem qdD(D:Nat->Prop)(B lo b g:Nat)(k:Option Nat)(S:Sto)(hS:qm S=true)(lvl:Int)(A n c)(its:List It)(hio:∀x∈its,QY x)(hn0:0<its.length)(hn1:its.length<=100)(loh:Nat)(vh:Value)(hps:List (It×Value))(held:List It)(hhm:hps.map (·.1)=held)(hh1:∀p∈hps,∃A c,p.2=.slice A p.1.val.length c)(hhr:∀x∈held,(x.r=0\/8<=x.r)/\x.r<256)(hhl:held.length<=100)(w:World)(h:Bch D B lo b g k S w)(hx:kO (B3 b g k) w (.slice A n c) its)(hho:w.ownsRow loh 51 5 vh held.length (qC hps)):Calls prog 130 #[.pointer (some ⟨b,0,none⟩),.int .i64 lvl,.slice A n c,vh] w (Xl D B lo b g k S lvl its held w):=by
 obtain⟨hlb,hzb,hlg,hzg,hgb,hlw,hkq⟩:=h.size;obtain⟨hnn,hnc,hcm,hA⟩:=hx.now.at_;subst hnn;obtain⟨bi,off,rfl,hbi⟩:=hA zO;obtain⟨Ah,ch,rfl,hcc1,hcc2⟩:=qG hho;clear hA hkq;replace⟨h,hx,hio,hcm,hcc2,hho⟩:=zH6 h hx hio hcm hcc2 hho;rcases Nat.lt_or_ge 5 its.length with h5|h5
 case' inl=>
  have hpo:=zH (show Zl its=[its.take 3,its.drop 3]by unfold Zl;exact if_pos h5);have e5:decide ((5:Int)<(its.length:Int))=true:=decide_eq_true zO;go_enter func130,ntmps130;go_upto_region 3 with fail;generalize hw0:World.alloc _ _=w0;have x0:Ext w w0:=by rw[<-hw0];exact zN _ _
  have z0:w.heap.size<w0.heap.size:=by rw[<-hw0];simp
  clear hw0;refine qt zQ ?_;refine qX (w:=w0) qj (qQ []) (List.replicate 4 true) 2 zQ zQ zQ zQ zQ zQ zQ ?st (Rel.drew _ _) ?walk
  case' st=>exact qi (λ_ h=>by cases h)
  case' walk=>
   intro K hK;dsimp only[qw,List.replicate];refine zC5 ?_;refine qd (.slice (some ⟨bi,off,none⟩) 3 c) zA0 zA0 (λW hW _=>⟨W,?_,Rel.refl _ W⟩) ?_
   ·go_simp;intro hc3;exfalso;omega
   refine zC5 ?_;refine qd (.slice (some ⟨bi,off+3*5,none⟩) (its.length-3) (c-3)) zA0 zA0 (λW hW _=>⟨W,?_,Rel.refl _ W⟩) ?_
   ·go_simp;rw[if_pos zO,if_neg zO]
   refine zC5 ?_;refine qD (hK _ _ λW hW hF=>?_);clear hF hK;have hW:Ext w0 W:=hW;refine zC4 ?_;go_wp2;refine Qn ?_;go_wp2_with fail;have x1:Ext w (W.alloc (.cells #[.slice (some ⟨bi,off,none⟩) 3 c,.slice (some ⟨bi,off+15,none⟩) (its.length-3) (c-3)] 55)):=(x0.trans hW).trans (zN _ _);have zP0:w.heap.size<=W.heap.size:=(x0.trans hW).size;obtain⟨ps,hpe⟩:∃ps,ps=[its.take 3,its.drop 3]:=⟨_,rfl⟩
   obtain⟨pv,hpv⟩:∃pv:List Value,pv=[.slice (some ⟨bi,off,none⟩) 3 c,.slice (some ⟨bi,off+15,none⟩) (its.length-3) (c-3)]:=⟨_,rfl⟩
   have hpl:ps.length=2:=by rw[hpe];rfl
   have hel:Hid (∀j (hj:j<ps.length),∃bj oj cj,pv[j]?=some (.slice (some ⟨bj,oj,none⟩) ps[j].length cj)/\kO (B3 b g k) w (.slice (some ⟨bj,oj,none⟩) ps[j].length cj) ps[j]/\0<ps[j].length/\∀x∈ps[j],QY x):=zH λj hj=>by
    have e3:(its.take 3).length=3:=by rw[List.length_take];omega
    rcases j with _|_|j
    ·subst hpe hpv;refine⟨bi,off,c,?_,?_,?_,λx hxm=>hio.out x (List.mem_of_mem_take hxm)⟩
     ·simp only[List.getElem_cons_zero,e3];rfl
     ·simp only[List.getElem_cons_zero,e3];exact hx.out.take zO
     ·simp only[List.getElem_cons_zero,e3];omega
    ·subst hpe hpv;refine⟨bi,off+15,c-3,?_,?_,?_,λx hxm=>hio.out x (List.mem_of_mem_drop hxm)⟩
     ·simp only[List.getElem_cons_succ,List.getElem_cons_zero,List.length_drop];rfl
     ·simp only[List.getElem_cons_succ,List.getElem_cons_zero,List.length_drop];exact hx.out.drop (k:=3) zO
     ·simp only[List.getElem_cons_succ,List.getElem_cons_zero,List.length_drop];omega
    ·omega
   have hPr:(W.alloc (.cells #[.slice (some ⟨bi,off,none⟩) 3 c,.slice (some ⟨bi,off+15,none⟩) (its.length-3) (c-3)] 55)).heap[W.heap.size]?=some (.cells pv.toArray 55 (0,0)):=by rw[hpv];exact zI _ _ _ rfl
   have wSE:=zH (hpo.out.trans hpe.symm);clear hpe hpv hpo h5 e5 x0 z0 hW;generalize World.alloc W _=w1 at*;generalize W.heap.size=P at*;generalize Value.slice (some ⟨bi,off+15,none⟩) (its.length-3) (c-3)=v26;generalize Value.slice (some ⟨bi,off,none⟩) 3 c=v24;generalize Value.slice (some ⟨w.heap.size,0,none⟩) 1 1=v19
 case' inr=>
  have hpo:=zH (show Zl its=[its]by unfold Zl;exact if_neg zO);have e5:decide ((5:Int)<(its.length:Int))=false:=decide_eq_false zO;go_enter func130,ntmps130;go_wp2_with fail;have x1:Ext w (w.alloc (.cells #[.slice (some ⟨bi,off,none⟩) its.length c] 55)):=zN _ _;obtain⟨ps,hpe⟩:∃ps,ps=[its]:=⟨_,rfl⟩
  obtain⟨pv,hpv⟩:∃pv:List Value,pv=[.slice (some ⟨bi,off,none⟩) its.length c]:=⟨_,rfl⟩
  have hpl:ps.length=1:=by rw[hpe];rfl
  have hel:Hid (∀j (hj:j<ps.length),∃bj oj cj,pv[j]?=some (.slice (some ⟨bj,oj,none⟩) ps[j].length cj)/\kO (B3 b g k) w (.slice (some ⟨bj,oj,none⟩) ps[j].length cj) ps[j]/\0<ps[j].length/\∀x∈ps[j],QY x):=zH λj hj=>by
   rcases j with _|j
   ·subst hpe hpv;exact⟨bi,off,c,rfl,hx.out,hn0,hio.out⟩
   ·omega
  have hPr:(w.alloc (.cells #[.slice (some ⟨bi,off,none⟩) its.length c] 55)).heap[w.heap.size]?=some (.cells pv.toArray 55 (0,0)):=by rw[hpv];exact zI _ _ _ rfl
  have wSE:=zH (hpo.out.trans hpe.symm);obtain⟨P,hPP⟩:∃P,P=w.heap.size:=⟨_,rfl⟩
  rw[<-hPP]at hPr;clear hpe hpv hpo h5 e5;generalize World.alloc w _=w1 at*;have zP0:w.heap.size<=P:=zO;simp only[<-hPP];clear hPP
 all_goals
  clear hx hio hbi hnc hcm;go_loopw [8,30] (λv i wr=>BdI D B lo b g k S lvl ps P pv w v i wr) (λ_ i _=>ps.length-(intOf i).toNat)
  case atStart=>exact⟨0,[],S,k,D,none,0,Nat.zero_le _,rfl,rfl,rfl,rfl,hS,Zj.refl _ _,KL.refl _ _,h.out.ext x1,Qh.of_ext x1 hlw,World.ownsRow_nil _ _ _ _,(λq hq=>by cases hq),hPr,(zG.1 hPr).1⟩
  case round=>
   obtain⟨j,ups,S',k',D',Av,cv,hj,rfl,rfl,hul,hml,hS',hNk,hND,hbc,hbk,hAE,hoD,hPw,hPz⟩:=hrel.ex;clear hrel hPr;have hws:=(Qb hS').2.1;by_cases hlt:j<ps.length
   ·obtain⟨bj,oj,cj,hpvj,hxj,hGA,wRG⟩:=hel.out j hlt;have kP:wr.cell? ⟨P,j,none⟩=some (.slice (some ⟨bj,oj,none⟩) ps[j].length cj):=by rw[qa hPw];simpa using hpvj
    have hxr:=hxj.trans hbk.keepX (B3.of_new hNk);have HM:=zH (GA D' B lo b g k' S' lvl (some ⟨bj,oj,none⟩) ps[j].length cj ps[j] wRG hws wr hbc hxr);have hGU:=zH (λe h1=>qkK hlt (e:=e) hml h1);have hEC:=zH (λf S'' h1=>qiD hlt (f:=f) (S'':=S'') hml h1);have hmay:=zH (λf S'' (h1:zX S' lvl ps[j]=.ok (f,S''))=>(Yk wRG hS' h1).1);have hxr:=zH hxr;have d1:∀M:Int,M=(ps.length:Int)->decide ((j:Int)<M)=true:=λM hM=>decide_eq_true zO;have d3:∀M:Nat,M=ps.length->j<M:=λM hM=>zO
    first
     |(have d2:=d1 2 (by rw[hpl];rfl);have hjn:=d3 2 hpl.symm)
     |(have d2:=d1 1 (by rw[hpl];rfl);have hjn:=d3 1 hpl.symm)
    have hj1:=zH (IntWalk.wrap64_in ((j:Int)+1) zO);replace hpl:=zH hpl;generalize ps[j]=p at*;generalize hnj:p.length=nj at*;replace hnj:=zH hnj;clear hpvj wRG hxj d1 d3 hml hS' hws;go_wp2_with fail;refine HM.out.mono ?_;clear HM;rintro e wM ⟨hkM,hBU⟩;have zwr:=hbk.below.size;have zM:=hkM.below.size;have nB:∀{q cs ty fr},wr.heap[q]?=some (.cells cs ty fr)->ty≠223->ty≠5->ty≠142->¬B3 b g k' q:=λhr h1 h2 h3=>hbc.notB3 hr h1 h2 h3;have wFL:=hkM.own hAE (λq hq=>by obtain⟨cur,hc⟩:=Zz hAE hq;exact nB hc zA1 zA1 zA1);have hPM:=hkM.row hPw (nB hPw zA1 zA1 zA1);have hXF:=hbk.trans hkM hNk;rcases hmx:zX S' lvl p with er|⟨f,S''⟩
    ·rw[hmx]at hBU;have hq:=zH (show Qs S lvl its held=.error er by unfold Qs;rw[wSE.out,hGU.out er hmx]);have hne:(er != 0)=true:=by rw[bne_iff_ne];exact Ti hmx
     have hBU:e=.returned (.tuple #[.int .i64 0,.int .i64 er]):=hBU;subst hBU;clear hEC hmay hGU hmx wFL hPM hAE hPw hoD nB hbc hkM hel kP;replace hXF:=zH hXF;go_wp2_with fail;exact GB rfl rfl rfl (Xl.bad hq.out hXF.out)
    ·rw[hmx]at hBU;obtain⟨rfl,k'',D'',hN2,hD2,hb2⟩:e=.returned (.tuple #[.int .i64 (f:Int),.int .i64 0])/\∃k'' D'',Zj wr.heap.size k' k''/\KL wr.heap.size D' D''/\Bch D'' B lo b g k'' S'' wM:=hBU;have hml2:=hEC.out f S'' hmx;have hS2:=hmay.out f S'' hmx;obtain⟨A',c',g0,g1,g2,-,-,-⟩:=((hxr.out.trans hkM.keepX (B3.of_new hN2)).now).item 0 (by rw[hnj.out];exact hGA);have hk0:jj p=((p[0]'(by rw[hnj.out];exact hGA)).k,(p[0]'(by rw[hnj.out];exact hGA)).i,(p[0]'(by rw[hnj.out];exact hGA)).o):=by
      have h0:0<p.length:=by rw[hnj.out];exact hGA
      rcases p with _|⟨y,r⟩
      ·simp at h0
      ·rfl
     generalize p[0]'(by rw[hnj.out];exact hGA)=y at*;simp only[Nat.zero_mul,Nat.add_zero]at g0 g1 g2;have hN':Zj w.heap.size k k'':=hNk.trans hN2 zO;have hDn':KL w.heap.size D D'':=hND.trans hD2 zO;have hoq:∀q,(Value.slice Av j cv).ownBlock=some q->w.heap.size<=q/\q<wr.heap.size:=λq hq=>QM hAE q hq;have hBY:∀(v':Value)(W:World),W.ownsRow w.heap.size 51 5 v' (j+1) (qC (upV ups)++[.int .u8 y.k,.int .u32 y.i,.int .u32 y.o,.int .i64 (f:Int),.slice none 0 0])->wM.grownBy W (Value.slice Av j cv).ownBlock->Below w.heap.size wM W->(v'.ownBlock=(Value.slice Av j cv).ownBlock\/∃g,v'.ownBlock=some g/\wM.heap.size<=g) ->
       BdI D B lo b g k S lvl ps P pv w v' (.int .i64 ((j:Int)+1)) W:=λv' W hCN hg hB hat=>by
      obtain⟨A7,c7,rfl,-,-⟩:=qG hCN;have hBT:∀q,q<wM.heap.size->¬OwnX (.slice Av j cv) q->W.heap[q]?=wM.heap[q]?:=λq hq hX=>hg.block q hq λe=>hX e.symm;have hbl:=hb2.blo;have hzW:=hg.size;have hDq:∀q,(Value.slice Av j cv).ownBlock=some q->¬D'' q:=λq hq hd=>(hD2 q hd).elim (λh1=>(hoD q hq).1 h1) λh1=>by have:=(hoq q hq).2;omega
      refine⟨j+1,ups++[jk (jj p) f],S'',k'',D'',A7,c7,zO,rfl,rfl,by simp[hul],hml2,hS2,hN',hDn',?_,?_,?_,?_,?_,zO⟩
      ·refine hb2.keepX (X:=OwnX (.slice Av j cv)) (Below.mono hB zO) hBT (λq hq hX=>?_);rcases hq with hq|hq
       ·obtain⟨cur,hc⟩:=Zz wFL (show _=some q from hX);exact hb2.notB3 hc zA1 zA1 zA1 hq
       ·exact hDq q hX hq
      ·refine⟨hXF.below.trans (Below.mono hB hlw),λq hq hn=>(hBT q zO λhX=>?_).trans (hXF.rows q hq hn)⟩;have:=(hoq q hX).1;omega
      ·rw[upV_item];have:jk (jj p) f=⟨y.k,y.i,y.o,(f:Int),[]⟩:=by rw[hk0];rfl
       rw[this];exact hCN
      ·intro q hq;rcases hat with e1|⟨g',e1,e2⟩
       ·rw[e1]at hq;exact⟨hDq q hq,(hoD q hq).2⟩
       ·rw[e1]at hq;obtain rfl:g'=q:=by simpa using hq
        exact⟨λhd=>by have:=(hb2.dB g' hd).2.1;omega,zO⟩
      ·refine(hBT P zO λhX=>?_).trans hPM;have:=(hoD P hX).2;omega
     replace hBY:=zH hBY;obtain⟨i0,hi,hz0,hz1,hz2⟩:=info_parts Tryz.info_item;have hzz:w.heap.size<=wM.heap.size:=zO;clear hEC hmay hGU hmx hPM hAE hPw hoD nB hbc hkM hel kP hoq hb2 hN2 hD2 hml2 hS2 hXF hN' hDn' hk0;go_wp2_with (at_builtin;refine qY ?_);refine Qm.go (zZ wM rfl (.tmp 45) (.tmp 52) 55 rfl w.heap.size 51 i0 _ 5 48 underlying55 hi hz0 hz1 hz2 rfl zA1 (.slice Av j cv) j (qC (upV ups)) zE wFL #[.int .u8 y.k,.int .u32 y.i,.int .u32 y.o,.int .i64 (f:Int),.slice none 0 0] zE rfl zA8 zO zA1 hzz ?_);intro v' W hCN hg hB hat;have hF:=zH (hBY.out v' W hCN hg hB hat);clear hBY hCN hg hB hat wFL hi;go_wp2_with fail;try rw[hj1.out]
     refine⟨hF.out,?_⟩;simp[intOf];omega
   ·obtain rfl:j=ps.length:=zO;rw[List.take_length]at hml;have d1:∀M:Int,M=(ps.length:Int)->decide (((ps.length:Nat):Int)<M)=false:=λM hM=>decide_eq_false zO
    first
     |have d2:=d1 2 (by rw[hpl];rfl)
     |have d2:=d1 1 (by rw[hpl];rfl)
    replace hpl:=zH hpl;have hbX:Hid (Qs S lvl its held=match looseL (qB held) S'.now with
     |.error e=>.error e
     |.ok t=>.ok (ups,qv S' t)):=zH (by unfold Qs;simp only[wSE.out,hml]<;>rfl)
    have hhm':=hho.out;have wNJ:=hbk.own hho.out (λq hq=>by obtain⟨cur,hc⟩:=Zz hho.out hq;exact h.out.notB3 hc zA1 zA1 zA1);clear hPw hPz hel hml d1 hhm';replace⟨hbk,hAE,hoD,hbc⟩:=zH4 hbk hAE hoD hbc;generalize hwm:wr=wm at*;clear hwm;go_wp2_with fail;go_loopw [8,57] (λv i wr=>HdI D' B lo b g k' S' held (.slice Av ps.length cv) wm v i wr) (λ_ i _=>held.length-(intOf i).toNat)
    case atStart=>exact⟨0,S'.now,rfl,Nat.zero_le _,rfl,rfl,hbc.out,Qh.refl _ _ _ _ _⟩
    case round=>
     obtain⟨j,t,rfl,hj,rfl,hlo,hbt,hbm⟩:=hrel.ex;clear hrel;have hkA:=zH (hbk.out.trans hbm hNk);by_cases hlt:j<held.length
     ·have hlp:j<hps.length:=by rw[<-hhm,List.length_map]at hlt;exact hlt
      have hor:=hbm.own wNJ (λq hq=>by obtain⟨cur,hc⟩:=Zz wNJ hq;exact hbc.out.notB3 hc zA1 zA1 zA1);obtain⟨bh,offh,rfl,hbh,hch⟩:=(Rd.of_own hor).2 zO;obtain⟨g0,g1,g2,g3,g4⟩:=JX hps j hlp;replace g0:=hch _ _ g0;replace g1:=hch _ _ g1;replace g2:=hch _ _ g2;replace g3:=hch _ _ g3;replace g4:=hch _ _ g4;rw[<-Nat.add_assoc]at g1 g2 g3 g4;obtain⟨Ax,cx,hx2⟩:=hh1 hps[j] (List.getElem_mem hlp);have hxe:hps[j].1=held[j]:=by simp only[<-hhm,List.getElem_map]
      rw[hx2]at g4;rw[hxe]at g0 g1 g2 g3 g4;have hrr:=hhr held[j] (List.getElem_mem hlt);have hGU:=zH (λh0 h1=>qbU hlt hlo h0 h1);have hEC:=zH (λh0 h1=>qaC hlt hlo h0 h1);have hMO:=zH (λh0=>qaD hlt hlo h0);generalize held[j]=x at*;have hj1:=zH (IntWalk.wrap64_in ((j:Int)+1) zO);obtain⟨a,hra⟩:∃a:Nat,x.r=(a:Int):=⟨x.r.toNat,zO⟩
      have ha9:a<256:=zO;have hsa:(x.r).toNat=a:=zO;rw[hra]at g3;rw[hsa]at hGU hEC hMO;have hz:=hbt.size.2.2.2.2.2.1;have HL:=zH (λW (hW:Ext wr W)=>Xr D' B lo b g k' (qv S' t) a ha9 W (hbt.ext hW));replace⟨hbt,hbm⟩:=zH2 hbt hbm;clear hch hx2 hxe hor hra hsa hrr hlo wNJ hlp;rcases Nat.eq_zero_or_pos a with ha0|ha0
      ·subst ha0;have hF:HdI D' B lo b g k' S' held (.slice Av ps.length cv) wm (.slice Av ps.length cv) (.int .i64 ((j:Int)+1)) (wr.alloc (.cells #[.int .u8 x.k,.int .u32 x.i,.int .u32 x.o,.int .i64 0,.slice Ax x.val.length cx] 51)):=⟨j+1,t,rfl,zO,rfl,hMO.out rfl,hbt.out.ext (zN _ _),hbm.out.trans (Qh.of_ext (zN _ _) hz) (Zj.refl _ _)⟩
       replace hF:=zH hF;clear hGU hEC hMO HL;go_wp2_with fail;try rw[hj1.out]
       refine⟨hF.out,?_⟩;simp[intOf];omega
      ·have hza:((a:Int)==0)=false:=by rw[beq_eq_false_iff_ne];omega
       replace ha0:=zH ha0;go_wp2_with fail;generalize hwa:World.alloc _ _=wa;have xa:Ext wr wa:=by rw[<-hwa];exact zN _ _
       clear hwa g0 g1 g2 g3 g4;refine(HL.out wa xa).mono ?_;clear HL;rintro e wl ⟨hkl,hBU⟩;have hYO:=hbm.out.trans ((Qh.of_ext xa hz).trans hkl (Zj.refl _ _)) (Zj.refl _ _);rcases hBU with⟨hc0,rfl⟩|⟨hc0,rfl,hbl⟩
       ·have hq:=zH (show Qs S lvl its held=.error 6 by rw[hbX.out,hGU.out (by have:=ha0.out;omega) hc0]);have hkB:=zH (hbk.out.trans hYO hNk);clear hbX hGU hEC hMO hkl hYO hc0 hkA;go_wp2_with fail;exact GB rfl rfl rfl (Xl.bad hq.out hkB.out)
       ·have hF:HdI D' B lo b g k' S' held (.slice Av ps.length cv) wm (.slice Av ps.length cv) (.int .i64 ((j:Int)+1)) wl:=⟨j+1,_,rfl,zO,rfl,hEC.out (by have:=ha0.out;omega) hc0,hbl,hYO⟩
        replace hF:=zH hF;clear hbX hGU hEC hMO hkl hYO hc0 hbl hkA;go_wp2_with fail;try rw[hj1.out]
        refine⟨hF.out,?_⟩;simp[intOf];omega
     ·obtain rfl:j=held.length:=zO;rw[List.take_length]at hlo;have hq:Qs S lvl its held=.ok (ups,qv S' t):=by rw[hbX.out,hlo]
      have hXK:=vy hS' (JR (λa ha=>by obtain⟨x,hxm,rfl⟩:=List.mem_map.1 ha;have:=hhr x hxm;omega) (Qg.1 hS').2.1 hlo);have hor:=hbm.own hAE.out (λq hq=>by obtain⟨cur,hc⟩:=Zz hAE.out hq;exact hbc.out.notB3 hc zA1 zA1 zA1);have hR:Xl D B lo b g k S lvl its held w (.returned (.tuple #[.slice Av ps.length cv,.int .i64 0])) wr:=by
       refine⟨hkA.out,?_⟩;rw[hq];refine⟨k',D',Av,cv,by rw[hul],hNk,hND,hbt,hXK,?_,?_⟩
       ·rw[hul];exact hor
       ·rw[hul];exact λq hq=>(hoD.out q hq).1
      replace hR:=zH hR;clear hor hXK hq hbt hbm hlo hbX hkA wNJ;go_wp2_with fail;exact GB rfl rfl rfl hR.out
def Jw(D:Nat->Prop)(B lo b g:Nat)(k:Option Nat)(S:Sto)(a:Nat)(w:World)(e:Ending)(W:World):Prop:=Qh lo b g k w W /\
 match QC S (-1) S.now a with
 |none=>e=.returned (.int .i64 8)
 |some t=>e=.returned (.int .i64 0)/\Bch D B lo b g k (qv S t) W
theorem Jw.bad{D:Nat->Prop}{B lo b g:Nat}{k:Option Nat}{S:Sto}{a:Nat}{w W:World}(h:QC S (-1) S.now a=none)(hB:Qh lo b g k w W):Jw D B lo b g k S a w (.returned (.int .i64 8)) W:=by refine⟨hB,?_⟩;rw[h]
theorem Jw.good{D:Nat->Prop}{B lo b g:Nat}{k:Option Nat}{S:Sto}{a:Nat}{t:List UInt8}{w W:World}(h:QC S (-1) S.now a=some t)(hB:Qh lo b g k w W)(hb:Bch D B lo b g k (qv S t) W):Jw D B lo b g k S a w (.returned (.int .i64 0)) W:=by refine⟨hB,?_⟩;rw[h];exact⟨rfl,hb⟩
structure L0I(D:Nat->Prop)(B lo b g:Nat)(k:Option Nat)(S:Sto)(t0:List UInt8)(xs:List It)(wB:World)(v i:Value)(wr:World):Prop where
 ex:∃(j:Nat)(t:List UInt8),v=.int .i64 0/\j<=xs.length/\i=.int .i64 (j:Int)/\looseL (qB (xs.take j)) t0=.ok t/\Bch D B lo b g k (qv S t) wr/\Qh lo b g k wB wr
theorem Bch.fresh{D:Nat->Prop}{B lo b g:Nat}{k:Option Nat}{S:Sto}{w0 w W:World}(h0:Bch D B lo b g k S w0){S':Sto}(h:Bch D B lo b g k S' w)(hx:Below w0.heap.size w W):Bch D B lo b g k S' W:=by have h6:=h0.size.2.2.2.2.2.1;have h1:=h0.blo;exact h.keep (Below.mono hx zO) λq hq=>hx.block q (hq.elim (λh2=>(h0.b3 q h2).2) λh2=>(h0.dB q h2).2.1)
abbrev sp7(f l:K3)(b:Bool):Array Value:=#[.int .u8 f.1,.int .u32 f.2.1,.int .u32 f.2.2,.int .u8 l.1,.int .u32 l.2.1,.int .u32 l.2.2,.bool b]
theorem set7{cs:Array Value}(hs:cs.size=7)(x0 x1 x2 x3 x4 x5 x6:Value):((((((cs.setIfInBounds 0 x0).setIfInBounds 1 x1).setIfInBounds 2 x2).setIfInBounds 3 x3).setIfInBounds 4 x4).setIfInBounds 5 x5).setIfInBounds 6 x6=#[x0,x1,x2,x3,x4,x5,x6]:=by
 apply Array.ext_getElem?;intro j;by_cases hj:j<7
 ·have:j=0\/j=1\/j=2\/j=3\/j=4\/j=5\/j=6:=zO;rcases this with rfl|rfl|rfl|rfl|rfl|rfl|rfl<;>simp[hs]
 ·rw[Array.getElem?_eq_none zA2,Array.getElem?_eq_none zA2]
theorem row7{w:World}{b:Nat}{ty:TypeId}{cs:Array Value}(h:w.heap[b]?=some (.cells cs ty (0,0)))(hs:cs.size=7)(x0 x1 x2 x3 x4 x5 x6:Value):(((((((w.setCell ⟨b,0,none⟩ x0).setCell ⟨b,1,none⟩ x1).setCell ⟨b,2,none⟩ x2).setCell ⟨b,3,none⟩ x3).setCell ⟨b,4,none⟩ x4).setCell ⟨b,5,none⟩ x5).setCell ⟨b,6,none⟩ x6).heap[b]?=some (.cells #[x0,x1,x2,x3,x4,x5,x6] ty (0,0)):=by
 have:=qo (qo (qo (qo (qo (qo (qo h 0 x0) 1 x1) 2 x2) 3 x3) 4 x4) 5 x5) 6 x6;rw[this,set7 hs]
theorem qeJ{w0 w:World}{B b:Nat}(h:Below B w0 w)(hb:B<=b)(x0 x1 x2 x3 x4 x5 x6:Value):Below B w0 (((((((w.setCell ⟨b,0,none⟩ x0).setCell ⟨b,1,none⟩ x1).setCell ⟨b,2,none⟩ x2).setCell ⟨b,3,none⟩ x3).setCell ⟨b,4,none⟩ x4).setCell ⟨b,5,none⟩ x5).setCell ⟨b,6,none⟩ x6):=
 Below.setCell (Below.setCell (Below.setCell (Below.setCell (Below.setCell (Below.setCell (Below.setCell h (p:=⟨b,0,none⟩) hb _) (p:=⟨b,1,none⟩) hb _) (p:=⟨b,2,none⟩) hb _) (p:=⟨b,3,none⟩) hb _) (p:=⟨b,4,none⟩) hb _) (p:=⟨b,5,none⟩) hb _) (p:=⟨b,6,none⟩) hb _
theorem qiW{S:Sto}{h:Nat}{xs:List It}(hs:(qz S h xs).isSome=true){k:Nat}(hk:k<xs.length):∃l,jv S h xs[k]=some (qp xs[k],l)/\∀f0 l0,(0<k->qz S h (xs.take k)=some (some (f0,l0)))->(0<k->qV l0 (qp xs[k])=true)/\qz S h (xs.take (k+1))=some (some (if k=0 then qp xs[k]else f0,l)):=by
 have h2:=vE hs (k+1);rw[Jp hk]at h2⊢;unfold jO at h2⊢;rcases hA:qz S h (xs.take k)with _|a
 ·rw[hA]at h2;cases h2
 ·rcases hO:jv S h xs[k]with _|⟨f,l⟩
  ·rw[hA,hO]at h2;cases h2
  ·rw[hA,hO]at h2;simp only at h2;split at h2
   ·rename_i hf;subst hf;refine⟨l,rfl,λf0 l0 hp=>?_⟩;simp only[if_true];rcases a with _|⟨f1,l1⟩
    ·obtain rfl:k=0:=by
      rcases Nat.eq_zero_or_pos k with h0|h0
      ·exact h0
      ·exact absurd hA (Zm h0 zO)
     exact⟨λh=>absurd h (Nat.lt_irrefl 0),rfl⟩
    ·have h0:0<k:=by
      rcases Nat.eq_zero_or_pos k with h0|h0
      ·subst h0;rw[List.take_zero]at hA;cases hA
      ·exact h0
     have:=hp h0;cases this;simp only at h2;split at h2
     ·rename_i hl;exact⟨λ_=>hl,by rw[if_neg zO];simp[hl]⟩
     ·cases h2
   ·cases h2
theorem one_now{S:Sto}:∀{h:Nat}{y:It},(jv S h y).isSome=true->y.r=0\/0<(S.now[y.r.toNat]?.getD 0).toNat
 |0,y,h=>by
  unfold jv at h;split at h
  ·assumption
  ·cases h
 |h+1,y,hy=>by
  obtain⟨b,e,-,-,xs,hn,-⟩:=QE hy;refine .inr ?_;rw[e,Int.toNat_natCast];unfold qk at hn;split at hn
  ·cases hn
  ·omega
structure FEnv(S:Sto)(bS bB bW bb:Nat)(v1 v2 v3 v4 u1 u2 u3 u4:Value)(w:World):Prop where
 s:w.heap[bS]?=some (.cells #[v1,v2,v3,v4] 28 (0,0))
 b:w.heap[bB]?=some (.cells #[.pointer (some ⟨bb,0,none⟩)] 92 (0,0))
 f:w.heap[bW]?=some (.cells #[.func (.func 173) #[] #[.pointer (some ⟨bS,0,none⟩),.pointer (some ⟨bB,0,none⟩),.pointer (some ⟨bW,0,none⟩)]] 240 (0,0))
 n:Bys w w.heap.size v3 S.now
 on:OnB 0 bb u1 u2 u3 u4 S w
theorem OnB.ext{lo b:Nat}{v1 v2 v3 v4:Value}{S:Sto}{w W:World}(h:OnB lo b v1 v2 v3 v4 S w)(hx:Ext w W):OnB lo b v1 v2 v3 v4 S W:=⟨h.1,qb h.2.1 hx,h.2.2.ext hx⟩
theorem FEnv.ext{S:Sto}{bS bB bW bb:Nat}{v1 v2 v3 v4 u1 u2 u3 u4:Value}{w W:World}(h:FEnv S bS bB bW bb v1 v2 v3 v4 u1 u2 u3 u4 w)(hx:Ext w W):FEnv S bS bB bW bb v1 v2 v3 v4 u1 u2 u3 u4 W:=
 ⟨qb h.s hx,qb h.b hx,qb h.f hx,(h.n.below hx).more hx.size,h.on.ext hx⟩
structure WkI(S:Sto)(h:Nat)(xs:List It)(A:OA)(c:Nat)(w wr:World)(k:Nat)(fk lk:K3)(b:Bool):Prop where
 rn:wr.heap[w.heap.size]?=some (.cells #[.int .i64 h,.slice A xs.length c] 113 (0,0))
 rr:wr.heap[w.heap.size+1]?=some (.cells (sp7 (0,0,0) (0,0,0) false) 242 (0,0))
 rx:wr.heap[w.heap.size+2]?=some (.cells (sp7 fk lk b) 242 (0,0))
 sp:0<k->qz S h (xs.take k)=some (some (fk,lk))/\b=true
 xt:Ext w wr
theorem WkI.ext{S:Sto}{h:Nat}{xs:List It}{A:OA}{c:Nat}{w wr W:World}{k:Nat}{fk lk:K3}{b:Bool}(H:WkI S h xs A c w wr k fk lk b)(hx:Ext wr W):WkI S h xs A c w W k fk lk b:=
 ⟨qb H.rn hx,qb H.rr hx,qb H.rx hx,H.sp,H.xt.trans hx⟩
theorem WkI.low{S:Sto}{h:Nat}{xs:List It}{A:OA}{c:Nat}{w wr W:World}{k:Nat}{fk lk:K3}{b:Bool}{q:Nat}(H:WkI S h xs A c w wr k fk lk b)(hx:Below q wr W)(hq:w.heap.size+2<q):WkI S h xs A c w W k fk lk b:=
 ⟨(hx.block _ zO).trans H.rn,(hx.block _ zO).trans H.rr,(hx.block _ zO).trans H.rx,H.sp,Below.trans H.xt (Below.mono hx zO)⟩
theorem WkI.set{S:Sto}{h:Nat}{xs:List It}{A:OA}{c:Nat}{w wr W:World}{k:Nat}{fk lk fk' lk':K3}{b:Bool}(H:WkI S h xs A c w wr k fk lk b)(hb:∀j,j≠w.heap.size+1+1->W.heap[j]?=wr.heap[j]?)(hB:Below w.heap.size w W)(hx:W.heap[w.heap.size+1+1]?=some (.cells (sp7 fk' lk' true) 242 (0,0)))(hs:qz S h (xs.take (k+1))=some (some (fk',lk'))):WkI S h xs A c w W (k+1) fk' lk' true:=
 ⟨(hb _ zO).trans H.rn,(hb _ zO).trans H.rr,hx,λ_=>⟨hs,rfl⟩,hB⟩
theorem WkI.set7{S:Sto}{h:Nat}{xs:List It}{A:OA}{c:Nat}{w wr:World}{k:Nat}{fk lk fk' lk':K3}{b:Bool}(H:WkI S h xs A c w wr k fk lk b)(hs:qz S h (xs.take (k+1))=some (some (fk',lk'))):WkI S h xs A c w (((((((wr.setCell ⟨w.heap.size+1+1,0,none⟩ (.int .u8 fk'.1)).setCell ⟨w.heap.size+1+1,1,none⟩ (.int .u32 fk'.2.1)).setCell ⟨w.heap.size+1+1,2,none⟩ (.int .u32 fk'.2.2)).setCell ⟨w.heap.size+1+1,3,none⟩ (.int .u8 lk'.1)).setCell ⟨w.heap.size+1+1,4,none⟩ (.int .u32 lk'.2.1)).setCell ⟨w.heap.size+1+1,5,none⟩ (.int .u32 lk'.2.2)).setCell ⟨w.heap.size+1+1,6,none⟩ (.bool true)) (k+1) fk' lk' true:=
 H.set (λj hj=>(zJ _ _ _ _ hj).trans ((zJ _ _ _ _ hj).trans ((zJ _ _ _ _ hj).trans ((zJ _ _ _ _ hj).trans ((zJ _ _ _ _ hj).trans ((zJ _ _ _ _ hj).trans (zJ _ _ _ _ hj)))))))
  (qeJ H.xt zO _ _ _ _ _ _ _) (row7 H.rx rfl _ _ _ _ _ _ _) hs
theorem WkI.set4{S:Sto}{h:Nat}{xs:List It}{A:OA}{c:Nat}{w wr:World}{k:Nat}{fk lk lk':K3}{b:Bool}(H:WkI S h xs A c w wr k fk lk b)(hs:qz S h (xs.take (k+1))=some (some (fk,lk'))):WkI S h xs A c w ((((wr.setCell ⟨w.heap.size+1+1,3,none⟩ (.int .u8 lk'.1)).setCell ⟨w.heap.size+1+1,4,none⟩ (.int .u32 lk'.2.1)).setCell ⟨w.heap.size+1+1,5,none⟩ (.int .u32 lk'.2.2)).setCell ⟨w.heap.size+1+1,6,none⟩ (.bool true)) (k+1) fk lk' true:=
 H.set (λj hj=>(zJ _ _ _ _ hj).trans ((zJ _ _ _ _ hj).trans ((zJ _ _ _ _ hj).trans (zJ _ _ _ _ hj))))
  (Below.setCell (Below.setCell (Below.setCell (Below.setCell H.xt (p:=⟨w.heap.size+1+1,3,none⟩) zA2 _) (p:=⟨w.heap.size+1+1,4,none⟩) zA2 _) (p:=⟨w.heap.size+1+1,5,none⟩) zA2 _) (p:=⟨w.heap.size+1+1,6,none⟩) zA2 _)
  (qo (qo (qo (qo H.rx 3 _) 4 _) 5 _) 6 _) hs
theorem one_span{S:Sto}{h:Nat}{y:It}{p:K3×K3}(e:jv S (h+1) y=some p):∃(b:Nat)(ys:List It),y.r=(b:Int)/\8<=b/\b<256/\qk S b=some ((h:Int),ys)/\qz S h ys=some (some p):=by
 obtain⟨b,hb,h1,h2,ys,hn,-⟩:=QE (by rw[e];rfl:(jv S (h+1) y).isSome=true);refine⟨b,ys,hb,h1,h2,hn,?_⟩;rw[vk]at e;unfold Va at e;rw[if_pos zO,hb,Int.toNat_natCast,hn]at e;simp only[if_true]at e;rcases hs:qz S h ys with _|_|q
 ·rw[hs]at e;cases e
 ·rw[hs]at e;cases e
 ·rw[hs]at e;cases e;rfl
def WalkC(S:Sto)(bS bB bW bb:Nat)(v1 v2 v3 v4 u1 u2 u3 u4:Value)(h:Nat):Prop:=
 ∀(xs:List It)(A:OA)(c:Nat)(f l:K3)(lo:Nat)(w:World),FEnv S bS bB bW bb v1 v2 v3 v4 u1 u2 u3 u4 w->h<=5->xs.length<=5->(∀x∈xs,0<=x.r/\x.r<256)->ZB lo w (.slice A xs.length c) xs->qz S h xs=some (some (f,l)) ->
  Calls prog 173 #[jL h A xs.length c,.pointer (some ⟨bS,0,none⟩),.pointer (some ⟨bB,0,none⟩),.pointer (some ⟨bW,0,none⟩)] w (Ret (.agg (sp7 f l true)) w)
theorem qge{w:World}{B b o n c:Nat}{l:List UInt8}(h:Bys w B (.slice (some ⟨b,o,none⟩) n c) l){a:Nat}(ha:a<l.length):w.cell? ⟨b,o+a,none⟩=some (.int .u8 ((l[a]?.getD 0).toNat:Int)):=by obtain⟨A',c',e,_,_,hr⟩:=h;rw[Value.slice.injEq]at e;obtain⟨rfl,_,rfl⟩:=e;obtain⟨b',off',e,_,hc⟩:=hr.2 zO;simp only[Option.some.injEq,Addr.mk.injEq,and_true]at e;obtain⟨rfl,rfl⟩:=e;exact hc a _ (by rw[List.getElem?_map,zL zO];rfl)
theorem qgU{S:Sto}(hS:qm S=true){w:World}{B:Nat}{v:Value}(h:Bys w B v S.now):∃b3 o3 c3,v=.slice (some ⟨b3,o3,none⟩) 256 c3/\256<=c3/\c3<=maxLen:=by obtain⟨-,-,hl3,-⟩:=Qb hS;have hn:=h;obtain⟨A3,c3,e3,-⟩:=h;rw[e3]at hn;obtain⟨_,hc3,hm3,hA3⟩:=hn.at_;obtain⟨b3,o3,rfl,_⟩:=hA3 zO;rw[hl3]at e3 hc3;exact⟨b3,o3,c3,e3,hc3,hm3⟩
theorem qkD{R:Ending->World->Prop}{a:Act}{W:World}{b:Nat}{f l:K3}{bo:Bool}(h4:a.tmps[5]?.getD undef=.pointer (some ⟨b,0,none⟩))(hd:a.defers=[])(hBT:W.heap[b]?=some (.cells (sp7 f l bo) 242 (0,0)))(hR:R (.returned (.agg (sp7 f l bo))) W):bodyPost prog Tryz.f173 R .ret a W:=by
 refine bodyPost_ret (v:=.agg (sp7 f l bo)) ?_ hd hR;have k:=qa hBT;simp[results,results173,go_sem,h4,k]
set_option maxRecDepth 100000 in
theorem qhI(S:Sto)(hS:qm S=true)(bS bB bW bb:Nat)(v1 v2 v3 v4:Value)(A1:OA)(n1 c1:Nat)(A2:OA)(n2 c2:Nat)(A3:OA)(n3 c3:Nat)(A4:OA)(n4 c4:Nat)(h:Nat)(HW:∀h':Nat,h=h'+1->WalkC S bS bB bW bb v1 v2 v3 v4 (.slice A1 n1 c1) (.slice A2 n2 c2) (.slice A3 n3 c3) (.slice A4 n4 c4) h'):WalkC S bS bB bW bb v1 v2 v3 v4 (.slice A1 n1 c1) (.slice A2 n2 c2) (.slice A3 n3 c3) (.slice A4 n4 c4) h:=by
 intro xs A c f l lo w hE hh5 hlen hxr hBC hsp;obtain⟨b3,o3,d3,e3,hd3,hm3⟩:=qgU hS hE.n;subst e3;have wJT:S.now.length=256:=(Qb hS).2.2.1;obtain⟨-,hc1,hc2,hA⟩:=hBC.its.at_;have hss:(qz S h xs).isSome=true:=by rw[hsp];rfl
 replace hBC:=zH hBC;have HG:=zH (λk hk=>qiW hss (k:=k) hk);have HN:=zH (λy hy=>one_now (QG hss y hy));have HT:=zH (λh' (e:h=h'+1) y (hy:y∈xs)=>QE (S:=S) (h:=h') (y:=y) (by have:=QG hss y hy;rw[e]at this;exact this));replace⟨hsp,hss,hE,hxr,hh5,wJT⟩:=zH6 hsp hss hE hxr hh5 wJT;replace hS:=zH hS;go_enter func173,ntmps173;go_wp2;generalize hw1:(World.alloc (World.alloc _ _) _)=w1;have x1:Ext w w1:=by rw[<-hw1];exact((zN _ _).trans (zN _ _)).trans (zN _ _)
 have H1:WkI S h xs A c w w1 0 (0,0,0) (0,0,0) false:=by
  refine⟨?_,?_,?_,λh0=>absurd h0 (Nat.lt_irrefl 0),x1⟩
  ·rw[<-hw1];exact(zK _ _ _ zA2).trans ((zK _ _ _ zA3).trans (zI _ _ _ rfl))
  ·rw[<-hw1];exact(zK _ _ _ zA3).trans (zI _ _ _ zA3)
  ·rw[<-hw1];exact zI _ _ _ zA3
 clear hw1 x1;replace H1:=zH H1;go_loopw [15] (λi wr=>∃(k:Nat)(fk lk:K3)(b:Bool),k<=xs.length/\i=.int .i64 (k:Int)/\WkI S h xs A c w wr k fk lk b) (λi _=>xs.length-(intOf i).toNat)
 case atStart=>exact⟨0,_,_,_,zO,rfl,H1.out⟩
 case round=>
  obtain⟨k,fk,lk,bk,hk,rfl,HR⟩:=hrel;clear H1;have xr:=HR.xt;have rnr:=HR.rn;have rxr:=HR.rx;have rrr:=HR.rr;have z2:w.heap.size+2<wr.heap.size:=(zG.1 rxr).1;by_cases hlt:k<xs.length
  ·have hCB:=hlt;obtain⟨b,off,rfl,hb⟩:=hA zO;obtain⟨A',c',d0,d1,d2,d3',d4,-⟩:=(hBC.out.ext xr).its.item k hCB;have hxk:=hxr.out xs[k] (List.getElem_mem hCB);have hnk:=HN.out xs[k] (List.getElem_mem hCB);obtain⟨l1,hone,hgo⟩:=HG.out k hCB;obtain⟨g1,g2⟩:=hgo fk lk (λh0=>(HR.sp h0).1);have HTk:=zH (λh' e=>HT.out h' e xs[k] (List.getElem_mem hCB));generalize xs[k]=x at*;obtain⟨wKP,wKQ⟩:=hxk;obtain⟨r,hr⟩:=Int.eq_ofNat_of_zero_le wKP;rw[hr]at d3' wKQ;have hr2:r<256:=zO;rw[hr,Int.toNat_natCast]at hnk;have hfN:=λW (hx:Ext wr W)=>qge ((hE.out.ext (xr.trans hx)).n) (a:=r) (by have:=wJT.out;omega);have hnr:(S.now[r]?.getD 0).toNat=(S.now[r]?.getD 0).toNat:=rfl;generalize hnv:(S.now[r]?.getD 0).toNat=nv at*;clear hnr;have hr0:(((r:Int)==0)=true/\decide (r=0)=true)\/(((r:Int)==0)=false/\decide (r=0)=false/\decide (0<nv)=true):=by
    rcases Nat.eq_zero_or_pos r with h0|h0
    ·subst h0;exact .inl ⟨zA1,zA1⟩
    ·exact .inr ⟨by rw[beq_eq_false_iff_ne];omega,decide_eq_false zO,decide_eq_true zO⟩
   replace⟨hr,hnv,hone,g1,g2,hnk⟩:=zH6 hr hnv hone g1 g2 hnk;unfold maxLen at hm3;clear wKP wKQ hgo;have knr:=qa rnr;have kxr:=qa rxr;replace hfN:=zH hfN;go_wp2_with fail;generalize hwa:(World.alloc _ _)=wa;have xa:Ext wr wa:=by rw[<-hwa];exact zN _ _
   have ra:wa.heap[wr.heap.size]?=some (.cells #[.int .u8 x.k,.int .u32 x.i,.int .u32 x.o,.int .i64 r,.slice A' x.val.length c'] 51 (0,0)):=by rw[<-hwa];exact zI _ _ _ rfl
   clear hwa d0 d1 d2 d3' d4;have Ea:=hE.out.ext (xr.trans xa);have gC:∀W,qj.r wa W->W.cell? ⟨bS,2,none⟩=some (.slice (some ⟨b3,o3,none⟩) 256 d3):=λW h=>by rw[qa (qb Ea.s h)];rfl
   have gN:∀W,qj.r wa W->W.cell? ⟨b3,o3+r,none⟩=some (.int .u8 (nv:Int)):=λW h=>hfN.out W (xa.trans h);have gI:∀W,qj.r wa W->∀i,W.cell? ⟨wr.heap.size,i,none⟩=#[.int .u8 x.k,.int .u32 x.i,.int .u32 x.o,.int .i64 r,.slice A' x.val.length c'][i]?:=λW h=>qa (qb ra h);clear knr kxr hfN;refine qt zQ ?_;refine ZY (w:=wa) qj (qQ [(17,Jj wa.heap.size 242 (sp7 (0,0,0) (0,0,0) false))]) [true,true,true,true,true,true,true,true,true,true,true,true,true,true,true,true,true,true] 1 zQ zQ zQ zQ zQ zQ ?st (Rel.drew _ _) ?walk
   case st=>exact qi (by simp only[List.forall_mem_cons];exact⟨λp=>Qo (jh _ _ _ p),λ_ h=>by cases h⟩)
   case walk=>
    intro K hK;dsimp only[qw];rcases hr0 with⟨hq1,hq2⟩|⟨hq1,hq2,hq3⟩
    all_goals
     refine zB7 ?_;try (
      refine qd (.pointer (some ⟨b3,o3+r,none⟩)) zA0 zA0 (λW hW _=>⟨W,?_,Rel.refl _ W⟩) ?_
      ·go_simp;intro hge;exfalso;omega
      simp only[Act.put,qe,qc,qf,zA,zB,zC])
     refine zB7 ?_;refine qH (Jj wa.heap.size 242 (sp7 (0,0,0) (0,0,0) false)) zA0 zA0 (λW hW _=>?_) (λ(p8:Nat)=>?_)
     ·refine Je ?_ (Below.size hW);go_simp
     simp only[Act.put,qe,qc,qf,zA,zB,zC];refine qD (hK _ _ λW hW hF=>?_);obtain⟨f8,hlo⟩:W.heap[p8]?=some (.cells (sp7 (0,0,0) (0,0,0) false) 242 (0,0))/\wa.heap.size<=p8:=(hF 17).1;clear hF hK gC gN gI;have hW':Ext wa W:=hW;refine zB6 ?_;have k8:=qa f8;have h8:=qg f8;go_wp2;refine Qn ?_;have x5:Ext wa _:=qeJ hW' hlo (.int .u8 x.k) (.int .u32 x.i) (.int .u32 x.o) (.int .u8 x.k) (.int .u32 x.i) (.int .u32 x.o) (.bool true);have r8:=row7 f8 rfl (.int .u8 x.k) (.int .u32 x.i) (.int .u32 x.o) (.int .u8 x.k) (.int .u32 x.i) (.int .u32 x.o) (.bool true);generalize hw5:(World.setCell (World.setCell (World.setCell (World.setCell (World.setCell (World.setCell (World.setCell W _ _) _ _) _ _) _ _) _ _) _ _) _ _)=w5 at*;clear hw5 k8 h8 f8 hW hW' hq1 hq2;have H5:=HR.ext (xa.trans x5);have r5:=qb ra x5;have z8:wr.heap.size<p8:=Nat.lt_of_lt_of_le (zG.1 ra).1 hlo;have z8':p8<w5.heap.size:=(zG.1 r8).1;have kn5:=qa H5.rn;rcases Nat.eq_zero_or_pos h with hz|hz
     case' inl=>
      have hd2:decide (0<h)=false:=decide_eq_false zO;have hl1:l1=qp x:=by
       have:=hone.out;rw[hz]at this;unfold jv at this;split at this
       ·cases this;rfl
       ·cases this
      have H7:=H5;replace r8:w5.heap[p8]?=some (.cells (sp7 (qp x) l1 true) 242 (0,0)):=by rw[hl1];exact r8
      replace⟨hz,hl1,H5,H7⟩:=zH4 hz hl1 H5 H7;clear rnr rxr rrr;go_upto_region 11 with fail
     case' inr=>
      obtain⟨h',hh⟩:∃h',h=h'+1:=⟨h-1,zO⟩
      have hc1:(h':Int)=(h:Int)-1:=zO;obtain⟨b',ys,e1,e2,e3,e4,e5⟩:=one_span (by rw[<-hh];exact hone.out);have hrb:r=b':=by have:=hr.out;omega
      subst hrb;have hd2:decide (0<h)=true:=decide_eq_true hz;have hQU:wrap64 ((h:Int)-1)=(h:Int)-1:=IntWalk.wrap64_in _ (by have:=hh5.out;omega);replace hQU:=zH hQU;obtain⟨hm1,hm2,-⟩:=qF e4;have hyl:ys.length<=5:=by unfold Qj ZZ at hm1;simp at hm1;omega
      have hyn:0<ys.length:=by
       rcases Nat.eq_zero_or_pos ys.length with h0|h0
       ·obtain rfl:=List.eq_nil_of_length_eq_zero h0;cases e5
       ·exact h0
      have hHW:=zH (λW (hx:Ext w5 W) A9 c9 lo9 (hi9:ZB lo9 W (.slice A9 ys.length c9) ys)=>HW h' hh ys A9 c9 (qp x) l1 lo9 W (hE.out.ext ((xr.trans (xa.trans x5)).trans hx)) (by have:=hh5.out;omega) hyl (λy hy=>(hm2 y hy).1.2.2.2.1) hi9 e5);have hBN:=zH (vS 0 bb A1 n1 c1 A2 n2 c2 A3 n3 c3 A4 n4 c4 S hS.out r e2 e3 w5 (hE.out.ext (xr.trans (xa.trans x5))).on);rw[e4]at hBN;have hy1:((ys.length:Int)==0)=false:=by rw[beq_eq_false_iff_ne];omega
      have kb5:=qa (hE.out.ext (xr.trans (xa.trans x5))).b;have ki5:=qa r5;replace⟨hh,hz,H5,e4,e5,hc1⟩:=zH6 hh hz H5 e4 e5 hc1;clear rnr rxr rrr hm1 hm2 hyl hyn e1 e2 e3;go_wp2_with fail;refine hBN.out.mono ?_;clear hBN;rintro e w6 ⟨u,rfl,hu,hB6⟩;obtain⟨A9,c9,rfl,hUT⟩:=hu;rw[hc1.out];have H6:=H5.out.ext hB6;have r86:=qb r8 hB6;have r56:=qb r5 hB6;have E6:=hE.out.ext ((xr.trans (xa.trans x5)).trans hB6);have kn6:=qa H6.rn;have kf6:=qa E6.f;have z6:p8<w6.heap.size:=(zG.1 r86).1;have z66:=(zG.1 H6.rn).1;have zf6:=(zG.1 E6.f).1;replace⟨H6,E6,hUT⟩:=zH3 H6 E6 hUT;have hw64':=hQU.out;clear r8 r5 ki5 kb5 kn5 x5;go_wp2_with fail;generalize hw7:(World.alloc w6 _)=w7;have x7:Ext w6 w7:=by rw[<-hw7];exact zN _ _
      clear hw7;have hXA:=hHW.out w7 (Ext.trans hB6 x7) A9 c9 _ (hUT.out.ext x7);rw[hc1.out]at hXA;refine hXA.mono ?_;clear hXA hHW;rintro e w8 ⟨rfl,hB8⟩;have x8:Ext w6 w8:=x7.trans hB8;have H8:=H6.out.ext x8;have r88:=qb r86 x8;have r58:=qb r56 x8;have b8:=row7 r88 rfl (.int .u8 (qp x).1) (.int .u32 (qp x).2.1) (.int .u32 (qp x).2.2) (.int .u8 l1.1) (.int .u32 l1.2.1) (.int .u32 l1.2.2) (.bool true);have x9:∀q≤p8,Below q w8 _:=λq hq=>qeJ (Below.refl q w8) hq (.int .u8 (qp x).1) (.int .u32 (qp x).2.1) (.int .u32 (qp x).2.2) (.int .u8 l1.1) (.int .u32 l1.2.1) (.int .u32 l1.2.2) (.bool true);have f8:=qg r88;have k8:=qa r88;have z8:w.heap.size+2<p8:=zO;clear r86 r56 kn6 kf6;replace⟨hz,H8⟩:=zH2 hz.out H8;go_upto_region 11 with fail;have H7:=H8.out.low (x9 p8 (zM _)) z8;have r5:=((x9 p8 (zM _)).block wr.heap.size zO).trans r58;clear x9 r88 r58 f8 k8;generalize hw9:(World.setCell (World.setCell (World.setCell (World.setCell (World.setCell (World.setCell (World.setCell w8 _ _) _ _) _ _) _ _) _ _) _ _) _ _)=w9 at*;clear hw9 z8' hB8 x8 hB6 x7 z6 z66 zf6;have r8:w9.heap[p8]?=some (.cells (sp7 (qp x) l1 true) 242 (0,0)):=b8;clear b8;replace H7:=zH H7
     all_goals
      replace HR:=zH HR;clear xa;have kn7:=qa H7.out.rn;have kx7:=qa H7.out.rx;have fx7:=qg H7.out.rx;have k8:=qa r8;have k5:=qa r5;rcases Nat.eq_zero_or_pos k with hk0|hk0
      ·have hk1:decide ((k:Int)>0)=false:=decide_eq_false zO;have hk2:((k:Int)==0)=true:=by rw[beq_iff_eq];omega
       have hk4:decide (0<k)=false:=decide_eq_false zO;have HN:=g2.out;rw[if_pos hk0]at HN;have HR9:=H7.out.set7 HN;replace⟨HN,hk0⟩:=zH2 HN hk0;dsimp only[qp]at HR9;replace HR9:=zH HR9;clear hk;go_wp2_with fail;refine⟨⟨k+1,(x.k,x.i,x.o),l1,true,hCB,rfl,HR9.out⟩,?_⟩;simp[intOf];omega
      ·have hk1:decide ((k:Int)>0)=true:=decide_eq_true zO;have hk2:((k:Int)==0)=false:=by rw[beq_eq_false_iff_ne];omega
       have hk4:decide (0<k)=true:=decide_eq_true hk0;have HN:=g2.out;rw[if_neg zO]at HN;replace HN:=zH HN;have hls:JD lk.1 lk.2.1 lk.2.2 x.k x.i x.o=true:=g1.out hk0;replace⟨hls,hk0⟩:=zH2 hls hk0;clear hk;go_wp2_with fail;refine(Vy lk.1 lk.2.1 lk.2.2 x.k x.i x.o _).mono ?_;rintro e wl ⟨rfl,hB⟩;rw[hls.out];have H8':=H7.out.ext hB;have kx8:=qa H8'.rx;have fx8:=qg H8'.rx;have k88:=qa (qb r8 hB);have HR9:=zH (H8'.set4 HN.out);replace H8':=zH H8';clear kn7 kx7 fx7 k8 k5 hB r8 r5;go_wp2_with fail;refine⟨⟨k+1,fk,l1,true,hCB,rfl,HR9.out⟩,?_⟩;simp[intOf];omega
  ·have hke:k=xs.length:=zO;have hx0:0<xs.length:=by
    rcases Nat.eq_zero_or_pos xs.length with h0|h0
    ·have:=hsp.out;rw[List.eq_nil_of_length_eq_zero h0]at this;cases this
    ·exact h0
   obtain⟨hs1,rfl⟩:=HR.sp zO;rw[hke,List.take_length,hsp.out]at hs1;simp only[Option.some.injEq,Prod.mk.injEq]at hs1;obtain⟨rfl,rfl⟩:=hs1;have kx:=qa rxr;have kr:=qa rrr;have fr:=qg rrr;have rr:=zH rrr;have xrh:=zH xr;replace⟨HR,hke⟩:=zH2 HR hke;clear rxr rnr rrr xr;go_wp2;exact qkD (b:=w.heap.size+1) rfl rfl (row7 rr.out rfl _ _ _ _ _ _ _) ⟨rfl,qeJ xrh.out zO _ _ _ _ _ _ _⟩
theorem qhH(S:Sto)(hS:qm S=true)(bS bB bW bb:Nat)(v1 v2 v3 v4:Value)(A1 n1 c1 A2 n2 c2 A3 n3 c3 A4 n4 c4):∀h:Nat,WalkC S bS bB bW bb v1 v2 v3 v4 (.slice A1 n1 c1) (.slice A2 n2 c2) (.slice A3 n3 c3) (.slice A4 n4 c4) h
 |0=>qhI S hS bS bB bW bb v1 v2 v3 v4 A1 n1 c1 A2 n2 c2 A3 n3 c3 A4 n4 c4 0 λ_ e=>zO
 |h+1=>qhI S hS bS bB bW bb v1 v2 v3 v4 A1 n1 c1 A2 n2 c2 A3 n3 c3 A4 n4 c4 (h+1) λh' e=>by obtain rfl:h=h':=zO;exact qhH S hS bS bB bW bb v1 v2 v3 v4 A1 n1 c1 A2 n2 c2 A3 n3 c3 A4 n4 c4 h
theorem now_pos{S:Sto}{a:Nat}{q:Int×List It}(h:qk S a=some q):0<(S.now[a]?.getD 0).toNat:=by
 unfold qk at h;split at h
 ·cases h
 ·omega
theorem qkx(f l:K3)(b:Bool)(w:World):(Instr.field 242 (.agg (sp7 f l b)) 2).run prog w=.ok (.bool b) w:=zQ
theorem qbC{R:Ending->World->Prop}{a:Act}{W:World}{u v:Value}(h4:a.tmps[4]?.getD undef=u)(h5:a.tmps[5]?.getD undef=v)(hd:a.defers=[])(hR:R (.returned (.tuple #[u,v])) W):bodyPost prog Tryz.f125 R .ret a W:=by refine bodyPost_ret (v:=.tuple #[u,v]) ?_ hd hR;simp[results,results125,go_sem,h4,h5]
set_option maxRecDepth 100000 in
theorem qgw(A1 n1 c1 A2 n2 c2 A3 n3 c3 A4 n4 c4)(S:Sto)(hS:qm S=true)(a:Nat)(hT:jT S a)(w:World)(hst:Qq w w.heap.size (.slice A1 n1 c1) (.slice A2 n2 c2) (.slice A3 n3 c3) (.slice A4 n4 c4) S):Calls prog 125 #[Qp A1 n1 c1 A2 n2 c2 A3 n3 c3 A4 n4 c4,.int .i64 (a:Int)] w (zm (λu _=>∃(lvl:Nat)(xs:List It),qk S a=some ((lvl:Int),xs)/\lvl<=5/\u=.tuple #[.int .i64 ((lvl:Int)+1),.int .i64 0]) w):=by
 obtain⟨ha,ha2,lvl,xs,hn,hsp⟩:=hT;have hGA:=now_pos hn;obtain⟨hm1,hm2,-⟩:=qF hn;have hxl:xs.length<=5:=by unfold Qj ZZ at hm1;simp at hm1;omega
 have hll:lvl<=5:=by unfold Qj ZZ at hm1;simp at hm1;omega
 have hl3:S.now.length=256:=(Qb hS).2.2.1;obtain⟨b3,o3,d3,e3,hd3,hm3⟩:=qgU hS hst.now;simp only[Value.slice.injEq]at e3;obtain⟨rfl,rfl,rfl⟩:=e3;have hAL:=qge hst.now (a:=a) zO;have HCK:=zH (λW (hx:Ext w W)=>Kh A1 n1 c1 A2 n2 c2 (some ⟨b3,o3,none⟩) 256 c3 A4 n4 c4 S W (hst.ext hx));have HON:=zH (λW (hx:Ext w W)=>qfa A1 n1 c1 A2 n2 c2 (some ⟨b3,o3,none⟩) 256 c3 A4 n4 c4 S zO W (hst.ext hx));have HST:=zH hst;have ha3:decide ((a:Int)<8)=false:=decide_eq_false zO;have ha5:decide ((a:Int)≥256)=false:=decide_eq_false zO;have ha8:(a:Int)<256:=zO;generalize hnv:(S.now[a]?.getD 0).toNat=nv at*;have hn1:((nv:Int)==0)=false:=by rw[beq_eq_false_iff_ne];omega
 replace⟨hnv,hm1,hm2,hn,hsp,hS⟩:=zH6 hnv hm1 hm2 hn hsp hS;replace⟨hm3,hl3⟩:=zH2 hm3 hl3;have hwr:Hid (wrap64 ((lvl:Int)+1)=(lvl:Int)+1):=zH (IntWalk.wrap64_in _ zO);replace hll:=zH hll;clear hst hGA;go_enter func125,ntmps125;go_wp2_with fail;generalize hw1:(World.alloc _ _)=w1;have x1:Ext w w1:=by rw[<-hw1];exact zN _ _
 have r1:w1.heap[w.heap.size]?=some (.cells #[.slice A1 n1 c1,.slice A2 n2 c2,.slice (some ⟨b3,o3,none⟩) 256 c3,.slice A4 n4 c4] 28 (0,0)):=by rw[<-hw1];exact zI _ _ _ rfl
 clear hw1;refine(HCK.out w1 x1).mono ?_;clear HCK;rintro e w2 ⟨rfl,hB⟩;have x2:Ext w w2:=x1.trans hB;have r2:=qb r1 hB;rw[hS.out,show vO true=0 from rfl];have k2:=qa r2;have hc2:=Ext.cell x2 hAL;clear r1 hB x1 hAL;go_wp2_with fail;refine(HON.out w2 x2).mono ?_;clear HON;rintro e w3 ⟨u,rfl,⟨bb,A3',c3',rfl,hOn,-⟩,hB⟩;have x3:Ext w w3:=Ext.trans x2 hB;have r3:=qb r2 hB;clear k2 hc2 r2 x2 hB;replace hOn:=zH hOn;go_wp2_with fail;generalize hw4:(World.alloc w3 _)=w4;have x34:Ext w3 w4:=by rw[<-hw4];exact zN _ _
 have rb4:w4.heap[w3.heap.size]?=some (.cells #[.pointer (some ⟨bb,0,none⟩)] 92 (0,0)):=by rw[<-hw4];exact zI _ _ _ rfl
 have rs4:=qb r3 x34;have hOn4:=zH (hOn.out.ext x34);have x4:Ext w w4:=x3.trans x34;clear hw4;have hBN:=vS 0 bb A1 n1 c1 A2 n2 n2 A3' 256 c3' A4 n4 c4 S hS.out a ha ha2 w4 ⟨Nat.zero_le _,(hOn.out.ext x34).2⟩;rw[hn.out]at hBN;refine hBN.mono ?_;clear hBN;rintro e w5 ⟨u,rfl,⟨A9,c9,rfl,hBC⟩,hB⟩;have hB':Ext w4 w5:=hB;have rs5:=qb rs4 hB';have rb5:=qb rb4 hB';have hOn5:=zH (hOn4.out.ext hB');have x5:Ext w w5:=x4.trans hB';replace hBC:=zH hBC;clear rs4 rb4 hB hB' x34 x4 x3 hOn4 hOn r3;rcases Nat.eq_zero_or_pos xs.length with h0|h0
 ·have hx1:decide ((xs.length:Int)>0)=false:=decide_eq_false zO;have hx2:decide (0<xs.length)=false:=decide_eq_false zO;replace h0:=zH h0;go_wp2_with fail;exact qbC (u:=.int .i64 ((lvl:Int)+1)) (by show Value.int .i64 (wrap64 _)=_;rw[hwr.out]) rfl rfl ⟨_,rfl,⟨lvl,xs,hn.out,hll.out,rfl⟩,x5.trans ((zN _ _).trans (zN _ _))⟩
 ·have hx1:decide ((xs.length:Int)>0)=true:=decide_eq_true zO;have hx2:decide (0<xs.length)=true:=decide_eq_true h0;obtain⟨⟨f,l⟩,hfl⟩:∃p,qz S lvl xs=some (some p):=by
   rcases hq:qz S lvl xs with _|_|p
   ·have:=hsp.out;rw[hq]at this;cases this
   ·exact absurd (by rw[List.take_length];exact hq) (Zm (S:=S) (h:=lvl) h0 (zM xs.length))
   ·exact⟨p,rfl⟩
  replace⟨h0,hfl⟩:=zH2 h0 hfl;go_wp2_with fail;generalize hw6:(World.alloc (World.alloc w5 _) _)=w6;have x56:Ext w5 w6:=by rw[<-hw6];exact(zN _ _).trans (zN _ _)
  have rf6:w6.heap[w5.heap.size+1]?=some (.cells #[.func (.func 173) #[] #[.pointer (some ⟨w.heap.size,0,none⟩),.pointer (some ⟨w3.heap.size,0,none⟩),.pointer (some ⟨w5.heap.size+1,0,none⟩)]] 240 (0,0)):=by rw[<-hw6];exact zI _ _ _ zA3
  have rn6:w6.heap[w5.heap.size]?=some (.cells #[.int .i64 lvl,.slice A9 xs.length c9] 113 (0,0)):=by rw[<-hw6];exact(zK _ _ _ zA3).trans (zI _ _ _ rfl)
  clear hw6;have x6:Ext w w6:=x5.trans x56;have hXA:=qhH S hS.out w.heap.size w3.heap.size (w5.heap.size+1) bb (.slice A1 n1 c1) (.slice A2 n2 c2) (.slice (some ⟨b3,o3,none⟩) 256 c3) (.slice A4 n4 c4) A1 n1 c1 A2 n2 n2 A3' 256 c3' A4 n4 c4 lvl xs A9 c9 f l _ w6
   ⟨qb rs5 x56,qb rb5 x56,rf6,(HST.out.ext x6).now,⟨Nat.zero_le _,(hOn5.out.ext x56).2⟩⟩ hll.out hxl (λy hy=>(hm2.out y hy).1.2.2.2.1) (hBC.out.ext x56) hfl.out
  refine hXA.mono ?_;clear hXA;rintro e w7 ⟨rfl,hB⟩;have rn7:=qb rn6 hB;have kn7:=qa rn7;have x7:=zH (x6.trans hB);clear rs5 rb5 rf6 rn6 hB x6 x56 x5;have hfi:=qkx;go_wp2_with fail;exact qbC (u:=.int .i64 ((lvl:Int)+1)) (by show Value.int .i64 (wrap64 _)=_;rw[hwr.out]) rfl rfl ⟨_,rfl,⟨lvl,xs,hn.out,hll.out,rfl⟩,x7.out⟩
theorem YE(A1 n1 c1 A2 n2 c2 A3 n3 c3 A4 n4 c4)(S:Sto)(hS:qm S=true)(a:Nat)(hT:jT S a)(w:World)(hst:Qq w w.heap.size (.slice A1 n1 c1) (.slice A2 n2 c2) (.slice A3 n3 c3) (.slice A4 n4 c4) S):Calls prog 125 #[Qp A1 n1 c1 A2 n2 c2 A3 n3 c3 A4 n4 c4,.int .i64 (a:Int)] w (zm (λu _=>∃m:Int,u=.tuple #[.int .i64 m,.int .i64 0]) w):=
 (qgw A1 n1 c1 A2 n2 c2 A3 n3 c3 A4 n4 c4 S hS a hT w hst).mono λe w' ⟨u,he,⟨_,_,_,_,hu⟩,hB⟩=>⟨u,he,⟨_,hu⟩,hB⟩
def TS(S:Sto)(x:It):Int:=if itB x.r x.val.length=true then(if x.r≠0/\Jh S x.r.toNat=0 then 6 else 0)else 8
abbrev itV(x:It)(A:OA)(c:Nat):Value:=.agg #[.int .u8 x.k,.int .u32 x.i,.int .u32 x.o,.int .i64 x.r,.slice A x.val.length c]
set_option maxRecDepth 100000 in
theorem qiM(A1 n1 c1 A2 n2 c2 A3 n3 c3 A4 n4 c4)(S:Sto)(hS:qm S=true)(a lvl:Nat)(xs:List It)(ha:8<=a)(ha2:a<256)(hn:qk S a=some ((lvl:Int),xs))(hsp:(qz S lvl xs).isSome=true)(x:It)(Ax:OA)(cx:Nat)(w:World)(hst:Qq w w.heap.size (.slice A1 n1 c1) (.slice A2 n2 c2) (.slice A3 n3 c3) (.slice A4 n4 c4) S):Calls prog 126 #[Qp A1 n1 c1 A2 n2 c2 A3 n3 c3 A4 n4 c4,.int .i64 (a:Int),itV x Ax cx] w (Ret (.int .i64 (TS S x)) w):=by
 have HCK:=zH (λW (hx:Ext w W)=>YE A1 n1 c1 A2 n2 c2 A3 n3 c3 A4 n4 c4 S hS a ⟨ha,ha2,lvl,xs,hn,hsp⟩ W (hst.ext hx));have HIC:=zH (λW=>vZ x.k x.i x.o x.r Ax x.val.length cx W);have wHP:=qiH hS hst.now;obtain⟨b3,o3,cc3,e3,hb3,hk3⟩:=wHP;simp only[Value.slice.injEq]at e3;obtain⟨rfl,rfl,rfl⟩:=e3;have hk3:=zH hk3;obtain⟨q,hq⟩:∃q,TS S x=q:=⟨_,rfl⟩
 rw[hq];replace hq:=zH hq;clear hst hn hsp ha ha2;go_enter func126,ntmps126;go_wp2_with fail;generalize hw1:(World.alloc (World.alloc w _) _)=w1;have x1:Ext w w1:=by rw[<-hw1];exact(zN _ _).trans (zN _ _)
 have rs1:w1.heap[w.heap.size]?=some (.cells #[.slice A1 n1 c1,.slice A2 n2 c2,.slice (some ⟨b3,o3,none⟩) 256 c3,.slice A4 n4 c4] 28 (0,0)):=by rw[<-hw1];exact(zK _ _ _ zA3).trans (zI _ _ _ rfl)
 have ri1:w1.heap[w.heap.size+1]?=some (.cells #[.int .u8 x.k,.int .u32 x.i,.int .u32 x.o,.int .i64 x.r,.slice Ax x.val.length cx] 51 (0,0)):=by rw[<-hw1];exact zI _ _ _ zA3
 clear hw1;refine(HCK.out w1 x1).mono ?_;clear HCK;rintro e w2 ⟨u,rfl,⟨m,rfl⟩,hB⟩;have x2:Ext w w2:=Ext.trans x1 hB;have rs2:=qb rs1 hB;have ri2:=qb ri1 hB;have ki2:=qa ri2;clear rs1 ri1 hB x1;go_wp2_with fail;refine(HIC.out w2).mono ?_;clear HIC;rintro e w3 ⟨rfl,hB⟩;have x3:Ext w w3:=Ext.trans x2 hB;have rs3:=qb rs2 hB;have ri3:=qb ri2 hB;have ki3:=qa ri3;have ks3:=qa rs3;clear rs2 ri2 hB x2 ki2;cases hit:itB x.r x.val.length
 ·have hqq:q=8:=by rw[<-hq.out];unfold TS;rw[hit];rfl
  subst hqq;rw[VU rfl];go_wp2_with fail;go_ret;exact⟨rfl,x3⟩
 ·have hrr:x.r=0\/(8<=x.r/\x.r<256):=by unfold itB at hit;simp at hit;exact hit.1
  have hqq:Hid (q=if x.r≠0/\Jh S x.r.toNat=0 then 6 else 0):=zH (by rw[<-hq.out];unfold TS;rw[if_pos hit]);rw[show vO true=0 from rfl];replace hit:=zH hit;clear hq;rcases hrr with hr0|hr1
  ·have hq0:=zH (show q=0 by rw[hqq.out,if_neg (λh=>h.1 hr0)]);rw[hr0]at ki3;clear hqq rs3 ri3;go_wp2_with fail;go_ret;exact⟨by rw[hq0.out];rfl,x3⟩
  ·obtain⟨r,hra⟩:∃r:Nat,x.r=(r:Int):=⟨x.r.toNat,zO⟩
   have hSY:r<256:=zO;have hr8:8<=r:=zO;have hkr:=Ext.cell x3 (hk3.out r hSY);rw[hra]at ki3;rw[hra,Int.toNat_natCast]at hqq;have hz2:((r:Int)!=0)=true:=by rw[bne_iff_ne];omega
   generalize Jh S r=nv at*;clear hra hr1 rs3 ri3;by_cases h0:nv=0
   ·have hq0:=zH (show q=6 by rw[hqq.out,if_pos ⟨zO,h0⟩]);subst h0;clear hqq;go_wp2_with fail;go_ret;exact⟨by rw[hq0.out];rfl,x3⟩
   ·have hq0:=zH (show q=0 by rw[hqq.out,if_neg (λh=>h0 h.2)]);have hy1:((nv:Int)==0)=false:=by rw[beq_eq_false_iff_ne];omega
    replace h0:=zH h0;clear hqq;go_wp2_with fail;go_ret;exact⟨by rw[hq0.out];rfl,x3⟩
theorem VV(k:K3):∀(ps qs:List Stp)(up:List It)(S:Sto),jK k (ps++qs) up S=match jK k ps up S with
  |.error e=>.error e
  |.ok (up',S')=>jK k qs up' S'
 |[],qs,up,S=>rfl
 |(lvl,xs,p)::ps,qs,up,S=>by
  simp only[List.cons_append,jK];rcases Qs S (lvl:Int) (zY xs p (vd k lvl xs) up) up with e|⟨up',S'⟩
  ·rfl
  ·exact VV k ps qs up' S'
theorem GJ(k:K3)(s:Stp)(up:List It)(S:Sto):jK k [s] up S=Qs S (s.1:Int) (zY s.2.1 s.2.2 (vd k s.1 s.2.1) up) up:=by obtain⟨lvl,xs,p⟩:=s;simp only[jK];rcases Qs S (lvl:Int) (zY xs p (vd k lvl xs) up) up with e|⟨up',S'⟩<;>rfl
theorem Uf:∀{l:List Nat}{t:List UInt8}{e:Int},looseL l t=.error e->e≠0
 |[],t,e,h=>by cases h
 |a::l,t,e,h=>by
  by_cases ha:a=0
  ·subst ha;rw[jb]at h;exact Uf h
  ·by_cases h0:qP t a=0
   ·rw[jB ha h0]at h;cases h;decide
   ·rw[ja ha h0]at h;exact Uf h
theorem qdX{lvl:Int}:∀{ps:List (List It)}{S:Sto}{e:Int},makeL lvl ps S=.error e->e≠0
 |[],S,e,h=>by cases h
 |p::ps,S,e,h=>by
  simp only[makeL]at h;split at h
  ·rename_i e' h';cases h;exact Ti h'
  ·split at h
   ·rename_i e' h';cases h;exact qdX h'
   ·cases h
theorem vT{S:Sto}{lvl:Int}{l held:List It}{e:Int}(h:Qs S lvl l held=.error e):e≠0:=by
 unfold Qs at h;split at h
 ·rename_i e' h';cases h;exact qdX h'
 ·split at h
  ·rename_i e' h';cases h;exact Uf h'
  ·cases h
structure qfP(k:K3)(s:Stp):Prop where
 may:Qj (s.1:Int) s.2.1=true
 its:∀x∈s.2.1,QY x/\itB x.r x.val.length=true
 len:s.2.1.length<=5
 le:s.2.2<=s.2.1.length
 lt:0<s.1->s.2.2<s.2.1.length
 zero:s.1=0->s.2.2=qA s.2.1 k
theorem qfD{S:Sto}{k:K3}:∀(h:Nat){a:Nat}{xs:List It},qk S a=some ((h:Int),xs)->(qz S h xs).isSome=true->∀s∈jl S k h xs,qfP k s
 |0,a,xs,hn,hs,s,hm=>by
  rw[Ko]at hm;obtain rfl:s=(0,xs,qA xs k):=by simpa using hm
  obtain⟨m1,m2,_⟩:=qF hn;exact⟨m1,m2,(zy hn).2.2,Jm xs k,λh=>absurd h (Nat.lt_irrefl 0),λ_=>rfl⟩
 |h+1,a,xs,hn,hs,s,hm=>by
  obtain⟨m1,m2,_⟩:=qF hn;have hx:=Vm m1 zO;obtain⟨b,e1,-,-,zs,e4,e5⟩:=QE (QG hs _ (List.getElem_mem (QT (k:=k) hx)));rw[JK (zL (QT hx)) (by rw[e1,Int.toNat_natCast];exact e4)]at hm;rcases List.mem_cons.1 hm with rfl|hm
  ·exact⟨m1,m2,(zy hn).2.2,Nat.le_of_lt (QT hx),λ_=>QT hx,λh=>by cases h⟩
  ·exact qfD h e4 e5 s hm
theorem many_ok{k:K3}{s:Stp}(h:qfP k s):(vd k s.1 s.2.1=0\/vd k s.1 s.2.1=1)/\s.2.2+vd k s.1 s.2.1<=s.2.1.length:=by
 have hle:=h.le;unfold vd;split
 ·exact⟨.inl rfl,zO⟩
 ·rename_i hc;refine⟨.inr rfl,?_⟩;rcases Nat.eq_zero_or_pos s.1 with h0|h0
  ·rw[h.zero h0]at hle⊢;by_cases hl:qA s.2.1 k<s.2.1.length
   ·omega
   ·exact absurd ⟨h0,VX hl⟩ hc
  ·have:=h.lt h0;omega
theorem Bch.of_on{B lo b:Nat}{A1:OA}{n1 c1:Nat}{A2:OA}{n2 c2:Nat}{A3:OA}{n3 c3:Nat}{A4:OA}{n4 c4:Nat}{A3':OA}{c3':Nat}{S:Sto}{W:World}(hB:B<=lo)(hS:qm S=true)(hst:Qq W B (.slice A1 n1 c1) (.slice A2 n2 c2) (.slice A3 n3 c3) (.slice A4 n4 c4) S)(hlo:lo<=b)(hr:W.heap[b]?=some (.cells #[.slice A1 n1 c1,.slice A2 n2 n2,.slice A3' n3 c3',.slice A4 n4 c4] 223 (0,0)))(ho:W.ownsRow lo 5 1 (.slice A3' n3 c3') n3 (S.now.map bv)):∃g,Bch (λ_=>False) B lo b g none S W:=by
 obtain⟨hl1,hl2,hl3,hl4⟩:=Qb hS;have e3:=hst.now.at_.1;have e4:=hst.last.at_.1;obtain rfl:n3=256:=zO;obtain rfl:n4=256:=zO;obtain⟨g,rfl⟩:∃g,A3'=some ⟨g,0,none⟩:=by
  rcases ho.2 with⟨_,h0⟩|⟨g,_,_,e,_⟩
  ·cases h0
  ·cases e;exact⟨g,rfl⟩
 refine⟨g,hlo,hB,λq h=>h.elim,A1,n1,c1,.slice A2 n2 n2,c3',A4,c4,hr,ho,?_,hst.bs,hst.last⟩;obtain⟨ps,e,⟨A,c,e2,h1,h2,hrd⟩,hp⟩:=hst.ws;simp only[Value.slice.injEq]at e2;obtain⟨rfl,rfl,rfl⟩:=e2;refine⟨ps,e,.inl ⟨rfl,zO,A2,rfl,hrd⟩,λp hpm=>⟨(hp p hpm).1,λC hC=>(hp p hpm).2.keepX hC λq hq hx=>by have:=hx.1;omega⟩⟩
def GS(S:Sto)(L:Nat)(xs:List It)(x:It):Except Int (List It×Sto):=
 if qaS (qp x) (jl S (qp x) L xs)=true then .error 120 else
 match jK (qp x) (jl S (qp x) L xs).reverse [x] S with
 |.error e=>.error e
 |.ok (up,S1)=>if 1<up.length then Qs S1 ((jl S (qp x) L xs).length:Int) up up else .ok (up,S1)
def VP(up:List It):Nat:=match up with
 |[]=>0
 |y::_=>y.r.toNat
theorem qfm(S:Sto)(L:Nat)(xs:List It)(root:Nat)(x:It):putX S L xs root x=match GS S L xs x with
  |.error e=>.error e
  |.ok (up,S2)=>match QC S2 (-1) S2.now root with
   |none=>.error 8
   |some t=>.ok (VP up,qv S2 t):=by
 unfold putX GS;by_cases ht:qaS (qp x) (jl S (qp x) L xs)=true
 ·rw[if_pos ht,if_pos ht]
 ·rw[if_neg ht,if_neg ht];rcases jK (qp x) (jl S (qp x) L xs).reverse [x] S with e|⟨up,S1⟩
  ·rfl
  ·simp only;generalize(if 1<up.length then Qs S1 ((jl S (qp x) L xs).length:Int) up up else Except.ok (up,S1))=r;rcases r with e|⟨up',S2⟩
   ·rfl
   ·simp only;rcases QC S2 (-1) S2.now root with _|t<;>rfl
def GT(S:Sto)(L:Nat)(xs:List It)(root:Nat)(x:It):Except Int (Nat×Sto):=if TS S x=0 then putX S L xs root x else .error (TS S x)
def PutQ(lo:Nat)(q:Except Int (Nat×Sto))(u:Value)(W:World):Prop:=match q with
 |.error e=>u=.tuple #[Qp none 0 0 none 0 0 none 0 0 none 0 0,.int .i64 0,.int .i64 e]
 |.ok (r,S')=>∃v,u=.tuple #[v,.int .i64 (r:Int),.int .i64 0]/\zp lo S' v W
end Go.Proofs.YtmeadnlmepcmbaaGreat
namespace Go.Proofs.YtmeadnlmepcmbaaGreat
open Go.RowKit Go.Shelf
attribute [local go_sem] Oper.semAt_some
set_option maxRecDepth 100000 in
theorem backN_in(n:Nat)(hn:1<=n)(l Bs b off len cap:Nat)(us:List W2)(hFH:len<1099511627776)(J Jx:List Nat->World->Prop)(hY:∀pre (x:Nat) W,J pre W->pre.length<len->YieldAt Fence.wide (n-1) prog l #[.int .i64 (x:Int),.agg #[.int .i64 (us[x]?.getD w2z).1,sv (us[x]?.getD w2z).2]] W λe W'=>
   (e=.returned (.bool true)/\J (pre++[x]) W'/\Qu Bs b W W')\/(e=.returned (.bool false)/\Jx (pre++[x]) W'))
  (W:World) (hBs:W.cell? ⟨Bs,0,none⟩=some (.slice (some ⟨b,off,none⟩) len cap)) (hc:∀i,i<len->W.cell? ⟨b,off+i*2,none⟩=some (.int .i64 (us[i]?.getD w2z).1)/\W.cell? ⟨b,off+i*2+1,none⟩=some (sv (us[i]?.getD w2z).2)) (h0:J [] W) :
  CallsIn Fence.wide n prog 189 #[.func (.yield l) #[] #[],.pointer (some ⟨Bs,0,none⟩)] W λe W'=>(∃v,e=.returned v) /\
   ((∃ys,ys=ZO (λj=>len-1-j) len/\J ys W')\/(∃pre,(∃k,k<=len/\pre=ZO (λj=>len-1-j) k)/\Jx pre W')):=by
 refine callsIn_of_wp func189 rfl trivial ?_ rfl;simp only[ntmps189,List.size_toArray,List.length_cons,List.length_nil,Nat.reduceAdd,Nat.reduceSub,Array.replicate_succ,Array.replicate_zero,List.push_toArray,List.append_toArray,List.nil_append,List.cons_append]
 gi_wp2
 gi_loopw [3] (λi wr=>∃k:Nat,k<=len/\i=.int .i64 ((len:Int)-1-k)/\J (ZO (λj=>len-1-j) k) wr/\Qu Bs b W wr)
  (λi _=>(intOf i+1).toNat)
 case atStart=>exact⟨0,Nat.zero_le _,zA3,h0,Qu.refl _ _ _⟩
 case round=>
  obtain⟨k,hk,rfl,hJs,hnx⟩:=hrel;have hBr:wr.cell? ⟨Bs,0,none⟩=some (.slice (some ⟨b,off,none⟩) len cap):=(World.cell?_of_block (w:=W) hnx.1).trans hBs;by_cases hlt:k<len
  ·have hcx:=(World.cell?_of_block (w:=W) (a:=⟨b,off+(len-1-k)*2,none⟩) hnx.2).trans (hc (len-1-k) zO).1;have hcy:=(World.cell?_of_block (w:=W) (a:=⟨b,off+(len-1-k)*2+1,none⟩) hnx.2).trans (hc (len-1-k) zO).2;obtain⟨fn,tmps,assign,body,hy,hR⟩:=hY _ (len-1-k) wr hJs (by rw[Zt];exact hlt);try dsimp only at hy
   obtain⟨i,hi⟩:∃i:Nat,len-1-k=i:=⟨_,rfl⟩
   have hi2:(len:Int)-1-k=(i:Int):=zO;have hil:i<len:=zO;have hik:k+i+1<=len/\len<=k+i+1:=zO;have HU:=zH (Vi (λj=>len-1-j) k);obtain⟨u,hu⟩:∃u,us[i]?.getD w2z=u:=⟨_,rfl⟩
   rw[hi]at hcx hcy hy hR;rw[hu]at hcx hcy hy;rw[hi2];clear hi2;clear hu;have HI:=zH hi;clear hi
   gi_wp2
   refine hR.mono ?_;rintro e W3 (⟨rfl,hJ3,hk3⟩|⟨rfl,hUK⟩)
   ·gi_wp2
    go_roundw
    case rel=>exact⟨k+1,zO,by go_num,by rw[HU.out,HI.out];exact hJ3,hnx.t hk3⟩
    case measure=>simp[intOf]
   ·gi_wp2
    refine bodyPost_ret (results_none rfl _ _ _) rfl ?_;exact⟨⟨_,rfl⟩,.inr ⟨_,⟨k+1,zO,by rw[HU.out,HI.out]⟩,hUK⟩⟩
  ·obtain rfl:k=len:=zO
   gi_wp2
   go_end0;exact⟨⟨_,rfl⟩,.inl ⟨_,rfl,hJs⟩⟩
set_option maxRecDepth 100000 in
theorem qeD(n l Bs c:Nat)(A:OA)(J:List Nat->World->Prop)(W:World)(hBs:W.cell? ⟨Bs,0,none⟩=some (.slice A 0 c))(h0:J [] W):CallsIn Fence.wide n prog 189 #[.func (.yield l) #[] #[],.pointer (some ⟨Bs,0,none⟩)] W λe W'=>(∃v,e=.returned v)/\J [] W':=by
 refine callsIn_of_wp func189 rfl trivial ?_ rfl;simp only[ntmps189,List.size_toArray,List.length_cons,List.length_nil,Nat.reduceAdd,Nat.reduceSub,Array.replicate_succ,Array.replicate_zero,List.push_toArray,List.append_toArray,List.nil_append,List.cons_append]
 gi_wp2
 gi_loopw [3] (λi wr=>i=.int .i64 (-1)/\J [] wr) (λ_ _=>0)
 case atStart=>exact⟨rfl,h0⟩
 case round=>
  obtain⟨rfl,hJs⟩:=hrel
  gi_wp2
  go_end0;exact⟨⟨_,rfl⟩,hJs⟩
theorem qfW(n:Nat)(hn:1<=n)(Bs b:Nat)(v:Value)(us:List W2)(hFH:us.length<1099511627776)(w:World)(hBs:Bs<w.heap.size)(hb:b<w.heap.size)(hS:SW w Bs b v us):SeqStopsK Fence.wide n prog 189 #[.pointer (some ⟨Bs,0,none⟩)] (λx:Nat=>#[.int .i64 (x:Int),.agg #[.int .i64 (us[x]?.getD w2z).1,sv (us[x]?.getD w2z).2]]) (Qu Bs b) (λys=>ys=ZO (λj=>us.length-1-j) us.length)
   (λpre=>∃k,k<=us.length/\pre=ZO (λj=>us.length-1-j) k) us.length w:=λl J Jx W hW _ _ hY h0=>by
 obtain⟨hc,h⟩:=hS.keep (Qu.below hW hBs hb);rcases h with⟨rfl,A,c,rfl⟩|⟨off,cap,rfl,hcs⟩
 ·exact(qeD n l Bs c A J W hc h0).mono λe W' ⟨he,hj⟩=>⟨he,.inl ⟨_,rfl,hj⟩⟩
 ·exact backN_in n hn l Bs b off us.length cap us hFH J Jx hY W hc hcs h0
def atN(ws:List (Int×List UInt8))(j:Nat):Int:=((ws[j]?).map (·.1)).getD 0
def datN(ws:List (Int×List UInt8))(j:Nat):List UInt8:=((ws[j]?).map (·.2)).getD []
theorem Ts(n k j:Nat)(h:j<k):(ZO (λi=>n-1-i) k)[j]?=some (n-1-j):=by unfold ZO;rw[List.getElem?_map,List.getElem?_range h];rfl
theorem UM{ws:List (Int×List UInt8)}{a:Int}:∀(d m:Nat),m+d=ws.length->(∀i,m<=i->i<ws.length->atN ws i≠a)->jA ws a=jA (ws.take m) a:=by
 intro d;induction d with
 |zero=>intro m hm _;rw[show m=ws.length by omega,List.take_length]
 |succ d ih=>
  intro m hm h;have hne:=h m (zM _) zO;unfold atN at hne;rw[zL zO]at hne;rw[ih (m+1) zO (λi hi hl=>h i zO hl),KF zO];exact if_neg hne
theorem qhT{ws:List (Int×List UInt8)}{a:Int}{k:Nat}{pre:List Nat}{x:Nat}(hk:k<=ws.length)(he:pre++[x]=ZO (λj=>ws.length-1-j) k)(hx:atN ws x=a)(hp:∀y∈pre,atN ws y≠a):jA ws a=some (datN ws x):=by
 have hl:pre.length+1=k:=by have:=congrArg List.length he;simpa [ZO]using this
 have hxk:x=ws.length-1-pre.length:=by have h1:=Ts ws.length k pre.length zO;rw[<-he]at h1;simpa using h1
 have hxl:x<ws.length:=zO;rw[UM (ws:=ws) (a:=a) pre.length (x+1) zO (λi h1 h2=>by have h3:=Ts ws.length k (ws.length-1-i) zO;rw[<-he,List.getElem?_append_left zO,show ws.length-1-(ws.length-1-i)=i by omega]at h3;exact hp _ (List.mem_of_getElem? h3)),KF hxl];unfold atN at hx;unfold datN;rw[zL hxl]at hx⊢;exact if_pos hx
theorem qhS{ws:List (Int×List UInt8)}{a:Int}(hp:∀y∈ZO (λj=>ws.length-1-j) ws.length,atN ws y≠a):jA ws a=none:=by rw[UM (ws:=ws) (a:=a) ws.length 0 zA3 (λi _ h2=>by have h3:=Ts ws.length ws.length (ws.length-1-i) zO;rw[show ws.length-1-(ws.length-1-i)=i by omega]at h3;exact hp _ (List.mem_of_getElem? h3))];rfl
theorem KX{w w':World}{lo:Nat}{e:TypeId}{size:Nat}{v:Value}{n:Nat}{xs:List Value}(h:w.ownsRow lo e size v n xs)(hk:Qe w w'):w'.ownsRow lo e size v n xs:=
 ⟨h.1,h.2.imp id λ⟨g,cap,cur,h1,h2,h3,h4⟩=>⟨g,cap,cur,h1,h2,hk.row h3,h4⟩⟩
end Go.Proofs.YtmeadnlmepcmbaaGreat
