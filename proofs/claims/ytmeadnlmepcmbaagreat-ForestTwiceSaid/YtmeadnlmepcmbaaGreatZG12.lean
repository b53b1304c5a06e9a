/- Lemmas of the proof. -/
import Derived.Lib.Overlaps
import Derived.Defers
import Derived.Test.YtmeadnlmepcmbaaGreatZG11
set_option linter.all false
set_option maxHeartbeats 8000000
open Go.Proofs.Tryz
namespace Go.Proofs.YtmeadnlmepcmbaaGreat
open Go.RowKit
theorem or_none(a b:Nat)(ha:a<256)(hb:b<256):(bits .or .u8 (a:Int) (b:Int)!=0)=!(decide (a=0)&&decide (b=0)):=by rw[<-or_zero a b ha hb];rfl
theorem first_eq{S:Sto}{f:Nat}(hf:f<256)(h:Jv S f=true)(hWJ:∀k,8<=k->k<f->Jv S k=false):Kb S≠[]/\zj S=f:=by
 have e:∃l,Kb S=f::l:=by
  unfold Kb;have h0:Kc S f=[]:=by
   unfold Kc;rw[List.filter_eq_nil_iff];intro k hk;have hkf:k<f:=by simpa using hk
   rcases Nat.lt_or_ge k 8 with h8|h8
   ·unfold Jv;simp;omega
   ·rw[hWJ k h8 hkf];decide
  have h1:=qar S f;rw[if_pos h,h0]at h1;obtain⟨t,ht⟩:=qij S (show f+1<=256 by omega);exact⟨t,by rw[<-ht,h1];rfl⟩
 obtain⟨l,e⟩:=e;exact⟨by rw[e];simp,by unfold zj;rw[e];rfl⟩
theorem qky{S:Sto}(h:∀k,8<=k->k<256->Jv S k=false):Kb S=[]:=by
 unfold Kb Kc;rw[List.filter_eq_nil_iff];intro k hk;have hkf:k<256:=by simpa using hk
 rcases Nat.lt_or_ge k 8 with h8|h8
 ·unfold Jv;simp;omega
 ·rw[h k h8 hkf];decide
theorem IsB.keepX{X:Nat->Prop}{lo n:Nat}{l:List UInt8}{v:Value}{w C:World}(h:IsB lo n l v w)(hk:qT X w C)(hX:∀q,lo<=q->q<w.heap.size->¬X q):Bys C C.heap.size v l:=by
 obtain⟨A,c,e,⟨A',c',e',hc,hm,hr⟩,hf⟩:=h;refine⟨A',c',e',hc,hm,hr.1,λhn=>?_⟩;obtain⟨b,off,e2,hb,hAL⟩:=hr.2 hn;subst e2;have hlo:=hf ⟨b,off,none⟩ _ _ e';have hl:0<(l.map bv).length:=by simpa using hn
 exact⟨b,off,rfl,World.block_lt_of_cell? C ⟨b,off+0,none⟩ (hk _ _ (hX b hlo hb) (hAL 0 _ (zL hl))),λj u hu=>hk _ _ (hX b hlo hb) (hAL j u hu)⟩
theorem WsB.slice{D:Nat->Prop}{B lo b g:Nat}{k:Option Nat}{v:Value}{ws:List (Int×List UInt8)}{w:World}(h:WsB D B lo b g k v ws w):∃A c,v=.slice A ws.length c:=by
 obtain⟨ps,e,hc,_⟩:=h;rcases hc with⟨_,_,A,e2,_⟩|⟨q,_,_,how⟩
 ·exact⟨A,_,e2⟩
 ·obtain⟨A,c,e,_⟩:=qG how;exact⟨A,c,e⟩
def Xn(D:Nat->Prop)(B lo b g:Nat)(k:Option Nat)(S:Sto)(lvl:Int)(its:List It)(w:World)(e:Ending)(W:World):Prop:=Qh lo b g k w W /\
 match zX S lvl its with
 |.error er=>e=.returned (.tuple #[.int .i64 0,.int .i64 er])
 |.ok (f,S')=>e=.returned (.tuple #[.int .i64 (f:Int),.int .i64 0])/\∃k' D',Zj w.heap.size k k'/\KL w.heap.size D D'/\Bch D' B lo b g k' S' W
theorem Xn.bad{D:Nat->Prop}{B lo b g:Nat}{k:Option Nat}{S:Sto}{lvl:Int}{its:List It}{w W:World}{er:Int}(h:zX S lvl its=.error er)(hB:Qh lo b g k w W):Xn D B lo b g k S lvl its w (.returned (.tuple #[.int .i64 0,.int .i64 er])) W:=by refine⟨hB,?_⟩;rw[h]
theorem Xn.good{D D':Nat->Prop}{B lo b g:Nat}{k k':Option Nat}{S S':Sto}{lvl:Int}{its:List It}{w W:World}{f:Nat}(h:zX S lvl its=.ok (f,S'))(hB:Qh lo b g k w W)(hN:Zj w.heap.size k k')(hD:KL w.heap.size D D')(hb:Bch D' B lo b g k' S' W):Xn D B lo b g k S lvl its w (.returned (.tuple #[.int .i64 (f:Int),.int .i64 0])) W:=by refine⟨hB,?_⟩;rw[h];exact⟨rfl,k',D',hN,hD,hb⟩
theorem kA{R:Ending->World->Prop}{a:Act}{W:World}{u v:Value}(h4:a.tmps[4]?.getD undef=u)(h5:a.tmps[5]?.getD undef=v)(hd:a.defers=[])(hR:R (.returned (.tuple #[u,v])) W):bodyPost prog Tryz.f165 R .ret a W:=by refine bodyPost_ret (v:=.tuple #[u,v]) ?_ hd hR;simp[results,results165,go_sem,h4,h5]
set_option maxRecDepth 100000 in
theorem GA(D:Nat->Prop)(B lo b g:Nat)(k:Option Nat)(S:Sto)(lvl:Int)(A n c)(its:List It)(hio:∀x∈its,QY x)(hws:S.ws.length<=4096)(w:World)(h:Bch D B lo b g k S w)(hx:kO (B3 b g k) w (.slice A n c) its):Calls prog 165 #[.pointer (some ⟨b,0,none⟩),jL lvl A n c] w (Xn D B lo b g k S lvl its w):=by
 obtain⟨hlb,hzb,hlg,hzg,hgb,hlw,hkq⟩:=h.size;have hb3:=h.b3;obtain⟨hnn,-,-,hA⟩:=hx.now.at_;subst hnn;cases hm:Qj lvl its
 case false=>
  have hE:=zH (show zX S lvl its=.error 8 by unfold zX;rw[hm];rfl);have hW:=zH (λW (hw:Ext w W)=>qiK lvl A its.length c its W (hx.now.ext hw) hm);replace⟨hx,h⟩:=zH2 hx h;clear hA hm hkq hb3;go_enter func165,ntmps165;go_wp2_with fail;generalize hw1:World.alloc _ _=w1;have x1:Ext w w1:=by rw[<-hw1];exact zN _ _
  clear hw1;refine(hW.out w1 x1).mono ?_;rintro e w2 ⟨rfl,hB⟩;have x2:Ext w w2:=x1.trans hB;clear hB x1 hW;go_wp2_with fail;exact kA rfl rfl rfl (Xn.bad hE.out (Qh.of_ext x2 hlw))
 case true=>
  have hE:Hid (zX S lvl its=match ZM (qB its) S.now with
   |.error e=>.error e
   |.ok t=>if Kb (qv S t)=[]\/S.ws.length=4096 then .error 9 else .ok (zj (qv S t),vl (qv S t) (zj (qv S t)) (Zi (Qx lvl its)))):=zH (by unfold zX;rw[hm];rfl)
  obtain⟨hl1,hl2,hl5,hib⟩:=jR hm;have hW:=zH (λW (hw:Ext w W)=>qck lvl A its.length c its W (hx.now.ext hw) hm hio);have hX:=zH hx;have hsl:=zH (Vf (b:=Qx lvl its) (by have:=YZ lvl its.length its.length hio hl5;rw[YY]at this;omega));replace⟨hA,hib,hio,h,hb3,hkq⟩:=zH6 hA hib hio h hb3 hkq;replace hws:=zH hws;clear hx hm hl1 hl2;go_enter func165,ntmps165;go_wp2_with fail;generalize hw1:World.alloc _ _=w1;have x1:Ext w w1:=by rw[<-hw1];exact zN _ _
  have p1:w1.heap[w.heap.size]?=some (.cells #[.int .i64 lvl,.slice A its.length c] 113 (0,0)):=by rw[<-hw1];exact zI _ _ _ rfl
  clear hw1;refine(hW.out w1 x1).mono ?_;rintro e w2 ⟨u,rfl,⟨u,rfl,hu⟩,hB⟩;have hB:Ext w1 w2:=hB;have x2:Ext w w2:=x1.trans hB;have p2:=qb p1 hB;have kp:=qa p2;have z1:w.heap.size<w1.heap.size:=(zG.1 p1).1;obtain⟨A0,c0,rfl,hu1,hu2⟩:=hu;have hu:IsB w1.heap.size 128 (Zi (Qx lvl its)) (.slice A0 128 c0) w2:=⟨A0,c0,rfl,hu1,hu2⟩
  replace hu:=zH hu;clear hB x1 p1 hW hu1 hu2;go_wp2_with fail;go_loopw [21] (λi wr=>∃(j:Nat)(t:List UInt8),j<=its.length/\i=.int .i64 (j:Int)/\ZM (qB (its.take j)) S.now=.ok t/\Bch D B lo b g k (qv S t) wr/\Qh lo b g k w2 wr) (λi _=>its.length-(intOf i).toNat)
  case atStart=>exact⟨0,S.now,Nat.zero_le _,rfl,rfl,h.out.ext x2,Qh.refl _ _ _ _ _⟩
  case round=>
   obtain⟨j,t,hj,rfl,hsh,hbc,hbk⟩:=hrel;have hxr:=hX.out.trans ((qT.of_ext (X:=B3 b g k) x2).trans hbk.keepX λ_ _ h=>h) (λ_ _ h=>h);by_cases hlt:j<its.length
   ·obtain⟨bi,off,rfl,hbi⟩:=hA.out zO;obtain⟨A',c',d0,d1,d2,d3,d4,-⟩:=hxr.now.item j hlt;have hr8:=hib.out its[j] (List.getElem_mem hlt);have hrr:its[j].r=0\/(8<=its[j].r/\its[j].r<256):=by unfold itB at hr8;simp at hr8;exact hr8.1
    have hGU:=zH (λe h1=>qiY hlt (e:=e) hsh h1);have hEC:=zH (λt' h1=>qhr hlt (t'':=t') hsh h1);generalize its[j]=x at*;have hwk:=zH (IntWalk.wrap64_in ((j:Int)+1) zO);replace⟨hsh,hxr⟩:=zH2 hsh hxr;clear hbi hr8;rcases hrr with hr0|hr1
    ·have hsh2:=zH (hEC.out t (by rw[hr0];simp[ZG]));rw[hr0]at d3;have hz0:=hbc.size.2.2.2.2.2.1;replace⟨hbc,hbk⟩:=zH2 hbc hbk;clear hr0 hGU hEC kp;go_wp2_with fail;try rw[hwk.out]
     refine⟨⟨j+1,t,zO,rfl,hsh2.out,hbc.out.ext (zN _ _),hbk.out.trans (Qh.of_ext (zN _ _) hz0) (Zj.refl _ _)⟩,?_⟩;simp[intOf];omega
    ·obtain⟨a,hra⟩:∃a:Nat,x.r=(a:Int):=⟨x.r.toNat,zO⟩
     have ha8:8<=a:=zO;have ha9:a<256:=zO;have hsa:(x.r).toNat=a:=zO;rw[hra]at d3;rw[hsa]at hGU hEC;have hs1:Hid (ZG t a=if qP t a=0 then .error 6 else if qP t a=255 then .error 70 else .ok (QZ t a 1)):=zH (by unfold ZG;rw[if_neg zO]);have hza:((a:Int)==0)=false:=by rw[beq_eq_false_iff_ne];omega
     have hz0:=hbc.size.2.2.2.2.2.1;have HS:=zH (λW (hW:Ext wr W)=>qbw D B lo b g k (qv S t) a ha9 W (hbc.ext hW));replace⟨hbc,hbk⟩:=zH2 hbc hbk;clear kp hr1 hsa hra;go_wp2_with fail;generalize hwa:World.alloc _ _=wa;have xa:Ext wr wa:=by rw[<-hwa];exact zN _ _
     have ra:wa.heap[wr.heap.size]?=some (.cells #[.int .u8 x.k,.int .u32 x.i,.int .u32 x.o,.int .i64 (a:Int),.slice A' x.val.length c'] 51 (0,0)):=by rw[<-hwa];exact zI _ _ _ rfl
     have ka:=qa ra;clear hwa d0 d1 d2 d3 d4;go_wp2_with fail;refine(HS.out wa xa).mono ?_;rintro e wsh ⟨hk2,hBU⟩;have hk3:=hbk.out.trans ((Qh.of_ext xa hz0).trans hk2 (Zj.refl _ _)) (Zj.refl _ _);clear HS hk2 ka ra xa;rcases hBU with⟨hc0,rfl⟩|⟨hc0,rfl⟩|⟨hc0,hc1,rfl,hb3⟩
     ·have hEE:=zH (show zX S lvl its=.error 6 by rw[hE.out,hGU.out 6 (by rw[hs1.out,if_pos hc0])]);clear hE hGU hEC hs1 hc0;go_wp2_with fail;exact kA rfl rfl rfl (Xn.bad hEE.out ((Qh.of_ext x2 hlw).trans hk3 (Zj.refl _ _)))
     ·have hEE:=zH (show zX S lvl its=.error 70 by rw[hE.out,hGU.out 70 (by rw[hs1.out,if_neg zO,if_pos hc0])]);clear hE hGU hEC hs1 hc0;go_wp2_with fail;exact kA rfl rfl rfl (Xn.bad hEE.out ((Qh.of_ext x2 hlw).trans hk3 (Zj.refl _ _)))
     ·have IR:∃(j':Nat)(t':List UInt8),j'<=its.length/\Value.int .i64 ((j:Int)+1)=.int .i64 (j':Int)/\ZM (qB (its.take j')) S.now=.ok t'/\Bch D B lo b g k (qv S t') wsh/\Qh lo b g k w2 wsh:=
       ⟨j+1,QZ t a 1,zO,rfl,hEC.out _ (by rw[hs1.out,if_neg hc0,if_neg hc1]),hb3,hk3⟩
      replace IR:=zH IR;clear hE hGU hEC hs1 hc0 hc1 hb3 hk3 hbk hbc;go_wp2_with fail;try rw[hwk.out]
      refine⟨IR.out,?_⟩;simp[intOf];omega
   ·obtain rfl:j=its.length:=zO;rw[List.take_length]at hsh;rw[hsh]at hE;have hE:Hid (zX S lvl its=if Kb (qv S t)=[]\/S.ws.length=4096 then .error 9 else .ok (zj (qv S t),vl (qv S t) (zj (qv S t)) (Zi (Qx lvl its)))):=hE;have hEw:Hid ((qv S t).ws.length=S.ws.length):=rfl;rw[<-hEw.out]at hE hws;generalize qv S t=S' at*;have wGB:=(Qh.of_ext (b:=b) (g:=g) (k:=k) x2 hlw).trans hbk (Zj.refl _ _);obtain⟨D',hD'⟩:∃D':Nat->Prop,D'=λq=>D q\/(w1.heap.size<=q/\q<w2.heap.size):=⟨_,rfl⟩
    have hb3:=hb3.out;have hzw:=h.out.size.2.2.2.2.2.1;have hux:=zH (λC (hC:qT (TP B D') wr C)=>hu.out.keepX (X:=λq=>B3 b g k q\/TP B D' q) ((hbk.keepX.mono λq _ h=>.inl h).trans hC λ_ _ h=>.inr h) (λq h1 h2=>by
     rintro(hx|hx)
     ·have:=(hb3 q hx).2;omega
     ·exact hx.2 (by rw[hD'];exact .inr ⟨h1,h2⟩)))
    have hDD:∀q,D q->D' q:=λq hq=>by rw[hD'];exact .inl hq
    have hDn:KL w.heap.size D D':=λq hq=>by rw[hD']at hq;exact hq.imp id λh=>zO
    have hDb:∀W,Ext wr W->∀q,D' q->lo<=q/\q<W.heap.size/\¬B3 b g k q:=λW hW q hq=>by
     have hz:=hW.size;have hz2:=hbk.below.size;rw[hD']at hq;rcases hq with hq|⟨h1,h2⟩
     ·have:=hbc.dB q hq;exact⟨this.1,zO,this.2.2⟩
     ·exact⟨zO,zO,λhx=>by have:=(hb3 q hx).2;omega⟩
    have hkD:∀q,k=some q->¬(q<B\/D' q):=λq hq hx=>hx.elim (λh1=>h.out.off q h1 (.inr (.inr hq))) λh1=>(hDb wr (Ext.refl _) q h1).2.2 (.inr (.inr hq));replace⟨hDb,hDn,hDD,hkD⟩:=zH4 hDb hDn hDD hkD;clear hD' hb3 hzw;obtain⟨A1,n1,c1,v2,c3,A4,c4,hr,ho,hwb,hb1,hb4⟩:=hbc.ex;obtain⟨hlen,wJV⟩:=hbc.lens;obtain⟨hkn,hfn,-,-⟩:=ZW ho;obtain⟨b4,o4,rfl,hb4lt,hk4⟩:∃b4 o4,A4=some ⟨b4,o4,none⟩/\b4<B/\∀a,a<256->wr.cell? ⟨b4,o4+a,none⟩=some (.int .u8 (qbQ S' a:Int)):=by obtain⟨A',c',e,_,_,hrd⟩:=hb4;simp only[Value.slice.injEq]at e;obtain⟨rfl,_,rfl⟩:=e;obtain⟨b4,o4,e,h1,h2⟩:=hrd.2 zO;exact⟨b4,o4,e,h1,λa ha=>h2 a _ (by rw[List.getElem?_map,zL zO];simp[qbQ,zL (show a<S'.last.length by omega)])⟩
    have hkn:Hid (∀a,a<256->wr.cell? ⟨g,a,none⟩=some (.int .u8 (Jh S' a:Int))):=zH hkn;have hk4:=zH hk4;have hfr:Hid (∀k,8<=k->(bits .or .u8 (Jh S' k:Int) (qbQ S' k:Int)!=0)=!Jv S' k):=zH λk h8=>by rw[or_none _ _ (nowN_lt S' k) (lastN_lt S' k)];unfold Jv;rw[decide_eq_true h8,Bool.true_and]
    obtain⟨A2,c2,rfl⟩:=hwb.slice;have h5g:=h.out.size;have wNQ:=hbc.size.2.2.2.2.2.2;replace wNQ:=zH wNQ;have h0:=h;clear kp hu hxr hX hA hib hio h hbk hsh hEw p2 hkq h5g;replace⟨hbc,hwb,ho,hb1,hb4,wGB⟩:=zH6 hbc hwb ho hb1 hb4 wGB;replace⟨hfn,hlen,wJV⟩:=zH3 hfn hlen wJV;have hwx:=zH (Ext.refl wr);generalize hwm:wr=wm at*;clear hwm;go_wp2_with fail;go_loopw [4] (λi wr=>∃k:Nat,8<=k/\k<=256/\i=.int .i64 (k:Int)/\(∀j,8<=j->j<k->Jv S' j=false)/\Ext wm wr) (λi _=>256-(intOf i).toNat)
    case atStart=>exact⟨8,zM _,zO,rfl,λ_ _ h=>zO,Ext.refl _⟩
    case round=>
     obtain⟨f,h8,hf,rfl,hWJ,hE2⟩:=hrel;replace hWJ:=zH hWJ;have r2:=qb hr hE2;by_cases hlt:f<256
     ·have g1:∀W,qj.r wr W->∀i,W.cell? ⟨b,i,none⟩=#[.slice A1 n1 c1,.slice A2 S'.ws.length c2,.slice (some ⟨g,0,none⟩) 256 c3,.slice (some ⟨b4,o4,none⟩) 256 c4][i]?:=λW h=>qa (qb r2 h);have g2:∀W,qj.r wr W->W.cell? ⟨g,f,none⟩=some (.int .u8 (Jh S' f:Int)):=λW h=>Ext.cell (hE2.trans h) (hkn.out f hlt);have g3:∀W,qj.r wr W->W.cell? ⟨b4,o4+f,none⟩=some (.int .u8 (qbQ S' f:Int)):=λW h=>Ext.cell (hE2.trans h) (hk4.out f hlt);have hbit:=hfr.out f h8;generalize Jh S' f=nw at*;generalize qbQ S' f=lw at*;have d1:decide ((f:Int)<256)=true:=decide_eq_true zO;have d2:decide (f<256)=true:=decide_eq_true hlt;have hwk:=zH (IntWalk.wrap64_in ((f:Int)+1) zO);have wKB:=zH (λ(h:Jv S' f=false)=>(λj hj (hlt:j<f+1)=>(Nat.lt_or_ge j f).elim (λh1=>hWJ.out j hj h1) λh1=>by rw[show j=f by omega];exact h:∀j,8<=j->j<f+1->Jv S' j=false));have hYH:=zH (λ(h:Jv S' f=true)=>first_eq hlt h hWJ.out);generalize Jv S' f=fb at*;have e0:=zH hE2;clear hE2;go_upto_region 13 with fail;refine qt zQ ?_;refine qX (w:=wr) qj (qQ []) (List.replicate 22 true) 0 zQ zQ zQ zQ zQ zQ zQ ?st (Rel.drew _ _) ?walk
      case st=>exact qi (λ_ h=>by cases h)
      case walk=>
       intro K hK;dsimp only[qw,List.replicate];refine zB7 ?_;refine qd (.pointer (some ⟨g,f,none⟩)) zA0 zA0 (λW hW _=>⟨W,?_,Rel.refl _ W⟩) ?_
       ·go_simp;intro hge;exfalso;omega
       refine zB7 ?_;refine qd (.pointer (some ⟨b4,o4+f,none⟩)) zA0 zA0 (λW hW _=>⟨W,?_,Rel.refl _ W⟩) ?_
       ·go_simp;intro hge;exfalso;omega
       refine zB7 ?_;refine qD (hK _ _ λW hW hF=>?_);clear hF hK g1 g2 g3;have hW:Ext wr W:=hW;have xE:Ext wm W:=e0.out.trans hW;clear e0 hW;refine zC4 ?_;cases fb
       ·have IR:∃k':Nat,8<=k'/\k'<=256/\Value.int .i64 ((f:Int)+1)=.int .i64 (k':Int)/\(∀j,8<=j->j<k'->Jv S' j=false)/\Ext wm W:=⟨f+1,zO,zO,rfl,wKB.out rfl,xE⟩
        replace IR:=zH IR;clear xE hWJ wKB hYH;go_wp2;refine Qn ?_;go_wp2_with fail;try rw[hwk.out]
        refine⟨IR.out,?_⟩;simp[intOf];omega
       ·have hne:=zH (hYH.out rfl).1;have hfs:=zH (hYH.out rfl).2;clear hWJ wKB hYH hbit hkn hk4 hfr d1 d2;have r3:=qb hr xE;have k3:=qa r3;have f3:=qg r3;have e1:((f:Int)==256)=false:=by rw[beq_eq_false_iff_ne];omega
        by_cases hw4:S'.ws.length=4096
        ·have hEE:=zH (show zX S lvl its=.error 9 by rw[hE.out,if_pos (.inr hw4)]);have hl1:((S'.ws.length:Int)==4096)=true:=by rw[beq_iff_eq];omega
         replace⟨hw4,xE⟩:=zH2 hw4 xE;go_wp2;refine Qn ?_;go_wp2_with fail;exact kA rfl rfl rfl (Xn.bad hEE.out (wGB.out.trans (Qh.of_ext xE.out hbc.out.size.2.2.2.2.2.1) (Zj.refl _ _)))
        ·have hEE:=zH (show zX S lvl its=.ok (f,vl S' f (Zi (Qx lvl its)))by rw[hE.out,if_neg (λh=>h.elim hne.out hw4),hfs.out]);have hl1:((S'.ws.length:Int)==4096)=false:=by rw[beq_eq_false_iff_ne];omega
         replace hw4:=zH hw4;have xw:=zH xE;have zW:=xE.size;have zwm:=hbc.out.size.2.2.2.2.2.1;have hbW:=zH ((hbc.out.ext xE).mono hDD.out (hDb.out W (hwx.out.trans xE)));clear xE;go_wp2;refine Qn ?_;go_wp2_with (at_builtin;refine qY ?_);have zBlo:=h0.out.blo;refine Qm.go (qfF rfl (.tmp 78) (.tmp 82) rfl rfl rfl ((hwb.out.mono hDD.out).ext xw.out zO) zO hkD.out (by have:=hws.out;omega) (f:Int) A0 128 c0 (Zi (Qx lvl its)) hsl.out.symm (λC hC=>hux.out C ((qT.of_ext (hwx.out.trans xw.out)).trans hC λ_ _ h=>h)) ?_);intro v4 w4 k4 hW4 hK4 hN4 hZY;obtain⟨A5,c5,rfl⟩:=hW4.slice;rw[List.length_append,List.length_singleton]at hW4;have r4:=(hZY b (zG.1 r3).1 λe=>(wNQ.out b e).2.2.1 rfl).trans r3;have kr4:=qa r4;have fr4:=qg r4;have oW:=zh ho.out xw.out;have o4:=Zb oW (w':=w4) λq hq=>by cases hq;exact hZY g (QM oW g rfl).2 λe=>(wNQ.out g e).2.2.2 rfl
         have kg4:=(ZW o4).1 f hlt;have fg4:=(ZW o4).2.1 f;have P:=zH (Bch.put hbW.out r3 oW (hb1.out.below (Below.mono xw.out zO)) (hb4.out.below (Below.mono xw.out zO)) hlt hW4 hK4 hN4 hZY);have hAll:Hid (Qh lo b g k w _):=zH (wGB.out.trans ((Qh.of_ext xw.out zwm).trans P.out.2 (Zj.refl _ _)) (Zj.refl _ _));replace hN4:=zH hN4;clear o4 oW hZY hW4 r3 k3 f3 hK4;go_wp2_with fail;exact kA rfl rfl rfl (Xn.good hEE.out hAll.out (hN4.out.mono (by have:=wGB.out.below.size;omega)) hDn.out P.out.1)
     ·have d1:decide ((f:Int)<256)=false:=decide_eq_false zO;have e1:((f:Int)==256)=true:=by rw[beq_iff_eq];omega
      have hf6:f=256:=zO;have hEE:=zH (show zX S lvl its=.error 9 by rw[hE.out,if_pos (.inl (qky λj h8 hj=>hWJ.out j h8 zO))]);have e0:=zH hE2;replace hf6:=zH hf6;clear hE2 hkn hk4 hfr hWJ r2;go_upto_region 13 with fail;refine qt zQ ?_;refine qX (w:=wr) qj (qQ []) (List.replicate 22 true) 0 zQ zQ zQ zQ zQ zQ zQ ?st (Rel.drew _ _) ?walk
      case st=>exact qi (λ_ h=>by cases h)
      case walk=>intro K hK;dsimp only[qw,List.replicate];refine zB7 ?_;refine qD (hK _ _ λW hW hF=>?_);clear hF hK;have hW:Ext wr W:=hW;have xE:Ext wm W:=e0.out.trans hW;clear e0 hW;refine zC4 ?_;replace xE:=zH xE;go_wp2;refine Qn ?_;go_wp2_with fail;exact kA rfl rfl rfl (Xn.bad hEE.out (wGB.out.trans (Qh.of_ext xE.out hbc.out.size.2.2.2.2.2.1) (Zj.refl _ _)))
def VN(xs:List It)(k:K3):Bool:=match xs[qA xs k]? with
 |none=>false
 |some x=>decide (qp x=k)
theorem JM{xs:List It}{k:K3}(h:qA xs k<xs.length):VN xs k=decide (qp xs[qA xs k]=k):=by unfold VN;rw[zL h]
theorem VX{xs:List It}{k:K3}(h:¬qA xs k<xs.length):VN xs k=false:=by unfold VN;rw[List.getElem?_eq_none zO]
theorem key_if(x:It)(k i o:Int)(W:World):(if x.k=k then if x.i=i then if x.o=o then Result.ok (Next.value (Value.bool true)) W else Result.ok (Next.value (Value.bool false)) W else Result.ok (Next.value (Value.bool false)) W else Result.ok (Next.value (Value.bool false)) W)=Result.ok (Next.value (Value.bool (decide (qp x=(k,i,o))))) W:=by
 have e:(qp x=(k,i,o))↔(x.k=k/\x.i=i/\x.o=o):=by unfold qp;simp only[Prod.mk.injEq]
 by_cases h1:x.k=k
 ·by_cases h2:x.i=i
  ·by_cases h3:x.o=o
   ·rw[if_pos h1,if_pos h2,if_pos h3,decide_eq_true (e.2 ⟨h1,h2,h3⟩)]
   ·rw[if_pos h1,if_pos h2,if_neg h3,decide_eq_false (λh=>h3 (e.1 h).2.2)]
  ·rw[if_pos h1,if_neg h2,decide_eq_false (λh=>h2 (e.1 h).2.1)]
 ·rw[if_neg h1,decide_eq_false (λh=>h1 (e.1 h).1)]
theorem qei{R:Ending->World->Prop}{a:Act}{W:World}{u v:Value}(h2:a.tmps[4]?.getD undef=u)(h3:a.tmps[5]?.getD undef=v)(hd:a.defers=[])(hR:R (.returned (.tuple #[u,v])) W):bodyPost prog Tryz.f146 R .ret a W:=by refine bodyPost_ret (v:=.tuple #[u,v]) ?_ hd hR;simp[results,results146,go_sem,h2,h3]
set_option maxRecDepth 100000 in
theorem qcp(lvl:Int)(A c)(xs:List It)(k i o:Int)(w:World)(hl:xs.length<=5)(h:Its w w.heap.size (.slice A xs.length c) xs):Calls prog 146 #[jL lvl A xs.length c,UK k i o] w (Ret (.tuple #[.int .i64 ((qA xs (k,i,o):Nat):Int),.bool (VN xs (k,i,o))]) w):=by
 obtain⟨-,hc1,hc2,hA⟩:=h.at_;have HI:=zH h;clear h;go_enter func146,ntmps146;go_wp2_with fail;generalize hw1:(World.alloc (World.alloc w _) _)=w1;have x1:Ext w w1:=by rw[<-hw1];exact(zN _ _).trans (zN _ _)
 have rn:w1.heap[w.heap.size]?=some (.cells #[.int .i64 lvl,.slice A xs.length c] 113 (0,0)):=by rw[<-hw1];exact(zK _ _ _ zA3).trans (zI _ _ _ rfl)
 have rk:w1.heap[w.heap.size+1]?=some (.cells #[.int .u8 k,.int .u32 i,.int .u32 o] 49 (0,0)):=by rw[<-hw1];exact zI _ _ _ zA3
 clear hw1;go_loopw [4,11] (λp j wr=>∃n:Nat,n<=xs.length/\j=.int .i64 (n:Int)/\p=.int .i64 ((qA (xs.take n) (k,i,o):Nat):Int)/\Ext w1 wr) (λ_ j _=>xs.length-(intOf j).toNat)
 case atStart=>exact⟨0,Nat.zero_le _,rfl,rfl,Ext.refl _⟩
 case round=>
  obtain⟨n,hn,rfl,rfl,xr⟩:=hrel;have xwr:=x1.trans xr;have kn:=qa (qb rn xr);have kk:=qa (qb rk xr);have zk:w.heap.size+1<wr.heap.size:=(zG.1 (qb rk xr)).1;by_cases hlt:n<xs.length
  ·obtain⟨b,off,rfl,hb⟩:=hA zO;obtain⟨A',c',d0,d1,d2,d3,d4,-⟩:=HI.out.item n hlt;replace d0:=Ext.cell xwr d0;replace d1:=Ext.cell xwr d1;replace d2:=Ext.cell xwr d2;replace d3:=Ext.cell xwr d3;replace d4:=Ext.cell xwr d4;have HP:=zH (qiO (k:=(k,i,o)) hlt);have hpl:=Jm (xs.take n) (k,i,o);rw[List.length_take]at hpl;generalize qA (xs.take n) (k,i,o)=pl at*;generalize xs[n]=x at*;go_wp2_with fail;generalize hwa:(World.alloc wr _)=wa;have xa:Ext wr wa:=by rw[<-hwa];exact zN _ _
   clear hwa;refine(Vy x.k x.i x.o k i o wa).mono ?_;rintro e wl ⟨rfl,hB⟩;have xl:Ext w1 wl:=xr.trans (xa.trans hB);clear kn kk d0 d1 d2 d3 d4;rcases hls:JD x.k x.i x.o k i o with _|_
   ·have hz:qA (xs.take (n+1)) (k,i,o)=pl:=by rw[HP.out,if_neg (show ¬qV (qp x) (k,i,o)=true from(λh=>by rw[show qV (qp x) (k,i,o)=false from hls]at h;cases h))];rfl
    replace hz:=zH hz;go_wp2_with fail;refine⟨⟨n+1,hlt,rfl,by rw[hz.out],xl⟩,?_⟩;simp[intOf];omega
   ·have hz:qA (xs.take (n+1)) (k,i,o)=pl+1:=by rw[HP.out,if_pos (show qV (qp x) (k,i,o)=true from hls)]
    replace hz:=zH hz;go_wp2_with fail;refine⟨⟨n+1,hlt,rfl,by rw[hz.out];rfl,xl⟩,?_⟩;simp[intOf];omega
  ·obtain rfl:n=xs.length:=zO;rw[List.take_length];have hpl:=Jm xs (k,i,o);go_wp2_with fail;by_cases hp:qA xs (k,i,o)<xs.length
   ·have hia:=JM hp;obtain⟨b,off,rfl,hb⟩:=hA zO;obtain⟨A',c',d0,d1,d2,-,-,-⟩:=HI.out.item _ hp;replace d0:=Ext.cell xwr d0;replace d1:=Ext.cell xwr d1;replace d2:=Ext.cell xwr d2;generalize xs[qA xs (k,i,o)]=x at*;generalize qA xs (k,i,o)=pl at*;generalize hie:VN xs (k,i,o)=ie at*;have gN:∀W,qj.r wr W->∀i,W.cell? ⟨w.heap.size,i,none⟩=#[.int .i64 lvl,.slice (some ⟨b,off,none⟩) xs.length c][i]?:=λW h=>qa (qb (qb rn xr) h);have gK:∀W,qj.r wr W->∀j,W.cell? ⟨w.heap.size+1,j,none⟩=#[.int .u8 k,.int .u32 i,.int .u32 o][j]?:=λW h=>qa (qb (qb rk xr) h);have gD:∀W,qj.r wr W->W.cell? ⟨b,off+pl*5,none⟩=some (.int .u8 x.k)/\W.cell? ⟨b,off+pl*5+1,none⟩=some (.int .u32 x.i)/\W.cell? ⟨b,off+pl*5+2,none⟩=some (.int .u32 x.o):=λW h=>⟨Ext.cell h d0,Ext.cell h d1,Ext.cell h d2⟩
    have gD0:=λW h=>(gD W h).1;have gD1:=λW h=>(gD W h).2.1;have gD2:=λW h=>(gD W h).2.2;replace hia:=zH hia;clear d0 d1 d2 gD;refine qt zQ ?_;refine qX (w:=wr) qj (qQ []) [true,true,true,true,true,true,true,true,true,true,true,true,true,true,true,true,true] 1 zQ zQ zQ zQ zQ zQ zQ ?st (Rel.drew _ _) ?walk
    case st=>exact qi (λ_ h=>by cases h)
    case walk=>
     intro K hK;dsimp only[qw];refine zB7 ?_;refine qd (.bool ie) zA0 zA0 (λW hW _=>⟨W,?_,Rel.refl _ W⟩) ?_
     ·go_simp;rw[hia.out];exact key_if x k i o W
     refine zB7 ?_;refine qD (hK _ _ λW hW hF=>?_);clear hF hK gN gK gD0 gD1 gD2;have hW':Ext wr W:=hW;refine zB6 ?_;go_wp2;refine Qn ?_;go_wp2_with fail;exact qei rfl rfl rfl ⟨rfl,xwr.trans hW'⟩
   ·have hia:=VX hp;have gN:∀W,qj.r wr W->∀i,W.cell? ⟨w.heap.size,i,none⟩=#[.int .i64 lvl,.slice A xs.length c][i]?:=λW h=>qa (qb (qb rn xr) h);generalize qA xs (k,i,o)=pl at*;generalize hie:VN xs (k,i,o)=ie at*;replace hia:=zH hia;refine qt zQ ?_;refine qX (w:=wr) qj (qQ []) [true,true,true,true,true,true,true,true,true,true,true,true,true,true,true,true,true] 1 zQ zQ zQ zQ zQ zQ zQ ?st (Rel.drew _ _) ?walk
    case st=>exact qi (λ_ h=>by cases h)
    case walk=>intro K hK;dsimp only[qw];refine zB7 ?_;refine qD (hK _ _ λW hW hF=>?_);clear hF hK gN;have hW':Ext wr W:=hW;refine zB6 ?_;go_wp2;refine Qn ?_;go_wp2_with fail;exact qei rfl rfl rfl ⟨by rw[hia.out];rfl,xwr.trans hW'⟩
theorem GR(lvl:Int)(A c)(xs:List It)(k i o:Int)(lo:Nat)(w:World)(hl:xs.length<=5)(h:ZB lo w (.slice A xs.length c) xs):Calls prog 146 #[jL lvl A xs.length c,UK k i o] w (Ret (.tuple #[.int .i64 ((qA xs (k,i,o):Nat):Int),.bool (VN xs (k,i,o))]) w):=qcp lvl A c xs k i o w hl h.its
def looseL:List Nat->List UInt8->Except Int (List UInt8)
 |[],t=>.ok t
 |a::r,t=>if a=0 then looseL r t else if qP t a=0 then .error 6 else looseL r (vM t a)
theorem jb(r:List Nat)(t:List UInt8):looseL (0::r) t=looseL r t:=by simp[looseL]
theorem jB{a:Nat}(ha:a≠0){t:List UInt8}(h:qP t a=0)(r:List Nat):looseL (a::r) t=.error 6:=by simp only[looseL];rw[if_neg ha,if_pos h]
theorem ja{a:Nat}(ha:a≠0){t:List UInt8}(h:qP t a≠0)(r:List Nat):looseL (a::r) t=looseL r (vM t a):=by simp only[looseL];rw[if_neg ha,if_neg h]
theorem JE:∀(l r:List Nat)(t:List UInt8),looseL (l++r) t=match looseL l t with
  |.error e=>.error e
  |.ok t'=>looseL r t'
 |[],_,_=>rfl
 |a::l,r,t=>by
  by_cases ha:a=0
  ·subst ha;rw[List.cons_append,jb,jb];exact JE l r t
  ·by_cases h:qP t a=0
   ·rw[List.cons_append,jB ha h,jB ha h]
   ·rw[List.cons_append,ja ha h,ja ha h];exact JE l r _
def leaveF(S:Sto):Nat->Int->List UInt8->Nat->Option (List UInt8)
 |0,_,_,_=>none
 |h+1,lvl,t,a=>if qP t a=0 then none else if 1<qP t a then some (vM t a) else
  match qk S a with
  |none=>none
  |some (l,xs)=>if 0<=lvl/\l≠lvl then none else if 0<l then(qB xs).foldl (λacc r=>acc.bind λt=>leaveF S h (l-1) t r) (some (t.set a 0)) else
   match looseL (qB xs) (t.set a 0) with
   |.error _=>none
   |.ok t'=>some t'
theorem JZ(S:Sto)(h:Nat)(lvl:Int)(t:List UInt8)(a:Nat):leaveF S (h+1) lvl t a=if qP t a=0 then none else if 1<qP t a then some (vM t a) else
  match qk S a with
  |none=>none
  |some (l,xs)=>if 0<=lvl/\l≠lvl then none else if 0<l then(qB xs).foldl (λacc r=>acc.bind λt=>leaveF S h (l-1) t r) (some (t.set a 0)) else
   match looseL (qB xs) (t.set a 0) with
   |.error _=>none
   |.ok t'=>some t':=rfl
theorem qaA(S:Sto):∀(h:Nat)(lvl:Int)(t:List UInt8)(a:Nat),0<=lvl->lvl<h->leaveF S (h+1) lvl t a=leaveF S h lvl t a
 |0,lvl,t,a,h0,h1=>zO
 |h+1,lvl,t,a,h0,h1=>by
  rw[JZ,JZ];split
  ·rfl
  ·split
   ·rfl
   ·split
    ·rfl
    ·rename_i l xs _;split
     ·rfl
     ·rename_i hl;have e:l=lvl:=by
       by_cases h:l=lvl
       ·exact h
       ·exact absurd ⟨h0,h⟩ hl
      subst e;split
      ·rename_i hp;congr 1;funext acc r;congr 1;funext t;exact qaA S h (l-1) t r zO zO
      ·rfl
theorem zy{S:Sto}{a:Nat}{lvl:Int}{xs:List It}(h:qk S a=some (lvl,xs)):0<=lvl/\lvl<6/\xs.length<=5:=by have:=jR (qF h).1;exact⟨this.1,this.2.1,this.2.2.1⟩
def QC(S:Sto)(lvl:Int)(t:List UInt8)(a:Nat):Option (List UInt8):=leaveF S 7 lvl t a
def Jz(S:Sto):List (Nat×Int)->List UInt8->Option (List UInt8)
 |[],t=>some t
 |x::r,t=>match QC S x.2 t x.1 with
  |none=>none
  |some t'=>Jz S r t'
theorem TD(S:Sto):∀(l r:List (Nat×Int))(t:List UInt8),Jz S (l++r) t=match Jz S l t with
  |none=>none
  |some t'=>Jz S r t'
 |[],_,_=>rfl
 |x::l,r,t=>by
  simp only[List.cons_append,Jz];cases QC S x.2 t x.1 with
  |none=>rfl
  |some t'=>exact TD S l r t'
theorem qaB(S:Sto)(l:Int):∀(rs:List Nat)(o:Option (List UInt8)),rs.foldl (λacc r=>acc.bind λt=>QC S l t r) o=o.bind λt=>Jz S (rs.map λr=>(r,l)) t
 |[],o=>by cases o<;>rfl
 |a::r,o=>by
  rw[List.foldl_cons,qaB S l r];cases o with
  |none=>rfl
  |some t=>
   simp only[Option.bind_some,List.map_cons,Jz];cases QC S l t a<;>rfl
theorem Vx(S:Sto)(lvl:Int)(t:List UInt8)(a:Nat):QC S lvl t a=if qP t a=0 then none else if 1<qP t a then some (vM t a) else
  match qk S a with
  |none=>none
  |some (l,xs)=>if 0<=lvl/\l≠lvl then none else if 0<l then Jz S ((qB xs).map λr=>(r,l-1)) (t.set a 0) else
   match looseL (qB xs) (t.set a 0) with
   |.error _=>none
   |.ok t'=>some t':=by
 obtain⟨h,hh⟩:∃h,h=6:=⟨_,rfl⟩
 have L1:∀lvl t a,QC S lvl t a=leaveF S (h+1) lvl t a:=λlvl t a=>by rw[hh];rfl
 rw[L1,JZ];have key:∀l xs,qk S a=some (l,xs)->0<l->(qB xs).foldl (λacc r=>acc.bind λt=>leaveF S h (l-1) t r) (some (t.set a 0))=Jz S ((qB xs).map λr=>(r,l-1)) (t.set a 0):=λl xs hn h0=>by
  obtain⟨_,h6,_⟩:=zy hn;have e1:=qaB S (l-1) (qB xs) (some (t.set a 0));rw[Option.bind_some]at e1;rw[<-e1];have e:(λ(acc:Option (List UInt8))(r:Nat)=>acc.bind λt=>leaveF S h (l-1) t r)=λacc r=>acc.bind λt=>QC S (l-1) t r:=by
   funext acc r;cases acc with
   |none=>rfl
   |some t=>
    simp only[Option.bind_some];rw[L1,qaA S h (l-1) t r zO zO]
  rw[e]
 split
 ·rfl
 ·split
  ·rfl
  ·split
   ·rfl
   ·rename_i l xs hn;split
    ·rfl
    ·split
     ·rename_i h0;exact key l xs hn h0
     ·rfl
def jk(k:K3)(r:Nat):It:=⟨k.1,k.2.1,k.2.2,(r:Int),[]⟩
def jj(p:List It):K3:=match p with
 |[]=>(0,0,0)
 |x::_=>qp x
def makeL(lvl:Int):List (List It)->Sto->Except Int (List It×Sto)
 |[],S=>.ok ([],S)
 |p::r,S=>match zX S lvl p with
  |.error e=>.error e
  |.ok (f,S')=>match makeL lvl r S' with
   |.error e=>.error e
   |.ok (up,S'')=>.ok (jk (jj p) f::up,S'')
def Zl(l:List It):List (List It):=if 5<l.length then [l.take 3,l.drop 3]else [l]
def Qs(S:Sto)(lvl:Int)(l held:List It):Except Int (List It×Sto):=match makeL lvl (Zl l) S with
 |.error e=>.error e
 |.ok (up,S')=>match looseL (qB held) S'.now with
  |.error e=>.error e
  |.ok t=>.ok (up,qv S' t)
def zY(xs:List It)(p many:Nat)(up:List It):List It:=xs.take p++up++xs.drop (p+many)
def jl(S:Sto)(k:K3):Nat->List It->List (Nat×List It×Nat)
 |0,xs=>[(0,xs,qA xs k)]
 |h+1,xs=>(h+1,xs,if VN xs k=true then qA xs k else qA xs k-1)::match xs[if VN xs k=true then qA xs k else qA xs k-1]? with
  |none=>[]
  |some y=>match qk S y.r.toNat with
   |none=>[]
   |some (_,ys)=>jl S k h ys
def vd(k:K3)(lvl:Nat)(xs:List It):Nat:=if lvl=0/\VN xs k=false then 0 else 1
def jK(k:K3):List (Nat×List It×Nat)->List It->Sto->Except Int (List It×Sto)
 |[],up,S=>.ok (up,S)
 |(lvl,xs,p)::r,up,S=>match Qs S (lvl:Int) (zY xs p (vd k lvl xs) up) up with
  |.error e=>.error e
  |.ok (up',S')=>jK k r up' S'
def qaS(k:K3)(l:List (Nat×List It×Nat)):Bool:=decide (l.length=6)&&(l.all λs=>!decide (s.2.1.length<5))&&!(match l.getLast? with
 |none=>false
 |some s=>VN s.2.1 k)
def putX(S:Sto)(L:Nat)(xs:List It)(root:Nat)(x:It):Except Int (Nat×Sto):=
 if qaS (qp x) (jl S (qp x) L xs)=true then .error 120 else
 match jK (qp x) (jl S (qp x) L xs).reverse [x] S with
 |.error e=>.error e
 |.ok (up,S1)=>match(if 1<up.length then Qs S1 ((jl S (qp x) L xs).length:Int) up up else .ok (up,S1)) with
  |.error e=>.error e
  |.ok (up',S2)=>match QC S2 (-1) S2.now root with
   |none=>.error 8
   |some t=>.ok (match up' with
    |[]=>0
    |y::_=>y.r.toNat,qv S2 t)
theorem Tryz.info_step:(Tryz.prog.info? 187).map (λi=>(i.zero,i.size,i.bytes))=some (some (.agg #[.int .i64 0,.slice none 0 0,.int .i64 0]),3,40):=zQ
theorem Tryz.info_dstep:(Tryz.prog.info? 163).map (λi=>(i.zero,i.size,i.bytes))=some (some (.agg #[.int .i64 0,.slice none 0 0,.int .i64 0]),3,40):=zQ
abbrev Stp:=Nat×List It×Nat
def ZI:List (Stp×Value)->List Value
 |[]=>[]
 |p::r=>.int .i64 (p.1.1:Int)::p.2::.int .i64 (p.1.2.2:Int)::ZI r
theorem qgh(ps:List (Stp×Value))(p:Stp×Value):ZI (ps++[p])=ZI ps++[.int .i64 (p.1.1:Int),p.2,.int .i64 (p.1.2.2:Int)]:=by
 induction ps with
 |nil=>rfl
 |cons a r ih=>simp[ZI,ih]
theorem kD(ps:List (Stp×Value)):∀i (h:i<ps.length),(ZI ps)[i*3]?=some (.int .i64 (ps[i].1.1:Int))/\(ZI ps)[i*3+1]?=some ps[i].2/\(ZI ps)[i*3+2]?=some (.int .i64 (ps[i].1.2.2:Int)):=by
 induction ps with
 |nil=>intro i h;simp at h
 |cons p r ih=>
  intro i h;rcases i with _|i
  ·simp[ZI]
  ·have:=ih i (by simpa using h);rw[show(i+1)*3=i*3+1+1+1 by omega];simpa [ZI,Nat.add_assoc]using this
def OwnX(v:Value)(q:Nat):Prop:=v.ownBlock=some q
def OwnL(lo:Nat)(v:Value)(q:Nat):Prop:=v.ownBlock=some q\/q<lo
def jo(X:Nat->Prop)(w:World)(v:Value)(ips:List (It×Value)):Prop:=(∃A c,v=.slice A ips.length c/\ips.length<=c/\c<=maxLen/\∀C,qT X w C->Rd C C.heap.size 5 A ips.length (qC ips)) /\
 ∀p∈ips,(∃A c,p.2=.slice A p.1.val.length c)/\∀C,qT X w C->Bys C C.heap.size p.2 p.1.val
theorem jo.its{X:Nat->Prop}{w:World}{v:Value}{ips:List (It×Value)}(h:jo X w v ips){C:World}(hC:qT X w C):Its C C.heap.size v (ips.map (·.1)):=by obtain⟨⟨A,c,e,h1,h2,hr⟩,hp⟩:=h;exact⟨ips,rfl,⟨A,c,by rw[List.length_map];exact e,by rw[List.length_map];exact h1,h2,by rw[List.length_map];exact hr C hC⟩,λp hpm=>⟨(hp p hpm).1,(hp p hpm).2 C hC⟩⟩
theorem jo.trans{X Y:Nat->Prop}{w W:World}{v:Value}{ips:List (It×Value)}(h:jo X w v ips)(hk:qT X w W)(hY:∀k,k<w.heap.size->Y k->X k):jo Y W v ips:=by obtain⟨⟨A,c,e,h1,h2,hr⟩,hp⟩:=h;exact⟨⟨A,c,e,h1,h2,λC hC=>hr C (hk.trans hC hY)⟩,λp hpm=>⟨(hp p hpm).1,λC hC=>(hp p hpm).2 C (hk.trans hC hY)⟩⟩
def jr(ty:TypeId)(lo:Nat)(w:World)(v:Value)(l:List Stp):Prop:=∃ps:List (Stp×Value),ps.map (·.1)=l/\w.ownsRow lo ty 3 v l.length (ZI ps)/\∀p∈ps,∃ips,ips.map (·.1)=p.1.2.1/\jo (OwnL lo v) w p.2 ips
def Xp(lo:Nat)(w:World)(v:Value)(l:List Stp):Prop:=∃ps:List (Stp×Value),ps.map (·.1)=l/\(∃A c,v=.slice A l.length c/\l.length<=c/\c<=maxLen/\∀C,qT (λq=>q<lo) w C->Rd C C.heap.size 3 A l.length (ZI ps))/\∀p∈ps,∃ips,ips.map (·.1)=p.1.2.1/\jo (λq=>q<lo) w p.2 ips
def KO(B:Nat)(w:World)(v:Value)(l:List Stp):Prop:=∃ps:List (Stp×Value),ps.map (·.1)=l/\(∃A c,v=.slice A l.length c/\l.length<=c/\c<=maxLen/\Rd w B 3 A l.length (ZI ps))/\∀p∈ps,(∃A c,p.2=.slice A p.1.2.1.length c)/\Its w B p.2 p.1.2.1
theorem Rd.keepFrom{X:Nat->Prop}{w C:World}{B size n lo:Nat}{A:OA}{xs:List Value}(h:Rd w B size A n xs)(hs:0<size)(hf:∀a,A=some a->lo<=a.block)(hk:qT X w C)(hX:∀q,lo<=q->¬X q):Rd C C.heap.size size A n xs:=⟨h.1,λhn=>by
 obtain⟨b,off,e,hb,hc⟩:=h.2 hn;have h1:lo<=b:=hf _ e;have hl:0<xs.length:=by rw[h.1];exact Nat.mul_pos hn hs
 exact⟨b,off,e,World.block_lt_of_cell? C ⟨b,off+0,none⟩ (hk _ _ (hX b h1) (hc 0 _ (zL hl))),λj u hu=>hk _ _ (hX b h1) (hc j u hu)⟩⟩
theorem jr.toE{ty:TypeId}{lo:Nat}{w:World}{v:Value}{l:List Stp}(h:jr ty lo w v l):Xp lo w v l:=by obtain⟨ps,e,ho,hp⟩:=h;obtain⟨A,c,rfl,h1,h2⟩:=qG ho;have hf:=Zw.of_own ho;refine⟨ps,e,⟨A,c,rfl,h1,h2,λC hC=>(Rd.of_own ho).keepFrom zO (λa ha=>hf a _ _ (by rw[ha])) hC λq hq hx=>zO⟩,λp hpm=>?_⟩;obtain⟨ips,e1,hi⟩:=hp p hpm;exact⟨ips,e1,hi.trans (qT.refl _ _) λk _ hk=>.inr hk⟩
theorem Xp.mono{lo lo':Nat}{w:World}{v:Value}{l:List Stp}(h:Xp lo w v l)(hl:lo'<=lo):Xp lo' w v l:=by obtain⟨ps,e,⟨A,c,rfl,h1,h2,hr⟩,hp⟩:=h;have hm:∀{C},qT (λq=>q<lo') w C->qT (λq=>q<lo) w C:=λhC=>hC.mono λq _ hq=>zO;refine⟨ps,e,⟨A,c,rfl,h1,h2,λC hC=>hr C (hm hC)⟩,λp hpm=>?_⟩;obtain⟨ips,e1,⟨A',c',f1,f2,f3,f4⟩,f5⟩:=hp p hpm;exact⟨ips,e1,⟨A',c',f1,f2,f3,λC hC=>f4 C (hm hC)⟩,λq hq=>⟨(f5 q hq).1,λC hC=>(f5 q hq).2 C (hm hC)⟩⟩
theorem jo.shape{X:Nat->Prop}{w:World}{v:Value}{ips:List (It×Value)}{xs:List It}(h:jo X w v ips)(e:ips.map (·.1)=xs):∃A c,v=.slice A xs.length c:=by obtain⟨⟨A,c,e1,_⟩,_⟩:=h;exact⟨A,c,by rw[e1,<-e,List.length_map]⟩
theorem Xp.read{lo:Nat}{w C:World}{v:Value}{l:List Stp}(h:Xp lo w v l)(hC:qT (λq=>q<lo) w C):KO C.heap.size C v l:=by obtain⟨ps,e,⟨A,c,rfl,h1,h2,hr⟩,hp⟩:=h;refine⟨ps,e,⟨A,c,rfl,h1,h2,hr C hC⟩,λp hpm=>?_⟩;obtain⟨ips,e1,hi⟩:=hp p hpm;exact⟨hi.shape e1,by rw[<-e1];exact hi.its hC⟩
theorem KO.below{B:Nat}{w w':World}{v:Value}{l:List Stp}(h:KO B w v l)(hb:Below B w w'):KO B w' v l:=by obtain⟨ps,e,⟨A,c,e1,e2,e3,hr⟩,hp⟩:=h;exact⟨ps,e,⟨A,c,e1,e2,e3,hr.below hb⟩,λp h=>⟨(hp p h).1,(hp p h).2.below hb⟩⟩
theorem KO.more{B B':Nat}{w:World}{v:Value}{l:List Stp}(h:KO B w v l)(hb:B<=B'):KO B' w v l:=by obtain⟨ps,e,⟨A,c,e1,e2,e3,hr⟩,hp⟩:=h;exact⟨ps,e,⟨A,c,e1,e2,e3,hr.more hb⟩,λp h=>⟨(hp p h).1,(hp p h).2.more hb⟩⟩
theorem jr.nil(ty:TypeId)(lo:Nat)(w:World):jr ty lo w (.slice none 0 0) []:=⟨[],rfl,World.ownsRow_nil _ _ _ _,λp h=>by cases h⟩
theorem jr.ext{ty:TypeId}{lo:Nat}{w w':World}{v:Value}{l:List Stp}(h:jr ty lo w v l)(hx:Ext w w'):jr ty lo w' v l:=by obtain⟨ps,e,ho,hp⟩:=h;refine⟨ps,e,Zb ho λq hq=>Below.block hx q (QM ho q hq).2,λp hpm=>?_⟩;obtain⟨ips,e1,hi⟩:=hp p hpm;exact⟨ips,e1,hi.trans (qT.of_ext hx) λ_ _ h=>h⟩
theorem jr.push{ty:TypeId}{lo:Nat}{w w':World}{v v':Value}{l:List Stp}{s:Stp}{u:Value}{ps:List (Stp×Value)}{ips:List (It×Value)}(hlo:lo<=w.heap.size)(e:ps.map (·.1)=l)(hp:∀p∈ps,∃ips,ips.map (·.1)=p.1.2.1/\jo (OwnL lo v) w p.2 ips)(hu:ips.map (·.1)=s.2.1)(hs:jo (OwnL lo v) w u ips)(ho:w'.ownsRow lo ty 3 v' (l.length+1) (ZI ps++[.int .i64 (s.1:Int),u,.int .i64 (s.2.2:Int)]))(hg:w.grownBy w' v.ownBlock)(hat:v'.ownBlock=v.ownBlock\/∃g,v'.ownBlock=some g/\w.heap.size<=g):jr ty lo w' v' (l++[s]):=by
 have hk:qT (OwnL lo v) w w':=qT.of_heap λq hq hX=>hg.block q hq λe=>hX (.inl e.symm);have hy:∀q,q<w.heap.size->OwnL lo v' q->OwnL lo v q:=λq hq hx=>by
  rcases hx with hx|hx
  ·rcases hat with e1|⟨g,e1,e2⟩
   ·left;rw[<-e1];exact hx
   ·rw[e1]at hx;cases hx;omega
  ·exact .inr hx
 refine⟨ps++[(s,u)],by simp[e],?_,λp hpm=>?_⟩
 ·rw[List.length_append,List.length_singleton,qgh];exact ho
 ·rcases List.mem_append.1 hpm with hpm|hpm
  ·obtain⟨ips',e1,hi⟩:=hp p hpm;exact⟨ips',e1,hi.trans hk hy⟩
  ·obtain rfl:p=(s,u):=by simpa using hpm
   exact⟨ips,hu,hs.trans hk hy⟩
theorem ZB.toE{lo:Nat}{w:World}{v:Value}{xs:List It}(h:ZB lo w v xs){X:Nat->Prop}(hX:∀q,lo<=q->¬X q):∃ips,ips.map (·.1)=xs/\jo X w v ips:=by
 obtain⟨ps,e1,⟨A,c,e2,e3,e4,hr⟩,hp,hf,hg⟩:=h;have el:xs.length=ps.length:=by rw[<-e1,List.length_map]
 rw[el]at e2 e3 hr;refine⟨ps,e1,⟨A,c,e2,e3,e4,λC hC=>hr.keepFrom zO (λa ha=>hf a _ _ (by rw[e2,ha])) hC hX⟩,λp hpm=>⟨(hp p hpm).1,λC hC=>?_⟩⟩;obtain⟨A',c',f1,f2,f3,f4⟩:=(hp p hpm).2;exact⟨A',c',f1,f2,f3,f4.keepFrom zO (λa ha=>hg p hpm a _ _ (by rw[f1,ha])) hC hX⟩
theorem ZB.keepX{X:Nat->Prop}{w C:World}{lo:Nat}{v:Value}{xs:List It}(h:ZB lo w v xs)(hk:qT X w C)(hX:∀q,lo<=q->¬X q):Its C C.heap.size v xs:=by obtain⟨ips,rfl,hi⟩:=h.toE hX;exact hi.its hk
def Qy(xs:List It)(k:K3):Nat:=if VN xs k=true then qA xs k else qA xs k-1
theorem Ko(S:Sto)(k:K3)(xs:List It):jl S k 0 xs=[(0,xs,qA xs k)]:=rfl
theorem JK{S:Sto}{k:K3}{h:Nat}{xs zs:List It}{y:It}{l:Int}(hy:xs[Qy xs k]?=some y)(hn:qk S y.r.toNat=some (l,zs)):jl S k (h+1) xs=(h+1,xs,Qy xs k)::jl S k h zs:=by
 show(h+1,xs,Qy xs k)::(match xs[Qy xs k]? with
  |none=>[]
  |some y=>match qk S y.r.toNat with
   |none=>[]
   |some (_,ys)=>jl S k h ys)=_
 rw[hy];simp only;rw[hn]
theorem QT{xs:List It}{k:K3}(h:0<xs.length):Qy xs k<xs.length:=by
 unfold Qy;have:=Jm xs k;split
 ·rename_i hi;by_cases hl:qA xs k<xs.length
  ·exact hl
  ·rw[VX hl]at hi;cases hi
 ·omega
theorem Vm{h:Nat}{xs:List It}(hm:Qj (h:Int) xs=true)(h1:0<h):0<xs.length:=by
 rcases Nat.eq_zero_or_pos xs.length with h0|h0
 ·exfalso;have hhd:ZZ (h:Int) xs.length=true:=by unfold Qj at hm;simp only[Bool.and_eq_true]at hm;exact hm.1
  unfold ZZ at hhd;simp only[decide_eq_true_eq]at hhd;exact hhd.2.2.2 zO h0
 ·exact h0
theorem km{S:Sto}{k:K3}:∀(h:Nat){xs:List It},Qj (h:Int) xs=true->(qz S h xs).isSome=true->(jl S k h xs).length=h+1
 |0,xs,_,_=>rfl
 |h+1,xs,hm,hs=>by have hx:=Vm hm zO;obtain⟨b,e1,-,-,zs,e4,e5⟩:=QE (QG hs _ (List.getElem_mem (QT (k:=k) hx)));rw[JK (zL (QT hx)) (by rw[e1,Int.toNat_natCast];exact e4),List.length_cons,km h (qF e4).1 e5]
theorem qdm{P:Program}(w:World)(dT sT ty elem:TypeId)(g o dLen dCap:Nat)(a:Addr)(sLen sCap:Nat)(cur:Array Value)(t:TypeId)(cs:List Value)(k:Nat)(hu:P.underlying dT=some (.slice elem))(hs:(P.info? elem).map (·.size)=some k)(hg:w.heap[g]?=some (.cells cur t (0,0)))(hn:cs.length=Nat.min sLen dLen*k)(hKR:∀j v,cs[j]?=some v->w.cell? (a.add j)=some v)(hPC:o+cs.length<=cur.size)(h1:∀v∈cs,v.oneCell'=true):(Builtin.copy_ #[dT,sT] ty #[.slice (some ⟨g,o,none⟩) dLen dCap,.slice (some a) sLen sCap]).run P w =
   .ok (.int .i64 (Nat.min sLen dLen:Nat)) (w.setRow g (cur.toList.take o++cs++cur.toList.drop (o+cs.length)).toArray):=by
 have hl:=run_loadCells_list (P:=P) w a cs hKR;have hst:=run_storeCells_at P g o t cs 0 cur w hg (by simpa using hPC) h1;cases hq:P.info? elem with
 |none=>simp[hq]at hs
 |some i=>
  have hi:i.size=k:=by simpa [hq]using hs
  have hn':min sLen dLen*k=cs.length:=hn.symm;simp[Builtin.copy_,run_underlying hu,Builtin.lenOf,Builtin.firstCells,sizeOf,typeInfo,hq,hi,hn',hl,hst];rfl
theorem take_mid{A V R:List Value}{a b:Nat}(h:A.length+V.length=a+b):(A++V++R).take (a+b)=A++V:=by rw[<-h,<-List.length_append];exact List.take_left
structure RowI(g cap n:Nat)(xs:List Value)(w:World):Prop where
 ex:∃cur:Array Value,w.heap[g]?=some (.cells cur 51 (0,0))/\cur.size=cap*5/\cur.toList.take (n*5)=xs
theorem RowI.own{lo g cap n:Nat}{xs:List Value}{w:World}(h:RowI g cap n xs w)(hl:xs.length=n*5)(hlo:lo<=g)(hn:n<=cap)(hc:cap<=maxLen):w.ownsRow lo 51 5 (.slice (some ⟨g,0,none⟩) n cap) n xs:=by obtain⟨cur,h1,h2,h3⟩:=h.ex;exact⟨hl,.inr ⟨g,cap,cur,rfl,hlo,h1,hn,hc,h2,h3⟩⟩
def spl(cur:Array Value)(o:Nat)(cs:List Value):Array Value:=(cur.toList.take (o*5)++cs++cur.toList.drop (o*5+cs.length)).toArray
theorem QA{cur:Array Value}{o k:Nat}{cs:List Value}(hl:cs.length=k*5)(h:(o+k)*5<=cur.size):(spl cur o cs).size=cur.size:=by unfold spl;simp only[List.size_toArray,List.length_append,List.length_take,List.length_drop,Array.length_toList];omega
theorem jI{P:Program}{W:World}{g o k:Nat}{cur:Array Value}{cs:List Value}{dT sT ty:TypeId}{dLen dCap:Nat}{a:Addr}{sLen sCap:Nat}(hg:W.heap[g]?=some (.cells cur 51 (0,0)))(hl:cs.length=k*5)(h:(o+k)*5<=cur.size)(hu:P.underlying dT=some (.slice 51))(hs:(P.info? 51).map (·.size)=some 5)(hk:Nat.min sLen dLen=k)(hKR:∀j v,cs[j]?=some v->W.cell? (a.add j)=some v)(h1:∀v∈cs,v.oneCell'=true):(Builtin.copy_ #[dT,sT] ty #[.slice (some ⟨g,o*5,none⟩) dLen dCap,.slice (some a) sLen sCap]).run P W=.ok (.int .i64 (k:Nat)) (W.setRow g (spl cur o cs)):=by
 have:=qdm (P:=P) W dT sT ty 51 g (o*5) dLen dCap a sLen sCap cur 51 cs 5 hu hs hg (by rw[hk,hl]) hKR zO h1;rw[hk]at this;exact this
theorem KI{cur:Array Value}{o k:Nat}{A cs:List Value}(hA:cur.toList.take (o*5)=A)(hl:cs.length=k*5)(h:(o+k)*5<=cur.size):(spl cur o cs).toList.take ((o+k)*5)=A++cs:=by
 unfold spl;rw[List.toList_toArray,hA,Nat.add_mul];have:A.length=o*5:=by rw[<-hA,List.length_take,Array.length_toList];omega
 exact take_mid zO
theorem qlp{cur:Array Value}{n i m:Nat}{xs vs:List Value}(hc:cur.toList.take (n*5)=xs)(hx:xs.length=n*5)(hv:vs.length=m*5)(hi:i<=n)(h:(n+m)*5<=cur.size):(spl (spl cur (i+m) (xs.drop (i*5))) i vs).toList.take ((n+m)*5)=xs.take (i*5)++vs++xs.drop (i*5):=by
 have hd:(xs.drop (i*5)).length=(n-i)*5:=by rw[List.length_drop];omega
 have e1:(spl cur (i+m) (xs.drop (i*5))).toList=cur.toList.take ((i+m)*5)++xs.drop (i*5)++cur.toList.drop ((i+m)*5+(xs.drop (i*5)).length):=by unfold spl;rw[List.toList_toArray]
 have hl1:(cur.toList.take ((i+m)*5)).length=(i+m)*5:=by rw[List.length_take,Array.length_toList];omega
 have e2:(spl cur (i+m) (xs.drop (i*5))).toList.take (i*5)=xs.take (i*5):=by rw[e1,List.append_assoc,List.take_append_of_le_length zO,List.take_take,Nat.min_eq_left zO,<-hc,List.take_take,Nat.min_eq_left zO]
 have e3:(spl cur (i+m) (xs.drop (i*5))).toList.drop (i*5+vs.length)=xs.drop (i*5)++cur.toList.drop ((i+m)*5+(xs.drop (i*5)).length):=by rw[e1,List.append_assoc];have:i*5+vs.length=(cur.toList.take ((i+m)*5)).length:=zO;rw[this];exact List.drop_left
 generalize hY:spl cur (i+m) (xs.drop (i*5))=Y at*;unfold spl;rw[List.toList_toArray,e2,e3,<-List.append_assoc];have ht:(xs.take (i*5)).length=i*5:=by rw[List.length_take];omega
 have:(n+m)*5=(xs.take (i*5)++vs++xs.drop (i*5)).length:=by simp only[List.length_append];omega
 rw[this];exact List.take_left
set_option maxRecDepth 100000 in
theorem KD(A n c)(us:List Value)(hn:n<1073741824)(h1:∀u∈us,u.oneCell'=true)(w:World)(hr:Rd w w.heap.size 5 A n us):Calls prog 115 #[.slice A n c] w (zm (λu w'=>w'.ownsRow w.heap.size 51 5 u n us) w):=by
 obtain⟨i0,hi,hz0,hz1,hz2⟩:=info_parts Tryz.info_item;have qn:∀(w:World)(a:OA)(n c n' c':Nat),(binOp .eql 55 (.slice a n c) (.slice none n' c')).run prog w=.ok (.bool a.isNone) w:=λw a n c n' c'=>Lib.run_eql_slice_nil w _ _ a n c n' c' underlying55;rcases A with _|⟨b,off,p⟩
 ·have h0:n=0:=by
   rcases Nat.eq_zero_or_pos n with h|h
   ·exact h
   ·obtain⟨b,off,h,_⟩:=hr.2 h;cases h
  subst h0;obtain rfl:us=[]:=List.eq_nil_of_length_eq_zero (by simpa using hr.1);go_enter func115,ntmps115;go_wp2;go_ret;exact⟨_,rfl,World.ownsRow_nil _ _ _ _,Below.refl _ _⟩
 ·go_enter func115,ntmps115;go_wp2_with (at_builtin;refine qY ?_);refine Qm.go (Qw _ rfl (.tmp 5) (.tmp 6) 55 rfl w.heap.size 51 i0 _ 5 48 underlying55 hi hz0 hz1 hz2 rfl zA1 _ 0 [] rfl ?_ w.heap.size _ n c us zE ?_ h1 zO zA1 zA3 ?_)
  ·exact World.ownsRow_lit w #[] 0 (zM _) (by simp[maxLen]) rfl
  ·exact hr.keep λp hp=>World.cell?_alloc_lt w _ p hp
  ·intro v' w' hAE _ hb _;simp only[Nat.zero_add,List.nil_append]at hAE;go_wp2;go_ret;exact⟨_,rfl,hAE,Below.trans ((Below.refl _ _).alloc (zM _) _) hb⟩
def vL(lo:Nat)(s:Value)(k:Nat)(ys:List Value)(w:World)(e:Ending)(W:World):Prop:=∃v',e=.returned v'/\W.ownsRow lo 51 5 v' k ys/\Below lo w W/\∀q,q<w.heap.size->s.ownBlock≠some q->W.heap[q]?=w.heap[q]?
theorem Qt{lo g:Nat}{w W:World}(h:Below lo w W)(hlo:lo<=w.heap.size)(hg:lo<=g)(cur:Array Value):Below lo w (W.setRow g cur):=
 h.grown (Gn W g cur) (by have:=h.size;omega) (λk hk=>by cases hk;exact hg)
theorem Ux{w:World}{lo m c g:Nat}{e:TypeId}{vs:List Value}(h:w.ownsRow lo e 5 (.slice (some ⟨g,0,none⟩) m c) m vs):∀j u,vs[j]?=some u->w.cell? ((⟨g,0,none⟩:Addr).add j)=some u:=λj u hu=>by
 rcases h.2 with⟨h0,_⟩|⟨g',cap,cur,hv,hb,hg,hnc,_,hsz,htk⟩
 ·cases h0
 ·cases hv;rw[Addr.add_lit,Nat.zero_add,qa hg,<-Array.getElem?_toList];rw[<-htk,List.getElem?_take]at hu;split at hu
  ·exact hu
  ·cases hu
theorem Vu(ps:List (It×Value)):∀k,qC (ps.drop k)=(qC ps).drop (k*5):=by
 induction ps with
 |nil=>intro k;simp[qC]
 |cons p r ih=>
  intro k;rcases k with _|k
  ·simp[qC]
  ·rw[List.drop_succ_cons,show(k+1)*5=k*5+1+1+1+1+1 by omega];simp only[qC,List.drop_succ_cons,ih k]
theorem kX(ps:List (It×Value))(h:∀p∈ps,p.2.oneCell'=true):∀u∈qC ps,u.oneCell'=true:=by
 induction ps with
 |nil=>intro u hu;cases hu
 |cons p r ih=>
  intro u hu;simp only[qC,List.mem_cons]at hu;rcases hu with rfl|rfl|rfl|rfl|rfl|hu
  ·rfl
  ·rfl
  ·rfl
  ·rfl
  ·exact h p List.mem_cons_self
  ·exact ih (λq hq=>h q (List.mem_cons_of_mem _ hq)) u hu
theorem Its.take{w:World}{B b off n c:Nat}{xs:List It}(h:Its w B (.slice (some ⟨b,off,none⟩) n c) xs){k:Nat}(hk:k<=xs.length):Its w B (.slice (some ⟨b,off,none⟩) k c) (xs.take k):=by
 obtain⟨ps,rfl,⟨A,c',e,h1,h2,hr⟩,hp⟩:=h;cases e;have hk':k<=ps.length:=by simpa using hk
 refine⟨ps.take k,by rw[List.map_take],⟨_,c,by rw[List.length_take,Nat.min_eq_left hk],by rw[List.length_take];omega,h2,?_⟩,λp hpm=>hp p (List.mem_of_mem_take hpm)⟩;rw[List.length_take,Nat.min_eq_left hk];rw[<-Vv];refine⟨by rw[List.length_take,hr.1,List.length_map];omega,λhn=>?_⟩;obtain⟨b',off',e,hb,hc⟩:=hr.2 zO;exact⟨b',off',e,hb,λj u hu=>hc j u (by rw[List.getElem?_take]at hu;split at hu;exact hu;cases hu)⟩
theorem Its.drop{w:World}{B b off n c:Nat}{xs:List It}(h:Its w B (.slice (some ⟨b,off,none⟩) n c) xs){k:Nat}(hk:k<xs.length):Its w B (.slice (some ⟨b,off+k*5,none⟩) (n-k) (c-k)) (xs.drop k):=by
 obtain⟨ps,rfl,⟨A,c',e,h1,h2,hr⟩,hp⟩:=h;cases e;have hk':k<ps.length:=by simpa using hk
 refine⟨ps.drop k,by rw[List.map_drop],⟨_,c-k,by rw[List.length_drop],by rw[List.length_drop];omega,zO,?_⟩,λp hpm=>hp p (List.mem_of_mem_drop hpm)⟩;rw[List.length_drop,Vu];refine⟨by rw[List.length_drop,hr.1,List.length_map];omega,λhn=>?_⟩;obtain⟨b',off',e,hb,hc⟩:=hr.2 zO;cases e;exact⟨b,off+k*5,rfl,hb,λj u hu=>by rw[List.getElem?_drop]at hu;rw[Nat.add_assoc];exact hc _ _ hu⟩
theorem kO.take{X:Nat->Prop}{w:World}{b off n c:Nat}{xs:List It}(h:kO X w (.slice (some ⟨b,off,none⟩) n c) xs){k:Nat}(hk:k<=xs.length):kO X w (.slice (some ⟨b,off,none⟩) k c) (xs.take k):=λC hC=>(h C hC).take hk
theorem kO.drop{X:Nat->Prop}{w:World}{b off n c:Nat}{xs:List It}(h:kO X w (.slice (some ⟨b,off,none⟩) n c) xs){k:Nat}(hk:k<xs.length):kO X w (.slice (some ⟨b,off+k*5,none⟩) (n-k) (c-k)) (xs.drop k):=λC hC=>(h C hC).drop hk
theorem Bch.notB3{D:Nat->Prop}{B lo b g:Nat}{k:Option Nat}{S:Sto}{w:World}(h:Bch D B lo b g k S w){q:Nat}{cs:Array Value}{ty:TypeId}{fr:Nat×Nat}(hr:w.heap[q]?=some (.cells cs ty fr))(h1:ty≠223)(h2:ty≠5)(h3:ty≠142):¬B3 b g k q:=λhx=>by
 obtain⟨A1,n1,c1,v2,c3,A4,c4,hro,ho,⟨ps,_,hw,_⟩,_,_⟩:=h.ex;rcases hx with e|e|e
 ·subst e;rw[hr]at hro;simp only[Option.some.injEq,Obj.cells.injEq]at hro;exact h1 hro.2.1
 ·subst e;obtain⟨cur,hg⟩:=Zz ho (q:=q) rfl;rw[hr]at hg;simp only[Option.some.injEq,Obj.cells.injEq]at hg;exact h2 hg.2.1
 ·rcases hw with⟨e1,_⟩|⟨q',e1,e2,how⟩
  ·rw[e1]at e;cases e
  ·rw[e1]at e;cases e;obtain⟨cur,hg⟩:=Zz how e2;rw[hr]at hg;simp only[Option.some.injEq,Obj.cells.injEq]at hg;exact h3 hg.2.1
def upV(ups:List It):List (It×Value):=ups.map λx=>(x,.slice none 0 0)
theorem upV_item(ups:List It)(x:It):qC (upV (ups++[x]))=qC (upV ups)++[.int .u8 x.k,.int .u32 x.i,.int .u32 x.o,.int .i64 x.r,.slice none 0 0]:=by unfold upV;rw[List.map_append,Zk];rfl
theorem qcD{t:List UInt8}{a:Nat}{e:Int}(h:ZG t a=.error e):e≠0:=by
 unfold ZG at h;split at h
 ·cases h
 ·split at h
  ·cases h;decide
  ·split at h
   ·cases h;decide
   ·cases h
theorem qcE:∀{l:List Nat}{t:List UInt8}{e:Int},ZM l t=.error e->e≠0
 |[],t,e,h=>by cases h
 |a::l,t,e,h=>by
  simp only[ZM]at h;split at h
  ·rename_i e' h';cases h;exact qcD h'
  ·exact qcE h
theorem Ti{S:Sto}{lvl:Int}{its:List It}{e:Int}(h:zX S lvl its=.error e):e≠0:=by
 unfold zX at h;split at h
 ·split at h
  ·rename_i e' h';cases h;exact qcE h'
  ·split at h
   ·cases h;decide
   ·cases h
 ·cases h;decide
theorem YN(lvl:Int):∀(ps qs:List (List It))(S:Sto),makeL lvl (ps++qs) S=match makeL lvl ps S with
  |.error e=>.error e
  |.ok (up,S')=>match makeL lvl qs S' with
   |.error e=>.error e
   |.ok (up',S'')=>.ok (up++up',S'')
 |[],qs,S=>by simp only[List.nil_append,makeL];rcases makeL lvl qs S with e|⟨up,S'⟩<;>rfl
 |p::ps,qs,S=>by
  simp only[List.cons_append,makeL];rcases zX S lvl p with e|⟨f,S'⟩
  ·rfl
  ·simp only;rw[YN lvl ps qs S'];rcases makeL lvl ps S' with e|⟨up,S''⟩
   ·rfl
   ·simp only;rcases makeL lvl qs S'' with e|⟨up',S3⟩<;>rfl
theorem qkL(lvl:Int)(p:List It)(S:Sto):makeL lvl [p] S=match zX S lvl p with
  |.error e=>.error e
  |.ok (f,S')=>.ok ([jk (jj p) f],S'):=by
 simp only[makeL]<;>(rcases zX S lvl p with e|⟨f,S'⟩<;>rfl)
theorem qkK{lvl:Int}{ps:List (List It)}{j:Nat}(hj:j<ps.length){S S':Sto}{up:List It}{e:Int}(h:makeL lvl (ps.take j) S=.ok (up,S'))(h1:zX S' lvl ps[j]=.error e):makeL lvl ps S=.error e:=by
 have:ps=ps.take j++(ps[j]::ps.drop (j+1)):=by rw[<-List.drop_eq_getElem_cons hj,List.take_append_drop]
 rw[this,YN,h];simp only[makeL];rw[h1]
theorem qiD{lvl:Int}{ps:List (List It)}{j:Nat}(hj:j<ps.length){S S' S'':Sto}{up:List It}{f:Nat}(h:makeL lvl (ps.take j) S=.ok (up,S'))(h1:zX S' lvl ps[j]=.ok (f,S'')):makeL lvl (ps.take (j+1)) S=.ok (up++[jk (jj ps[j]) f],S''):=by rw[List.take_succ_eq_append_getElem hj,YN,h];simp only;rw[qkL,h1]
theorem qiC{its:List It}(k:Nat):qB its=qB (its.take k)++qB (its.drop k):=by unfold qB;rw[<-List.map_append,List.take_append_drop]
theorem qbU{its:List It}{k:Nat}(hk:k<its.length){t t':List UInt8}(h:looseL (qB (its.take k)) t=.ok t')(h0:its[k].r.toNat≠0)(h1:qP t' its[k].r.toNat=0):looseL (qB its) t=.error 6:=by rw[qiC (its:=its) k,JE,h];simp only;rw[List.drop_eq_getElem_cons hk];exact jB h0 h1 _
theorem qaC{its:List It}{k:Nat}(hk:k<its.length){t t':List UInt8}(h:looseL (qB (its.take k)) t=.ok t')(h0:its[k].r.toNat≠0)(h1:qP t' its[k].r.toNat≠0):looseL (qB (its.take (k+1))) t=.ok (vM t' its[k].r.toNat):=by rw[KH hk,JE,h];simp only;rw[ja h0 h1];rfl
theorem qaD{its:List It}{k:Nat}(hk:k<its.length){t t':List UInt8}(h:looseL (qB (its.take k)) t=.ok t')(h0:its[k].r.toNat=0):looseL (qB (its.take (k+1))) t=.ok t':=by rw[KH hk,JE,h];simp only;rw[h0,jb];rfl
structure SM(S S':Sto):Prop where
 node:∀r nd,qk S r=some nd->qk S' r=some nd
 pos:∀r:Nat,0<(S.now[r]?.getD 0).toNat->0<(S'.now[r]?.getD 0).toNat
theorem Ub{one one':It->Option (K3×K3)}(h:∀y p,one y=some p->one' y=some p):∀(xs:List It)(a:Option (Option (K3×K3)))(q:Option (K3×K3)),xs.foldl (jO one) a=some q->xs.foldl (jO one') a=some q
 |[],_,_,e=>e
 |x::r,a,q,e=>by
  simp only[List.foldl_cons]at e⊢;have hs:=(GH one r (jO one a x) (by rw[e];rfl)).1;have e2:jO one' a x=jO one a x:=by
   unfold jO at hs⊢;rcases a with _|a
   ·rfl
   ·rcases hx:one x with _|p
    ·rw[hx]at hs;cases hs
    ·rw[h x p hx]
  rw[e2];exact Ub h r _ q e
section
variable {S S':Sto}
theorem SM.one(hm:SM S S'):∀(h:Nat)(y:It)(p:K3×K3),jv S h y=some p->jv S' h y=some p
 |0,y,p,e=>by
  unfold jv at e⊢;split at e
  ·rename_i hc;rw[if_pos (hc.imp id (hm.pos _))];exact e
  ·cases e
 |h+1,y,p,e=>by
  rw[vk]at e⊢;unfold Va at e⊢;split at e
  ·rename_i hr;rw[if_pos hr];rcases hn:qk S y.r.toNat with _|⟨lvl,xs⟩
   ·rw[hn]at e;cases e
   ·rw[hn]at e;rw[hm.node _ _ hn];simp only at e⊢;split at e
    ·rename_i hl;rw[if_pos hl];rcases hs:qz S h xs with _|q
     ·rw[hs]at e;cases e
     ·rw[hs]at e;have h2:qz S' h xs=some q:=Ub (SM.one hm h) xs _ q hs;rw[h2];exact e
    ·cases e
  ·cases e
theorem SM.span(hm:SM S S'){h:Nat}{xs:List It}{q:Option (K3×K3)}(e:qz S h xs=some q):qz S' h xs=some q:=Ub (hm.one h) xs _ q e
theorem SM.spanOk(hm:SM S S'){h:Nat}{xs:List It}(e:(qz S h xs).isSome=true):(qz S' h xs).isSome=true:=by obtain⟨q,hq⟩:=Option.isSome_iff_exists.1 e;rw[hm.span hq];rfl
theorem SM.okL(hm:SM S S'){L r:Int}(e:okL S L r=true):okL S' L r=true:=by
 unfold Go.Proofs.YtmeadnlmepcmbaaGreat.okL at e⊢;split at e
 ·rename_i hr;rw[if_pos hr];rcases hn:qk S r.toNat with _|⟨lvl,xs⟩
  ·rw[hn]at e;cases e
  ·rw[hn]at e;rw[hm.node _ _ hn];simp only[Bool.and_eq_true]at e⊢;exact⟨hm.spanOk e.1,e.2⟩
 ·cases e
theorem SM.items(hm:SM S S'):∀(h:Nat)(xs:List It),(qz S h xs).isSome=true->qu S' h xs=qu S h xs
 |0,_,_=>rfl
 |h+1,xs,e=>by unfold qu;rw[List.flatMap_def,List.flatMap_def];congr 1;refine List.map_congr_left λy hy=>?_;obtain⟨b,hb,_,_,ys,hn,hs⟩:=QE (QG e y hy);rw[hb,Int.toNat_natCast,hm.node _ _ hn,hn];exact SM.items hm h ys hs
theorem SM.vols(hm:SM S S'){root next:Int}{vs:List Vol}(ht:Go.Proofs.YtmeadnlmepcmbaaGreat.okL S (-1) root=true)(e:vI S root next=some vs):vI S' root next=some vs:=by
 unfold vI at e⊢;unfold Go.Proofs.YtmeadnlmepcmbaaGreat.okL at ht;split at ht
 ·rcases hn:qk S root.toNat with _|⟨lvl,xs⟩
  ·rw[hn]at e;cases e
  ·rw[hn]at e ht;rw[hm.node _ _ hn];simp only[Bool.and_eq_true]at e ht⊢;rw[hm.items _ _ ht.1];exact e
 ·cases ht
theorem QR.trees{root next:Int}{dead:List Int}{vs:List Vol}(h:QR S root next dead vs):∀a,a∈QJ root dead vs->jT S a:=λa ha=>by obtain⟨r,hr,rfl⟩:=List.mem_map.1 ha;obtain⟨n,rfl,hn⟩:=Zs (h.ok r hr);exact hn
end



theorem qgH(ws:List (Int×List UInt8))(a r:Int)(l:List UInt8)(h:a≠r):jA (ws++[(a,l)]) r=jA ws r:=by
 unfold jA;rw[List.reverse_append,List.reverse_singleton,List.singleton_append,List.find?_cons];have:(a==r)=false:=by rw[beq_eq_false_iff_ne];exact h
 simp only[this]
theorem seen_put(S:Sto){a r:Nat}(l:List UInt8)(h:r≠a):jW (vl S a l) r=jW S r:=by unfold jW vl;simp only;rw[qgH _ _ _ _ (show(a:Int)≠(r:Int)by omega)]
theorem qjL(t:List UInt8){a r:Nat}(v:UInt8)(h:r≠a):(t.set a v)[r]?.getD 0=t[r]?.getD 0:=by rw[List.getElem?_set_ne (Ne.symm h)]
theorem qiI(t:List UInt8){a:Nat}(v:UInt8)(h:a<t.length):(t.set a v)[a]?.getD 0=v:=by rw[List.getElem?_set_self h];rfl
theorem sm_put{S:Sto}{a:Nat}(l:List UInt8)(h0:Jh S a=0)(hl:a<S.now.length):SM S (vl S a l) where
 node r nd e:=by
  by_cases hr:r=a
  ·subst hr;unfold qk at e;rw[if_pos (show(S.now[r]?.getD 0).toNat=0 from h0)]at e;cases e
  ·unfold qk at e⊢;rw[seen_put S l hr,show(vl S a l).now[r]?.getD 0=S.now[r]?.getD 0 from qjL _ _ hr];exact e
 pos r h:=by
  by_cases hr:r=a
  ·subst hr;rw[show(vl S r l).now[r]?.getD 0=1 from qiI _ _ hl];decide
  ·rw[show(vl S a l).now[r]?.getD 0=S.now[r]?.getD 0 from qjL _ _ hr];exact h
theorem qiZ{S:Sto}{t:List UInt8}(h:∀r:Nat,0<(S.now[r]?.getD 0).toNat->0<(t[r]?.getD 0).toNat):SM S (qv S t) where
 node r nd e:=by
  unfold qk at e⊢;split at e
  ·cases e
  ·rename_i h1;rw[if_neg (by have:=h r zO;simp only;omega)];exact e
 pos:=h
theorem Jq{t:List UInt8}{a:Nat}(h:QP t=true)(ha:8<=a)(v:UInt8):QP (t.set a v)=true:=by unfold QP at*;simp only[Bool.and_eq_true,decide_eq_true_eq]at*;refine⟨by rw[List.length_set];exact h.1,?_⟩;rw[List.take_set_of_le ha];exact h.2
theorem Qg{S:Sto}:qm S=true↔jV S.bs S.ws=true/\QP S.now=true/\QP S.last=true:=by unfold qm;simp[Bool.and_eq_true]
theorem may_put{S:Sto}(h:qm S=true){a:Nat}(ha:8<=a)(ha2:a<256){l:List UInt8}(hl:l.length=128)(hw:S.ws.length≠4096):qm (vl S a l)=true:=by obtain⟨h1,h2,h3⟩:=Qg.1 h;refine Qg.2 ⟨?_,Jq h2 ha 1,h3⟩;unfold jV headD at*;simp only[Bool.and_eq_true,decide_eq_true_eq,vl,List.length_append,List.length_singleton,List.all_append,List.all_cons,List.all_nil,Bool.and_true]at*;obtain⟨⟨g1,g2⟩,g3,g4⟩:=h1;refine⟨⟨g1,zO⟩,g3,g4,?_⟩;unfold wrOk;exact decide_eq_true ⟨zA3,zA2,hl⟩
theorem qdd{S:Sto}(h:¬Kb S=[]):zj S<256:=by
 have wHO:zj S∈Kc S 256:=by
  show zj S∈Kb S;unfold zj;rcases hf:Kb S with _|⟨x,r⟩
  ·exact absurd hf h
  ·simp
 simpa using(List.mem_filter.1 wHO).1
theorem Up{t:List UInt8}(h:QP t=true):t.length=256:=by unfold QP at h;simp only[Bool.and_eq_true,decide_eq_true_eq]at h;exact h.1
theorem qaR{t:List UInt8}(h:QP t=true):qP t 0=0:=by
 have hl:=Up h;unfold QP at h;simp only[Bool.and_eq_true]at h;rcases t with _|⟨x,r⟩
 ·simp at hl
 ·have:=h.2;simp[Kq]at this;simp[qP,this.1]
theorem Um{t t':List UInt8}{a:Nat}(ha:a=0\/8<=a)(h:QP t=true)(e:ZG t a=.ok t'):QP t'=true:=by
 unfold ZG at e;split at e
 ·cases e;exact h
 ·split at e
  ·cases e
  ·split at e
   ·cases e
   ·cases e;exact Jq h zO _
theorem qcF:∀{l:List Nat}{t t':List UInt8},(∀a∈l,a=0\/8<=a)->QP t=true->ZM l t=.ok t'->QP t'=true
 |[],t,t',_,h,e=>by cases e;exact h
 |a::l,t,t',hl,h,e=>by
  simp only[ZM]at e;split at e
  ·cases e
  ·rename_i t1 e1;exact qcF (λb hb=>hl b (List.mem_cons_of_mem _ hb)) (Um (hl a List.mem_cons_self) h e1) e
theorem JR:∀{l:List Nat}{t t':List UInt8},(∀a∈l,a=0\/8<=a)->QP t=true->looseL l t=.ok t'->QP t'=true
 |[],t,t',_,h,e=>by cases e;exact h
 |a::l,t,t',hl,h,e=>by
  by_cases ha:a=0
  ·subst ha;rw[jb]at e;exact JR (λb hb=>hl b (List.mem_cons_of_mem _ hb)) h e
  ·by_cases h0:qP t a=0
   ·rw[jB ha h0]at e;cases e
   ·rw[ja ha h0]at e;exact JR (λb hb=>hl b (List.mem_cons_of_mem _ hb)) (Jq h (by have:=hl a List.mem_cons_self;omega) _) e
theorem qfo{its:List It}(h:∀x∈its,itB x.r x.val.length=true):∀a∈qB its,(a=0\/8<=a)/\a<256:=λa ha=>by obtain⟨x,hx,rfl⟩:=List.mem_map.1 ha;have:=h x hx;unfold itB at this;simp only[decide_eq_true_eq]at this;omega
theorem Ym{S:Sto}{a:Nat}{lvl:Int}{xs:List It}(h:qk S a=some (lvl,xs)):∀r∈qB xs,(r=0\/8<=r)/\r<256:=qfo λx hx=>((qF h).2.1 x hx).2
theorem qca{S S':Sto}{lvl:Int}{its:List It}{f:Nat}(hS:qm S=true)(h:zX S lvl its=.ok (f,S')):∃t,Qj lvl its=true/\ZM (qB its) S.now=.ok t/\S.ws.length≠4096/\8<=f/\f<256/\Jv (qv S t) f=true/\S'=vl (qv S t) f (Zi (Qx lvl its))/\QP t=true:=by
 unfold zX at h;split at h
 ·rename_i hm;split at h
  ·cases h
  ·rename_i t ht;split at h
   ·cases h
   ·rename_i hn;cases h;have h1:Kb (qv S t)≠[]:=λe=>hn (.inl e);have wHO:zj (qv S t)∈Kb (qv S t):=by
     unfold zj;cases e:Kb (qv S t) with
     |nil=>exact absurd e h1
     |cons a l=>exact List.mem_cons_self
    have hfb:Jv (qv S t) (zj (qv S t))=true:=by have:=List.mem_filter.1 (show zj (qv S t)∈(List.range 256).filter (Jv (qv S t))from wHO);exact this.2
    have h8:8<=zj (qv S t):=by unfold Jv at hfb;simp only[Bool.and_eq_true,decide_eq_true_eq]at hfb;exact hfb.1
    exact⟨t,hm,ht,λe=>hn (.inr e),h8,qdd h1,hfb,rfl,qcF (λa ha=>(qfo (jR hm).2.2.2 a ha).1) (Qg.1 hS).2.1 ht⟩
 ·cases h
theorem Yk{S S':Sto}{lvl:Int}{its:List It}{f:Nat}(hio:∀x∈its,QY x)(hS:qm S=true)(h:zX S lvl its=.ok (f,S')):qm S'=true/\8<=f/\f<256/\S'.ws.length<=4096:=by obtain⟨t,hm,ht,hw,h8,hf,hfb,rfl,htm⟩:=qca hS h;have hl:(Zi (Qx lvl its)).length=128:=Vf (by have:=YZ lvl its.length its.length hio (jR hm).2.2.1;rw[YY]at this;omega);have h1:=may_put (S:=qv S t) (Qg.2 ⟨(Qg.1 hS).1,htm,(Qg.1 hS).2.2⟩) h8 hf hl hw;exact⟨h1,h8,hf,(Qb h1).2.1⟩
theorem vy{S:Sto}(hS:qm S=true){t:List UInt8}(ht:QP t=true):qm (qv S t)=true:=Qg.2 ⟨(Qg.1 hS).1,ht,(Qg.1 hS).2.2⟩
theorem qbT{S:Sto}:∀(h:Nat){lvl:Int}{t t':List UInt8}{a:Nat},(8<=a\/qP t a=0)->QP t=true->leaveF S h lvl t a=some t'->QP t'=true
 |0,lvl,t,t',a,_,_,e=>by cases e
 |h+1,lvl,t,t',a,ha,ht,e=>by
  rw[JZ]at e;split at e
  ·cases e
  ·rename_i h0;have ha8:8<=a:=zO;split at e
   ·cases e;exact Jq ht ha8 _
   ·split at e
    ·cases e
    ·rename_i l xs hn;have hr:=Ym hn;have ht0:=Jq ht ha8 0;split at e
     ·cases e
     ·split at e
      ·have key:∀(rs:List Nat),(∀r∈rs,(r=0\/8<=r)/\r<256)->∀(o:Option (List UInt8)),(∀u,o=some u->QP u=true)->rs.foldl (λacc r=>acc.bind λt=>leaveF S h (l-1) t r) o=some t'->QP t'=true:=by
        intro rs;induction rs with
        |nil=>intro _ o ho e;exact ho _ e
        |cons r rs ih=>
         intro hrs o ho e;rw[List.foldl_cons]at e;refine ih (λq hq=>hrs q (List.mem_cons_of_mem _ hq)) _ (λu hu=>?_) e;cases o with
         |none=>cases hu
         |some t1=>
          have h1:=ho t1 rfl;refine qbT h (a:=r) ?_ h1 hu;rcases(hrs r List.mem_cons_self).1 with rfl|h8
          ·right;exact qaR h1
          ·exact .inl h8
       exact key _ hr _ (λu hu=>by cases hu;exact ht0) e
      ·split at e
       ·cases e
       ·rename_i t1 e1;cases e;exact JR (λa ha=>(hr a ha).1) ht0 e1
theorem Vb{S:Sto}{lvl:Int}{t t':List UInt8}{a:Nat}(ha:8<=a)(ht:QP t=true)(e:QC S lvl t a=some t'):QP t'=true:=qbT 7 (.inl ha) ht e
theorem GN{lvl:Int}:∀{ps:List (List It)}{S S':Sto}{up:List It},(∀p∈ps,∀x∈p,QY x)->qm S=true->makeL lvl ps S=.ok (up,S')->qm S'=true/\up.length=ps.length/\∀y∈up,(∃f:Nat,y.r=(f:Int)/\8<=f/\f<256)/\y.val=[]/\∃p∈ps,qp y=jj p
 |[],S,S',up,_,hS,e=>by cases e;exact⟨hS,rfl,λy hy=>by cases hy⟩
 |p::ps,S,S',up,hp,hS,e=>by
  simp only[makeL]at e;split at e
  ·cases e
  ·rename_i f S1 e1;obtain⟨h1,h8,hf,_⟩:=Yk (hp p List.mem_cons_self) hS e1;split at e
   ·cases e
   ·rename_i up1 S2 e2;cases e;obtain⟨g1,g2,g3⟩:=GN (λq hq=>hp q (List.mem_cons_of_mem _ hq)) h1 e2;refine⟨g1,by simp[g2],λy hy=>?_⟩;rcases List.mem_cons.1 hy with rfl|hy
    ·exact⟨⟨f,rfl,h8,hf⟩,rfl,p,List.mem_cons_self,rfl⟩
    ·obtain⟨k1,k2,q,hq,k3⟩:=g3 y hy;exact⟨k1,k2,q,List.mem_cons_of_mem _ hq,k3⟩
theorem XP{l:List It}(h:∀x∈l,QY x):∀p∈Zl l,∀x∈p,QY x:=λp hp x hx=>by
 unfold Zl at hp;split at hp
 ·simp only[List.mem_cons,List.not_mem_nil,or_false]at hp;rcases hp with rfl|rfl
  ·exact h x (List.mem_of_mem_take hx)
  ·exact h x (List.mem_of_mem_drop hx)
 ·simp only[List.mem_cons,List.not_mem_nil,or_false]at hp;subst hp;exact h x hx
theorem qeT{p:List It}(h:∀x∈p,QY x):(0<=(jj p).1/\(jj p).1<256)/\(0<=(jj p).2.1/\(jj p).2.1<4294967296)/\(0<=(jj p).2.2/\(jj p).2.2<4294967296):=by
 cases p with
 |nil=>exact⟨⟨zA1,zA1⟩,⟨zA1,zA1⟩,zA1,zA1⟩
 |cons x r=>
  obtain⟨h1,h2,h3,_⟩:=h x List.mem_cons_self;exact⟨h1,h2,h3⟩
theorem jZ{S S':Sto}{lvl:Int}{l held up:List It}(hl:∀x∈l,QY x)(hh:∀x∈held,itB x.r x.val.length=true)(hS:qm S=true)(e:Qs S lvl l held=.ok (up,S')):qm S'=true/\up.length=(Zl l).length/\(∀y∈up,QY y/\itB y.r y.val.length=true)/\∀y∈up,8<=y.r/\y.r<256:=by
 unfold Qs at e;split at e
 ·cases e
 ·rename_i up1 S1 e1;split at e
  ·cases e
  ·rename_i t e2;cases e;obtain⟨h1,h2,h3⟩:=GN (XP hl) hS e1;refine⟨vy h1 (JR (λa ha=>(qfo hh a ha).1) (Qg.1 h1).2.1 e2),h2,λy hy=>?_,λy hy=>?_⟩
   ·obtain⟨⟨f,k1,k8,k9⟩,k2,p,hp,k3⟩:=h3 y hy;have:=qeT (XP hl p hp);rw[<-k3]at this;obtain⟨a1,a2,a3⟩:=this;exact⟨⟨a1,a2,a3,by rw[k1];omega,by rw[k2];simp⟩,by unfold itB;rw[k1,k2];simp;omega⟩
   ·obtain⟨⟨f,k1,k8,k9⟩,_⟩:=h3 y hy;omega
end Go.Proofs.YtmeadnlmepcmbaaGreat
