/- Lemmas of the proof. -/
import Derived.Lib.Overlaps
import Derived.Test.YtmeadnlmepcmbaaGreatZN13
set_option linter.all false
set_option maxHeartbeats 8000000
open Go.Proofs.Tryz
namespace Go.Proofs.YtmeadnlmepcmbaaGreat
open Go.RowKit
theorem or_none (a b:Nat) (ha:a<256) (hb:b<256):(bits .or .u8 (a:Int) (b:Int) != 0)=!(decide (a=0) && decide (b=0)):=by rw[<-qjk a b ha hb];rfl
theorem first_eq {S:Sto} {f:Nat} (hf:f<256) (h:ZZ S f=true) (wEI:∀ k,8<=k->k<f->ZZ S k=false):Zc S≠[]/\Qm S=f:=by
 have e:∃ l,Zc S=f :: l:=by
  unfold Zc;have h0:jm S f=[]:=by
   unfold jm;rw[List.filter_eq_nil_iff];intro k hk;have hkf:k<f:=by simpa using hk
   rcases Nat.lt_or_ge k 8 with h8|h8
   ·unfold ZZ;simp;omega
   ·rw[wEI k h8 hkf];decide
  have h1:=YY S f;rw[if_pos h,h0] at h1;obtain⟨t,ht⟩:=qbo S (show f+1<=256 by omega);exact⟨t,by rw[<-ht,h1];rfl⟩
 obtain⟨l,e⟩:=e;exact⟨by rw[e];simp,by unfold Qm;rw[e];rfl⟩
theorem qjU {S:Sto} (h:∀ k,8<=k->k<256->ZZ S k=false):Zc S=[]:=by
 unfold Zc jm;rw[List.filter_eq_nil_iff];intro k hk;have hkf:k<256:=by simpa using hk
 rcases Nat.lt_or_ge k 8 with h8|h8
 ·unfold ZZ;simp;omega
 ·rw[h k h8 hkf];decide
theorem IsB.keepX {X:Nat->Prop} {lo n:Nat} {l:List UInt8} {v:Value} {w C:World} (h:IsB lo n l v w) (hk:Ql X w C) (hX:∀ q,lo<=q->q<w.heap.size->¬X q):Bys C C.heap.size v l:=by
 obtain⟨A,c,e,⟨A',c',e',hc,hm,hr⟩,hf⟩:=h;refine⟨A',c',e',hc,hm,hr.1,fun hn=>?_⟩;obtain⟨b,off,e2,hb,hBX⟩:=hr.2 hn;subst e2;have hlo:=hf ⟨b,off,none⟩ _ _ e';have hl:0<(l.map bv).length:=by simpa using hn
 exact⟨b,off,rfl,World.block_lt_of_cell? C ⟨b,off+0,none⟩ (hk _ _ (hX b hlo hb) (hBX 0 _ (zL hl))),fun j u hu=>hk _ _ (hX b hlo hb) (hBX j u hu)⟩
theorem WsB.slice {D:Nat->Prop} {B lo b g:Nat} {k:Option Nat} {v:Value} {ws:List (Int×List UInt8)} {w:World} (h:WsB D B lo b g k v ws w):∃ A c,v=.slice A ws.length c:=by
 obtain⟨ps,e,hc,_⟩:=h;rcases hc with ⟨_,_,A,e2,_⟩|⟨q,_,_,how⟩
 ·exact⟨A,_,e2⟩
 ·obtain⟨A,c,e,_⟩:=qB how;exact⟨A,c,e⟩
def YR (D:Nat->Prop) (B lo b g:Nat) (k:Option Nat) (S:Sto) (lvl:Int) (its:List It) (w:World) (e:Ending) (W:World):Prop:=Qf lo b g k w W /\
 match ZE S lvl its with
 | .error er=>e=.returned (.tuple #[.int .i64 0,.int .i64 er])
 | .ok (f,S')=>e=.returned (.tuple #[.int .i64 (f:Int),.int .i64 0])/\∃ k' D',ZK w.heap.size k k'/\YH w.heap.size D D'/\Bch D' B lo b g k' S' W
theorem YR.bad {D:Nat->Prop} {B lo b g:Nat} {k:Option Nat} {S:Sto} {lvl:Int} {its:List It} {w W:World} {er:Int} (h:ZE S lvl its=.error er) (hB:Qf lo b g k w W):YR D B lo b g k S lvl its w (.returned (.tuple #[.int .i64 0,.int .i64 er])) W:=by refine⟨hB,?_⟩;rw[h]
theorem YR.good {D D':Nat->Prop} {B lo b g:Nat} {k k':Option Nat} {S S':Sto} {lvl:Int} {its:List It} {w W:World} {f:Nat} (h:ZE S lvl its=.ok (f,S')) (hB:Qf lo b g k w W) (hN:ZK w.heap.size k k') (hD:YH w.heap.size D D') (hb:Bch D' B lo b g k' S' W):YR D B lo b g k S lvl its w (.returned (.tuple #[.int .i64 (f:Int),.int .i64 0])) W:=by refine⟨hB,?_⟩;rw[h];exact⟨rfl,k',D',hN,hD,hb⟩
theorem VE {R:Ending->World->Prop} {a:Act} {W:World} {u v:Value} (h4:a.tmps[4]?.getD undef=u) (h5:a.tmps[5]?.getD undef=v) (hd:a.defers=[]) (hR:R (.returned (.tuple #[u,v])) W):bodyPost prog Tryz.f165 R .ret a W:=by refine bodyPost_ret (v:=.tuple #[u,v]) ?_ hd hR;simp[results,results165,go_sem,h4,h5]
set_option maxRecDepth 100000 in
theorem qdm (D:Nat->Prop) (B lo b g:Nat) (k:Option Nat) (S:Sto) (lvl:Int) (A n c) (its:List It) (hio:∀ x∈its,zy x) (hws:S.ws.length<=4096) (w:World) (h:Bch D B lo b g k S w) (hx:kL (B3 b g k) w (.slice A n c) its):Calls prog 165 #[.pointer (some ⟨b,0,none⟩),jU lvl A n c] w (YR D B lo b g k S lvl its w):=by
 obtain⟨hlb,hzb,hlg,hzg,hgb,hlw,hkq⟩:=h.size;have hb3:=h.b3;obtain⟨hnn,-,-,hA⟩:=hx.now.at_;subst hnn;cases hm:Qn lvl its
 case false =>
  have hE:=zH (show ZE S lvl its=.error 8 by unfold ZE;rw[hm];rfl);have hW:=zH (fun W (hw:Ext w W)=>qii lvl A its.length c its W (hx.now.ext hw) hm);replace hx:=zH hx;replace h:=zH h;clear hA hm hkq hb3;go_enter func165,ntmps165;go_wp2_with fail;generalize hw1:World.alloc _ _=w1;have x1:Ext w w1:=by rw[<-hw1];exact zN _ _
  clear hw1;refine(hW.out w1 x1).mono ?_;rintro e w2 ⟨rfl,hB⟩;have x2:Ext w w2:=x1.trans hB;clear hB x1 hW;go_wp2_with fail;exact VE rfl rfl rfl (YR.bad hE.out (Qf.of_ext x2 hlw))
 case true =>
  have hE:Hid (ZE S lvl its=match ZO (qE its) S.now with
   | .error e=>.error e
   | .ok t=>if Zc (qy S t)=[]\/S.ws.length=4096 then .error 9 else .ok (Qm (qy S t),ZF (qy S t) (Qm (qy S t)) (Zg (Qv lvl its)))):=zH (by unfold ZE;rw[hm];rfl)
  obtain⟨hl1,hl2,hl5,hib⟩:=jO hm;have hW:=zH (fun W (hw:Ext w W)=>qbJ lvl A its.length c its W (hx.now.ext hw) hm hio);have hX:=zH hx;have hsl:=zH (vK (b:=Qv lvl its) (by have:=Yz lvl its.length its.length hio hl5;rw[Yy] at this;omega));replace hA:=zH hA;replace hib:=zH hib;replace hio:=zH hio;replace h:=zH h;replace hb3:=zH hb3;replace hkq:=zH hkq;replace hws:=zH hws;clear hx hm hl1 hl2;go_enter func165,ntmps165;go_wp2_with fail;generalize hw1:World.alloc _ _=w1;have x1:Ext w w1:=by rw[<-hw1];exact zN _ _
  have p1:w1.heap[w.heap.size]?=some (.cells #[.int .i64 lvl,.slice A its.length c] 113 (0,0)):=by rw[<-hw1];exact zI _ _ _ rfl
  clear hw1;refine(hW.out w1 x1).mono ?_;rintro e w2 ⟨u,rfl,⟨u,rfl,hu⟩,hB⟩;have hB:Ext w1 w2:=hB;have x2:Ext w w2:=x1.trans hB;have p2:=qb p1 hB;have kp:=qa p2;have z1:w.heap.size<w1.heap.size:=(zG.1 p1).1;obtain⟨A0,c0,rfl,hu1,hu2⟩:=hu;have hu:IsB w1.heap.size 128 (Zg (Qv lvl its)) (.slice A0 128 c0) w2:=⟨A0,c0,rfl,hu1,hu2⟩
  replace hu:=zH hu;clear hB x1 p1 hW hu1 hu2;go_wp2_with fail;go_loopw [21] (fun i wr=>∃ (j:Nat) (t:List UInt8),j<=its.length/\i=.int .i64 (j:Int)/\ZO (qE (its.take j)) S.now=.ok t/\Bch D B lo b g k (qy S t) wr/\Qf lo b g k w2 wr) (fun i _=>its.length-(intOf i).toNat)
  case atStart=>exact⟨0,S.now,Nat.zero_le _,rfl,rfl,h.out.ext x2,Qf.refl _ _ _ _ _⟩
  case round =>
   obtain⟨j,t,hj,rfl,hsh,hbc,hbk⟩:=hrel;have hxr:=hX.out.trans ((Ql.of_ext (X:=B3 b g k) x2).trans hbk.keepX fun _ _ h=>h) (fun _ _ h=>h);by_cases hlt:j<its.length
   ·obtain⟨bi,off,rfl,hbi⟩:=hA.out zO;obtain⟨A',c',d0,d1,d2,d3,d4,-⟩:=hxr.now.item j hlt;have hr8:=hib.out its[j] (List.getElem_mem hlt);have hrr:its[j].r=0\/(8<=its[j].r/\its[j].r<256):=by unfold itB at hr8;simp at hr8;exact hr8.1
    have hJM:=zH (fun e h1=>qiw hlt (e:=e) hsh h1);have hFI:=zH (fun t' h1=>qgX hlt (t'':=t') hsh h1);generalize its[j]=x at *;have hwk:=zH (IntWalk.wrap64_in ((j:Int)+1) zO);replace hsh:=zH hsh;replace hxr:=zH hxr;clear hbi hr8;rcases hrr with hr0|hr1
    ·have wWH:=zH (hFI.out t (by rw[hr0];simp[vt]));rw[hr0] at d3;have hz0:=hbc.size.2.2.2.2.2.1;replace hbc:=zH hbc;replace hbk:=zH hbk;clear hr0 hJM hFI kp;go_wp2_with fail;try rw[hwk.out]
     refine⟨⟨j+1,t,zO,rfl,wWH.out,hbc.out.ext (zN _ _),hbk.out.trans (Qf.of_ext (zN _ _) hz0) (ZK.refl _ _)⟩,?_⟩;simp[intOf];omega
    ·obtain⟨a,hra⟩:∃ a:Nat,x.r=(a:Int):=⟨x.r.toNat,zO⟩
     have ha8:8<=a:=zO;have ha9:a<256:=zO;have hsa:(x.r).toNat=a:=zO;rw[hra] at d3;rw[hsa] at hJM hFI;have hs1:Hid (vt t a=if qL t a=0 then .error 6 else if qL t a=255 then .error 70 else .ok (jj t a 1)):=zH (by unfold vt;rw[if_neg zO]);have hza:((a:Int) == 0)=false:=by rw[beq_eq_false_iff_ne];omega
     have hz0:=hbc.size.2.2.2.2.2.1;have HS:=zH (fun W (hW:Ext wr W)=>qhy D B lo b g k (qy S t) a ha9 W (hbc.ext hW));replace hbc:=zH hbc;replace hbk:=zH hbk;clear kp hr1 hsa hra;go_wp2_with fail;generalize hwa:World.alloc _ _=wa;have xa:Ext wr wa:=by rw[<-hwa];exact zN _ _
     have ra:wa.heap[wr.heap.size]?=some (.cells #[.int .u8 x.k,.int .u32 x.i,.int .u32 x.o,.int .i64 (a:Int),.slice A' x.val.length c'] 51 (0,0)):=by rw[<-hwa];exact zI _ _ _ rfl
     have ka:=qa ra;clear hwa d0 d1 d2 d3 d4;go_wp2_with fail;refine(HS.out wa xa).mono ?_;rintro e wsh ⟨hk2,hDJ⟩;have hk3:=hbk.out.trans ((Qf.of_ext xa hz0).trans hk2 (ZK.refl _ _)) (ZK.refl _ _);clear HS hk2 ka ra xa;rcases hDJ with ⟨hc0,rfl⟩|⟨hc0,rfl⟩|⟨hc0,hc1,rfl,hb3⟩
     ·have hEE:=zH (show ZE S lvl its=.error 6 by rw[hE.out,hJM.out 6 (by rw[hs1.out,if_pos hc0])]);clear hE hJM hFI hs1 hc0;go_wp2_with fail;exact VE rfl rfl rfl (YR.bad hEE.out ((Qf.of_ext x2 hlw).trans hk3 (ZK.refl _ _)))
     ·have hEE:=zH (show ZE S lvl its=.error 70 by rw[hE.out,hJM.out 70 (by rw[hs1.out,if_neg zO,if_pos hc0])]);clear hE hJM hFI hs1 hc0;go_wp2_with fail;exact VE rfl rfl rfl (YR.bad hEE.out ((Qf.of_ext x2 hlw).trans hk3 (ZK.refl _ _)))
     ·have IR:∃ (j':Nat) (t':List UInt8),j'<=its.length/\Value.int .i64 ((j:Int)+1)=.int .i64 (j':Int)/\ZO (qE (its.take j')) S.now=.ok t'/\Bch D B lo b g k (qy S t') wsh/\Qf lo b g k w2 wsh:=
       ⟨j+1,jj t a 1,zO,rfl,hFI.out _ (by rw[hs1.out,if_neg hc0,if_neg hc1]),hb3,hk3⟩
      replace IR:=zH IR;clear hE hJM hFI hs1 hc0 hc1 hb3 hk3 hbk hbc;go_wp2_with fail;try rw[hwk.out]
      refine⟨IR.out,?_⟩;simp[intOf];omega
   ·obtain rfl:j=its.length:=zO;rw[List.take_length] at hsh;rw[hsh] at hE;have hE:Hid (ZE S lvl its=if Zc (qy S t)=[]\/S.ws.length=4096 then .error 9 else .ok (Qm (qy S t),ZF (qy S t) (Qm (qy S t)) (Zg (Qv lvl its)))):=hE;have hEw:Hid ((qy S t).ws.length=S.ws.length):=rfl;rw[<-hEw.out] at hE hws;generalize qy S t=S' at *;have wPD:=(Qf.of_ext (b:=b) (g:=g) (k:=k) x2 hlw).trans hbk (ZK.refl _ _);obtain⟨D',hD'⟩:∃ D':Nat->Prop,D'=fun q=>D q\/(w1.heap.size<=q/\q<w2.heap.size):=⟨_,rfl⟩
    have hb3:=hb3.out;have hzw:=h.out.size.2.2.2.2.2.1;have hux:=zH (fun C (hC:Ql (To B D') wr C)=>hu.out.keepX (X:=fun q=>B3 b g k q\/To B D' q) ((hbk.keepX.mono fun q _ h=>.inl h).trans hC fun _ _ h=>.inr h) (fun q h1 h2=>by
     rintro (hx|hx)
     ·have:=(hb3 q hx).2;omega
     ·exact hx.2 (by rw[hD'];exact .inr ⟨h1,h2⟩)))
    have hDD:∀ q,D q->D' q:=fun q hq=>by rw[hD'];exact .inl hq
    have hDn:YH w.heap.size D D':=fun q hq=>by rw[hD'] at hq;exact hq.imp id fun h=>zO
    have hDb:∀ W,Ext wr W->∀ q,D' q->lo<=q/\q<W.heap.size/\¬B3 b g k q:=fun W hW q hq=>by
     have hz:=hW.size;have hz2:=hbk.below.size;rw[hD'] at hq;rcases hq with hq|⟨h1,h2⟩
     ·have:=hbc.dB q hq;exact⟨this.1,zO,this.2.2⟩
     ·exact⟨zO,zO,fun hx=>by have:=(hb3 q hx).2;omega⟩
    have hkD:∀ q,k=some q->¬(q<B\/D' q):=fun q hq hx=>hx.elim (fun h1=>h.out.off q h1 (.inr (.inr hq))) fun h1=>(hDb wr (Ext.refl _) q h1).2.2 (.inr (.inr hq));replace hDb:=zH hDb;replace hDn:=zH hDn;replace hDD:=zH hDD;replace hkD:=zH hkD;clear hD' hb3 hzw;obtain⟨A1,n1,c1,v2,c3,A4,c4,hr,ho,hwb,hb1,hb4⟩:=hbc.ex;obtain⟨hlen,wSZ⟩:=hbc.lens;obtain⟨hkn,hfn,-,-⟩:=Za ho;obtain⟨b4,o4,rfl,hb4lt,hk4⟩:∃ b4 o4,A4=some ⟨b4,o4,none⟩/\b4<B/\∀ a,a<256->wr.cell? ⟨b4,o4+a,none⟩=some (.int .u8 (KA S' a:Int)):=by obtain⟨A',c',e,_,_,hrd⟩:=hb4;simp only[Value.slice.injEq] at e;obtain⟨rfl,_,rfl⟩:=e;obtain⟨b4,o4,e,h1,h2⟩:=hrd.2 zO;exact⟨b4,o4,e,h1,fun a ha=>h2 a _ (by rw[List.getElem?_map,zL zO];simp[KA,zL (show a<S'.last.length by omega)])⟩
    have hkn:Hid (∀ a,a<256->wr.cell? ⟨g,a,none⟩=some (.int .u8 (Zo S' a:Int))):=zH hkn;have hk4:=zH hk4;have hfr:Hid (∀ k,8<=k->(bits .or .u8 (Zo S' k:Int) (KA S' k:Int) != 0)=!ZZ S' k):=zH fun k h8=>by rw[or_none _ _ (qjh S' k) (qgj S' k)];unfold ZZ;rw[decide_eq_true h8,Bool.true_and]
    obtain⟨A2,c2,rfl⟩:=hwb.slice;have h5g:=h.out.size;have wVQ:=hbc.size.2.2.2.2.2.2;replace wVQ:=zH wVQ;have h0:=h;clear kp hu hxr hX hA hib hio h hbk hsh hEw p2 hkq h5g;replace hbc:=zH hbc;replace hwb:=zH hwb;replace ho:=zH ho;replace hb1:=zH hb1;replace hb4:=zH hb4;replace wPD:=zH wPD;replace hfn:=zH hfn;replace hlen:=zH hlen;replace wSZ:=zH wSZ;have hwx:=zH (Ext.refl wr);generalize hwm:wr=wm at *;clear hwm;go_wp2_with fail;go_loopw [4] (fun i wr=>∃ k:Nat,8<=k/\k<=256/\i=.int .i64 (k:Int)/\(∀ j,8<=j->j<k->ZZ S' j=false)/\Ext wm wr) (fun i _=>256-(intOf i).toNat)
    case atStart=>exact⟨8,zM _,zO,rfl,fun _ _ h=>zO,Ext.refl _⟩
    case round =>
     obtain⟨f,h8,hf,rfl,wEI,hE2⟩:=hrel;replace wEI:=zH wEI;have r2:=qb hr hE2;by_cases hlt:f<256
     ·have g1:∀ W,qm.r wr W->∀ i,W.cell? ⟨b,i,none⟩=#[.slice A1 n1 c1,.slice A2 S'.ws.length c2,.slice (some ⟨g,0,none⟩) 256 c3,.slice (some ⟨b4,o4,none⟩) 256 c4][i]?:=fun W h=>qa (qb r2 h);have g2:∀ W,qm.r wr W->W.cell? ⟨g,f,none⟩=some (.int .u8 (Zo S' f:Int)):=fun W h=>Ext.cell (hE2.trans h) (hkn.out f hlt);have g3:∀ W,qm.r wr W->W.cell? ⟨b4,o4+f,none⟩=some (.int .u8 (KA S' f:Int)):=fun W h=>Ext.cell (hE2.trans h) (hk4.out f hlt);have hbit:=hfr.out f h8;generalize Zo S' f=nw at *;generalize KA S' f=lw at *;have d1:decide ((f:Int)<256)=true:=decide_eq_true zO;have d2:decide (f<256)=true:=decide_eq_true hlt;have hwk:=zH (IntWalk.wrap64_in ((f:Int)+1) zO);have wTC:=zH (fun (h:ZZ S' f=false)=>(fun j hj (hlt:j<f+1)=>(Nat.lt_or_ge j f).elim (fun h1=>wEI.out j hj h1) fun h1=>by rw[show j=f by omega];exact h:∀ j,8<=j->j<f+1->ZZ S' j=false));have wHU:=zH (fun (h:ZZ S' f=true)=>first_eq hlt h wEI.out);generalize ZZ S' f=fb at *;have e0:=zH hE2;clear hE2;go_upto_region 13 with fail;refine qp zQ ?_;refine Qa (w:=wr) qm (qM []) (List.replicate 22 true) 0 zQ zQ zQ zQ zQ zQ zQ ?st (Rel.drew _ _) ?walk
      case st=>exact qj (fun _ h=>by cases h)
      case walk =>
       intro K hK;dsimp only[qw,List.replicate];refine zB5 ?_;refine qe (.pointer (some ⟨g,f,none⟩)) zA0 zA0 (fun W hW _=>⟨W,?_,Rel.refl _ W⟩) ?_
       ·go_simp;intro hge;exfalso;omega
       refine zB5 ?_;refine qe (.pointer (some ⟨b4,o4+f,none⟩)) zA0 zA0 (fun W hW _=>⟨W,?_,Rel.refl _ W⟩) ?_
       ·go_simp;intro hge;exfalso;omega
       refine zB5 ?_;refine qA (hK _ _ fun W hW hF=>?_);clear hF hK g1 g2 g3;have hW:Ext wr W:=hW;have xE:Ext wm W:=e0.out.trans hW;clear e0 hW;refine zB7 ?_;cases fb
       ·have IR:∃ k':Nat,8<=k'/\k'<=256/\Value.int .i64 ((f:Int)+1)=.int .i64 (k':Int)/\(∀ j,8<=j->j<k'->ZZ S' j=false)/\Ext wm W:=⟨f+1,zO,zO,rfl,wTC.out rfl,xE⟩
        replace IR:=zH IR;clear xE wEI wTC wHU;go_wp2;refine Qw ?_;go_wp2_with fail;try rw[hwk.out]
        refine⟨IR.out,?_⟩;simp[intOf];omega
       ·have hne:=zH (wHU.out rfl).1;have hfs:=zH (wHU.out rfl).2;clear wEI wTC wHU hbit hkn hk4 hfr d1 d2;have r3:=qb hr xE;have k3:=qa r3;have f3:=qd r3;have e1:((f:Int) == 256)=false:=by rw[beq_eq_false_iff_ne];omega
        by_cases hw4:S'.ws.length=4096
        ·have hEE:=zH (show ZE S lvl its=.error 9 by rw[hE.out,if_pos (.inr hw4)]);have hl1:((S'.ws.length:Int) == 4096)=true:=by rw[beq_iff_eq];omega
         replace hw4:=zH hw4;replace xE:=zH xE;go_wp2;refine Qw ?_;go_wp2_with fail;exact VE rfl rfl rfl (YR.bad hEE.out (wPD.out.trans (Qf.of_ext xE.out hbc.out.size.2.2.2.2.2.1) (ZK.refl _ _)))
        ·have hEE:=zH (show ZE S lvl its=.ok (f,ZF S' f (Zg (Qv lvl its))) by rw[hE.out,if_neg (fun h=>h.elim hne.out hw4),hfs.out]);have hl1:((S'.ws.length:Int) == 4096)=false:=by rw[beq_eq_false_iff_ne];omega
         replace hw4:=zH hw4;have xw:=zH xE;have zW:=xE.size;have zwm:=hbc.out.size.2.2.2.2.2.1;have hbW:=zH ((hbc.out.ext xE).mono hDD.out (hDb.out W (hwx.out.trans xE)));clear xE;go_wp2;refine Qw ?_;go_wp2_with (at_builtin;refine Qg ?_);have zBlo:=h0.out.blo;refine QI.go (qff rfl (.tmp 78) (.tmp 82) rfl rfl rfl ((hwb.out.mono hDD.out).ext xw.out zO) zO hkD.out (by have:=hws.out;omega) (f:Int) A0 128 c0 (Zg (Qv lvl its)) hsl.out.symm (fun C hC=>hux.out C ((Ql.of_ext (hwx.out.trans xw.out)).trans hC fun _ _ h=>h)) ?_);intro v4 w4 k4 hW4 hK4 hN4 wIK;obtain⟨A5,c5,rfl⟩:=hW4.slice;rw[List.length_append,List.length_singleton] at hW4;have r4:=(wIK b (zG.1 r3).1 fun e=>(wVQ.out b e).2.2.1 rfl).trans r3;have kr4:=qa r4;have fr4:=qd r4;have oW:=QR ho.out xw.out;have o4:=ZC oW (w':=w4) fun q hq=>by cases hq;exact wIK g (QZ oW g rfl).2 fun e=>(wVQ.out g e).2.2.2 rfl
         have kg4:=(Za o4).1 f hlt;have fg4:=(Za o4).2.1 f;have P:=zH (Bch.put hbW.out r3 oW (hb1.out.below (Below.mono xw.out zO)) (hb4.out.below (Below.mono xw.out zO)) hlt hW4 hK4 hN4 wIK);have hAll:Hid (Qf lo b g k w _):=zH (wPD.out.trans ((Qf.of_ext xw.out zwm).trans P.out.2 (ZK.refl _ _)) (ZK.refl _ _));replace hN4:=zH hN4;clear o4 oW wIK hW4 r3 k3 f3 hK4;go_wp2_with fail;exact VE rfl rfl rfl (YR.good hEE.out hAll.out (hN4.out.mono (by have:=wPD.out.below.size;omega)) hDn.out P.out.1)
     ·have d1:decide ((f:Int)<256)=false:=decide_eq_false zO;have e1:((f:Int) == 256)=true:=by rw[beq_iff_eq];omega
      have hf6:f=256:=zO;have hEE:=zH (show ZE S lvl its=.error 9 by rw[hE.out,if_pos (.inl (qjU fun j h8 hj=>wEI.out j h8 zO))]);have e0:=zH hE2;replace hf6:=zH hf6;clear hE2 hkn hk4 hfr wEI r2;go_upto_region 13 with fail;refine qp zQ ?_;refine Qa (w:=wr) qm (qM []) (List.replicate 22 true) 0 zQ zQ zQ zQ zQ zQ zQ ?st (Rel.drew _ _) ?walk
      case st=>exact qj (fun _ h=>by cases h)
      case walk =>intro K hK;dsimp only[qw,List.replicate];refine zB5 ?_;refine qA (hK _ _ fun W hW hF=>?_);clear hF hK;have hW:Ext wr W:=hW;have xE:Ext wm W:=e0.out.trans hW;clear e0 hW;refine zB7 ?_;replace xE:=zH xE;go_wp2;refine Qw ?_;go_wp2_with fail;exact VE rfl rfl rfl (YR.bad hEE.out (wPD.out.trans (Qf.of_ext xE.out hbc.out.size.2.2.2.2.2.1) (ZK.refl _ _)))
def looseL:List Nat->List UInt8->Except Int (List UInt8)
 | [],t=>.ok t
 |a :: r,t=>if a=0 then looseL r t else if qL t a=0 then .error 6 else looseL r (ju t a)
theorem jC (r:List Nat) (t:List UInt8):looseL (0 :: r) t=looseL r t:=by simp[looseL]
theorem Jd {a:Nat} (ha:a≠0) {t:List UInt8} (h:qL t a=0) (r:List Nat):looseL (a :: r) t=.error 6:=by simp only[looseL];rw[if_neg ha,if_pos h]
theorem jB {a:Nat} (ha:a≠0) {t:List UInt8} (h:qL t a≠0) (r:List Nat):looseL (a :: r) t=looseL r (ju t a):=by simp only[looseL];rw[if_neg ha,if_neg h]
theorem JA:∀ (l r:List Nat) (t:List UInt8),looseL (l++r) t=match looseL l t with
  | .error e=>.error e
  | .ok t'=>looseL r t'
 | [],_,_=>rfl
 |a :: l,r,t=>by
  by_cases ha:a=0
  ·subst ha;rw[List.cons_append,jC,jC];exact JA l r t
  ·by_cases h:qL t a=0
   ·rw[List.cons_append,Jd ha h,Jd ha h]
   ·rw[List.cons_append,jB ha h,jB ha h];exact JA l r _
def leaveF (S:Sto):Nat->Int->List UInt8->Nat->Option (List UInt8)
 |0,_,_,_=>none
 |h+1,lvl,t,a=>if qL t a=0 then none else if 1<qL t a then some (ju t a) else
  match qu S a with
  |none=>none
  |some (l,xs)=>if 0<=lvl/\l≠lvl then none else if 0<l then (qE xs).foldl (fun acc r=>acc.bind fun t=>leaveF S h (l-1) t r) (some (t.set a 0)) else
   match looseL (qE xs) (t.set a 0) with
   | .error _=>none
   | .ok t'=>some t'
theorem JT (S:Sto) (h:Nat) (lvl:Int) (t:List UInt8) (a:Nat):leaveF S (h+1) lvl t a=if qL t a=0 then none else if 1<qL t a then some (ju t a) else
  match qu S a with
  |none=>none
  |some (l,xs)=>if 0<=lvl/\l≠lvl then none else if 0<l then (qE xs).foldl (fun acc r=>acc.bind fun t=>leaveF S h (l-1) t r) (some (t.set a 0)) else
   match looseL (qE xs) (t.set a 0) with
   | .error _=>none
   | .ok t'=>some t':=rfl
theorem qad (S:Sto):∀ (h:Nat) (lvl:Int) (t:List UInt8) (a:Nat),0<=lvl->lvl<h->leaveF S (h+1) lvl t a=leaveF S h lvl t a
 |0,lvl,t,a,h0,h1=>zO
 |h+1,lvl,t,a,h0,h1=>by
  rw[JT,JT];split
  ·rfl
  ·split
   ·rfl
   ·split
    ·rfl
    ·rename_i l xs _;split
     ·rfl
     ·rename_i hl;have e:l=lvl:=by
       by_cases h:l=lvl
       ·exact h
       ·exact absurd ⟨h0,h⟩ hl
      subst e;split
      ·rename_i hp;congr 1;funext acc r;congr 1;funext t;exact qad S h (l-1) t r zO zO
      ·rfl
theorem jH {S:Sto} {a:Nat} {lvl:Int} {xs:List It} (h:qu S a=some (lvl,xs)):0<=lvl/\lvl<6/\xs.length<=5:=by have:=jO (qQ h).1;exact⟨this.1,this.2.1,this.2.2.1⟩
def QL (S:Sto) (lvl:Int) (t:List UInt8) (a:Nat):Option (List UInt8):=leaveF S 7 lvl t a
def JN (S:Sto):List (Nat×Int)->List UInt8->Option (List UInt8)
 | [],t=>some t
 |x :: r,t=>match QL S x.2 t x.1 with
  |none=>none
  |some t'=>JN S r t'
theorem Tf (S:Sto):∀ (l r:List (Nat×Int)) (t:List UInt8),JN S (l++r) t=match JN S l t with
  |none=>none
  |some t'=>JN S r t'
 | [],_,_=>rfl
 |x :: l,r,t=>by
  simp only[List.cons_append,JN];cases QL S x.2 t x.1 with
  |none=>rfl
  |some t'=>exact Tf S l r t'
theorem qae (S:Sto) (l:Int):∀ (rs:List Nat) (o:Option (List UInt8)),rs.foldl (fun acc r=>acc.bind fun t=>QL S l t r) o=o.bind fun t=>JN S (rs.map fun r=>(r,l)) t
 | [],o=>by cases o <;> rfl
 |a :: r,o=>by
  rw[List.foldl_cons,qae S l r];cases o with
  |none=>rfl
  |some t =>
   simp only[Option.bind_some,List.map_cons,JN];cases QL S l t a <;> rfl
theorem Xe (S:Sto) (lvl:Int) (t:List UInt8) (a:Nat):QL S lvl t a=if qL t a=0 then none else if 1<qL t a then some (ju t a) else
  match qu S a with
  |none=>none
  |some (l,xs)=>if 0<=lvl/\l≠lvl then none else if 0<l then JN S ((qE xs).map fun r=>(r,l-1)) (t.set a 0) else
   match looseL (qE xs) (t.set a 0) with
   | .error _=>none
   | .ok t'=>some t':=by
 obtain⟨h,hh⟩:∃ h,h=6:=⟨_,rfl⟩
 have L1:∀ lvl t a,QL S lvl t a=leaveF S (h+1) lvl t a:=fun lvl t a=>by rw[hh];rfl
 rw[L1,JT];have key:∀ l xs,qu S a=some (l,xs)->0<l->(qE xs).foldl (fun acc r=>acc.bind fun t=>leaveF S h (l-1) t r) (some (t.set a 0))=JN S ((qE xs).map fun r=>(r,l-1)) (t.set a 0):=fun l xs hn h0=>by
  obtain⟨_,h6,_⟩:=jH hn;have e1:=qae S (l-1) (qE xs) (some (t.set a 0));rw[Option.bind_some] at e1;rw[<-e1];have e:(fun (acc:Option (List UInt8)) (r:Nat)=>acc.bind fun t=>leaveF S h (l-1) t r)=fun acc r=>acc.bind fun t=>QL S (l-1) t r:=by
   funext acc r;cases acc with
   |none=>rfl
   |some t =>
    simp only[Option.bind_some];rw[L1,qad S h (l-1) t r zO zO]
  rw[e]
 split
 ·rfl
 ·split
  ·rfl
  ·split
   ·rfl
   ·rename_i l xs hn;split
    ·rfl
    ·split
     ·rename_i h0;exact key l xs hn h0
     ·rfl
def Gs (k:K3) (r:Nat):It:=⟨k.1,k.2.1,k.2.2,(r:Int),[]⟩
def VR (p:List It):K3:=match p with
 | []=>(0,0,0)
 |x :: _=>qt x
def makeL (lvl:Int):List (List It)->Sto->Except Int (List It×Sto)
 | [],S=>.ok ([],S)
 |p :: r,S=>match ZE S lvl p with
  | .error e=>.error e
  | .ok (f,S')=>match makeL lvl r S' with
   | .error e=>.error e
   | .ok (up,S'')=>.ok (Gs (VR p) f :: up,S'')
def Zs (l:List It):List (List It):=if 5<l.length then [l.take 3,l.drop 3] else [l]
def QQ (S:Sto) (lvl:Int) (l held:List It):Except Int (List It×Sto):=match makeL lvl (Zs l) S with
 | .error e=>.error e
 | .ok (up,S')=>match looseL (qE held) S'.now with
  | .error e=>.error e
  | .ok t=>.ok (up,qy S' t)
def Vq (xs:List It) (p many:Nat) (up:List It):List It:=xs.take p++up++xs.drop (p+many)
def kJ (S:Sto) (k:K3):Nat->List It->List (Nat×List It×Nat)
 |0,xs=>[(0,xs,qD xs k)]
 |h+1,xs=>(h+1,xs,if Yb xs k=true then qD xs k else qD xs k-1) :: match xs[if Yb xs k=true then qD xs k else qD xs k-1]? with
  |none=>[]
  |some y=>match qu S y.r.toNat with
   |none=>[]
   |some (_,ys)=>kJ S k h ys
def Jt (k:K3) (lvl:Nat) (xs:List It):Nat:=if lvl=0/\Yb xs k=false then 0 else 1
def jA (k:K3):List (Nat×List It×Nat)->List It->Sto->Except Int (List It×Sto)
 | [],up,S=>.ok (up,S)
 |(lvl,xs,p) :: r,up,S=>match QQ S (lvl:Int) (Vq xs p (Jt k lvl xs) up) up with
  | .error e=>.error e
  | .ok (up',S')=>jA k r up' S'
def qas (k:K3) (l:List (Nat×List It×Nat)):Bool:=decide (l.length=6) && (l.all fun s=>!decide (s.2.1.length<5)) && !(match l.getLast? with
 |none=>false
 |some s=>Yb s.2.1 k)
def putX (S:Sto) (L:Nat) (xs:List It) (root:Nat) (x:It):Except Int (Nat×Sto):=
 if qas (qt x) (kJ S (qt x) L xs)=true then .error 120 else
 match jA (qt x) (kJ S (qt x) L xs).reverse [x] S with
 | .error e=>.error e
 | .ok (up,S1)=>match (if 1<up.length then QQ S1 ((kJ S (qt x) L xs).length:Int) up up else .ok (up,S1)) with
  | .error e=>.error e
  | .ok (up',S2)=>match QL S2 (-1) S2.now root with
   |none=>.error 8
   |some t=>.ok (match up' with
    | []=>0
    |y :: _=>y.r.toNat,qy S2 t)
theorem Tryz.info_step:(Tryz.prog.info? 187).map (fun i=>(i.zero,i.size,i.bytes))=some (some (.agg #[.int .i64 0,.slice none 0 0,.int .i64 0]),3,40):=zQ
abbrev Stp:=Nat×List It×Nat
def jR:List (Stp×Value)->List Value
 | []=>[]
 |p :: r=>.int .i64 (p.1.1:Int) :: p.2 :: .int .i64 (p.1.2.2:Int) :: jR r
theorem qfI (ps:List (Stp×Value)) (p:Stp×Value):jR (ps++[p])=jR ps++[.int .i64 (p.1.1:Int),p.2,.int .i64 (p.1.2.2:Int)]:=by
 induction ps with
 |nil=>rfl
 |cons a r ih=>simp[jR,ih]
theorem Xv (ps:List (Stp×Value)):∀ i (h:i<ps.length),(jR ps)[i*3]?=some (.int .i64 (ps[i].1.1:Int))/\(jR ps)[i*3+1]?=some ps[i].2/\(jR ps)[i*3+2]?=some (.int .i64 (ps[i].1.2.2:Int)):=by
 induction ps with
 |nil=>intro i h;simp at h
 |cons p r ih =>
  intro i h;rcases i with _|i
  ·simp[jR]
  ·have:=ih i (by simpa using h);rw[show (i+1)*3=i*3+1+1+1 by omega];simpa [jR,Nat.add_assoc] using this
def OwnX (v:Value) (q:Nat):Prop:=v.ownBlock=some q
def OwnL (lo:Nat) (v:Value) (q:Nat):Prop:=v.ownBlock=some q\/q<lo
def Gc (X:Nat->Prop) (w:World) (v:Value) (ips:List (It×Value)):Prop:=(∃ A c,v=.slice A ips.length c/\ips.length<=c/\c<=maxLen/\∀ C,Ql X w C->Rd C C.heap.size 5 A ips.length (Qd ips)) /\
 ∀ p∈ips,(∃ A c,p.2=.slice A p.1.val.length c)/\∀ C,Ql X w C->Bys C C.heap.size p.2 p.1.val
theorem Gc.its {X:Nat->Prop} {w:World} {v:Value} {ips:List (It×Value)} (h:Gc X w v ips) {C:World} (hC:Ql X w C):Its C C.heap.size v (ips.map (·.1)):=by obtain⟨⟨A,c,e,h1,h2,hr⟩,hp⟩:=h;exact⟨ips,rfl,⟨A,c,by rw[List.length_map];exact e,by rw[List.length_map];exact h1,h2,by rw[List.length_map];exact hr C hC⟩,fun p hpm=>⟨(hp p hpm).1,(hp p hpm).2 C hC⟩⟩
theorem Gc.trans {X Y:Nat->Prop} {w W:World} {v:Value} {ips:List (It×Value)} (h:Gc X w v ips) (hk:Ql X w W) (hY:∀ k,k<w.heap.size->Y k->X k):Gc Y W v ips:=by obtain⟨⟨A,c,e,h1,h2,hr⟩,hp⟩:=h;exact⟨⟨A,c,e,h1,h2,fun C hC=>hr C (hk.trans hC hY)⟩,fun p hpm=>⟨(hp p hpm).1,fun C hC=>(hp p hpm).2 C (hk.trans hC hY)⟩⟩
def JK (ty:TypeId) (lo:Nat) (w:World) (v:Value) (l:List Stp):Prop:=∃ ps:List (Stp×Value),ps.map (·.1)=l/\w.ownsRow lo ty 3 v l.length (jR ps)/\∀ p∈ps,∃ ips,ips.map (·.1)=p.1.2.1/\Gc (OwnL lo v) w p.2 ips
def Tq (lo:Nat) (w:World) (v:Value) (l:List Stp):Prop:=∃ ps:List (Stp×Value),ps.map (·.1)=l/\(∃ A c,v=.slice A l.length c/\l.length<=c/\c<=maxLen/\∀ C,Ql (fun q=>q<lo) w C->Rd C C.heap.size 3 A l.length (jR ps))/\∀ p∈ps,∃ ips,ips.map (·.1)=p.1.2.1/\Gc (fun q=>q<lo) w p.2 ips
def Kj (B:Nat) (w:World) (v:Value) (l:List Stp):Prop:=∃ ps:List (Stp×Value),ps.map (·.1)=l/\(∃ A c,v=.slice A l.length c/\l.length<=c/\c<=maxLen/\Rd w B 3 A l.length (jR ps))/\∀ p∈ps,(∃ A c,p.2=.slice A p.1.2.1.length c)/\Its w B p.2 p.1.2.1
theorem Rd.keepFrom {X:Nat->Prop} {w C:World} {B size n lo:Nat} {A:OA} {xs:List Value} (h:Rd w B size A n xs) (hs:0<size) (hf:∀ a,A=some a->lo<=a.block) (hk:Ql X w C) (hX:∀ q,lo<=q->¬X q):Rd C C.heap.size size A n xs:=⟨h.1,fun hn=>by
 obtain⟨b,off,e,hb,hc⟩:=h.2 hn;have h1:lo<=b:=hf _ e;have hl:0<xs.length:=by rw[h.1];exact Nat.mul_pos hn hs
 exact⟨b,off,e,World.block_lt_of_cell? C ⟨b,off+0,none⟩ (hk _ _ (hX b h1) (hc 0 _ (zL hl))),fun j u hu=>hk _ _ (hX b h1) (hc j u hu)⟩⟩
theorem JK.toE {ty:TypeId} {lo:Nat} {w:World} {v:Value} {l:List Stp} (h:JK ty lo w v l):Tq lo w v l:=by obtain⟨ps,e,ho,hp⟩:=h;obtain⟨A,c,rfl,h1,h2⟩:=qB ho;have hf:=Zv.of_own ho;refine⟨ps,e,⟨A,c,rfl,h1,h2,fun C hC=>(Rd.of_own ho).keepFrom zO (fun a ha=>hf a _ _ (by rw[ha])) hC fun q hq hx=>zO⟩,fun p hpm=>?_⟩;obtain⟨ips,e1,hi⟩:=hp p hpm;exact⟨ips,e1,hi.trans (Ql.refl _ _) fun k _ hk=>.inr hk⟩
theorem Tq.mono {lo lo':Nat} {w:World} {v:Value} {l:List Stp} (h:Tq lo w v l) (hl:lo'<=lo):Tq lo' w v l:=by obtain⟨ps,e,⟨A,c,rfl,h1,h2,hr⟩,hp⟩:=h;have hm:∀ {C},Ql (fun q=>q<lo') w C->Ql (fun q=>q<lo) w C:=fun hC=>hC.mono fun q _ hq=>zO;refine⟨ps,e,⟨A,c,rfl,h1,h2,fun C hC=>hr C (hm hC)⟩,fun p hpm=>?_⟩;obtain⟨ips,e1,⟨A',c',f1,f2,f3,f4⟩,f5⟩:=hp p hpm;exact⟨ips,e1,⟨A',c',f1,f2,f3,fun C hC=>f4 C (hm hC)⟩,fun q hq=>⟨(f5 q hq).1,fun C hC=>(f5 q hq).2 C (hm hC)⟩⟩
theorem Gc.shape {X:Nat->Prop} {w:World} {v:Value} {ips:List (It×Value)} {xs:List It} (h:Gc X w v ips) (e:ips.map (·.1)=xs):∃ A c,v=.slice A xs.length c:=by obtain⟨⟨A,c,e1,_⟩,_⟩:=h;exact⟨A,c,by rw[e1,<-e,List.length_map]⟩
theorem Tq.read {lo:Nat} {w C:World} {v:Value} {l:List Stp} (h:Tq lo w v l) (hC:Ql (fun q=>q<lo) w C):Kj C.heap.size C v l:=by obtain⟨ps,e,⟨A,c,rfl,h1,h2,hr⟩,hp⟩:=h;refine⟨ps,e,⟨A,c,rfl,h1,h2,hr C hC⟩,fun p hpm=>?_⟩;obtain⟨ips,e1,hi⟩:=hp p hpm;exact⟨hi.shape e1,by rw[<-e1];exact hi.its hC⟩
theorem Kj.below {B:Nat} {w w':World} {v:Value} {l:List Stp} (h:Kj B w v l) (hb:Below B w w'):Kj B w' v l:=by obtain⟨ps,e,⟨A,c,e1,e2,e3,hr⟩,hp⟩:=h;exact⟨ps,e,⟨A,c,e1,e2,e3,hr.below hb⟩,fun p h=>⟨(hp p h).1,(hp p h).2.below hb⟩⟩
theorem Kj.more {B B':Nat} {w:World} {v:Value} {l:List Stp} (h:Kj B w v l) (hb:B<=B'):Kj B' w v l:=by obtain⟨ps,e,⟨A,c,e1,e2,e3,hr⟩,hp⟩:=h;exact⟨ps,e,⟨A,c,e1,e2,e3,hr.more hb⟩,fun p h=>⟨(hp p h).1,(hp p h).2.more hb⟩⟩
theorem JK.nil (ty:TypeId) (lo:Nat) (w:World):JK ty lo w (.slice none 0 0) []:=⟨[],rfl,World.ownsRow_nil _ _ _ _,fun p h=>by cases h⟩
theorem JK.ext {ty:TypeId} {lo:Nat} {w w':World} {v:Value} {l:List Stp} (h:JK ty lo w v l) (hx:Ext w w'):JK ty lo w' v l:=by obtain⟨ps,e,ho,hp⟩:=h;refine⟨ps,e,ZC ho fun q hq=>Below.block hx q (QZ ho q hq).2,fun p hpm=>?_⟩;obtain⟨ips,e1,hi⟩:=hp p hpm;exact⟨ips,e1,hi.trans (Ql.of_ext hx) fun _ _ h=>h⟩
theorem JK.push {ty:TypeId} {lo:Nat} {w w':World} {v v':Value} {l:List Stp} {s:Stp} {u:Value} {ps:List (Stp×Value)} {ips:List (It×Value)} (hlo:lo<=w.heap.size) (e:ps.map (·.1)=l) (hp:∀ p∈ps,∃ ips,ips.map (·.1)=p.1.2.1/\Gc (OwnL lo v) w p.2 ips) (hu:ips.map (·.1)=s.2.1) (hs:Gc (OwnL lo v) w u ips) (ho:w'.ownsRow lo ty 3 v' (l.length+1) (jR ps++[.int .i64 (s.1:Int),u,.int .i64 (s.2.2:Int)])) (hg:w.grownBy w' v.ownBlock) (hat:v'.ownBlock=v.ownBlock\/∃ g,v'.ownBlock=some g/\w.heap.size<=g):JK ty lo w' v' (l++[s]):=by
 have hk:Ql (OwnL lo v) w w':=Ql.of_heap fun q hq hX=>hg.block q hq fun e=>hX (.inl e.symm);have hy:∀ q,q<w.heap.size->OwnL lo v' q->OwnL lo v q:=fun q hq hx=>by
  rcases hx with hx|hx
  ·rcases hat with e1|⟨g,e1,e2⟩
   ·left;rw[<-e1];exact hx
   ·rw[e1] at hx;cases hx;omega
  ·exact .inr hx
 refine⟨ps++[(s,u)],by simp[e],?_,fun p hpm=>?_⟩
 ·rw[List.length_append,List.length_singleton,qfI];exact ho
 ·rcases List.mem_append.1 hpm with hpm|hpm
  ·obtain⟨ips',e1,hi⟩:=hp p hpm;exact⟨ips',e1,hi.trans hk hy⟩
  ·obtain rfl:p=(s,u):=by simpa using hpm
   exact⟨ips,hu,hs.trans hk hy⟩
theorem je.toE {lo:Nat} {w:World} {v:Value} {xs:List It} (h:je lo w v xs) {X:Nat->Prop} (hX:∀ q,lo<=q->¬X q):∃ ips,ips.map (·.1)=xs/\Gc X w v ips:=by
 obtain⟨ps,e1,⟨A,c,e2,e3,e4,hr⟩,hp,hf,hg⟩:=h;have el:xs.length=ps.length:=by rw[<-e1,List.length_map]
 rw[el] at e2 e3 hr;refine⟨ps,e1,⟨A,c,e2,e3,e4,fun C hC=>hr.keepFrom zO (fun a ha=>hf a _ _ (by rw[e2,ha])) hC hX⟩,fun p hpm=>⟨(hp p hpm).1,fun C hC=>?_⟩⟩;obtain⟨A',c',f1,f2,f3,f4⟩:=(hp p hpm).2;exact⟨A',c',f1,f2,f3,f4.keepFrom zO (fun a ha=>hg p hpm a _ _ (by rw[f1,ha])) hC hX⟩
theorem je.keepX {X:Nat->Prop} {w C:World} {lo:Nat} {v:Value} {xs:List It} (h:je lo w v xs) (hk:Ql X w C) (hX:∀ q,lo<=q->¬X q):Its C C.heap.size v xs:=by obtain⟨ips,rfl,hi⟩:=h.toE hX;exact hi.its hk
def Zb (xs:List It) (k:K3):Nat:=if Yb xs k=true then qD xs k else qD xs k-1
theorem UU (S:Sto) (k:K3) (xs:List It):kJ S k 0 xs=[(0,xs,qD xs k)]:=rfl
theorem Xs {S:Sto} {k:K3} {h:Nat} {xs zs:List It} {y:It} {l:Int} (hy:xs[Zb xs k]?=some y) (hn:qu S y.r.toNat=some (l,zs)):kJ S k (h+1) xs=(h+1,xs,Zb xs k) :: kJ S k h zs:=by
 show (h+1,xs,Zb xs k) :: (match xs[Zb xs k]? with
  |none=>[]
  |some y=>match qu S y.r.toNat with
   |none=>[]
   |some (_,ys)=>kJ S k h ys)=_
 rw[hy];simp only;rw[hn]
theorem jQ {xs:List It} {k:K3} (h:0<xs.length):Zb xs k<xs.length:=by
 unfold Zb;have:=JD xs k;split
 ·rename_i hi;by_cases hl:qD xs k<xs.length
  ·exact hl
  ·rw[XA hl] at hi;cases hi
 ·omega
theorem Uu {h:Nat} {xs:List It} (hm:Qn (h:Int) xs=true) (h1:0<h):0<xs.length:=by
 rcases Nat.eq_zero_or_pos xs.length with h0|h0
 ·exfalso;have hhd:Jq (h:Int) xs.length=true:=by unfold Qn at hm;simp only[Bool.and_eq_true] at hm;exact hm.1
  unfold Jq at hhd;simp only[decide_eq_true_eq] at hhd;exact hhd.2.2.2 zO h0
 ·exact h0
theorem UT {S:Sto} {k:K3}:∀ (h:Nat) {xs:List It},Qn (h:Int) xs=true->(qG S h xs).isSome=true->(kJ S k h xs).length=h+1
 |0,xs,_,_=>rfl
 |h+1,xs,hm,hs=>by have hx:=Uu hm zO;obtain⟨b,e1,-,-,zs,e4,e5⟩:=ZM (ZP hs _ (List.getElem_mem (jQ (k:=k) hx)));rw[Xs (zL (jQ hx)) (by rw[e1,Int.toNat_natCast];exact e4),List.length_cons,UT h (qQ e4).1 e5]
theorem qcY {P:Program} (w:World) (dT sT ty elem:TypeId) (g o dLen dCap:Nat) (a:Addr) (sLen sCap:Nat) (cur:Array Value) (t:TypeId) (cs:List Value) (k:Nat) (hu:P.underlying dT=some (.slice elem)) (hs:(P.info? elem).map (·.size)=some k) (hg:w.heap[g]?=some (.cells cur t (0,0))) (hn:cs.length=Nat.min sLen dLen*k) (hXE:∀ j v,cs[j]?=some v->w.cell? (a.add j)=some v) (hVB:o+cs.length<=cur.size) (h1:∀ v∈cs,v.oneCell'=true) : (Builtin.copy_ #[dT,sT] ty #[.slice (some ⟨g,o,none⟩) dLen dCap,.slice (some a) sLen sCap]).run P w =
   .ok (.int .i64 (Nat.min sLen dLen:Nat)) (w.setRow g (cur.toList.take o++cs++cur.toList.drop (o+cs.length)).toArray):=by
 have hl:=run_loadCells_list (P:=P) w a cs hXE;have hst:=run_storeCells_at P g o t cs 0 cur w hg (by simpa using hVB) h1;cases hq:P.info? elem with
 |none=>simp[hq] at hs
 |some i =>
  have hi:i.size=k:=by simpa [hq] using hs
  have hn':min sLen dLen*k=cs.length:=hn.symm;simp[Builtin.copy_,run_underlying hu,Builtin.lenOf,Builtin.firstCells,sizeOf,typeInfo,hq,hi,hn',hl,hst];rfl
theorem take_mid {A V R:List Value} {a b:Nat} (h:A.length+V.length=a+b):(A++V++R).take (a+b)=A++V:=by rw[<-h,<-List.length_append];exact List.take_left
structure RowI (g cap n:Nat) (xs:List Value) (w:World):Prop where
 ex:∃ cur:Array Value,w.heap[g]?=some (.cells cur 51 (0,0))/\cur.size=cap*5/\cur.toList.take (n*5)=xs
theorem RowI.own {lo g cap n:Nat} {xs:List Value} {w:World} (h:RowI g cap n xs w) (hl:xs.length=n*5) (hlo:lo<=g) (hn:n<=cap) (hc:cap<=maxLen):w.ownsRow lo 51 5 (.slice (some ⟨g,0,none⟩) n cap) n xs:=by obtain⟨cur,h1,h2,h3⟩:=h.ex;exact⟨hl,.inr ⟨g,cap,cur,rfl,hlo,h1,hn,hc,h2,h3⟩⟩
def spl (cur:Array Value) (o:Nat) (cs:List Value):Array Value:=(cur.toList.take (o*5)++cs++cur.toList.drop (o*5+cs.length)).toArray
theorem zh {cur:Array Value} {o k:Nat} {cs:List Value} (hl:cs.length=k*5) (h:(o+k)*5<=cur.size):(spl cur o cs).size=cur.size:=by unfold spl;simp only[List.size_toArray,List.length_append,List.length_take,List.length_drop,Array.length_toList];omega
theorem Jy {P:Program} {W:World} {g o k:Nat} {cur:Array Value} {cs:List Value} {dT sT ty:TypeId} {dLen dCap:Nat} {a:Addr} {sLen sCap:Nat} (hg:W.heap[g]?=some (.cells cur 51 (0,0))) (hl:cs.length=k*5) (h:(o+k)*5<=cur.size) (hu:P.underlying dT=some (.slice 51)) (hs:(P.info? 51).map (·.size)=some 5) (hk:Nat.min sLen dLen=k) (hXE:∀ j v,cs[j]?=some v->W.cell? (a.add j)=some v) (h1:∀ v∈cs,v.oneCell'=true) : (Builtin.copy_ #[dT,sT] ty #[.slice (some ⟨g,o*5,none⟩) dLen dCap,.slice (some a) sLen sCap]).run P W=.ok (.int .i64 (k:Nat)) (W.setRow g (spl cur o cs)):=by
 have:=qcY (P:=P) W dT sT ty 51 g (o*5) dLen dCap a sLen sCap cur 51 cs 5 hu hs hg (by rw[hk,hl]) hXE zO h1;rw[hk] at this;exact this
theorem XL {cur:Array Value} {o k:Nat} {A cs:List Value} (hA:cur.toList.take (o*5)=A) (hl:cs.length=k*5) (h:(o+k)*5<=cur.size):(spl cur o cs).toList.take ((o+k)*5)=A++cs:=by
 unfold spl;rw[List.toList_toArray,hA,Nat.add_mul];have:A.length=o*5:=by rw[<-hA,List.length_take,Array.length_toList];omega
 exact take_mid zO
theorem qkB {cur:Array Value} {n i m:Nat} {xs vs:List Value} (hc:cur.toList.take (n*5)=xs) (hx:xs.length=n*5) (hv:vs.length=m*5) (hi:i<=n) (h:(n+m)*5<=cur.size) : (spl (spl cur (i+m) (xs.drop (i*5))) i vs).toList.take ((n+m)*5)=xs.take (i*5)++vs++xs.drop (i*5):=by
 have hd:(xs.drop (i*5)).length=(n-i)*5:=by rw[List.length_drop];omega
 have e1:(spl cur (i+m) (xs.drop (i*5))).toList=cur.toList.take ((i+m)*5)++xs.drop (i*5)++cur.toList.drop ((i+m)*5+(xs.drop (i*5)).length):=by unfold spl;rw[List.toList_toArray]
 have hl1:(cur.toList.take ((i+m)*5)).length=(i+m)*5:=by rw[List.length_take,Array.length_toList];omega
 have e2:(spl cur (i+m) (xs.drop (i*5))).toList.take (i*5)=xs.take (i*5):=by rw[e1,List.append_assoc,List.take_append_of_le_length zO,List.take_take,Nat.min_eq_left zO,<-hc,List.take_take,Nat.min_eq_left zO]
 have e3:(spl cur (i+m) (xs.drop (i*5))).toList.drop (i*5+vs.length)=xs.drop (i*5)++cur.toList.drop ((i+m)*5+(xs.drop (i*5)).length):=by rw[e1,List.append_assoc];have:i*5+vs.length=(cur.toList.take ((i+m)*5)).length:=zO;rw[this];exact List.drop_left
 generalize hY:spl cur (i+m) (xs.drop (i*5))=Y at *;unfold spl;rw[List.toList_toArray,e2,e3,<-List.append_assoc];have ht:(xs.take (i*5)).length=i*5:=by rw[List.length_take];omega
 have:(n+m)*5=(xs.take (i*5)++vs++xs.drop (i*5)).length:=by simp only[List.length_append];omega
 rw[this];exact List.take_left
set_option maxRecDepth 100000 in
theorem qgg (A n c) (us:List Value) (hn:n<1073741824) (h1:∀ u∈us,u.oneCell'=true) (w:World) (hr:Rd w w.heap.size 5 A n us):Calls prog 115 #[.slice A n c] w (zF (fun u w'=>w'.ownsRow w.heap.size 51 5 u n us) w):=by
 obtain⟨i0,hi,hz0,hz1,hz2⟩:=info_parts Tryz.info_item;have qn:∀ (w:World) (a:OA) (n c n' c':Nat),(binOp .eql 55 (.slice a n c) (.slice none n' c')).run prog w=.ok (.bool a.isNone) w:=fun w a n c n' c'=>Lib.run_eql_slice_nil w _ _ a n c n' c' underlying55;rcases A with _|⟨b,off,p⟩
 ·have h0:n=0:=by
   rcases Nat.eq_zero_or_pos n with h|h
   ·exact h
   ·obtain⟨b,off,h,_⟩:=hr.2 h;cases h
  subst h0;obtain rfl:us=[]:=List.eq_nil_of_length_eq_zero (by simpa using hr.1);go_enter func115,ntmps115;go_wp2;go_ret;exact⟨_,rfl,World.ownsRow_nil _ _ _ _,Below.refl _ _⟩
 ·go_enter func115,ntmps115;go_wp2_with (at_builtin;refine Qg ?_);refine QI.go (QF _ rfl (.tmp 5) (.tmp 6) 55 rfl w.heap.size 51 i0 _ 5 48 underlying55 hi hz0 hz1 hz2 rfl zD _ 0 [] rfl ?_ w.heap.size _ n c us zE ?_ h1 zO zD zA2 ?_)
  ·exact World.ownsRow_lit w #[] 0 (zM _) (by simp[maxLen]) rfl
  ·exact hr.keep fun p hp=>World.cell?_alloc_lt w _ p hp
  ·intro v' w' hBQ _ hb _;simp only[Nat.zero_add,List.nil_append] at hBQ;go_wp2;go_ret;exact⟨_,rfl,hBQ,Below.trans ((Below.refl _ _).alloc (zM _) _) hb⟩
def YQ (lo:Nat) (s:Value) (k:Nat) (ys:List Value) (w:World) (e:Ending) (W:World):Prop:=∃ v',e=.returned v'/\W.ownsRow lo 51 5 v' k ys/\Below lo w W/\∀ q,q<w.heap.size->s.ownBlock≠some q->W.heap[q]?=w.heap[q]?
theorem Zj {lo g:Nat} {w W:World} (h:Below lo w W) (hlo:lo<=w.heap.size) (hg:lo<=g) (cur:Array Value):Below lo w (W.setRow g cur):=
 h.grown (Yv W g cur) (by have:=h.size;omega) (fun k hk=>by cases hk;exact hg)
theorem qfq {w:World} {lo m c g:Nat} {e:TypeId} {vs:List Value} (h:w.ownsRow lo e 5 (.slice (some ⟨g,0,none⟩) m c) m vs):∀ j u,vs[j]?=some u->w.cell? ((⟨g,0,none⟩:Addr).add j)=some u:=fun j u hu=>by
 rcases h.2 with ⟨h0,_⟩|⟨g',cap,cur,hv,hb,hg,hnc,_,hsz,htk⟩
 ·cases h0
 ·cases hv;rw[Addr.add_lit,Nat.zero_add,qa hg,<-Array.getElem?_toList];rw[<-htk,List.getElem?_take] at hu;split at hu
  ·exact hu
  ·cases hu
theorem GQ (ps:List (It×Value)):∀ k,Qd (ps.drop k)=(Qd ps).drop (k*5):=by
 induction ps with
 |nil=>intro k;simp[Qd]
 |cons p r ih =>
  intro k;rcases k with _|k
  ·simp[Qd]
  ·rw[List.drop_succ_cons,show (k+1)*5=k*5+1+1+1+1+1 by omega];simp only[Qd,List.drop_succ_cons,ih k]
theorem qbb (ps:List (It×Value)) (h:∀ p∈ps,p.2.oneCell'=true):∀ u∈Qd ps,u.oneCell'=true:=by
 induction ps with
 |nil=>intro u hu;cases hu
 |cons p r ih =>
  intro u hu;simp only[Qd,List.mem_cons] at hu;rcases hu with rfl|rfl|rfl|rfl|rfl|hu
  ·rfl
  ·rfl
  ·rfl
  ·rfl
  ·exact h p List.mem_cons_self
  ·exact ih (fun q hq=>h q (List.mem_cons_of_mem _ hq)) u hu
theorem Its.take {w:World} {B b off n c:Nat} {xs:List It} (h:Its w B (.slice (some ⟨b,off,none⟩) n c) xs) {k:Nat} (hk:k<=xs.length):Its w B (.slice (some ⟨b,off,none⟩) k c) (xs.take k):=by
 obtain⟨ps,rfl,⟨A,c',e,h1,h2,hr⟩,hp⟩:=h;cases e;have hk':k<=ps.length:=by simpa using hk
 refine⟨ps.take k,by rw[List.map_take],⟨_,c,by rw[List.length_take,Nat.min_eq_left hk],by rw[List.length_take];omega,h2,?_⟩,fun p hpm=>hp p (List.mem_of_mem_take hpm)⟩;rw[List.length_take,Nat.min_eq_left hk];rw[<-GR];refine⟨by rw[List.length_take,hr.1,List.length_map];omega,fun hn=>?_⟩;obtain⟨b',off',e,hb,hc⟩:=hr.2 zO;exact⟨b',off',e,hb,fun j u hu=>hc j u (by rw[List.getElem?_take] at hu;split at hu;exact hu;cases hu)⟩
theorem Its.drop {w:World} {B b off n c:Nat} {xs:List It} (h:Its w B (.slice (some ⟨b,off,none⟩) n c) xs) {k:Nat} (hk:k<xs.length):Its w B (.slice (some ⟨b,off+k*5,none⟩) (n-k) (c-k)) (xs.drop k):=by
 obtain⟨ps,rfl,⟨A,c',e,h1,h2,hr⟩,hp⟩:=h;cases e;have hk':k<ps.length:=by simpa using hk
 refine⟨ps.drop k,by rw[List.map_drop],⟨_,c-k,by rw[List.length_drop],by rw[List.length_drop];omega,zO,?_⟩,fun p hpm=>hp p (List.mem_of_mem_drop hpm)⟩;rw[List.length_drop,GQ];refine⟨by rw[List.length_drop,hr.1,List.length_map];omega,fun hn=>?_⟩;obtain⟨b',off',e,hb,hc⟩:=hr.2 zO;cases e;exact⟨b,off+k*5,rfl,hb,fun j u hu=>by rw[List.getElem?_drop] at hu;rw[Nat.add_assoc];exact hc _ _ hu⟩
theorem kL.take {X:Nat->Prop} {w:World} {b off n c:Nat} {xs:List It} (h:kL X w (.slice (some ⟨b,off,none⟩) n c) xs) {k:Nat} (hk:k<=xs.length):kL X w (.slice (some ⟨b,off,none⟩) k c) (xs.take k):=fun C hC=>(h C hC).take hk
theorem kL.drop {X:Nat->Prop} {w:World} {b off n c:Nat} {xs:List It} (h:kL X w (.slice (some ⟨b,off,none⟩) n c) xs) {k:Nat} (hk:k<xs.length):kL X w (.slice (some ⟨b,off+k*5,none⟩) (n-k) (c-k)) (xs.drop k):=fun C hC=>(h C hC).drop hk
theorem Bch.notB3 {D:Nat->Prop} {B lo b g:Nat} {k:Option Nat} {S:Sto} {w:World} (h:Bch D B lo b g k S w) {q:Nat} {cs:Array Value} {ty:TypeId} {fr:Nat×Nat} (hr:w.heap[q]?=some (.cells cs ty fr)) (h1:ty≠223) (h2:ty≠5) (h3:ty≠142):¬B3 b g k q:=fun hx=>by
 obtain⟨A1,n1,c1,v2,c3,A4,c4,hro,ho,⟨ps,_,hw,_⟩,_,_⟩:=h.ex;rcases hx with e|e|e
 ·subst e;rw[hr] at hro;simp only[Option.some.injEq,Obj.cells.injEq] at hro;exact h1 hro.2.1
 ·subst e;obtain⟨cur,hg⟩:=jr ho (q:=q) rfl;rw[hr] at hg;simp only[Option.some.injEq,Obj.cells.injEq] at hg;exact h2 hg.2.1
 ·rcases hw with ⟨e1,_⟩|⟨q',e1,e2,how⟩
  ·rw[e1] at e;cases e
  ·rw[e1] at e;cases e;obtain⟨cur,hg⟩:=jr how e2;rw[hr] at hg;simp only[Option.some.injEq,Obj.cells.injEq] at hg;exact h3 hg.2.1
def upV (ups:List It):List (It×Value):=ups.map fun x=>(x,.slice none 0 0)
theorem upV_item (ups:List It) (x:It):Qd (upV (ups++[x]))=Qd (upV ups)++[.int .u8 x.k,.int .u32 x.i,.int .u32 x.o,.int .i64 x.r,.slice none 0 0]:=by unfold upV;rw[List.map_append,vQ];rfl
theorem qiu {t:List UInt8} {a:Nat} {e:Int} (h:vt t a=.error e):e≠0:=by
 unfold vt at h;split at h
 ·cases h
 ·split at h
  ·cases h;decide
  ·split at h
   ·cases h;decide
   ·cases h
theorem qcj:∀ {l:List Nat} {t:List UInt8} {e:Int},ZO l t=.error e->e≠0
 | [],t,e,h=>by cases h
 |a :: l,t,e,h=>by
  simp only[ZO] at h;split at h
  ·rename_i e' h';cases h;exact qiu h'
  ·exact qcj h
theorem XD {S:Sto} {lvl:Int} {its:List It} {e:Int} (h:ZE S lvl its=.error e):e≠0:=by
 unfold ZE at h;split at h
 ·split at h
  ·rename_i e' h';cases h;exact qcj h'
  ·split at h
   ·cases h;decide
   ·cases h
 ·cases h;decide
theorem Yg (lvl:Int):∀ (ps qs:List (List It)) (S:Sto),makeL lvl (ps++qs) S=match makeL lvl ps S with
  | .error e=>.error e
  | .ok (up,S')=>match makeL lvl qs S' with
   | .error e=>.error e
   | .ok (up',S'')=>.ok (up++up',S'')
 | [],qs,S=>by simp only[List.nil_append,makeL];rcases makeL lvl qs S with e|⟨up,S'⟩ <;> rfl
 |p :: ps,qs,S=>by
  simp only[List.cons_append,makeL];rcases ZE S lvl p with e|⟨f,S'⟩
  ·rfl
  ·simp only;rw[Yg lvl ps qs S'];rcases makeL lvl ps S' with e|⟨up,S''⟩
   ·rfl
   ·simp only;rcases makeL lvl qs S'' with e|⟨up',S3⟩ <;> rfl
theorem qkh (lvl:Int) (p:List It) (S:Sto):makeL lvl [p] S=match ZE S lvl p with
  | .error e=>.error e
  | .ok (f,S')=>.ok ([Gs (VR p) f],S'):=by
 simp only[makeL] <;> (rcases ZE S lvl p with e|⟨f,S'⟩ <;> rfl)
theorem qkg {lvl:Int} {ps:List (List It)} {j:Nat} (hj:j<ps.length) {S S':Sto} {up:List It} {e:Int} (h:makeL lvl (ps.take j) S=.ok (up,S')) (h1:ZE S' lvl ps[j]=.error e):makeL lvl ps S=.error e:=by
 have:ps=ps.take j++(ps[j] :: ps.drop (j+1)):=by rw[<-List.drop_eq_getElem_cons hj,List.take_append_drop]
 rw[this,Yg,h];simp only[makeL];rw[h1]
theorem qib {lvl:Int} {ps:List (List It)} {j:Nat} (hj:j<ps.length) {S S' S'':Sto} {up:List It} {f:Nat} (h:makeL lvl (ps.take j) S=.ok (up,S')) (h1:ZE S' lvl ps[j]=.ok (f,S'')):makeL lvl (ps.take (j+1)) S=.ok (up++[Gs (VR ps[j]) f],S''):=by rw[List.take_succ_eq_append_getElem hj,Yg,h];simp only;rw[qkh,h1]
theorem qia {its:List It} (k:Nat):qE its=qE (its.take k)++qE (its.drop k):=by unfold qE;rw[<-List.map_append,List.take_append_drop]
theorem qbz {its:List It} {k:Nat} (hk:k<its.length) {t t':List UInt8} (h:looseL (qE (its.take k)) t=.ok t') (h0:its[k].r.toNat≠0) (h1:qL t' its[k].r.toNat=0):looseL (qE its) t=.error 6:=by rw[qia (its:=its) k,JA,h];simp only;rw[List.drop_eq_getElem_cons hk];exact Jd h0 h1 _
theorem qaf {its:List It} {k:Nat} (hk:k<its.length) {t t':List UInt8} (h:looseL (qE (its.take k)) t=.ok t') (h0:its[k].r.toNat≠0) (h1:qL t' its[k].r.toNat≠0):looseL (qE (its.take (k+1))) t=.ok (ju t' its[k].r.toNat):=by rw[Kf hk,JA,h];simp only;rw[jB h0 h1];rfl
theorem qag {its:List It} {k:Nat} (hk:k<its.length) {t t':List UInt8} (h:looseL (qE (its.take k)) t=.ok t') (h0:its[k].r.toNat=0):looseL (qE (its.take (k+1))) t=.ok t':=by rw[Kf hk,JA,h];simp only;rw[h0,jC];rfl
structure SM (S S':Sto):Prop where
 node:∀ r nd,qu S r=some nd->qu S' r=some nd
 pos:∀ r:Nat,0<(S.now[r]?.getD 0).toNat->0<(S'.now[r]?.getD 0).toNat
theorem TE {one one':It->Option (K3×K3)} (h:∀ y p,one y=some p->one' y=some p):∀ (xs:List It) (a:Option (Option (K3×K3))) (q:Option (K3×K3)),xs.foldl (jV one) a=some q->xs.foldl (jV one') a=some q
 | [],_,_,e=>e
 |x :: r,a,q,e=>by
  simp only[List.foldl_cons] at e ⊢;have hs:=(Gk one r (jV one a x) (by rw[e];rfl)).1;have e2:jV one' a x=jV one a x:=by
   unfold jV at hs ⊢;rcases a with _|a
   ·rfl
   ·rcases hx:one x with _|p
    ·rw[hx] at hs;cases hs
    ·rw[h x p hx]
  rw[e2];exact TE h r _ q e
section
variable {S S':Sto}
theorem SM.one (hm:SM S S'):∀ (h:Nat) (y:It) (p:K3×K3),jv S h y=some p->jv S' h y=some p
 |0,y,p,e=>by
  unfold jv at e ⊢;split at e
  ·rename_i hc;rw[if_pos (hc.imp id (hm.pos _))];exact e
  ·cases e
 |h+1,y,p,e=>by
  rw[JV] at e ⊢;unfold vI at e ⊢;split at e
  ·rename_i hr;rw[if_pos hr];rcases hn:qu S y.r.toNat with _|⟨lvl,xs⟩
   ·rw[hn] at e;cases e
   ·rw[hn] at e;rw[hm.node _ _ hn];simp only at e ⊢;split at e
    ·rename_i hl;rw[if_pos hl];rcases hs:qG S h xs with _|q
     ·rw[hs] at e;cases e
     ·rw[hs] at e;have h2:qG S' h xs=some q:=TE (SM.one hm h) xs _ q hs;rw[h2];exact e
    ·cases e
  ·cases e
theorem SM.span (hm:SM S S') {h:Nat} {xs:List It} {q:Option (K3×K3)} (e:qG S h xs=some q):qG S' h xs=some q:=TE (hm.one h) xs _ q e
theorem SM.spanOk (hm:SM S S') {h:Nat} {xs:List It} (e:(qG S h xs).isSome=true):(qG S' h xs).isSome=true:=by obtain⟨q,hq⟩:=Option.isSome_iff_exists.1 e;rw[hm.span hq];rfl
theorem SM.okL (hm:SM S S') {L r:Int} (e:okL S L r=true):okL S' L r=true:=by
 unfold Go.Proofs.YtmeadnlmepcmbaaGreat.okL at e ⊢;split at e
 ·rename_i hr;rw[if_pos hr];rcases hn:qu S r.toNat with _|⟨lvl,xs⟩
  ·rw[hn] at e;cases e
  ·rw[hn] at e;rw[hm.node _ _ hn];simp only[Bool.and_eq_true] at e ⊢;exact⟨hm.spanOk e.1,e.2⟩
 ·cases e
theorem SM.items (hm:SM S S'):∀ (h:Nat) (xs:List It),(qG S h xs).isSome=true->qI S' h xs=qI S h xs
 |0,_,_=>rfl
 |h+1,xs,e=>by unfold qI;rw[List.flatMap_def,List.flatMap_def];congr 1;refine List.map_congr_left fun y hy=>?_;obtain⟨b,hb,_,_,ys,hn,hs⟩:=ZM (ZP e y hy);rw[hb,Int.toNat_natCast,hm.node _ _ hn,hn];exact SM.items hm h ys hs
theorem Qo.trees {root next:Int} {dead:List Int} {vs:List Vol} (h:Qo S root next dead vs):∀ a,a∈Qj root dead vs->ZX S a:=fun a ha=>by obtain⟨r,hr,rfl⟩:=List.mem_map.1 ha;obtain⟨n,rfl,hn⟩:=vn (h.ok r hr);exact hn
end
theorem ints_at (l:List Nat) {k:Nat} (hk:k<l.length):(Js l)[k]?=some (.int .i64 (l[k]:Int)):=by unfold Js;rw[List.getElem?_map,zL hk];rfl
def IxP (l:List Nat) (x:Nat) (u:Value):Prop:=(x∈l/\∃ j:Nat,j<l.length/\u=.int .i64 (j:Int))\/(x∉l/\u=.int .i64 (-1))
theorem ix_ret {R:Ending->World->Prop} {a:Act} {W:World} {u:Value} (h4:a.tmps[4]?.getD undef=u) (hd:a.defers=[]) (hR:R (.returned u) W):bodyPost prog Tryz.f184 R .ret a W:=by refine bodyPost_ret (v:=u) ?_ hd hR;simp[results,results184,go_sem,h4]
set_option maxRecDepth 100000 in
theorem qjY (A c) (l:List Nat) (hl:l.length<=1000000) (x:Nat) (w:World) (h:Rd w w.heap.size 1 A l.length (Js l)):Calls prog 184 #[.slice A l.length c,.int .i64 (x:Int)] w (fun e W=>∃ u,e=.returned u/\IxP l x u/\W=w):=by
 replace h:=zH h;go_enter func184,ntmps184;go_wp2_with fail;go_loopw [8] (fun i wr=>∃ k:Nat,k<=l.length/\i=.int .i64 (k:Int)/\wr=w/\∀ j (hj:j<l.length),j<k->l[j]≠x) (fun i _=>l.length-(intOf i).toNat)
 case atStart=>exact⟨0,Nat.zero_le _,rfl,rfl,fun j _ hj=>absurd hj (Nat.not_lt_zero _)⟩
 case round =>
  obtain⟨k,hk,rfl,rfl,hno⟩:=hrel;replace hno:=zH hno;by_cases hlt:k<l.length
  ·obtain⟨b,o,rfl,hb,hBX⟩:=h.out.2 zO;have hc:=hBX k _ (ints_at l hlt);have HNO:=zH (fun (he:l[k]≠x) j (hj:j<l.length) (hjk:j<k+1)=>by
    rcases Nat.lt_or_ge j k with h1|h1
    ·exact hno.out j hj h1
    ·obtain rfl:j=k:=zO;exact he)
   have HY:=zH (fun (he:l[k]=x)=>(⟨he ▸ List.getElem_mem hlt,k,hlt,rfl⟩:x∈l/\∃ j:Nat,j<l.length/\(Value.int .i64 (k:Int))=.int .i64 (j:Int)));have hw:=zH (IntWalk.wrap64_in ((k:Int)+1) zO);generalize l[k]=y at *;clear hBX;by_cases he:y=x
   ·have z1:((x:Int) == (y:Int))=true:=by rw[beq_iff_eq];omega
    have hQ:=zH (HY.out he);clear HNO HY;replace he:=zH he;go_wp2_with fail;exact ix_ret rfl rfl ⟨_,rfl,.inl hQ.out,rfl⟩
   ·have z1:((x:Int) == (y:Int))=false:=by rw[beq_eq_false_iff_ne];omega
    have hQ:=zH (HNO.out he);clear HNO HY;replace he:=zH he;have hw':=hw.out;go_wp2_with fail;refine⟨⟨k+1,hlt,rfl,trivial,fun j hj hjk=>hQ.out j hj hjk⟩,?_⟩;simp[intOf];omega
  ·obtain rfl:k=l.length:=zO;have hQ:x∉l:=fun hx=>by obtain⟨j,hj,e⟩:=List.mem_iff_getElem.1 hx;exact hno.out j hj hj e
   replace hQ:=zH hQ;go_wp2_with fail;exact ix_ret rfl rfl ⟨_,rfl,.inr ⟨hQ.out,rfl⟩,rfl⟩
set_option maxRecDepth 100000 in
theorem has_any (A c) (l:List Nat) (hl:l.length<=1000000) (x:Nat) (w:World) (h:Rd w w.heap.size 1 A l.length (Js l)):Calls prog 143 #[.slice A l.length c,.int .i64 (x:Int)] w (fun e W=>e=.returned (.bool (decide (x∈l)))/\W=w):=by
 have HI:=zH (qjY A c l hl x w h);clear h;go_enter func143,ntmps143;go_wp2_with fail;refine HI.out.mono ?_;clear HI;rintro e W ⟨u,rfl,hu,rfl⟩;rcases hu with ⟨h1,j,hj,rfl⟩|⟨h1,rfl⟩
 ·have z1:decide ((j:Int)≥0)=true:=decide_eq_true zO;replace h1:=zH h1;go_wp2_with fail;go_ret;exact⟨by rw[decide_eq_true h1.out];rfl,rfl⟩
 ·replace h1:=zH h1;go_wp2_with fail;go_ret;exact⟨by rw[decide_eq_false h1.out];rfl,rfl⟩
def qes (S:Sto) (refs:Nat->Nat):Bool:=(List.range 256).all fun a=>decide (refs a<=(S.now[a]?.getD 0).toNat)
theorem qfW (S:Sto) (refs:Nat->Nat):qes S refs=true↔QB S refs:=by unfold qes QB;rw[List.all_eq_true];exact⟨fun h a ha=>of_decide_eq_true (h a (List.mem_range.2 ha)),fun h a ha=>decide_eq_true (h a (List.mem_range.1 ha))⟩
theorem Qo.same {S:Sto} {root next:Int} {dead:List Int} {vs vs':List Vol} (h:Qo S root next dead vs) (h':Qo S root next dead vs'):vs=vs':=by have:=h.vols;rw[h'.vols] at this;cases this;rfl
def QX (S:Sto) (refs nodes:Nat->Nat) (a:Int) (held:Bool):Int:=if 8<=a/\a<256 then (if Zo S a.toNat=0\/0<nodes a.toNat\/(held=true/\Zo S a.toNat<=refs a.toNat) then 6 else 0) else 2
theorem qjO {S:Sto} {refs nodes:Nat->Nat} {a:Int} (h:¬(8<=a/\a<256)) (held:Bool):QX S refs nodes a held=2:=by unfold QX;rw[if_neg h]
theorem dataE_in (S:Sto) (refs nodes:Nat->Nat) {a:Nat} (h8:8<=a) (h:a<256) (held:Bool):QX S refs nodes (a:Int) held=if Zo S a=0\/0<nodes a\/(held=true/\Zo S a<=refs a) then 6 else 0:=by unfold QX;rw[if_pos zO,Int.toNat_natCast]
theorem mem_met {nodes:Nat->Nat} {a:Nat} (h:a<256):a∈VU nodes 256↔0<nodes a:=by unfold VU;simp[h]
def DataQ (S:Sto) (root next:Int) (dead:List Int) (a:Int) (held:Bool) (w:World) (e:Ending) (w':World):Prop:=Below w.heap.size w w' /\
 ((e=.returned (.int .i64 8)/\∀ vs,Qo S root next dead vs->∃ refs nodes,qY S (Qj root dead vs) refs nodes/\¬QB S refs) \/
  ∃ vs refs nodes,Qo S root next dead vs/\qY S (Qj root dead vs) refs nodes/\QB S refs/\e=.returned (.int .i64 (QX S refs nodes a held)))
theorem vZ {R:Ending->World->Prop} {a:Act} {W:World} {u:Value} (h6:a.tmps[6]?.getD undef=u) (hd:a.defers=[]) (hR:R (.returned u) W):bodyPost prog Tryz.f83 R .ret a W:=by refine bodyPost_ret (v:=u) ?_ hd hR;simp[results,results83,go_sem,h6]
theorem GV {S:Sto} {R:List Nat} {refs refs' nodes nodes':Nat->Nat} (h:qY S R refs nodes) (h':qY S R refs' nodes'):refs=refs':=(jX.same h.mkd h'.mkd).2
set_option maxRecDepth 100000 in
theorem qbe (A1 n1 c1 A2 n2 c2 A3 n3 c3 A4 n4 c4) (gen root next:Int) (A5 c5) (S:Sto) (dead:List Int) (a:Int) (held:Bool) (w:World) (h:qZ w w.heap.size (.slice A1 n1 c1) (.slice A2 n2 c2) (.slice A3 n3 c3) (.slice A4 n4 c4) S) (hd:Zw w w.heap.size (.slice A5 dead.length c5) dead):Calls prog 83 #[.agg (qC (.slice A1 n1 c1) (.slice A2 n2 c2) (.slice A3 n3 c3) (.slice A4 n4 c4) gen root next (.slice A5 dead.length c5)),.int .i64 a,.bool held] w (DataQ S root next dead a held w):=by
 have HI:=fun W (hx:Ext w W)=>(show Zw W W.heap.size (.slice A5 dead.length c5) dead by obtain⟨A,c,e,q1,q2,q3⟩:=hd;exact⟨A,c,e,q1,q2,(q3.below hx).more hx.size⟩)
 have HR:=zH (fun W (hx:Ext w W)=>refs_any A1 n1 c1 A2 n2 c2 A3 n3 c3 A4 n4 c4 gen root next A5 c5 S dead W (h.ext hx) (HI W hx));have HN:=zH (fun W (hx:Ext w W)=>qkm A1 n1 c1 A2 n2 c2 A3 n3 c3 A4 n4 c4 gen root next A5 c5 S dead W (h.ext hx) (HI W hx));replace h:=zH h;clear hd HI;go_enter func83,ntmps83;go_wp2_with fail;generalize hw1:(World.alloc w _)=w1;have x1:Ext w w1:=by rw[<-hw1];exact zN _ _
 have rp1:w1.heap[w.heap.size]?=some (.cells (qC (.slice A1 n1 c1) (.slice A2 n2 c2) (.slice A3 n3 c3) (.slice A4 n4 c4) gen root next (.slice A5 dead.length c5)) 32 (0,0)):=by rw[<-hw1];exact zI _ _ _ rfl
 clear hw1;refine(HR.out w1 x1).mono ?_;clear HR;rintro e w2 ⟨hB,hQ⟩;have x2:Ext w w2:=Ext.trans x1 hB;have rp2:=qb rp1 hB;clear hB rp1 x1;rcases hQ with ⟨rfl,hno⟩|⟨vs,refs,nodes,cb,ca,vv,lo,rfl,hlo,hT⟩
 ·replace hno:=zH hno;go_wp2_with fail;exact vZ rfl rfl ⟨x2,.inl ⟨rfl,hno.out⟩⟩
 ·have kp2:=qa rp2;replace hT:=zH hT;go_wp2_with fail;refine(HN.out w2 x2).mono ?_;clear HN;rintro e w3 ⟨hB,hQ⟩;have x3:Ext w w3:=Ext.trans x2 hB;have rp3:=qb rp2 hB;have rc3:=qb hT.out.row hB;clear hB rp2 x2 kp2;rcases hQ with ⟨rfl,hno⟩|⟨vs',refs',nodes',v,lo',rfl,hlo',hp',hc',he',hBQ⟩
  ·obtain⟨refs',nodes',hc',hn'⟩:=hno vs hT.out.pool;exact absurd (GV hT.out.cnt hc' ▸ hT.out.enough) hn'
  ·obtain rfl:=Qo.same hT.out.pool hp';obtain rfl:=GV hT.out.cnt hc';obtain⟨An,cn,rfl,-,-⟩:=qB hBQ;by_cases hr:8<=a/\a<256
   ·obtain⟨m,hma⟩:=Int.eq_ofNat_of_zero_le (show 0<=a by omega);subst hma;have hm8:8<=m:=zO;have hNV:m<256:=zO;have hE:=dataE_in S refs nodes' hm8 hNV held;obtain⟨b,o,c,e3,hb,hBX⟩:=Gu hp'.may h.out.now;have hcn:=Ext.cell x3 (hBX m hNV);have hrf:=(qa rc3 (6+m)).trans (hT.out.ar.ref m hNV);have hQT:=mem_met (nodes:=nodes') hNV;have HH:=has_any An cn (VU nodes' 256) (Nat.le_trans (qdA _ _) zO) m w3 (Rd.of_own hBQ);cases e3;have kp3:=qa rp3;have d1:decide ((m:Int)<8)=false:=decide_eq_false zO;have d2:decide ((m:Int)≥256)=false:=decide_eq_false zO;have hQ:=fun E (hh:QX S refs nodes' (m:Int) held=E)=>(⟨x3,.inr ⟨vs,refs,nodes',hp',hc',he',by rw[hh]⟩⟩:DataQ S root next dead (m:Int) held w (.returned (.int .i64 E)) w3)
    replace hQ:=zH hQ;have hwn:=zH (IntWalk.wrap64_in (Zo S m:Int) (by have:=(S.now[m]?.getD 0).toNat_lt;unfold Zo;omega));generalize Zo S m=nw at *;generalize refs m=rf at *;clear hT hp' hc' he' hBQ hBX hr rc3;by_cases h0:nw=0
    ·have z1:((nw:Int) == 0)=true:=by rw[beq_iff_eq];omega
     have z2:decide (nw=0)=true:=decide_eq_true h0;rw[if_pos (.inl h0)] at hE;replace hE:=zH hE;replace h0:=zH h0;replace hQT:=zH hQT;have hw':=hwn.out;go_wp2_with fail;exact vZ rfl rfl (hQ.out _ hE.out)
    ·have z1:((nw:Int) == 0)=false:=by rw[beq_eq_false_iff_ne];omega
     have z2:decide (nw=0)=false:=decide_eq_false h0;by_cases hm:m∈VU nodes' 256
     ·rw[decide_eq_true hm] at HH;rw[if_pos (.inr (.inl (hQT.1 hm)))] at hE;replace hE:=zH hE;replace h0:=zH h0;replace hQT:=zH hQT;replace hm:=zH hm;have hw':=hwn.out;go_wp2_with fail;refine HH.mono ?_;rintro e w4 ⟨rfl,rfl⟩;go_wp2_with fail;exact vZ rfl rfl (hQ.out _ hE.out)
     ·rw[decide_eq_false hm] at HH;have hm':¬0<nodes' m:=fun h=>hm (hQT.2 h);replace hQT:=zH hQT;replace hm:=zH hm;cases held
      ·rw[if_neg (fun h=>by rcases h with h|h|⟨h,h'⟩;exact h0 h;exact hm' h;cases h)] at hE;replace hE:=zH hE;replace h0:=zH h0;replace hm':=zH hm';have hw':=hwn.out;go_wp2_with fail;refine HH.mono ?_;rintro e w4 ⟨rfl,rfl⟩;go_wp2_with fail;exact vZ rfl rfl (hQ.out _ hE.out)
      ·by_cases hle:nw<=rf
       ·have z3:decide ((nw:Int)<=(rf:Int))=true:=decide_eq_true zO;have z4:decide (nw<=rf)=true:=decide_eq_true hle;rw[if_pos (.inr (.inr ⟨rfl,hle⟩))] at hE;replace hE:=zH hE;replace h0:=zH h0;replace hm':=zH hm';replace hle:=zH hle;have hw':=hwn.out;go_wp2_with fail;refine HH.mono ?_;rintro e w4 ⟨rfl,rfl⟩;go_wp2_with fail;exact vZ rfl rfl (hQ.out _ hE.out)
       ·have z3:decide ((nw:Int)<=(rf:Int))=false:=decide_eq_false zO;have z4:decide (nw<=rf)=false:=decide_eq_false hle;rw[if_neg (fun h=>by rcases h with h|h|⟨h',h⟩;exact h0 h;exact hm' h;exact hle h)] at hE;replace hE:=zH hE;replace h0:=zH h0;replace hm':=zH hm';replace hle:=zH hle;have hw':=hwn.out;go_wp2_with fail;refine HH.mono ?_;rintro e w4 ⟨rfl,rfl⟩;go_wp2_with fail;exact vZ rfl rfl (hQ.out _ hE.out)
   ·have hE:=zH (qjO (S:=S) (refs:=refs) (nodes:=nodes') hr held);have hQ:=fun E (hh:QX S refs nodes' a held=E)=>(⟨x3,.inr ⟨vs,refs,nodes',hp',hc',he',by rw[hh]⟩⟩:DataQ S root next dead a held w (.returned (.int .i64 E)) w3)
    replace hQ:=zH hQ;clear hT hp' hc' he' hBQ rc3;by_cases h8:a<8
    ·have d1:decide (a<8)=true:=decide_eq_true h8;replace hr:=zH hr;go_wp2_with fail;exact vZ rfl rfl (hQ.out _ hE.out)
    ·have d1:decide (a<8)=false:=decide_eq_false h8;have d2:decide (a≥256)=true:=decide_eq_true zO;replace hr:=zH hr;go_wp2_with fail;exact vZ rfl rfl (hQ.out _ hE.out)
end Go.Proofs.YtmeadnlmepcmbaaGreat
