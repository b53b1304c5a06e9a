/- Texts CRead, CRead2, CLevels, TreeW, FreeT, joined. -/
import Derived.Test.YtpbniokljofedaaGreatZH08
set_option linter.unusedSimpArgs false
set_option linter.unusedVariables false
set_option maxHeartbeats 8000000
open Go.Proofs.Tryz
namespace Go.Proofs.YtpbniokljofedaaGreat
open Go.RowKit
theorem qaV (S:Sto) (h:Nat) (r:Int):okL S (h:Int) r=(Vq S h r).isSome:=by
 unfold okL Vq;split
 ·rcases hn:qv S r.toNat with _|⟨lvl,xs⟩
  ·rfl
  ·simp only;by_cases hl:lvl=(h:Int)
   ·subst hl;rw[if_pos rfl];rcases hs:Qg S h xs with _|_|p
    ·simp[hs]
    ·have:xs.length=0:=by
      rcases Nat.eq_zero_or_pos xs.length with h0|h0
      ·exact h0
      ·exact absurd (by rw[List.take_length];exact hs) (Zw (S:=S) (h:=h) h0 (zM _))
     simp[hs,this,show ¬((h:Int)<0) by omega]
    ·have:xs≠[]:=qfy ⟨p,hs⟩;simp[hs,this]
   ·rw[if_neg hl];simp[hl,show ¬((h:Int)<0) by omega]
 ·rfl
theorem qcR {S:Sto} {lo h:Nat} {w:World} {g:Int->Option Value} {r lvl:Int} {A:Option Addr} {n c:Nat} {fk lk:K3} {b:Bool} (hc:YH S lo w g r (ZT lvl A n c fk lk b)) (hok:okL S (h:Int) r=true):Vq S h r=some (fk,lk):=by
 obtain⟨m,lv,xs,A',c',mP,lk',b',rfl,h1,h2,h3,h4,_,h6,_⟩:=hc;simp only[Value.agg.injEq,Array.mk.injEq,List.cons.injEq,Value.int.injEq,Value.bool.injEq,true_and,and_true] at h4;obtain⟨_,_,e1,e2,e3,e4,e5,e6,rfl⟩:=h4;have ef:fk=mP:=Prod.ext e1 (Prod.ext e2 e3);have el:lk=lk':=Prod.ext e4 (Prod.ext e5 e6);subst ef;subst el;rw[qaV] at hok;unfold Vq at hok ⊢;rw[if_pos zO,Int.toNat_natCast,h3] at hok ⊢;simp only at hok ⊢;split at hok
 ·rename_i hl;obtain rfl:lv=h:=zO;rw[if_pos rfl];rcases hs:Qg S lv xs with _|_|q
  ·rw[hs] at hok;cases hok
  ·rw[hs] at hok;cases hok
  ·rw[h6.2 q hs];rfl
 ·cases hok
structure RdI (p:CP) (h:Nat) (xs:List It) (A:Option Addr) (c:Nat) (w:World) (f:Int->Option Value) (wr:World) (g:Int->Option Value) (k:Nat) (fk lk:K3):Prop where
 rn:wr.heap[w.heap.size]?=some (.cells #[.int .i64 h,.slice A xs.length c] 49 (0,0))
 rr:wr.heap[w.heap.size+1]?=some (.cells (jA 0 none 0 0 (0,0,0) (0,0,0) false) 135 (0,0))
 rx:wr.heap[w.heap.size+2]?=some (.cells (jA h A xs.length c fk lk true) 135 (0,0))
 sp:JQ p.S h (xs.take k) fk lk true
 cl:0<h->∀ y∈xs.take k,(g y.r).isSome=true
 gr:Je f g
 mp:QU wr p.mb g
 gw:w.grownBy wr (some p.mb)
 nw:∀ a v,g a=some v->f a=none->YH p.S (w.heap.size+3) wr g a v
theorem RdI.news {p:CP} {h:Nat} {xs:List It} {A:Option Addr} {c:Nat} {w wr:World} {f g:Int->Option Value} {k:Nat} {fk lk:K3} (H:RdI p h xs A c w f wr g k fk lk):GZ p.S w f g wr:=
 fun a v h1 h2=>(H.nw a v h1 h2).keep zO (zM _) (fun _ _ _=>rfl) (fun _ h=>h)
theorem RdI.cen {p:CP} {h:Nat} {xs:List It} {A:Option Addr} {c:Nat} {w wr:World} {f g:Int->Option Value} {k:Nat} {fk lk:K3} (H:RdI p h xs A c w f wr g k fk lk) (hC:Cen p w f):Cen p wr g:=
 hC.after H.gr H.mp H.gw H.news
theorem RdI.ext {p:CP} {h:Nat} {xs:List It} {A:Option Addr} {c:Nat} {w wr W:World} {f g:Int->Option Value} {k:Nat} {fk lk:K3} (H:RdI p h xs A c w f wr g k fk lk) (hC:Cen p w f) (hx:Ext wr W):RdI p h xs A c w f W g k fk lk where
 rn:=qb H.rn hx
 rr:=qb H.rr hx
 rx:=qb H.rx hx
 sp:=H.sp
 cl:=H.cl
 gr:=H.gr
 mp:=H.mp.of_heap (hx.block _ (by have:=hC.low;have:=H.gw.size;omega))
 gw:=World.grownBy.andThen H.gw (zv hx (some p.mb)) (fun j e=>.inr (by rw[<-e]))
 nw:=fun a v h1 h2=>(H.nw a v h1 h2).keep (zM _) hx.size (fun q _ hq=>Below.cell hx hq) (fun _ h=>h)
theorem RdI.call {p:CP} {h:Nat} {xs:List It} {A:Option Addr} {c:Nat} {w wr W:World} {f g g':Int->Option Value} {k:Nat} {fk lk:K3} (H:RdI p h xs A c w f wr g k fk lk) (hC:Cen p w f) (bV:Je g g') (hm:QU W p.mb g') (hg:wr.grownBy W (some p.mb)) (hn:GZ p.S wr g g' W):RdI p h xs A c w f W g' k fk lk:=by
 have hl:=hC.low;have h2:w.heap.size+2<wr.heap.size:=(zG.1 H.rx).1;have hb:∀ b,w.heap.size<=b->b<wr.heap.size->W.heap[b]?=wr.heap[b]?:=fun b h1 h2=>hg.block b h2 zA2;refine⟨(hb _ zO zO).trans H.rn,(hb _ zO zO).trans H.rr,(hb _ zO zO).trans H.rx,H.sp,fun h0 y hy=>bV.some_ _ (H.cl h0 y hy),H.gr.trans bV,hm,World.grownBy.andThen H.gw hg (fun j e=>.inr (by rw[<-e])),fun a v h1 h0=>?_⟩;rcases hga:g a with _|u
 ·exact(hn a v h1 hga).keep zO (zM _) (fun _ _ _=>rfl) (fun _ h=>h)
 ·have e:=bV a u hga;rw[h1] at e;cases e;exact(H.nw a v hga h0).keep (zM _) hg.size (fun q h3 h4=>World.cell?_of_block (hb q.block zO h4)) bV.some_
theorem RdI.set {p:CP} {h:Nat} {xs:List It} {A:Option Addr} {c:Nat} {w wr W:World} {f g:Int->Option Value} {k k':Nat} {fk lk mP lk':K3} (H:RdI p h xs A c w f wr g k fk lk) (hC:Cen p w f) (hg:wr.grownBy W (some (w.heap.size+2))) (hx:W.heap[w.heap.size+2]?=some (.cells (jA h A xs.length c mP lk' true) 135 (0,0))) (hs:JQ p.S h (xs.take k') mP lk' true) (hc:0<h->∀ y∈xs.take k',(g y.r).isSome=true):RdI p h xs A c w f W g k' mP lk':=by
 have hl:=hC.low;have h2:w.heap.size+2<wr.heap.size:=(zG.1 H.rx).1;have hb:∀ b,b≠w.heap.size+2->b<wr.heap.size->W.heap[b]?=wr.heap[b]?:=fun b h1 h2=>hg.block b h2 zA2;exact⟨(hb _ zO zO).trans H.rn,(hb _ zO zO).trans H.rr,hx,hs,hc,H.gr,H.mp.of_heap (hb _ zO zO),World.grownBy.andThen H.gw hg (fun j e=>.inl (by cases e;omega)),
  fun a v h1 h0=>(H.nw a v h1 h0).keep (zM _) hg.size (fun q h3 h4=>World.cell?_of_block (hb q.block zO h4)) (fun _ h=>h)⟩
theorem RdI.set6 {p:CP} {h:Nat} {xs:List It} {A:Option Addr} {c:Nat} {w wr:World} {f g:Int->Option Value} {k k':Nat} {fk lk mP lk':K3} (H:RdI p h xs A c w f wr g k fk lk) (hC:Cen p w f) (hs:JQ p.S h (xs.take k') mP lk' true) (hc:0<h->∀ y∈xs.take k',(g y.r).isSome=true):RdI p h xs A c w f ((((((wr.setCell ⟨w.heap.size+1+1,2,none⟩ (.int .u8 mP.1)).setCell ⟨w.heap.size+1+1,3,none⟩ (.int .u32 mP.2.1)).setCell ⟨w.heap.size+1+1,4,none⟩ (.int .u32 mP.2.2)).setCell ⟨w.heap.size+1+1,5,none⟩ (.int .u8 lk'.1)).setCell ⟨w.heap.size+1+1,6,none⟩ (.int .u32 lk'.2.1)).setCell ⟨w.heap.size+1+1,7,none⟩ (.int .u32 lk'.2.2)) g k' mP lk':=
 H.set hC (Qu.trans (Qu.trans (Qu.trans (Qu.trans (Qu.trans Qu))))) (qi (qi (qi (qi (qi (qi H.rx 2 _) 3 _) 4 _) 5 _) 6 _) 7 _) hs hc
theorem RdI.set3 {p:CP} {h:Nat} {xs:List It} {A:Option Addr} {c:Nat} {w wr:World} {f g:Int->Option Value} {k k':Nat} {fk lk lk':K3} (H:RdI p h xs A c w f wr g k fk lk) (hC:Cen p w f) (hs:JQ p.S h (xs.take k') fk lk' true) (hc:0<h->∀ y∈xs.take k',(g y.r).isSome=true):RdI p h xs A c w f (((wr.setCell ⟨w.heap.size+1+1,5,none⟩ (.int .u8 lk'.1)).setCell ⟨w.heap.size+1+1,6,none⟩ (.int .u32 lk'.2.1)).setCell ⟨w.heap.size+1+1,7,none⟩ (.int .u32 lk'.2.2)) g k' fk lk':=
 H.set hC (Qu.trans (Qu.trans Qu)) (qi (qi (qi H.rx 5 _) 6 _) 7 _) hs hc
theorem RdI.call8 {p:CP} {h:Nat} {xs:List It} {A:Option Addr} {c:Nat} {w wr w5 w6 W:World} {f g g':Int->Option Value} {k:Nat} {fk lk:K3} (H:RdI p h xs A c w f wr g k fk lk) (hC:Cen p w f) (hx:Ext wr w5) (bV:Je g g') (hm:QU w6 p.mb g') (hg:w5.grownBy w6 (some p.mb)) (hn:GZ p.S w5 g g' w6) {b:Nat} (hb:wr.heap.size<=b) (bI:b<w5.heap.size) (h7:w6.grownBy W (some b)):RdI p h xs A c w f W g' k fk lk:=by
 have hl:=hC.low;have h2:w.heap.size+2<wr.heap.size:=(zG.1 H.rx).1;have zg:=hg.size;have H6:=(H.ext hC hx).call hC bV hm hg hn;have hk:∀ a,a≠b->a<w6.heap.size->W.heap[a]?=w6.heap[a]?:=fun a h1 h2=>h7.block a h2 zA2;refine⟨(hk _ zO zO).trans H6.rn,(hk _ zO zO).trans H6.rr,(hk _ zO zO).trans H6.rx,H6.sp,H6.cl,H6.gr,hm.of_heap (hk _ zO zO),World.grownBy.andThen H6.gw h7 (fun j e=>.inl (by cases e;omega)),fun a v h1 h0=>?_⟩;rcases hga:g a with _|u
 ·exact(hn a v h1 hga).keep zO h7.size (fun q h3 h4=>World.cell?_of_block (hk q.block zO h4)) (fun _ h=>h)
 ·have e:=bV a u hga;rw[h1] at e;cases e;refine(H.nw a v hga h0).keep (zM _) (by have:=h7.size;omega) (fun q h3 h4=>?_) bV.some_;rw[World.cell?_of_block (hk q.block zO zO),World.cell?_of_block (hg.block q.block zO zA2),Below.cell hx (p:=q) h4]
theorem RdI.ret {p:CP} {h:Nat} {xs:List It} {A:Option Addr} {c:Nat} {w wr W:World} {f g:Int->Option Value} {k:Nat} {fk lk:K3} {v:Value} (H:RdI p h xs A c w f wr g k fk lk) (hC:Cen p w f) (hg:wr.grownBy W (some (w.heap.size+1))) (hv:qcq p h A c xs v g):YJ p f (qcq p h A c xs) w (.returned v) W:=by
 have hl:=hC.low;have h2:w.heap.size+2<wr.heap.size:=(zG.1 H.rx).1;have hb:∀ b,b≠w.heap.size+1->b<wr.heap.size->W.heap[b]?=wr.heap[b]?:=fun b h1 h2=>hg.block b h2 zA2;exact⟨v,g,rfl,hv,H.gr,H.mp.of_heap (hb _ zO zO),World.grownBy.andThen H.gw hg (fun j e=>.inl (by cases e;omega)),
  fun a u h1 h0=>(H.nw a u h1 h0).keep zO hg.size (fun q h3 h4=>World.cell?_of_block (hb q.block zO h4)) (fun _ h=>h)⟩
def Yq (S:Sto) (h:Nat) (x:It) (f l:K3) (b:Bool):Prop:=match Vt S h x with|none=>b=false|some q=>b=true/\q=(f,l)
theorem qhi {S:Sto} {h:Nat} {xs:List It} {k:Nat} {f l f0 l0:K3} {b:Bool} (hk:k<xs.length) (ho:Yq S h xs[k] f l b) (hs:JQ S h (xs.take k) f0 l0 true) (hb:b=false\/f≠qC xs[k]\/(0<k/\QH l0 f=false)):Qg S h xs=none:=by
 refine qbf (k:=k+1) ?_;rw[vM hk];unfold Yq at ho;unfold KP;rcases hq:Qg S h (xs.take k) with _|a
 ·rfl
 ·rcases hone:Vt S h xs[k] with _|q
  ·rfl
  ·rw[hone] at ho;obtain⟨rfl,rfl⟩:=ho;simp only;rcases hb with hb|hb|⟨hb,hl⟩
   ·cases hb
   ·rw[if_neg hb]
   ·split
    ·rcases a with _|q0
     ·exact absurd hq (Zw hb zO)
     ·have:=hs.2 q0 hq;subst this;simp[hl]
    ·rfl
theorem round_ok {S:Sto} {h:Nat} {xs:List It} {k:Nat} {f l f0 l0:K3} (hk:k<xs.length) (ho:Yq S h xs[k] f l true) (hs:JQ S h (xs.take k) f0 l0 true) (hf:f=qC xs[k]) (hl:0<k->QH l0 f=true):JQ S h (xs.take (k+1)) (if k=0 then f else f0) l true:=by
 unfold JQ;rw[vM hk];unfold Yq at ho;unfold KP;rcases hq:Qg S h (xs.take k) with _|a
 ·have:=hs.1;rw[hq] at this;cases this
 ·rcases hone:Vt S h xs[k] with _|q
  ·rw[hone] at ho;cases ho
  ·rw[hone] at ho;obtain⟨_,rfl⟩:=ho;simp only[if_pos hf];rcases Nat.eq_zero_or_pos k with rfl|h0
   ·have:a=none:=by rw[List.take_zero] at hq;cases hq;rfl
    subst this;exact⟨rfl,fun q hq=>by cases hq;rfl⟩
   ·rcases a with _|q0
    ·exact absurd hq (Zw h0 zO)
    ·have:=hs.2 q0 hq;subst this;rw[if_neg zO];simp only[hl h0,if_true];exact⟨rfl,fun q hq=>by cases hq;rfl⟩
theorem cen_now {p:CP} {W:World} {g:Int->Option Value} (hC:Cen p W g):∃ b3 o3 c3,p.v3=.slice (some ⟨b3,o3,none⟩) 256 c3/\256<=c3/\c3<=maxLen:=by obtain⟨_,_,mW,_⟩:=qR hC.may;have hn:=hC.sto.now;obtain⟨A3,c3,e3,_⟩:=hC.sto.now;rw[e3] at hn;obtain⟨_,rY,sH,hA3⟩:=hn.at_;obtain⟨b3,o3,rfl,_⟩:=hA3 zO;rw[mW] at e3 rY;exact⟨b3,o3,c3,e3,rY,sH⟩
theorem qby {p:CP} {W:World} {g:Int->Option Value} (hC:Cen p W g) {b3 o3 c3:Nat} (h3:p.v3=.slice (some ⟨b3,o3,none⟩) 256 c3) {a:Nat} (ha:a<256):W.cell? ⟨b3,o3+a,none⟩=some (.int .u8 ((p.S.now[a]?.getD 0).toNat:Int)):=by obtain⟨_,_,mW,_⟩:=qR hC.may;obtain⟨A',c',e,_,_,hr⟩:=hC.sto.now;rw[h3,Value.slice.injEq] at e;obtain⟨rfl,_,rfl⟩:=e;obtain⟨b',off',e,_,hc⟩:=hr.2 zO;simp only[Option.some.injEq,Addr.mk.injEq,and_true] at e;obtain⟨rfl,rfl⟩:=e;exact hc a _ (by rw[List.getElem?_map,zL zO];rfl)
theorem XP {R:Ending->World->Prop} {a:Act} {W:World} {b:Nat} {lvl:Int} {A:Option Addr} {n c:Nat} {f l:K3} {bo:Bool} (h4:a.tmps[4]?.getD undef=.pointer (some ⟨b,0,none⟩)) (hd:a.defers=[]) (aC:W.heap[b]?=some (.cells (jA lvl A n c f l bo) 135 (0,0))) (hR:R (.returned (ZT lvl A n c f l bo)) W):bodyPost prog Tryz.f134 R .ret a W:=by
 refine bodyPost_ret (v:=ZT lvl A n c f l bo) ?_ hd hR;have k:=qa aC;simp[results,results134,go_sem,h4,k]
theorem RdI.bad {p:CP} {h:Nat} {xs:List It} {A:Option Addr} {c:Nat} {w wr:World} {f g:Int->Option Value} {k:Nat} {fk lk:K3} (H:RdI p h xs A c w f wr g k fk lk) (hC:Cen p w f) (hb:Qg p.S h xs=none):YJ p f (qcq p h A c xs) w (.returned (ZT h A xs.length c (0,0,0) (0,0,0) false)) (((((((((wr.setCell ⟨w.heap.size+1,0,none⟩ (.int .i64 h)).setCell ⟨w.heap.size+1,1,none⟩ (.slice A xs.length c)).setCell ⟨w.heap.size+1,2,none⟩ (.int .u8 0)).setCell ⟨w.heap.size+1,3,none⟩ (.int .u32 0)).setCell ⟨w.heap.size+1,4,none⟩ (.int .u32 0)).setCell ⟨w.heap.size+1,5,none⟩ (.int .u8 0)).setCell ⟨w.heap.size+1,6,none⟩ (.int .u32 0)).setCell ⟨w.heap.size+1,7,none⟩ (.int .u32 0)).setCell ⟨w.heap.size+1,8,none⟩ (.bool false)):=
 H.ret hC (Vp _ _ _ _ _ _ _ _ _) ⟨(0,0,0),(0,0,0),false,rfl,⟨by rw[hb];rfl,fun q hq=>by rw[hb] at hq;cases hq⟩,fun h=>by cases h⟩
set_option maxRecDepth 100000 in
theorem qaI (p:CP) (h:Nat) (HL:∀ h':Nat,h=h'+1->qel p (h':Int)):ReadC p h:=by
 intro xs A c w f hmay oN aG hC;have hHZ:=aG.its;obtain⟨-,dS,bJ,hA⟩:=hHZ.at_;have hlen:xs.length<=5:=by unfold Qc jv at hmay;simp at hmay;omega
 have hJF:h<=5:=by unfold Qc jv at hmay;simp at hmay;omega
 replace hJF:=zH hJF;have iw:=hC.low;have HI:=zH hHZ;have HXS:=zH oN;have HC:=zH hC;have HLow:=zH iw;clear aG hHZ hmay oN hC iw;go_enter func134,ntmps134;go_wp2;generalize aA:(World.alloc (World.alloc _ _) _)=w1;have x1:Ext w w1:=by rw[<-aA];exact((zN _ _).trans (zN _ _)).trans (zN _ _)
 have H1:RdI p h xs A c w f w1 f 0 (0,0,0) (0,0,0):=by
  refine⟨?_,?_,?_,⟨rfl,fun p hp=>by cases hp⟩,fun _ y hy=>by simp at hy,Je.refl _,(HC.out.ext x1).map,zv x1 _,fun a v h1 h0=>by rw[h1] at h0;cases h0⟩
  ·rw[<-aA];exact(zK _ _ _ zA2).trans ((zK _ _ _ zA3).trans (zI _ _ _ rfl))
  ·rw[<-aA];exact(zK _ _ _ zA3).trans (zI _ _ _ zA3)
  ·rw[<-aA];exact zI _ _ _ zA3
 clear aA;replace H1:=zH H1;go_loopw [14] (fun i wr=>∃ (k:Nat) (g:Int->Option Value) (fk lk:K3),k<=xs.length/\i=.int .i64 (k:Int)/\RdI p h xs A c w f wr g k fk lk) (fun i _=>xs.length-(intOf i).toNat)
 case atStart=>exact⟨0,f,_,_,zO,rfl,H1.out⟩
 case round =>
  obtain⟨k,g,fk,lk,hk,rfl,HR⟩:=hrel;clear H1 x1;have zr:=HR.gw.size;have HCr:=HR.cen HC.out;have lY:=js HC.out.map HR.mp HR.gw;have rnr:=HR.rn;have yQ:=HR.rx;have yP:=HR.rr;have z2:w.heap.size+2<wr.heap.size:=(zG.1 yQ).1;by_cases hlt:k<xs.length
  ·have aJ:=hlt;obtain⟨b,off,rfl,hb⟩:=hA zO;obtain⟨A',c',d0,d1,d2,d3,d4,-⟩:=HI.out.item k aJ;rw[<-lY _ (by simpa using hb)] at d0 d1 d2 d3 d4;clear lY;have oM:=HXS.out xs[k] (List.getElem_mem aJ);obtain⟨b3,o3,c3,e3,rY,sH⟩:=cen_now HCr;have HSTEP:=zH (fun f l b=>@qhi p.S h xs k f l fk lk b aJ);have HSTOK:=zH (fun f l=>@round_ok p.S h xs k f l fk lk aJ);have HMEM:=zH (List.getElem_mem aJ);have HTK:=zH (List.take_succ_eq_append_getElem aJ);generalize xs[k]=x at *;obtain⟨⟨-,-,-,hr0,-⟩,-⟩:=oM;obtain⟨hAU,hAV⟩:=hr0;obtain⟨r,hr⟩:=Int.eq_ofNat_of_zero_le hAU;rw[hr] at d3 hAV;have hr2:r<256:=zO;replace hr:=zH hr;have knr:=qa rnr;have kxr:=qa yQ;have hfN:=fun W (hx:Ext wr W)=>qby (HCr.ext hx) e3 hr2;generalize iR:(p.S.now[r]?.getD 0).toNat=nv at *;replace iR:=zH iR;unfold maxLen at sH;clear hAU hAV;have hfN0:=hfN wr (Ext.refl _);replace hfN:=zH hfN;go_wp2_with fail;generalize gm:(World.alloc _ _)=wa;have xa:Ext wr wa:=by rw[<-gm];exact zN _ _
   have ra:wa.heap[wr.heap.size]?=some (.cells #[.int .u8 x.k,.int .u32 x.i,.int .u32 x.o,.int .i64 r,.slice A' x.val.length c'] 68 (0,0)):=by rw[<-gm];exact zI _ _ _ rfl
   clear gm d0 d1 d2 d3 d4 hfN0;have HCa:=HCr.ext xa;have uK:=HCa.c2;rw[e3] at uK;have gC:∀ W,qk.r wa W->W.cell? ⟨p.cb,2,none⟩=some (.slice (some ⟨b3,o3,none⟩) 256 c3):=fun W h=>by rw[qa (qb HCa.row h)];exact uK
   have gN:∀ W,qk.r wa W->W.cell? ⟨b3,o3+r,none⟩=some (.int .u8 (nv:Int)):=fun W h=>hfN.out W (xa.trans h);have gI:∀ W,qk.r wa W->∀ i,W.cell? ⟨wr.heap.size,i,none⟩=#[.int .u8 x.k,.int .u32 x.i,.int .u32 x.o,.int .i64 r,.slice A' x.val.length c'][i]?:=fun W h=>qa (qb ra h);clear uK knr kxr hfN;obtain⟨yK,mV⟩:∃ yK:Bool,yK=decide (x.r=0\/0<nv):=⟨_,rfl⟩
   replace mV:=zH mV;have hr0:(((r:Int) == 0)=true/\decide (r=0)=true/\yK=true)\/(((r:Int) == 0)=false/\decide (r=0)=false/\yK=decide (0<nv)):=by
    rw[mV.out,hr.out];rcases Nat.eq_zero_or_pos r with h0|h0
    ·subst h0;exact .inl ⟨zA1,zA1,zA3⟩
    ·exact .inr ⟨by rw[beq_eq_false_iff_ne];omega,decide_eq_false zO,by rw[decide_eq_decide];omega⟩
   refine qo zQ ?_;refine Zn (w:=wa) qk (qD [(20,jM wa.heap.size 135 (jA 0 none 0 0 (0,0,0) (0,0,0) false))]) [true,true,true,true,true,true,true,true,true,true,true,true,true,true,true,true,true,true,true,true,true] 1 zQ zQ zQ zQ zQ zQ ?st (Rel.drew _ _) ?walk
   case st=>exact qj (by simp only[List.forall_mem_cons];exact⟨fun p=>QI (ZV _ _ _ p),fun _ h=>by cases h⟩)
   case walk =>
    intro K hK;dsimp only[qp];rcases hr0 with ⟨xk,mX,mY⟩|⟨xk,mX,mY⟩
    all_goals
     replace mY:=zH mY;repeat ((first|(refine qd ?_ zA0 zA0 (fun W hW _=>⟨W,?_,Rel.refl _ W⟩) ?_;rotate_left;(go_simp<;>with_reducible rfl))|(refine qh zA0 ?_));try simp only[Act.put,ql,qf,qc,qg,qc,zA,zB,zC])
     try (
      refine qd (.pointer (some ⟨b3,o3+r,none⟩)) zA0 zA0 (fun W hW _=>⟨W,?_,Rel.refl _ W⟩) ?_
      ·go_simp;intro mQ;exfalso;omega
      simp only[Act.put,qf,qc,qg,qc,zA,zB,zC])
     repeat ((first|(refine qd ?_ zA0 zA0 (fun W hW _=>⟨W,?_,Rel.refl _ W⟩) ?_;rotate_left;(go_simp<;>with_reducible rfl))|(refine qh zA0 ?_));try simp only[Act.put,ql,qf,qc,qg,qc,zA,zB,zC])
     refine qw (jM wa.heap.size 135 (jA 0 none 0 0 (0,0,0) (0,0,0) false)) zA0 zA0 (fun W hW _=>?_) (fun (p8:Nat)=>?_)
     ·refine jR ?_ (Below.size hW);go_simp
     simp only[Act.put,qf,qc,qg,qc,zA,zB,zC];refine qu (hK _ _ fun W hW hF=>?_);obtain⟨f8,aO⟩:W.heap[p8]?=some (.cells (jA 0 none 0 0 (0,0,0) (0,0,0) false) 135 (0,0))/\wa.heap.size<=p8:=(hF 20).1;clear hF hK gC gN gI;have ax:Ext wa W:=hW;refine zB5 ?_;have k8:=qa f8;have h8:=qe f8;go_wp2;refine Qo ?_;have x5:Ext wa _:=JR ax aO (.int .i64 0) (.slice none 0 0) (.int .u8 x.k) (.int .u32 x.i) (.int .u32 x.o) (.int .u8 x.k) (.int .u32 x.i) (.int .u32 x.o) (.bool yK);have r8:=vK f8 rfl (.int .i64 0) (.slice none 0 0) (.int .u8 x.k) (.int .u32 x.i) (.int .u32 x.o) (.int .u8 x.k) (.int .u32 x.i) (.int .u32 x.o) (.bool yK);rw[mY.out] at x5 r8;generalize aQ:(World.setCell (World.setCell (World.setCell (World.setCell (World.setCell (World.setCell (World.setCell (World.setCell (World.setCell W _ _) _ _) _ _) _ _) _ _) _ _) _ _) _ _) _ _)=w5 at *;rw[<-mY.out] at r8;clear aQ k8 h8 f8 hW ax xk mX;have H5:=HR.ext HC.out (xa.trans x5);have r5:=qb ra x5;have z8:wr.heap.size<p8:=Nat.lt_of_lt_of_le (zG.1 ra).1 aO;have z8':p8<w5.heap.size:=(zG.1 r8).1;have kn5:=qa H5.rn;rcases Nat.eq_zero_or_pos h with hz|hz
     case' inl =>
      have HO:Yq p.S h x (qC x) (qC x) yK:=by
       rw[hz];unfold Yq Vt;rw[mV.out,hr.out,Int.toNat_natCast,iR.out];split
       ·rename_i hh;split at hh
        ·cases hh
        ·rename_i hn;exact decide_eq_false hn
       ·rename_i hh;split at hh
        ·rename_i hn;cases hh;exact⟨decide_eq_true hn,rfl⟩
        ·cases hh
      have hd3:¬0<h:=zO;obtain⟨g',H7,HCL⟩:∃ g',RdI p h xs (some ⟨b,off,none⟩) c w f w5 g' k fk lk/\Hid (yK=true->0<h->(g' x.r).isSome=true):=⟨g,H5,zH fun _ h0=>absurd h0 hd3⟩
      replace r8:w5.heap[p8]?=some (.cells (jA 0 none 0 0 (qC x) (qC x) yK) 135 (0,0)):=r8;generalize hF1:qC x=F1 at r8 HO;obtain⟨L1,hL1⟩:∃ L1,L1=F1:=⟨_,rfl⟩
      replace HO:Hid (Yq p.S h x F1 L1 yK):=zH (by rw[hL1];exact HO);replace r8:w5.heap[p8]?=some (.cells (jA 0 none 0 0 F1 L1 yK) 135 (0,0)):=by rw[hL1];exact r8
      replace hz:=zH hz;replace H5:=zH H5;replace H7:=zH H7;generalize yK=B at r8 HO HCL;clear mV mY hF1 hL1;go_upto_region 8 with fail
     case' inr =>
      obtain⟨h',hh⟩:∃ h',h=h'+1:=⟨h-1,zO⟩
      have HLc:=HL h' hh;rw[show (h':Int)=(h:Int)-1 by omega] at HLc;have iF:wrap64 ((h:Int)-1)=(h:Int)-1:=IntWalk.wrap64_in _ (by have:=hJF.out;omega);replace hh:=zH hh;have ki5:=qa r5;go_wp2_with fail;refine(HLc r w5 g (H5.cen HC.out)).mono ?_;rintro e w6 ⟨v,g',rfl,⟨lvl,A9,n9,c9,F1,L1,rfl,bZ⟩,bV,hm,hg,hn⟩;have hPT:=HLow.out;have C6:=(H5.cen HC.out).after bV hm hg hn;have HO:Hid (Yq p.S h x F1 L1 (okL p.S (h-1) r)):=by
       refine zH ?_;rw[show (h:Int)-1=(h':Int) by have:=hh.out;omega] at bZ ⊢;have bH:okL p.S (h':Int) r=true->Vq p.S h' r=some (F1,L1):=fun hok=>qcR (C6.known _ _ (bZ hok)) hok;have hol:=qaV p.S h' r;unfold Yq;rw[hh.out,Yf,hr.out];rcases hls:Vq p.S h' r with _|q
       ·rw[hls] at hol;exact hol
       ·rw[hls] at hol;have h1:=bH hol;rw[hls] at h1;cases h1;exact⟨hol,rfl⟩
      have HCL:Hid (okL p.S (h-1) r=true->0<h->(g' x.r).isSome=true):=zH fun hok _=>by rw[hr.out,bZ hok];rfl
      generalize okL p.S ((h:Int)-1) r=B at *;have b8:=(hg.block p8 z8' zA2).trans r8;have H7:=HR.call8 HC.out (xa.trans x5) bV hm hg hn (b:=p8) zO z8' (Vp (.int .i64 lvl) (.slice A9 n9 c9) (.int .u8 F1.1) (.int .u32 F1.2.1) (.int .u32 F1.2.2) (.int .u8 L1.1) (.int .u32 L1.2.1) (.int .u32 L1.2.2) (.bool B));have r9:=vK b8 rfl (.int .i64 lvl) (.slice A9 n9 c9) (.int .u8 F1.1) (.int .u32 F1.2.1) (.int .u32 F1.2.2) (.int .u8 L1.1) (.int .u32 L1.2.1) (.int .u32 L1.2.2) (.bool B);have g9:=Vp (w:=w6) (b:=p8) (.int .i64 lvl) (.slice A9 n9 c9) (.int .u8 F1.1) (.int .u32 F1.2.1) (.int .u32 F1.2.2) (.int .u8 L1.1) (.int .u32 L1.2.1) (.int .u32 L1.2.2) (.bool B);have r59:=(g9.block wr.heap.size (by have:=hg.size;omega) zA2).trans ((hg.block wr.heap.size zO zA2).trans r5);have z9:p8<(World.setCell (World.setCell (World.setCell (World.setCell (World.setCell (World.setCell (World.setCell (World.setCell (World.setCell w6 _ _) _ _) _ _) _ _) _ _) _ _) _ _) _ _) _ _).heap.size:=(zG.1 r9).1;have f8:=qe b8;have kb8:=qa b8;clear r8 r5 bZ HLc ki5;replace hz:=zH hz;replace H5:=zH H5;replace H7:=zH H7;replace C6:=zH C6;replace HLow:=zH HLow;clear mY mV;go_upto_region 8 with fail;generalize fF:(World.setCell (World.setCell (World.setCell (World.setCell (World.setCell (World.setCell (World.setCell (World.setCell (World.setCell w6 _ _) _ _) _ _) _ _) _ _) _ _) _ _) _ _) _ _)=w7 at *;clear fF b8 f8 kb8 bV hm hg hn g9 z8' hPT;have r8:=r9;have r5:=r59;clear r9 r59 z9
     all_goals
      replace HR:=zH HR;replace HCr:=zH HCr;replace HCa:=zH HCa;replace e3:=zH e3;replace iR:=zH iR;clear yQ yP rnr hb hA hlt hk rY sH hr2 zr xa ra x5 aO kn5;have HBD:=zH (fun hb=>H7.out.bad HC.out (HSTEP.out _ _ _ HO.out H7.out.sp hb));have kn7:=qa H7.out.rn;have kx7:=qa H7.out.rx;have fx7:=qe H7.out.rx;have kr7:=qa H7.out.rr;have fr7:=qe H7.out.rr;have k8:=qa r8;have k5:=qa r5;have hp1:p8≠w.heap.size+2:=zO;have nP:w.heap.size+2≠p8:=zO;have hp3:p8≠w.heap.size+1+1:=zO;have hp4:w.heap.size+1+1≠p8:=zO;rcases hb0:B with _|_
      ·rw[hb0] at k8;have HB:=HBD.out (.inl hb0);replace HB:=zH HB;clear HBD;go_wp2;exact XP (b:=w.heap.size+1) rfl rfl (vK H7.out.rr rfl _ _ _ _ _ _ _ _ _) HB.out
      ·rw[hb0] at k8;have HO1:Yq p.S h x F1 L1 true:=by rw[<-hb0];exact HO.out
       by_cases hF:F1=qC x
       ·subst hF;have HN0:=zH (HSTOK.out _ _ HO1 H7.out.sp rfl);have bH:0<h->∀ y∈xs.take (k+1),(g' y.r).isSome=true:=fun h0 y hy=>by
         rw[HTK.out,List.mem_append,List.mem_singleton] at hy;rcases hy with hy|rfl
         ·exact H7.out.cl h0 y hy
         ·exact HCL.out hb0 h0
        replace bH:=zH bH;replace HO1:=zH HO1;replace hb0:=zH hb0;rcases Nat.eq_zero_or_pos k with oq|oq
        ·have hk1:decide ((k:Int)>0)=false:=decide_eq_false zO;have yx:((k:Int) == 0)=true:=by rw[beq_iff_eq];omega
         have sF:decide (0<k)=false:=decide_eq_false zO;have HN:=HN0.out (fun h=>zO);rw[if_pos oq] at HN;replace HN:=zH HN;replace oq:=zH oq;clear HBD HN0;have HR9:=H7.out.set6 HC.out HN.out bH.out;dsimp only[qC] at HR9;replace HR9:=zH HR9;go_wp2_with fail;refine⟨⟨k+1,g',(x.k,x.i,x.o),L1,aJ,rfl,HR9.out⟩,?_⟩;simp[intOf];omega
        ·have hk1:decide ((k:Int)>0)=true:=decide_eq_true zO;have yx:((k:Int) == 0)=false:=by rw[beq_eq_false_iff_ne];omega
         have sF:decide (0<k)=true:=decide_eq_true oq;have nJ:¬k=0:=zO;have hkz:=zH oq;clear oq nJ;go_wp2_with fail;refine(Kx lk.1 lk.2.1 lk.2.2 x.k x.i x.o _).mono ?_;rintro e wl ⟨rfl,hB⟩;have H8:=H7.out.ext HC.out hB;have HS8:=zH (HSTEP.out _ _ _ HO1.out H8.sp);have kn8:=qa H8.rn;have kx8:=qa H8.rx;have fx8:=qe H8.rx;have kr8:=qa H8.rr;have fr8:=qe H8.rr;have r88:=qb r8 hB;rw[hb0.out] at r88;have k88:=qa r88;clear kn7 kx7 fx7 kr7 fr7 k8 k5 hB r8 r5 HBD;replace H8:=zH H8;rcases hls:VI lk.1 lk.2.1 lk.2.2 x.k x.i x.o with _|_
         ·have HB:=zH (H8.out.bad HC.out (HS8.out (.inr (.inr ⟨hkz.out,hls⟩))));go_wp2;exact XP (b:=w.heap.size+1) rfl rfl (vK H8.out.rr rfl _ _ _ _ _ _ _ _ _) HB.out
         ·have HN:=HN0.out (fun _=>hls);rw[if_neg (by have:=hkz.out;omega)] at HN;replace HN:=zH HN;clear HN0;have HR9:=zH (H8.out.set3 HC.out HN.out bH.out);go_wp2_with fail;refine⟨⟨k+1,g',fk,L1,aJ,rfl,HR9.out⟩,?_⟩;simp[intOf];omega
       ·have HB:=HBD.out (.inr (.inl hF));replace HB:=zH HB;clear HBD;replace hb0:=zH hb0;go_wp2_with fail;all_goals first
         |exact absurd (Prod.ext ‹F1.1=x.k› (Prod.ext ‹F1.2.1=x.i› ‹F1.2.2=x.o›)) hF
         |exact XP (b:=w.heap.size+1) rfl rfl (vK H7.out.rr rfl _ _ _ _ _ _ _ _ _) HB.out
  ·have lI:k=xs.length:=zO;have HQ:qcq p h A c xs (ZT h A xs.length c fk lk true) g:=by
    refine⟨fk,lk,true,rfl,?_,fun _ h0 y hy=>HR.cl h0 y (by rw[lI,List.take_length];exact hy)⟩;have:=HR.sp
    rwa [lI,List.take_length] at this
   have HB:=zH (HR.ret HC.out (Vp (.int .i64 h) (.slice A xs.length c) (.int .u8 fk.1) (.int .u32 fk.2.1) (.int .u32 fk.2.2) (.int .u8 lk.1) (.int .u32 lk.2.1) (.int .u32 lk.2.2) (.bool true)) HQ);have kx:=qa yQ;have kr:=qa yP;have fr:=qe yP;have rr:=zH yP;replace HCr:=zH HCr;replace HR:=zH HR;replace HQ:=zH HQ;replace lI:=zH lI;clear lY yQ rnr yP zr;go_wp2;exact XP (b:=w.heap.size+1) rfl rfl (vK rr.out rfl _ _ _ _ _ _ _ _ _) HB.out
theorem qaH (p:CP):∀ h:Nat,h<=5->ReadC p h
 |0,_=>qaI p 0 fun _ e=>zO
 |h+1,hh=>qaI p (h+1) fun h' e=>by
  have e':h=h':=zO;subst e';exact qaO p (h:Int) (.inr zO) fun n hn hL=>by
   have e':n=h:=by have:=hL zO;omega
   subst e';exact qaH p n zO
theorem Ge (p:CP):qel p (-1):=qaO p (-1) (.inl rfl) fun h hh _=>qaH p h hh
theorem field_is (lvl:Int) (A:Option Addr) (n c:Nat) (f l:K3) (b:Bool) (w:World):(Instr.field 135 (ZT lvl A n c f l b) 3).run prog w=.ok (.bool b) w:=zQ
theorem qfU (lvl:Int) (A:Option Addr) (n c:Nat) (f l:K3) (b:Bool) (w:World):(Instr.field 135 (ZT lvl A n c f l b) 0).run prog w=.ok (jd lvl A n c) w:=zQ
structure Ar (ca:Array Value) (refs nodes:Nat->Nat) (vv:Value):Prop where
 size:ca.size=519
 ref:∀ a,a<256->ca[6+a]?=some (.int .i64 (refs a:Int))
 node:∀ a,a<256->ca[262+a]?=some (.int .i64 (nodes a:Int))
 vol:ca[518]?=some vv
def Jk (f:Nat->Nat) (a:Nat):Nat->Nat:=fun b=>f b+if b=a then 1 else 0
theorem Ar.addRef {ca:Array Value} {refs nodes:Nat->Nat} {vv:Value} (h:Ar ca refs nodes vv) {a:Nat} (ha:a<256):Ar (ca.setIfInBounds (6+a) (.int .i64 ((refs a:Int)+1))) (Jk refs a) nodes vv:=by
 have hs:=h.size;refine⟨by simp[hs],fun b hb=>?_,fun b hb=>?_,?_⟩
 ·rw[Array.getElem?_setIfInBounds];unfold Jk;by_cases e:b=a
  ·subst e;rw[if_pos rfl,if_pos zO,if_pos rfl];simp
  ·rw[if_neg zO,if_neg e,h.ref b hb];simp
 ·rw[Array.getElem?_setIfInBounds,if_neg zO,h.node b hb]
 ·rw[Array.getElem?_setIfInBounds,if_neg zO,h.vol]
theorem Ar.addNode {ca:Array Value} {refs nodes:Nat->Nat} {vv:Value} (h:Ar ca refs nodes vv) {a:Nat} (ha:a<256):Ar (ca.setIfInBounds (262+a) (.int .i64 ((nodes a:Int)+1))) refs (Jk nodes a) vv:=by
 have hs:=h.size;refine⟨by simp[hs],fun b hb=>?_,fun b hb=>?_,?_⟩
 ·rw[Array.getElem?_setIfInBounds,if_neg zO,h.ref b hb]
 ·rw[Array.getElem?_setIfInBounds];unfold Jk;by_cases e:b=a
  ·subst e;rw[if_pos rfl,if_pos zO,if_pos rfl];simp
  ·rw[if_neg zO,if_neg e,h.node b hb];simp
 ·rw[Array.getElem?_setIfInBounds,if_neg zO,h.vol]
theorem qcd {ca:Array Value} {k i:Nat} {v:Value} (hk:6<=k) (hi:i<6):(ca.setIfInBounds k v)[i]?=ca[i]?:=by rw[Array.getElem?_setIfInBounds,if_neg zO]
def VM (nodes:Nat->Nat):Nat->Bool:=fun a=>decide (0<nodes a)
theorem Vr {nodes:Nat->Nat} {a:Nat}:VM (Jk nodes a)=Kz (VM nodes) a:=by
 funext b;unfold VM Jk Kz;by_cases e:b=a
 ·rw[if_pos e,if_pos e];simp
 ·rw[if_neg e,if_neg e];rfl
theorem Vs {nodes:Nat->Nat} {a:Nat} (h:0<nodes a):VM (Jk nodes a)=VM nodes:=by
 funext b;unfold VM Jk;by_cases e:b=a
 ·subst e;rw[if_pos rfl,decide_eq_true h,decide_eq_true zO]
 ·rw[if_neg e];rfl
def Tb (S:Sto) (f:Int->Option Value) (R:List Nat):Prop:=∀ a∈R,kV S a/\(f (a:Int)).isSome=true
structure Qv (S:Sto) (R:List Nat) (refs nodes:Nat->Nat):Prop where
 mkd:jH (vE S) (vJ S) R (VM nodes) refs
 few:∀ a,nodes a+6*JL (VM nodes) 256<=1536+R.length
theorem Tb.reach {S:Sto} {lo:Nat} {w:World} {f:Int->Option Value} {R:List Nat} (hR:Tb S f R) (hk:qaE S lo w f) {a:Nat} (h:Rch (vE S) (· ∈ R) a):kV S a/\(f (a:Int)).isSome=true:=
 h.closed (M:=fun a=>kV S a/\(f (a:Int)).isSome=true) (fun a ha=>hR a ha) fun a ha b hb=>⟨qgQ ha.1 hb,qgR hk ha.1 ha.2 hb⟩
theorem qdK {S:Sto} {R:List Nat} {M:Nat->Bool} {refs:Nat->Nat} {s:List Nat} (h:JC (vE S) (vJ S) R M refs s) (b:Nat):refs b<=R.length+1280:=by rw[h.sum];have h1:=List.count_le_length (a:=b) (l:=R);have h2:=qgi (rs:=vJ S) (M:=M) (b:=b) (k:=5) 256 fun a _ _=>qdL;omega
structure Wk (S:Sto) (R:List Nat) (refs nodes:Nat->Nat) (s:List Nat):Prop where
 wk:JC (vE S) (vJ S) R (VM nodes) refs s
 few:∀ a,nodes a+6*JL (VM nodes) 256+s.length<=1536+R.length
theorem Qv.start {S:Sto} {R:List Nat} {refs nodes:Nat->Nat} (h:Qv S R refs nodes) (a:Nat):Wk S (R++[a]) (Jk refs a) nodes [a]:=
 ⟨(jH.walk.1 h.mkd).add a fun _=>rfl,fun b=>by have:=h.few b;simp;omega⟩
theorem Wk.done {S:Sto} {R:List Nat} {refs nodes:Nat->Nat} (h:Wk S R refs nodes []):Qv S R refs nodes:=
 ⟨jH.walk.2 h.wk,fun a=>by have:=h.few a;simpa using this⟩
theorem Wk.again {S:Sto} {R:List Nat} {refs nodes:Nat->Nat} {s:List Nat} {a:Nat} (h:Wk S R refs nodes (s++[a])) (ha:0<nodes a):Wk S R refs (Jk nodes a) s:=by
 refine⟨?_,fun b=>?_⟩
 ·rw[Vs ha];exact h.wk.again (decide_eq_true ha)
 ·rw[Vs ha];have:=h.few b;rw[List.length_append,List.length_singleton] at this;unfold Jk;split <;> omega
def Vw (xs:List It) (k:Nat):List Nat:=((xs.take k).map fun y=>y.r.toNat).filter fun r=>r != 0
theorem GF {S:Sto} {a:Nat} {lvl:Int} {xs:List It} (h:qv S a=some (lvl,xs)):Vw xs xs.length=vJ S a:=by unfold Vw vJ;rw[List.take_length,h]
theorem Yj {xs:List It} {k:Nat} (hk:k<xs.length):Vw xs (k+1)=if xs[k].r.toNat=0 then Vw xs k else Vw xs k++[xs[k].r.toNat]:=by
 unfold Vw;rw[List.take_succ_eq_append_getElem hk,List.map_append,List.filter_append];by_cases h:xs[k].r.toNat=0
 ·rw[if_pos h];simp[h]
 ·rw[if_neg h];simp[h]
theorem GG {xs:List It} {k:Nat}:(Vw xs k).length<=k:=by unfold Vw;refine Nat.le_trans (List.length_filter_le _ _) ?_;rw[List.length_map,List.length_take];omega
theorem Wk.new {S:Sto} {R:List Nat} {refs nodes refs':Nat->Nat} {s:List Nat} {a lvl:Nat} {xs:List It} (h:Wk S R refs nodes (s++[a])) (ha:nodes a=0) (hl:a<256) (hn:qv S a=some ((lvl:Int),xs)) (hr:∀ b,refs' b=refs b+(Vw xs xs.length).count b):Wk S R refs' (Jk nodes a) (s++if 0<lvl then Vw xs xs.length else []):=by
 have hm:VM nodes a=false:=decide_eq_false zO;have hk:vE S a=if 0<lvl then Vw xs xs.length else []:=by
  unfold vE;rw[hn,GF hn];simp only;by_cases h0:0<lvl
  ·rw[if_pos h0,if_pos zO]
  ·rw[if_neg h0,if_neg zO]
 rw[<-hk];refine⟨?_,fun b=>?_⟩
 ·rw[Vr];exact h.wk.new hm hl fun b=>by rw[hr,GF hn]
 ·rw[Vr];have h1:=h.few b;have h2:=Xf hm 256;rw[if_pos hl] at h2;rw[List.length_append,List.length_singleton] at h1;have h3:(vE S a).length<=5:=by
   rw[hk];split
   ·rw[GF hn];exact qdL
   ·simp
  rw[List.length_append];unfold Jk;split <;> omega
def leftW (w:World) (cb:Nat):Nat:=JL (fun a=>match w.cell? ⟨cb,262+a,none⟩ with|some (.int _ n)=>decide (0<n)|_=>false) 256
theorem Xz {w:World} {cb:Nat} {ca:Array Value} {ty:TypeId} {refs nodes:Nat->Nat} {vv:Value} (hr:w.heap[cb]?=some (.cells ca ty (0,0))) (h:Ar ca refs nodes vv):leftW w cb=JL (VM nodes) 256:=by unfold leftW;refine Uf _ fun a ha=>?_;rw[qa hr,h.node a ha];unfold VM;simp
def lenV:Value->Nat
 | .slice _ n _=>n
 |_=>0
structure TrI (p:CP) (B:Nat) (w1 wr:World) (vv:Value) (ca:Array Value) (refs nodes:Nat->Nat):Prop where
 off:Off B p.cb w1 wr
 row:wr.heap[p.cb]?=some (.cells ca 84 (0,0))
 ar:Ar ca refs nodes vv
 low:∀ i,i<6->ca[i]?=p.ca[i]?
 lt:p.cb<B
theorem TrI.grown {p:CP} {B:Nat} {w1 wr W:World} {vv:Value} {ca:Array Value} {refs nodes:Nat->Nat} (h:TrI p B w1 wr vv ca refs nodes) {row:Option Nat} (hg:wr.grownBy W row) (hr:∀ g,row=some g->B<=g):TrI p B w1 W vv ca refs nodes:=
 ⟨h.off.grown hg fun g e=>.inr (hr g e),(hg.block _ (Nat.lt_of_lt_of_le h.lt h.off.size) fun e=>by have:=hr _ e.symm;have:=h.lt;omega).trans h.row,h.ar,h.low,h.lt⟩
theorem TrI.ext {p:CP} {B:Nat} {w1 wr W:World} {vv:Value} {ca:Array Value} {refs nodes:Nat->Nat} (h:TrI p B w1 wr vv ca refs nodes) (hx:Ext wr W):TrI p B w1 W vv ca refs nodes:=h.grown (zv hx none) fun g e=>by cases e
theorem TrI.addRef {p:CP} {B:Nat} {w1 wr:World} {vv:Value} {ca:Array Value} {refs nodes:Nat->Nat} (h:TrI p B w1 wr vv ca refs nodes) {a:Nat} (ha:a<256):TrI p B w1 (wr.setCell ⟨p.cb,6+a,none⟩ (.int .i64 ((refs a:Int)+1))) vv (ca.setIfInBounds (6+a) (.int .i64 ((refs a:Int)+1))) (Jk refs a) nodes:=
 ⟨h.off.setCell (p:=⟨p.cb,6+a,none⟩) (.inl rfl) _,qi h.row _ _,h.ar.addRef ha,fun i hi=>(qcd zO hi).trans (h.low i hi),h.lt⟩
theorem TrI.addNode {p:CP} {B:Nat} {w1 wr:World} {vv:Value} {ca:Array Value} {refs nodes:Nat->Nat} (h:TrI p B w1 wr vv ca refs nodes) {a:Nat} (ha:a<256):TrI p B w1 (wr.setCell ⟨p.cb,262+a,none⟩ (.int .i64 ((nodes a:Int)+1))) vv (ca.setIfInBounds (262+a) (.int .i64 ((nodes a:Int)+1))) refs (Jk nodes a):=
 ⟨h.off.setCell (p:=⟨p.cb,262+a,none⟩) (.inl rfl) _,qi h.row _ _,h.ar.addNode ha,fun i hi=>(qcd zO hi).trans (h.low i hi),h.lt⟩
theorem TrI.cen {p:CP} {w1 wr:World} {vv:Value} {ca:Array Value} {refs nodes:Nat->Nat} {g:Int->Option Value} (h:TrI p w1.heap.size w1 wr vv ca refs nodes) (hC:Cen p w1 g):Cen (p.put ca) wr g:=hC.put rfl h.off h.row h.low
theorem TrI.its {p:CP} {w1 wr:World} {vv v:Value} {ca:Array Value} {refs nodes:Nat->Nat} {g:Int->Option Value} {xs:List It} (h:TrI p w1.heap.size w1 wr vv ca refs nodes) (hC:Cen p w1 g) (hi:Zt p.lo w1 v xs):Zt p.lo wr v xs:=
 hi.keep h.off.size fun q h1 h2=>h.off.cell h2 (by have:=hC.low;omega)
def Zk (lvl:Nat) (xs:List It) (k:Nat):List Nat:=if 0<lvl then Vw xs k else []
theorem TY (lvl:Nat) (xs:List It):Zk lvl xs 0=[]:=by unfold Zk Vw;simp
theorem qdI {lvl:Nat} {xs:List It} {k:Nat} (hk:k<xs.length) (h:xs[k].r.toNat=0\/lvl=0):Zk lvl xs (k+1)=Zk lvl xs k:=by
 unfold Zk;by_cases h0:0<lvl
 ·rw[if_pos h0,if_pos h0,Yj hk,if_pos zO]
 ·rw[if_neg h0,if_neg h0]
theorem qdH {lvl:Nat} {xs:List It} {k:Nat} (hk:k<xs.length) (h:¬xs[k].r.toNat=0) (hl:0<lvl):Zk lvl xs (k+1)=Zk lvl xs k++[xs[k].r.toNat]:=by unfold Zk;rw[if_pos hl,if_pos hl,Yj hk,if_neg h]
theorem qhl {xs:List It} {k:Nat} {rf oO:Nat->Nat} (hk:k<xs.length) (h:xs[k].r.toNat=0) (hr:∀ b,oO b=rf b+(Vw xs k).count b):∀ b,oO b=rf b+(Vw xs (k+1)).count b:=by intro b;rw[hr,Yj hk,if_pos h]
theorem qhk {xs:List It} {k:Nat} {rf oO:Nat->Nat} (hk:k<xs.length) (h:¬xs[k].r.toNat=0) (hr:∀ b,oO b=rf b+(Vw xs k).count b):∀ b,Jk oO xs[k].r.toNat b=rf b+(Vw xs (k+1)).count b:=by
 intro b;rw[Yj hk,if_neg h,List.count_append,<-Nat.add_assoc,<-hr];unfold Jk;rw[List.count_singleton];by_cases e:b=xs[k].r.toNat
 ·rw[if_pos e,if_pos (by simp[e])]
 ·rw[if_neg e,if_neg zA2]
theorem qhm (xs:List It):Vw xs 0=[]:=by unfold Vw;simp
def JU (s:List Nat):List Value:=s.map fun (a:Nat)=>Value.int .i64 (a:Int)
theorem KZ (s:List Nat):(JU s).length=s.length:=by simp[JU]
theorem YW (s:List Nat) (a:Nat):JU (s++[a])=JU s++[Value.int .i64 (a:Int)]:=by simp[JU]
section
variable {P:Program} (w:World) {ops:Array Oper} {rest:List Oper} {o:Oper} {a:Act} {Q:Exit->Act->World->Prop}
theorem KL {mb:Nat} {f:Int->Option Value} (h:QU w mb f) (t k e:TypeId) (ht:P.underlying t=some (.map k e)) (hk:P.underlying k=some (.int .i64)) {a:Int} {v:Value} (hf:f a=some v) : (Instr.lookup t (.map (some mb)) (.int .i64 a) false).run P w=.ok v w:=by
 obtain⟨es,clock,hb,xU,hfa⟩:=h;have h0:=hfa a;rw[hf] at h0;rcases vY a es.toList 0 xU with ⟨h1,h2⟩|⟨j,e2,h1,h2,h3,h4,_⟩
 ·unfold kZ at h0;rw[h2] at h0;cases h0
 ·unfold kZ at h0;rw[h3] at h0;simp only[Option.map_some,Option.some.injEq] at h0;simp[Instr.lookup,run_underlying ht,MapKept.run_getObj_map hb,jF hk,Jb hk h2,h0,Result.andThen]
theorem XW (hg:o.guard=none) (m x:Operand) (t:TypeId) (dY:o.op=Op.lookup t m x false) {k e:TypeId} (ht:P.underlying t=some (.map k e)) (hk:P.underlying k=some (.int .i64)) {mb:Nat} {f:Int->Option Value} {r:Int} {v:Value} (hm:a.eval m=.map (some mb)) (hx:a.eval x=.int .i64 r) (h:QU w mb f) (hf:f r=some v) (hK:wpList P ops Q rest (a.put o.dst v) w):wpList P ops Q (o :: rest) a w:=by
 refine wpList_plain hg fun K' hK'=>?_;unfold Oper.wp;simp[execOp,dY,hm,hx,KL w h t k e ht hk hf,Result.andThen];exact hK' _ _ hK
end
section
variable {R:Rel}
section
variable {P:Program} {ops:Array Oper} {w0:World}
def Kn (ops:Array Oper) (listed:Array Bool):Prop:=∀ (i:Nat) (o:Oper),ops[i]?=some o->listed.getD i false=true->∀ k∈qE o,listed.getD k false=true
def KY (ops:Array Oper) (listed:Array Bool):Bool:=(List.range ops.size).all fun i=>!(listed.getD i false) || (match ops[i]? with|some o=>(qE o).all fun k=>listed.getD k false|none=>true)
theorem JX {listed:Array Bool} (h:KY ops listed=true):Kn ops listed:=by intro i o ho hi k hk;have h1:=List.all_eq_true.1 h i (List.mem_range.2 (zG.1 ho).1);rw[hi,ho] at h1;simp only[Bool.not_true,Bool.false_or] at h1;exact List.all_eq_true.1 h1 k hk
theorem Vh {listed:Array Bool} {j:Nat} (hj:j∈Region.ready .any ops listed) {o:Oper} (ho:ops[j]?=some o):∀ k∈qE o,listed.getD k false=true:=by intro k hk;obtain⟨_,o',tq,ay⟩:=mem_ready.1 hj;rw[ho] at tq;cases tq;obtain⟨e,he,nG⟩:=List.mem_map.1 hk;rw[List.mem_filter] at he;rw[<-nG];exact ay e (by simpa using he.1) he.2
theorem Yw {listed:Array Bool} {j k:Nat} (h:listed.getD k false=true):(listed.setIfInBounds j true).getD k false=true:=by
 rcases Nat.lt_or_ge k listed.size with h'|h'
 ·simp only[Array.getD_eq_getD_getElem?,Array.getElem?_setIfInBounds] at h ⊢;by_cases e:j=k
  ·subst e;simp[h']
  ·rw[if_neg e];exact h
 ·simp[Array.getElem?_eq_none h'] at h
theorem Kn.step {listed:Array Bool} {j:Nat} (h:Kn ops listed) (hj:j∈Region.ready .any ops listed):Kn ops (listed.setIfInBounds j true):=by
 intro i o ho hi k hk;by_cases e:i=j
 ·subst e;exact Yw (Vh hj ho k hk)
 ·refine Yw (h i o ho ?_ k hk);simp only[Array.getD_eq_getD_getElem?,Array.getElem?_setIfInBounds] at hi ⊢
  rwa [if_neg (fun x=>e x.symm)] at hi
def XU (ops:Array Oper):Nat->Nat->Nat->Bool
 |0,_,_=>false
 |n+1,j,k=>match ops[j]? with
  |some o=>(qE o).contains k || (qE o).any fun i=>XU ops n i k
  |none=>false
theorem vl {listed:Array Bool} (h:Kn ops listed):∀ (n j k:Nat),(∀ o,ops[j]?=some o->∀ i∈qE o,listed.getD i false=true)->XU ops n j k=true->listed.getD k false=true
 |0,_,_,_,hw=>by cases hw
 |n+1,j,k,hp,hw=>by
  unfold XU at hw;split at hw
  ·rename_i o ho;rw[Bool.or_eq_true] at hw;rcases hw with hw|hw
   ·exact hp o ho k (by simpa using hw)
   ·obtain⟨i,hi,hw⟩:=List.any_eq_true.1 hw;exact vl h n i k (fun o' tq=>h i o' tq (hp o ho i hi)) hw
  ·cases hw
def qdY (ops:Array Oper) (L:Array Bool) (ks:List Nat):Bool:=(List.range ops.size).all fun j=>L.getD j true || ks.all fun k=>XU ops 9 j k
theorem Xe {L:Array Bool} {ks:List Nat} (h:qdY ops L ks=true):∀ (listed:Array Bool) (j:Nat),Kn ops listed->j∈Region.ready .any ops listed->L.getD j true=false->∀ k,k∈ks->listed.getD k false=true:=by intro listed j hc hj hm k hk;obtain⟨_,o,ho,_⟩:=mem_ready.1 hj;have h1:=List.all_eq_true.1 h j (List.mem_range.2 (zG.1 ho).1);rw[hm,Bool.false_or] at h1;exact vl hc 9 j k (fun o' tq=>Vh hj tq) (List.all_eq_true.1 h1 k hk)
theorem qaA {H:Nat->Option qS} (hH:∀ i h,H i=some h->∀ p,qB R (h.φ p)) {A:Nat->Prop} {Cl:Array Bool->Prop} {L:Array Bool} {Q:Act->qJ->Prop} {i:Nat} {oi:Oper} (hi:ops[i]?=some oi) (him:A i) (gG:∀ (j:Nat) (o:Oper) cs b,ops[j]?=some o->o.op≠.select cs b) (bH:∀ listed j,Cl listed->j∈Region.ready .any ops listed->Cl (listed.setIfInBounds j true)) (bM:∀ (listed:Array Bool) (j:Nat),Cl listed->j∈Region.ready .any ops listed->L.getD j true=false->∀ k,A k->listed.getD k false=true) : ∀ (fuel:Nat) (listed:Array Bool) (a:Act) (F:qJ),Cl listed -> (∀ j oj,ops[j]?=some oj->j≠i->listed.getD j true=false->(∀ e∈oj.after,Region.binds .any e=true->e.on≠i)->oi.apart ops oj=true) ->
   i∈Region.ready .any ops listed->(∀ k,qB R (F k))->Ko R w0 F->(∀ k,listed.getD k true=false->∀ W,F k W) ->
   FOpG R P ops w0 H i oi (vn R P ops w0 H L Q fuel (listed.setIfInBounds i true)) a F->vn R P ops w0 H L Q (fuel+1) listed a F:=by
 intro fuel;induction fuel with
 |zero =>
  intro listed a F wo _ hr aH hc _ dY;refine⟨fun h=>(by rw[h] at hr;cases hr),fun j hj oj dE=>?_⟩;by_cases hji:j=i
  ·subst hji;rw[hi] at dE;cases dE;exact dY
  ·exfalso;obtain⟨h,hok,hK⟩:=dY;obtain⟨p,eP⟩:=hok.some_ hc aH;have hmj:L.getD j true=false:=by rw[<-(hK p eP).1];exact(mem_ready.1 (ready_mono hj hji)).1
   have h1:=bM listed j wo hj hmj i him;have h0:=(mem_ready.1 hr).1;rcases Nat.lt_or_ge i listed.size with h'|h'
   ·simp[h'] at h0 h1;rw[h0] at h1;cases h1
   ·simp[Array.getElem?_eq_none h'] at h1
 |succ fuel ih =>
  intro listed a F wo dH hr aH hc iU dY;refine⟨fun h=>(by rw[h] at hr;cases hr),fun j hj oj dE=>?_⟩;by_cases hji:j=i
  ·subst hji;rw[hi] at dE;cases dE;exact dY
  ·obtain⟨bY,oj',iC,ay⟩:=mem_ready.1 hj;rw[dE] at iC;cases iC;obtain⟨lX,oi',lh,fQ⟩:=mem_ready.1 hr;rw[hi] at lh;cases lh;have bad:∀ k,listed.getD k true=false->listed.getD k false=true->False:=fun k h0 h1=>by
    rcases Nat.lt_or_ge k listed.size with h'|h'
    ·simp[h'] at h0 h1;rw[h0] at h1;cases h1
    ·simp[Array.getElem?_eq_none h'] at h1
   have lZ:∀ e∈oj.after,Region.binds .any e=true->e.on≠i:=fun e he hb nH=>bad i lX (nH ▸ ay e he hb);have lg:∀ e∈oi.after,Region.binds .any e=true->e.on≠j:=fun e he hb nH=>bad j bY (nH ▸ fQ e he hb);have gW:i∉qE oj:=fun hin=>by obtain⟨e,he,nG⟩:=List.mem_map.1 hin;rw[List.mem_filter] at he;exact lZ e (by simpa using he.1) he.2 nG
   have pJ:j∉qE oi:=fun hin=>by obtain⟨e,he,nG⟩:=List.mem_map.1 hin;rw[List.mem_filter] at he;exact lg e (by simpa using he.1) he.2 nG
   have eQ:=dH j oj dE hji bY lZ;have uh:∀ cs b,oi.op≠.select cs b:=fun cs b=>gG i oi cs b hi;have sZ:∀ cs b,oj.op≠.select cs b:=fun cs b=>gG j oj cs b dE;obtain⟨h2,_⟩:=(Oper.apart_spec eQ).2;obtain⟨hI,okI,yU⟩:=dY;obtain⟨p0,ru⟩:=okI.some_ hc aH;obtain⟨hJ,uo,_⟩:=(yU p0 ru).2 j (ready_mono hj hji) oj dE;have uC:ZH R P ops w0 H j oj a F hJ:=(ZH.move eQ sZ gW).1 uo;refine⟨hJ,uC,fun q hcq=>?_⟩;have stJ:=uC.stable hH q;have fH:∀ k ok,ops[k]?=some ok->k≠i->(listed.setIfInBounds j true).getD k true=false ->
     (∀ e∈ok.after,Region.binds .any e=true->e.on≠i)->oi.apart ops ok=true:=fun k ok hk eF mF bQ=>by
    refine dH k ok hk eF ?_ bQ;by_cases hjk:j=k
    ·subst hjk;exact bY
    ·rw[getD_set_ne true hjk] at mF;exact mF
   refine ih (listed.setIfInBounds j true) _ _ (bH _ _ wo hj) fH (ready_mono hr (Ne.symm hji)) (Zr aH j oj stJ) hcq ?_ ?_
   ·intro k hk W;by_cases hjk:j=k
    ·subst hjk;exfalso;have hlt:j<listed.size:=by
      rcases Nat.lt_or_ge j listed.size with h'|h'
      ·exact h'
      ·simp[Array.getElem?_eq_none h'] at bY
     simp[hlt] at hk
    ·rw[getD_set_ne true hjk] at hk;have:=iU k hk W;unfold upd;rw[if_neg (fun e=>hjk e.symm)];exact this
   ·refine⟨hI,(ZH.move' eQ uh pJ).2 okI,fun p eP=>?_⟩;have uM:Ko R w0 (upd F i oi (hI.φ p)):=by
     obtain⟨W,hW,hF⟩:=eP;refine⟨W,hW,fun k=>?_⟩;have hk:=hF k;by_cases eF:k=i
     ·subst eF;unfold upd at hk ⊢;rw[if_pos rfl] at hk ⊢;refine⟨hk.1,fun l hl=>?_⟩;have:=hk.2 l hl
      rwa [if_neg (fun e=>pJ (by rw[<-e];exact hl))] at this
     ·by_cases hkj:k=j
      ·subst hkj;unfold upd;rw[if_neg eF];exact iU k bY W
      ·unfold upd at hk ⊢;rw[if_neg eF,if_neg hkj] at hk;rw[if_neg eF];exact hk
    obtain⟨yT,um,uJ⟩:=(yU p uM).2 j (ready_mono hj hji) oj dE;have mJ:ZH R P ops w0 H j oj a F yT:=(ZH.move eQ sZ gW).1 um;have e:=mJ.unique hc uC;subst e;have hq:=uJ q (by rw[JM F _ _ (Ne.symm hji) gW pJ];exact eP);rw[Array.setIfInBounds_comm _ _ (fun e=>hji e.symm),Act.put_comm a (hI.f p) (yT.f q) h2,JM F _ _ (Ne.symm hji) gW pJ] at hq;exact hq
theorem KR {H:Nat->Option qS} (hH:∀ i h,H i=some h->∀ p,qB R (h.φ p)) {Cl:Array Bool->Prop} {L:Array Bool} {ks:List Nat} {Q:Act->qJ->Prop} (hs:Region.noSelect ops=true) (bH:∀ listed j,Cl listed->j∈Region.ready .any ops listed->Cl (listed.setIfInBounds j true)) (bM:∀ (listed:Array Bool) (j:Nat),Cl listed->j∈Region.ready .any ops listed->L.getD j true=false->∀ k,k∈ks->listed.getD k false=true):∀ (l:List (Nat×Oper)) (listed:Array Bool) (a:Act) (F:qJ),Cl listed->(∀ x∈l,ops[x.1]?=some x.2/\x.1∈ks) ->
  Zp ops L (l.map (·.1)) listed=true->(∀ k,qB R (F k))->Ko R w0 F->(∀ j,listed.getD j true=false->∀ W,F j W)->Zy R P ops w0 H Q l a F->vn R P ops w0 H L Q l.length listed a F
 | [],listed,a,F,_,_,hB,_,_,_,h=>⟨by simpa [Zp] using hB,h⟩
 |(k,o) :: l,listed,a,F,wo,hl,hB,aH,hc,iU,h=>by
  obtain⟨h0,xU⟩:=hl (k,o) (List.mem_cons_self);simp only[List.map_cons,Zp,Bool.and_eq_true] at hB;obtain⟨⟨hr,hf⟩,gQ⟩:=hB;have xn:k∈Region.ready .any ops listed:=by simpa using hr
  have uT:=(mem_ready.1 xn).1;refine qaA (A:=fun k=>k∈ks) hH h0 xU (Region.noSelect_spec hs) bH bM l.length listed a F wo (Region.free_spec h0 hf) xn aH hc iU ?_;obtain⟨hh,hok,hK⟩:=h;refine⟨hh,hok,fun p eP=>?_⟩;refine KR hH hs bH bM l _ _ _ (bH _ _ wo xn) (fun x hx=>hl x (List.mem_cons_of_mem _ hx)) gQ (Zr aH k o (hok.stable hH p)) eP (fun j hj W=>?_) (hK p eP);by_cases hjk:k=j
  ·subst hjk;have hlt:k<listed.size:=by
    rcases Nat.lt_or_ge k listed.size with h'|h'
    ·exact h'
    ·simp[Array.getElem?_eq_none h'] at uT
   simp[hlt] at hj
  ·rw[getD_set_ne true hjk] at hj;have:=iU j hj W;unfold upd;rw[if_neg (fun e=>hjk e.symm)];exact this
theorem qP {l:List Oper} {Q:Exit->Act->World->Prop} {fuel:Nat} {listed:Array Bool} {a:Act} {w W:World} (R:Rel) (H:Nat->Option qS) (M:List Bool) (t:Nat) (hs:Region.noSelect l.toArray=true) (ht:qdY l.toArray (QK l.length (l.length-t)) ((qp 0 l M).map (·.1))=true) (dC:KY l.toArray listed=true) (hB:Zp l.toArray (QK l.length (l.length-t)) ((qp 0 l M).map (·.1)) listed=true) (lu:Ts l.toArray t (l.length-t) (QK l.length (l.length-t))=true) (hfu:fuel=(qp 0 l M).length+t) (nS:(l.drop (l.length-t)).length=t) (hH:∀ i h,H i=some h->∀ p,qB R (h.φ p)) (hW:R.r w W) (h:∀ K:Act->qJ->Prop,(∀ a' F',(∀ W,R.r w W->(∀ k,F' k W)->wpList P l.toArray Q (l.drop (l.length-t)) a' W)->K a' F')->Zy R P l.toArray w H K (qp 0 l M) a (fun _ _=>True)):wpAny P .any l.toArray Q fuel listed a W:=by
 have h:=h _ (fun a' F' hh=>hh);subst hfu;have key:=KR (w0:=w) hH hs (fun _ _ h=>h.step) (Xe ht) (qp 0 l M) listed a (fun _ _=>True) (JX dC) (fun x hx=>by obtain⟨j,h1,h2⟩:=JZ l M 0 x hx;refine⟨?_,List.mem_map.2 ⟨x,hx,rfl⟩⟩;rw[h1,Nat.zero_add];simpa using h2) hB (fun _ _ _ _ _=>trivial) ⟨W,hW,fun _=>trivial⟩ (fun _ _ _=>trivial) h;refine vR (w0:=w) hH (t:=t) (Q':=Q) (fun a F W hq hW hF=>?_) _ _ _ _ W (fun _ _ _ _ _=>trivial) hW (fun _=>trivial) key;have:=VV (l.drop (l.length-t)) (l.length-t) _ a W (fun j _=>by rw[List.getElem?_drop];simp) (by rw[nS];exact lu) (hq W hW hF)
 rwa [nS] at this
end
end
end Go.Proofs.YtpbniokljofedaaGreat
