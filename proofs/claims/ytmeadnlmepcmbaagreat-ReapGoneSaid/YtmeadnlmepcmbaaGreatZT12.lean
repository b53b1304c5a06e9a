/- Lemmas of the proof. -/
import Derived.Test.YtmeadnlmepcmbaaGreatZT11
set_option linter.all false
set_option maxHeartbeats 8000000
open Go.Proofs.Tryz
open Go.Value renaming slice→E,int→M,pointer→Ob,tuple→Od
open Option renaming some→F,none→I
open Bool renaming true→O,false→Oa
open Go.Obj renaming cells→U
open Go.Ending renaming returned→Y
open Go.IntKind renaming i64→Z
open Go renaming World→Oc,Value→Of
open Go.World renaming alloc→Oe
namespace Go.Proofs.YtmeadnlmepcmbaaGreat
open Go.RowKit Go.Shelf
attribute [local go_sem] Oper.semAt_some
variable {w W W' w':World}{B n B' D:Nat}{e:TypeId}{v u:Value}{xs:List Value}{o:Obj}{R:Ending->World->Prop}{a:Act}
theorem qjr(n:Nat)(hn:1<=n)(bs n₀:Nat)(v1 v2 v3 v4:Of)(S:Sto)(hS:qj S=O)(w:Oc)(yl:bs<n₀)(hn₀:n₀<=w)(aC:w.heap[bs]?=F (U #[v1,v2,v3,v4] 28))(aJ:Qh w n₀ v1 v2 v3 v4 S):SeqStopsK Fence.wide n prog 187 #[Ob bs] (λx:Nat=>#[(x:Int)]) (Below n₀) (λys=>ys=jd S) (λpre=>pre <+:jd S) 256 w:=λl J Jx W hW hJ _ hY h0=>
 free_in n hn l bs n₀ v1 v2 v3 v4 S hS J Jx hY (λpre W1 W2 h hx=>hJ pre W1 W2 I h ⟨hx.os,hx.tape,hx.output,hx.size,λk hk _=>hx.block k hk⟩ (λ_ e=>by cases e)) W yl (Nat.le_trans hn₀ hW.size) ((hW.block bs (Nat.lt_of_lt_of_le yl hn₀)).trans aC) (aJ.below (Below.mono hW hn₀)) h0
theorem GQ{size:Nat}(h:w.ownsRow B e size v n xs):∀g,v.ownBlock=F g->∃c fz,w.heap[g]?=F (U c e fz):=by
 intro g hg;rcases h.2 with⟨rfl,_⟩|⟨b,cap,cur,rfl,_,h2,_⟩
 simp[Value.ownBlock]at hg;simp[Value.ownBlock]at hg;subst hg;exact⟨cur,(0,0),h2⟩
theorem own_down{size:Nat}(h:w.ownsRow B e size v n xs)(hb:B'<=B):w.ownsRow B' e size v n xs:=by rcases h with⟨h1,h2|⟨g,cap,cur,e1,h3,h4⟩⟩;exact⟨h1,.inl h2⟩;exact⟨h1,.inr ⟨g,cap,cur,e1,zO,h4⟩⟩
theorem qgm{size:Nat}(h:w.ownsRow B e size v n xs)(hD:w.heap[D]?=o)(ho:o.isCells=Oa):v.ownBlock=I\/v.ownBlock≠F D:=by refine .inr λhv=>?_;obtain⟨c,fz,h3⟩:=GQ h D hv;rw[hD]at h3;cases h3;cases ho
theorem qaW{row:Option Nat}(hg:W.grownBy W' row)(hr:∀g,row=F g->B<=g)(hB:B<=W:=by omega):Below B W W':=(Below.refl _ _).grown hg hB (λk e=>hr k e)
theorem qbl{size:Nat}(h:w.ownsRow B e size v n xs)(hg:w.grownBy w' v.ownBlock):KeepsOthers w w':=⟨hg.size,λk o hk ho=>(hg.block k (zG.1 hk).1 (λe1=>by obtain⟨c,fz,h3⟩:=GQ h k e1.symm;rw[hk]at h3;cases h3;cases ho)).trans hk⟩
theorem qgk(b base:Nat)(ty ety:TypeId):OwnFrom B (λ(pre:List Nat) W=>∃v,W.heap[b]?=F (U #[v] ty)/\W.ownsRow base ety 1 v pre.length (kD pre)):=λs A C row ⟨v,h1,h2⟩ hg hr=>
 ⟨v,QF (β:=Unit) _ _ _ _ () A C row h1 hg hr,h2.kept hg (by
  rcases hv:v.ownBlock with _|g
  exact .inl rfl
  ·refine .inr λe=>?_;obtain⟨_,o,ho,hc⟩:=hr g e.symm;rcases GQ h2 g hv with⟨c,fz,h3⟩;rw[ho]at h3;cases h3;cases hc)⟩
set_option maxRecDepth 100000 in
theorem qfB(n:Nat)(h3:3<=n)(bs:Nat)(v1 v2 v3 v4:Of)(S:Sto)(hS:qj S=O)(w:Oc)(yl:bs<w)(aC:w.heap[bs]?=F (U #[v1,v2,v3,v4] 28))(aJ:Qh w w v1 v2 v3 v4 S):CallsIn Fence.wide n prog 190 #[E I 0 0,.func (.func 187) #[] #[Ob bs]] w λe W'=>∃v,e=Y v/\Below w w W'/\W'.ownsRow (↑w+1) 3 1 v (jd S).length (kD (jd S)):=by
 have h1:1<=n:=zO;refine callsIn_of_wp_marks func190 rfl trivial ?_ rfl;simp only[ntmps190,List.size_toArray,List.length_cons,List.length_nil,Nat.reduceAdd,Nat.reduceSub,Array.replicate_succ,Array.replicate_zero,List.push_toArray,List.append_toArray,List.nil_append,List.cons_append]
 gi_wp2_with fail
 have x1:Ext w (w.alloc (U #[E I 0 0] 30)):=zN _ _;obtain⟨i0,hi,aZ,aT,aX⟩:=info_parts Tryz.info_int;refine wpIn_rangeFunc_ownH rfl h1 (gf:=187) (lb:=#[Ob (F ⟨bs,0,I⟩)]) rfl trivial (enters_of func187 zQ rfl)
  (qjr (n-1) zO bs w.heap.size v1 v2 v3 v4 S hS _ yl zA3 (qb aC x1) (aJ.below x1)) Below.trans (belowK_b zA3) (Below.refl _ _) (λ_=>rfl)
  (λpre W=>(∃v,W.heap[w.heap.size]?=F (U #[v] 30 (0,0))/\W.ownsRow (w.heap.size+1) 3 1 v pre.length (kD pre))/\Below w.heap.size w W)
  (λ_ _ _=>False)
  (OwnFrom.and (qgk _ _ _ _) (ownFrom_below (zM _) zA3))
  (λ_ _ _ _ _ hs _ _=>hs)
  ⟨⟨E I 0 0,zI _ _ _ rfl,World.ownsRow_nil _ _ _ _⟩,x1⟩
  (λx a' _=>a'={tmps:=#[E I 0 0,.func (.func 187) #[] #[Ob (F ⟨bs,0,I⟩)],Ob (F ⟨w.heap.size,0,I⟩),undef,E I 0 0,M Z (x:Int),.func (.func 187) #[] #[Ob (F ⟨bs,0,I⟩)],M Z (x:Int),undef,undef,undef,undef,undef],defers:=[]})
  (λx a'=>Xs _ _) ?assign ?body ?done ?stop
 case assign=>
  rintro l pre x W K hI hK
  gi_wp2_with fail
  exact hK _ _ (KeepsFrom.refl _ _) (Below.refl _ _) hI rfl
 case body=>
  rintro l pre x a' W hl - ⟨⟨v,hr,aB⟩,hB⟩ rfl bz;have kr:=qa hr;have zb:w.heap.size<W:=(zG.1 hr).1;have aH:v.ownBlock≠F w.heap.size:=λe=>by have:=(Qn aB _ e).1;omega
  obtain⟨Av,cv,rfl,-,-⟩:=qC aB
  gi_wp2_with (gi_at_builtin;refine Yq ?_)
  refine Qm.go (Yp W rfl (.tmp 8) (.tmp 10) 30 rfl (w.heap.size+1) 3 i0 _ 1 8 underlying30 hi aZ aT aX rfl zA1 (E Av pre.length cv) pre.length _ zE aB #[M Z (x:Int)] zE rfl zA8 zO zA1 zO ?_);intro v' W3 dG hg dO;have hg0:∀g,(Value.slice Av pre.length cv).ownBlock=F g->w.heap.size+1<=g:=λg e=>(Qn aB _ e).1;have uT:W3.heap[w.heap.size]?=_:=(hg.block _ zb (λe=>aH e.symm)).trans hr;have kr3:=qa uT;have fr3:=qe uT;have sS:Below w W W3:=qaW hg λg e=>by have:=hg0 g e;omega
  have hg3:∀g,v'.ownBlock=F g->w.heap.size+1<=g:=λg e=>(Qn dG _ e).1;have iQ:KeepsOthers W W3:=qbl aB hg;replace⟨hg,aB,dO⟩:=zH3 hg aB dO;obtain⟨Av',cv',rfl,-,-⟩:=qC dG;replace dG:=zH dG
  gi_wp2_with fail
  refine⟨(iQ.trans (KeepsOthers.setCell _ _ _)).from _,sS.setCell (p:=⟨w.heap.size,0,I⟩) (zM _) _,⟨_,qi uT 0 _,?_⟩,hB.trans (sS.setCell (p:=⟨w.heap.size,0,I⟩) (zM _) _)⟩;rw[List.length_append,List.length_singleton,UP];exact dG.out.kept (grownBy_setCell' _ _ _) (.inr λe=>by have:=hg3 _ e;omega)
 case done=>
  rintro D ys W hD rfl ⟨⟨v,hr,aB⟩,hB⟩ hK;have kr:=qa hr
  gi_wp2_with fail
  refine⟨zA3,.inl ⟨_,_,rfl,run_takeDeferred hK,?_⟩⟩;exact⟨_,results_tmp rfl _ _ _,v,rfl,hB.trans (belowK_b (w:=w) (zM _) W D _ _ (by simp at hD;omega) hK rfl rfl),aB.kept (grownBy_putObj' W D _) (qgm aB hK rfl)⟩
 case stop=>rintro D c pre W _ _ h _;exact h.elim
def RFreeQ(S:Sto)(w:Oc)(e:Ending)(w':Oc):Prop:=Below w w w' /\
 ((qj S=Oa/\e=Y (Od #[E I 0 0,M Z 8]))\/(qj S=O/\∃v,e=Y (Od #[v,M Z 0])/\w'.ownsRow w 3 1 v (jd S).length (kD (jd S))))
set_option maxRecDepth 100000 in
theorem qhr(bs:Nat)(v1 v2 v3 v4:Of)(S:Sto)(hS:qj S=O)(w:Oc)(yl:bs<w)(aC:w.heap[bs]?=F (U #[v1,v2,v3,v4] 28))(aJ:Qh w w v1 v2 v3 v4 S):Calls prog 154 #[.func (.func 187) #[] #[Ob bs]] w λe W'=>∃v,e=Y v/\Below w w W'/\W'.ownsRow (↑w+1) 3 1 v (jd S).length (kD (jd S)):=by go_enter func154,ntmps154;go_wp2_with fail;refine((callsIn_wide (n:=3)).1 (qfB 3 zO bs v1 v2 v3 v4 S hS w yl aC aJ)).mono ?_;rintro e w2 ⟨v,rfl,hB,aB⟩;obtain⟨A,c,rfl,-,-⟩:=qC aB;replace aB:=zH aB;go_wp2_with fail;go_ret;exact⟨_,rfl,hB,aB.out⟩
theorem qjp(A1 n1 c1 A2 n2 c2 A3 n3 c3 A4 n4 c4)(w:Oc):Calls prog 147 #[Qo A1 n1 c1 A2 n2 c2 A3 n3 c3 A4 n4 c4] w (λe w'=>e=Y (.func (.func 187) #[] #[Ob w])/\w'=w.alloc (U #[E A1 n1 c1,E A2 n2 c2,E A3 n3 c3,E A4 n4 c4] 28)):=by go_enter func147,ntmps147;go_wp2;go_ret;exact⟨rfl,rfl⟩
theorem qfi(h2:a.tmps[2]?.getD undef=u)(h3:a.tmps[3]?.getD undef=v)(hd:a.defers=[])(hR:R (Y (Od #[u,v])) W):bodyPost prog Tryz.f100 R .ret a W:=by refine bodyPost_ret (v:=Od #[u,v]) ?_ hd hR;simp[results,results100,go_sem,h2,h3]
set_option maxRecDepth 100000 in
theorem qmy(A1 n1 c1 A2 n2 c2 A3 n3 c3 A4 n4 c4)(S:Sto)(w:Oc)(h:Qh w w (E A1 n1 c1) (E A2 n2 c2) (E A3 n3 c3) (E A4 n4 c4) S):Calls prog 100 #[Qo A1 n1 c1 A2 n2 c2 A3 n3 c3 A4 n4 c4] w (RFreeQ S w):=by
 have HC:=zH (λW (hx:Ext w W)=>vl A1 n1 c1 A2 n2 c2 A3 n3 c3 A4 n4 c4 S W (h.ext hx));replace h:=zH h;go_enter func100,ntmps100;go_wp2_with fail;generalize aA:(Oe w _)=w1;have x1:Ext w w1:=aA▸zN _ _;have r1:w1.heap[w.heap.size]?=F (U #[E A1 n1 c1,E A2 n2 c2,E A3 n3 c3,E A4 n4 c4] 28):=aA▸zI _ _ _ rfl;clear aA;refine(HC.out w1 x1).mono ?_;clear HC;rintro e w2 ⟨rfl,hB⟩;have x2:Ext w w2:=x1.trans hB;have r2:=qb r1 hB;have k2:=qa r2;clear hB r1 x1;rcases hS:qj S with _|_
 ·rw[vF rfl];replace hS:=zH hS;go_wp2_with fail;exact qfi rfl rfl rfl ⟨x2,.inl ⟨hS.out,rfl⟩⟩
 rw[Vx rfl];go_wp2_with fail;refine(qjp A1 n1 c1 A2 n2 c2 A3 n3 c3 A4 n4 c4 w2).mono ?_;rintro e w3 ⟨rfl,rfl⟩;have x3:Ext w2 (w2.alloc (U #[E A1 n1 c1,E A2 n2 c2,E A3 n3 c3,E A4 n4 c4] 28)):=zN _ _;have r3:(w2.alloc (U #[E A1 n1 c1,E A2 n2 c2,E A3 n3 c3,E A4 n4 c4] 28)).heap[w2.heap.size]?=_:=zI _ _ _ rfl;have h3:=h.out.ext (x2.trans x3);generalize aP:w2.alloc _=w3 at*;have s3:w2.heap.size<w3:=(zG.1 r3).1;go_wp2_with fail;refine(qhr w2.heap.size _ _ _ _ S hS w3 s3 r3 h3).mono ?_;rintro e w4 ⟨v,rfl,dM,aB⟩;obtain⟨A,c,rfl,-,-⟩:=qC aB;have HR:RFreeQ S w (Y (Od #[E A (jd S).length c,M Z 0])) w4:=⟨Ext.trans (x2.trans x3) dM,.inr ⟨hS,_,rfl,own_down aB (by have:=(x2.trans x3).size;omega)⟩⟩
 replace⟨HR,aB,hS⟩:=zH3 HR aB hS;clear aP r3 r2 k2;go_wp2_with fail;exact qfi rfl rfl rfl HR.out
end Go.Proofs.YtmeadnlmepcmbaaGreat
namespace Go.Proofs.YtmeadnlmepcmbaaGreat
open Go.RowKit
section
variable {F0:Fence} {P:Program} {ops:Array Oper} {n:Nat}
end


end Go.Proofs.YtmeadnlmepcmbaaGreat
namespace Go.Proofs.YtmeadnlmepcmbaaGreat
open Go.RowKit Go.Shelf
attribute [local go_sem] Oper.semAt_some
variable {W W' w C:World}
def Za(S:Sto):Nat:=(jd S).headD 0
def vz(S:Sto)(a:Nat)(data:List UInt8):Sto:=⟨S.bs,S.ws++[((a:Int),data)],S.now.set a 1,S.last⟩
theorem KeepsOthers.of_ext(h:Ext W W'):KeepsOthers W W':=⟨h.size,λk _ hk _=>(h.block k (zG.1 hk).1).trans hk⟩
theorem YK{x0 x1 x2 x3 y z:Of}{ty1 ty2 ty3:TypeId}{u0 u1 u2 u3 u5 u6:Of}(r4:W.heap[w.heap.size+2]?=F (U #[u0,u1,u2,u3] ty1))(r5:W.heap[w.heap.size+3]?=F (U #[u5] ty2))(r6:W.heap[w.heap.size+4]?=F (U #[u6] ty3))(hC:C=((((((W.setCell ⟨w.heap.size+1+1,0,I⟩ x0).setCell ⟨w.heap.size+1+1,1,I⟩ x1).setCell ⟨w.heap.size+1+1,2,I⟩ x2).setCell ⟨w.heap.size+1+1,3,I⟩ x3).setCell ⟨w.heap.size+1+1+1,0,I⟩ y).setCell ⟨w.heap.size+1+1+1+1,0,I⟩ z)):C.heap[w.heap.size+2]?=F (U #[x0,x1,x2,x3] ty1)/\C.heap[w.heap.size+3]?=F (U #[y] ty2)/\C.heap[w.heap.size+4]?=F (U #[z] ty3)/\(∀{B:Nat}{w0:Oc},B<=w+2->Below B w0 W->Below B w0 C)/\C.heap.size=W/\(∀k,w.heap.size+5<=k->C.heap[k]?=W.heap[k]?)/\KeepsOthers W C:=by subst hC;have hs:=λ(A:Oc)(b j:Nat)(v:Of)(k:Nat)(hk:k≠b)=>zJ A ⟨b,j,I⟩ v k hk;refine⟨?_,?_,?_,λhB h=>?_,zA3,λk hk=>?_,?_⟩;rw[hs _ _ _ _ _ zO,hs _ _ _ _ _ zO];exact UX r4 x0 x1 x2 x3;rw[hs _ _ _ _ _ zO];refine qi (t:=ty2) (cs:=#[u5]) ?_ 0 y;rw[hs _ _ _ _ _ zO,hs _ _ _ _ _ zO,hs _ _ _ _ _ zO,hs _ _ _ _ _ zO];exact r5;refine qi (t:=ty3) (cs:=#[u6]) ?_ 0 z;rw[hs _ _ _ _ _ zO,hs _ _ _ _ _ zO,hs _ _ _ _ _ zO,hs _ _ _ _ _ zO,hs _ _ _ _ _ zO];exact r6;exact Below.setCell (Below.setCell (Je h (b:=w.heap.size+1+1) zO x0 x1 x2 x3) (p:=⟨w.heap.size+1+1+1,0,I⟩) zA2 _) (p:=⟨w.heap.size+1+1+1+1,0,I⟩) zA2 _;rw[hs _ _ _ _ _ zO,hs _ _ _ _ _ zO,hs _ _ _ _ _ zO,hs _ _ _ _ _ zO,hs _ _ _ _ _ zO,hs _ _ _ _ _ zO];exact(((((KeepsOthers.setCell _ _ _).trans (KeepsOthers.setCell _ _ _)).trans (KeepsOthers.setCell _ _ _)).trans (KeepsOthers.setCell _ _ _)).trans (KeepsOthers.setCell _ _ _)).trans (KeepsOthers.setCell _ _ _)
end Go.Proofs.YtmeadnlmepcmbaaGreat
namespace Go.Proofs.YtmeadnlmepcmbaaGreat
open Go.RowKit
variable {e lvl er:Int}{R:Ending->World->Prop}{a:Act}{W w C:World}{v v2 v' u:Value}{P:Program}{D X D':Nat->Prop}{k k':Option Nat}{ws:List (Int×List UInt8)}{ops:Array Oper}{rest:List Oper}{o:Oper}{Q:Exit->Act->World->Prop}{S S':Sto}{A1 A4:OA}{f lo n:Nat}{l:List UInt8}{xs:List It}
def ZR(t:List UInt8)(a:Nat):Except Int (List UInt8):=if a=0 then .ok t else if qL t a=0 then .error 6 else if qL t a=255 then .error 70 else .ok (zj t a 1)
def ja:List Nat->List UInt8->Except Int (List UInt8)
 |[],t=>.ok t
 |a::r,t=>match ZR t a with
  |.error e=>.error e
  |.ok t'=>ja r t'
theorem VB:∀(l r:List Nat)(t:List UInt8),ja (l++r) t=match ja l t with
  |.error e=>.error e
  |.ok t'=>ja r t'
 |[],_,_=>rfl
 |a::l,r,t=>by
  simp only[List.cons_append,ja];cases ZR t a with
  |error e=>rfl
  |ok t'=>exact VB l r t'
theorem qdt(a:Nat)(t:List UInt8):ja [a] t=ZR t a:=by simp only[ja];cases ZR t a<;>rfl
def qA(its:List It):List Nat:=its.map λx=>x.r.toNat
theorem KX{its:List It}{k:Nat}(hk:k<its.length):qA (its.take (k+1))=qA (its.take k)++[(its[k].r).toNat]:=by unfold qA;rw[List.take_succ_eq_append_getElem hk,List.map_append];rfl
theorem qki{its:List It}(k:Nat):qA its=qA (its.take k)++qA (its.drop k):=by unfold qA;rw[<-List.map_append,List.take_append_drop]
theorem qkn{its:List It}{k:Nat}(hk:k<its.length){t t':List UInt8}(h:ja (qA (its.take k)) t=.ok t')(h1:ZR t' (its[k].r).toNat=.error e):ja (qA its) t=.error e:=by rw[qki (its:=its) (k+1),VB,KX hk,VB,h];simp only[qdt,h1]
theorem qiz{its:List It}{k:Nat}(hk:k<its.length){t t' t'':List UInt8}(h:ja (qA (its.take k)) t=.ok t')(h1:ZR t' (its[k].r).toNat=.ok t''):ja (qA (its.take (k+1))) t=.ok t'':=by rw[KX hk,VB,h];simp only[qdt,h1]
def Zg(S:Sto)(lvl:Int)(its:List It):Except Int (Nat×Sto):=
 if Qj lvl its=O then
  match ja (qA its) S.now with
  |.error e=>.error e
  |.ok t=>if jd (qp S t)=[]\/S.ws.length=4096 then .error 9 else .ok (Za (qp S t),vz (qp S t) (Za (qp S t)) (Zo (QA lvl its)))
 else .error 8
section
variable {D:Nat->Prop} {B lo b g:Nat} {k:Option Nat} {S:Sto} {w W:World}
theorem Bch.lens(h:Bch D B lo b g k S w):S.now.length=256/\S.last.length=256:=by obtain⟨A1,n1,c1,v2,c3,A4,c4,hr,ho,-,-,h4⟩:=h.ex;have:=ho.1;have h5:=h4.at_.1;exact⟨by simpa using this,h5.symm⟩
theorem Bch.cells(h:Bch D B lo b g k S w):∃A1 n1 c1 v2 c3 A4 c4,(∀i,w.cell? ⟨b,i,I⟩=#[E A1 n1 c1,v2,E g 256 c3,E A4 256 c4][i]?)/\(∀a,a<256->w.cell? ⟨g,a,I⟩=F (M .u8 (js S a:Int)))/\(∀a,w.frozen? ⟨g,a,I⟩=Oa):=by obtain⟨A1,n1,c1,v2,c3,A4,c4,hr,ho,-,-,-⟩:=h.ex;obtain⟨h1,h2,-,-⟩:=ZI ho;exact⟨A1,n1,c1,v2,c3,A4,c4,qa hr,h1,h2⟩
end
theorem UG(h4:a.tmps[4]?.getD undef=v)(hd:a.defers=[])(hR:R v W):bodyPost prog Tryz.f170 R .ret a W:=by refine bodyPost_ret (v:=v) ?_ hd hR;simp[results,results170,go_sem,h4]
set_option maxRecDepth 100000 in
theorem qcj(D:Nat->Prop)(B lo b g:Nat)(k:Option Nat)(S:Sto)(a:Nat)(ha:a<256)(w:Oc)(h:Bch D B lo b g k S w):Calls prog 170 #[Ob b,(a:Int)] w λe W=>Qi lo b g k w W /\
   ((qL S.now a=0/\e=Y (M Z 6))\/(qL S.now a=255/\e=Y (M Z 70))\/(qL S.now a≠0/\qL S.now a≠255/\e=Y (M Z 0)/\Bch D B lo b g k (qp S (zj S.now a 1)) W)):=by
 obtain⟨A1,n1,c1,v2,c3,A4,c4,kr,hk,hf⟩:=h.cells;have hka:=hk a ha;have hfa:=hf a;have hT:Hid (zj S.now a 1=S.now.set a (UInt8.ofNat (qL S.now a+1))):=rfl;have rM:=zH (h.count ha (UInt8.ofNat (qL S.now a+1)));have di:js S a=qL S.now a:=rfl;have au:=(S.now[a]?.getD 0).toNat_lt;have hc:qL S.now a=(S.now[a]?.getD 0).toNat:=rfl;rw[di]at hka;rw[<-hc]at au;have hwv:=qlw (qL S.now a+1);generalize qL S.now a=nv at*;clear hk hf hc di h;by_cases h0:nv=0
 ·subst h0;clear rM hT hwv;go_enter func170,ntmps170;go_wp2_with fail;exact UG rfl rfl ⟨Qi.refl _ _ _ _ _,.inl ⟨by trivial,rfl⟩⟩
 have aT:((nv:Int)==0)=Oa:=by rw[beq_eq_false_iff_ne];omega
 have aX:decide (nv=0)=Oa:=decide_eq_false zO;by_cases h1:nv=255
 ·subst h1;clear rM hT hwv;go_enter func170,ntmps170;go_wp2_with fail;exact UG rfl rfl ⟨Qi.refl _ _ _ _ _,.inr (.inl ⟨by trivial,rfl⟩)⟩
 have hz3:((nv:Int)==255)=Oa:=by rw[beq_eq_false_iff_ne];omega
 have hz4:decide (nv=255)=Oa:=decide_eq_false zO;replace⟨h0,h1⟩:=zH2 h0 h1;rw[show((nv+1:Nat):Int)=(nv:Int)+1 from rfl]at hwv;go_enter func170,ntmps170;go_wp2_with fail;refine UG rfl rfl ⟨rM.out.2,.inr (.inr ⟨h0.out,h1.out,rfl,?_⟩)⟩;rw[hT.out];exact rM.out.1
set_option maxRecDepth 100000 in
theorem XS(D:Nat->Prop)(B lo b g:Nat)(k:Option Nat)(S:Sto)(a:Nat)(ha:a<256)(w:Oc)(h:Bch D B lo b g k S w):Calls prog 141 #[Ob b,(a:Int)] w λe W=>Qi lo b g k w W /\
   ((qL S.now a=0/\e=Y (M Z 6))\/(qL S.now a≠0/\e=Y (M Z 0)/\Bch D B lo b g k (qp S (jf S.now a)) W)):=by
 obtain⟨A1,n1,c1,v2,c3,A4,c4,kr,hk,hf⟩:=h.cells;have hka:=hk a ha;have hfa:=hf a;have hT:Hid (jf S.now a=S.now.set a (UInt8.ofNat (qL S.now a-1))):=rfl;have rM:=zH (h.count ha (UInt8.ofNat (qL S.now a-1)));have di:js S a=qL S.now a:=rfl;have au:=(S.now[a]?.getD 0).toNat_lt;have hc:qL S.now a=(S.now[a]?.getD 0).toNat:=rfl;rw[di]at hka;rw[<-hc]at au;generalize qL S.now a=nv at*;clear hk hf hc di h;by_cases h0:nv=0
 ·subst h0;clear rM hT;go_enter func141,ntmps141;go_wp2_with fail;exact UF rfl rfl ⟨Qi.refl _ _ _ _ _,.inl ⟨by trivial,rfl⟩⟩
 have aT:((nv:Int)==0)=Oa:=by rw[beq_eq_false_iff_ne];omega
 have hwv:=qgA (n:=nv) zO au;replace h0:=zH h0;go_enter func141,ntmps141;go_wp2_with fail;refine UF rfl rfl ⟨rM.out.2,.inr ⟨h0.out,rfl,?_⟩⟩;rw[hT.out];exact rM.out.1
theorem qei(w:Oc)(t ty:TypeId)(e:TypeId)(i:TypeInfo)(z:Of)(size bytes:Nat)(ht:P.underlying t=F (.slice e))(hi:P.info? e=i)(hz:i.zero=z)(fJ:i.size=size)(af:i.bytes=bytes)(sQ:z.cells.size=size)(hsz:0<size)(B:Nat)(A n)(xs:List Of)(hr:Rd w B size A n xs)(cs:Array Of)(hl:cs.size=size)(h1:∀u∈cs.toList,u.oneCell'=O)(hn:n<1073741824)(fD:bytes<=65536):∃v' w',(Builtin.append_ #[t,t] ty #[E A n n,E w 1 1]).run P (w.alloc (U cs e))=.ok v' w'/\w'.ownsRow (↑w+1) e size v' (n+1) (xs++cs.toList)/\Ext w w'/\v'.ownBlock=F (w.heap.size+1):=by
 have hb:(n+1)*bytes<=140737488355328:=Nat.le_trans (Nat.mul_le_mul_left _ fD) zO;have hm:n+1<=maxLen:=zA7;have iR:((n+1:Nat):Int)<=9223372036854775807:=zO;rcases A with _|ad
 have hn0:n=0:=by
  rcases Nat.eq_zero_or_pos n with h0|h0
  exact h0;obtain⟨b,off,h,_⟩:=hr.2 h0;cases h
 subst hn0;have hx:xs=[]:=List.eq_nil_of_length_eq_zero (by simpa using hr.1);subst hx;obtain⟨v',w',bH,h2,h3,h4,h5⟩:=run_append_own_at (P:=P) (w.alloc (U cs e)) (w.heap.size+1) t ty e i z size bytes ht hi hz fJ af sQ hsz (E I 0 0) 0 [] (World.ownsRow_nil _ _ _ _) ⟨w.heap.size,0,I⟩ 1 1 cs.toList
  (by rw[Array.length_toList];omega) (XR w cs e) h1 hm hb zA3
 refine⟨v',w',bH,h2,Ext.trans (zN w (U cs e)) ((Below.refl _ _).grown h3 (zM _) (λk hk=>by cases hk)),?_⟩;rcases h5 with h5|h5
 exfalso;rcases h2.2 with⟨e0,_⟩|⟨g,cap,cur,e0,_⟩
 have:=(h4.1 e0).2;omega;rw[e0]at h5;cases h5;rw[h5];simp;have eH:∀j u,xs[j]?=F u->w.cell? (ad.add j)=F u:=by
  intro j u hu;rcases Nat.eq_zero_or_pos n with h0|h0
  subst h0;have hx:xs=[]:=List.eq_nil_of_length_eq_zero (by simpa using hr.1);subst hx;simp at hu;obtain⟨b,off,h,_⟩:=hr.2 h0;injection h with h;subst h;exact hr.adds h0 j u hu
 subst fJ;subst af;have iq:=run_append_grow (P:=P) (w.alloc (U cs e)) t ty e i z ht hi hz ad n n xs hr.1 (λj u hu=>Ext.cell (zN w _) (eH j u hu)) ⟨w.heap.size,0,I⟩ 1 1 cs.toList (by rw[Array.length_toList];omega) (XR w cs e) zO iR (growslice_fits zO hb);refine⟨_,_,iq,?_,(zN w _).trans ((Ext.drew _).trans (zN _ _)),by simp[Value.ownBlock]⟩;have lg:=grownCap_ge (w.alloc (U cs e)) (n+1) n e;have eP:grownCap (w.alloc (U cs e)) (n+1) n e<=maxLen:=grownCap_le_maxLen _ (n+1) n e hm;have hlen:(xs++cs.toList).length=(n+1)*i.size:=by rw[List.length_append,hr.1,Array.length_toList,hl,Nat.add_mul,Nat.one_mul]
 refine⟨hlen,.inr ⟨_,_,_,rfl,zA3,heap_alloc_new (w.alloc (U cs e)).drew _,lg,eP,?_,?_⟩⟩;simp only[Array.size_append,List.size_toArray,size_zeroCells,sQ,hr.1,hl];rw[<-Nat.succ_mul,<-Nat.add_mul];congr 1;omega;simp only[Array.toList_append,List.append_assoc];rw[<-List.append_assoc,<-hlen];exact List.take_left
theorem WsB.push{B lo b g:Nat}(h:WsB D B lo b g k v ws w)(aQ:lo<=w)(hk:∀q,k=F q->¬(q<B\/D q))(uV:ws.length<1073741824)(at_:Int)(A0 c0)(l:List UInt8)(hd:∀C,qU (Uy B D) w C->Bys C C.heap.size (E A0 l.length c0) l)(ty:TypeId):∃v' w' k',(Builtin.append_ #[23,23] ty #[v,E w 1 1]).run prog (w.alloc (U #[at_,E A0 l.length c0] 142))=.ok v' w'/\WsB D B lo b g k' v' (ws++[(at_,l)]) w'/\Qi lo b g k w w'/\Zs w k k'/\(∀q,q<w.heap.size->k≠F q->w'.heap[q]?=w.heap[q]?):=by
 obtain⟨i0,hi,aZ,aT,aX⟩:=info_parts Tryz.info_write;obtain⟨ps,rfl,hw,hp⟩:=h;have h1:∀u∈(#[at_,E A0 l.length c0]:Array Of).toList,u.oneCell'=O:=zA8;rw[List.length_map]at uV hw;have fin:∀(v':Of)(w':Oc)(k':Option Nat),w'.ownsRow lo 142 2 v' (ps.length+1) (jF ps++[M Z at_,E A0 l.length c0])->(∃q,v'.ownBlock=F q/\k'=F q)->(∀q,q<w.heap.size->k≠F q->w'.heap[q]?=w.heap[q]?)->WsB D B lo b g k' v' (ps.map (·.1)++[(at_,l)]) w':=λv' w' k' ho ⟨q,oh,hq2⟩ hR=>by
  have hX:qU (Uy B D) w w':=Uy.keep λq hq h1=>hR q hq λe=>hk q e h1;refine⟨ps++[((at_,l),E A0 l.length c0)],zA3,.inr ⟨q,hq2,oh,by rw[qhj];simpa using ho⟩,λp ag=>?_⟩;rcases List.mem_append.1 ag with ag|ag
  exact⟨(hp p ag).1,λC hC=>(hp p ag).2 C (hX.trans hC λ_ _ h=>h)⟩;obtain rfl:p=((at_,l),E A0 l.length c0):=by simpa using ag
  exact⟨⟨A0,c0,rfl⟩,λC hC=>hd C (hX.trans hC λ_ _ h=>h)⟩
 rcases hw with⟨rfl,hm,A,rfl,hr⟩|⟨q,rfl,hq,ho⟩
 obtain⟨v',w',bH,h2,hx,hb⟩:=qei (P:=prog) w 23 ty 142 i0 (.agg #[M Z 0,E I 0 0]) 2 32 underlying23 hi aZ aT aX rfl zA1 B A ps.length (jF ps) hr #[M Z at_,E A0 l.length c0] rfl h1 uV zA1;have hN:Zs w I (F (w.heap.size+1)):=λq hq=>.inr (by cases hq;omega);have hB:Qi lo b g I w w':=Qi.of_ext hx aQ;exact⟨v',w',F (w.heap.size+1),bH,fin v' w' _ (QC h2 zO) ⟨_,hb,rfl⟩ (λq hq _=>Below.block hx q hq),hB,hN,λq hq _=>Below.block hx q hq⟩;obtain⟨v',w',bH,h2,h3,_,h5⟩:=run_append_own_at (P:=prog) (w.alloc (U #[M Z at_,E A0 l.length c0] 142)) lo 23 ty 142 i0 (.agg #[M Z 0,E I 0 0]) 2 32 underlying23 hi aZ aT aX rfl zA1 v ps.length (jF ps) (ho.alloc _) ⟨w.heap.size,0,I⟩ 1 1 [M Z at_,E A0 l.length c0]
  rfl (XR w #[M Z at_,E A0 l.length c0] 142) h1 zA7 zO zA2
 have hlq:=(Qn ho q hq).1;rw[hq]at h3 h5;have hB:Below lo w w':=Below.trans (Below.mono (zN w _) aQ) ((Below.refl lo _).grown h3 zA2 (λk hk=>by cases hk;exact hlq));have aC:∀q',q'<w.heap.size->(F q≠F q')->w'.heap[q']?=w.heap[q']?:=λq' h1 aH=>(h3.block q' zA2 (λe=>aH e.symm)).trans (zK w _ q' h1);have hK:Qi lo b g (F q) w w':=⟨hB,λq' h1 hn=>aC q' h1 λe=>hn (.inr (.inr e))⟩
 rcases h5 with h5|h5
 exact⟨v',w',F q,bH,fin v' w' _ h2 ⟨q,h5,rfl⟩ aC,hK,Zs.refl _ _,aC⟩;have hN:Zs w (F q) (F (w.heap.size+1)):=λq' sG=>.inr (by cases sG;omega);exact⟨v',w',F (w.heap.size+1),bH,fin v' w' _ h2 ⟨_,by rw[h5];simp,rfl⟩ aC,hK,hN,aC⟩
theorem qgF(fV:o.guard=I)(s x:Operand)(ho:o.op=.call {callee:=.builtin .append,args:=#[s,x],argTypes:=#[23,23]}){B lo b g:Nat}(hs:a.eval s=v)(hx:a.eval x=E w 1 1)(h:WsB D B lo b g k v ws w)(aQ:lo<=w)(hk:∀q,k=F q->¬(q<B\/D q))(uV:ws.length<1073741824)(at_:Int)(A0 n0 c0)(l:List UInt8)(hn0:n0=l.length)(hd:∀C,qU (Uy B D) w C->Bys C C.heap.size (E A0 n0 c0) l)(hK:∀v' w' k',WsB D B lo b g k' v' (ws++[(at_,l)]) w'->Qi lo b g k w w'->Zs w k k'->(∀q,q<w.heap.size->k≠F q->w'.heap[q]?=w.heap[q]?)->wpList prog ops Q rest (a.put o.dst v') w'):wpList prog ops Q (o::rest) a (w.alloc (U #[at_,E A0 n0 c0] 142)):=by subst hn0;refine wpList_plain fV λK hKK=>?_;obtain⟨v',w',k',bH,h1,h2,h3,h4⟩:=h.push aQ hk uV at_ A0 c0 l hd o.type;unfold Oper.wp execOp;simp only[ho,resolve,invoke,builtin,Sem.run_bind,Sem.run_pure,Result.andThen_ok,List.map_toArray,List.map_cons,List.map_nil,hs,hx,bH];exact hKK _ _ (hK v' w' k' h1 h2 h3 h4)
theorem Bch.put{B lo b g:Nat}(h:Bch D B lo b g k S w){n1 c1 c3 c4:Nat}(hr:w.heap[b]?=F (U #[E A1 n1 c1,v2,E g 256 c3,E A4 256 c4] 223))(ho:w.ownsRow lo 5 1 (E g 256 c3) 256 (S.now.map bv))(hb:Bls w B (E A1 n1 c1) S.bs)(hl:Bys w B (E A4 256 c4) S.last)(hf:f<256)(hw:WsB D B lo b g k' v' (S.ws++[((f:Int),l)]) W)(hB:Qi lo b g k w W)(hN:Zs w k k')(hKX:∀q,q<w.heap.size->k≠F q->W.heap[q]?=w.heap[q]?):Bch D B lo b g k' ⟨S.bs,S.ws++[((f:Int),l)],S.now.set f 1,S.last⟩ ((W.setCell (b,1) v').setCell (g,f) (M .u8 1))/\Qi lo b g k w ((W.setCell (b,1) v').setCell (g,f) (M .u8 1)):=by
 obtain⟨fZ,hzb,yK,xC,uP,oL,yz⟩:=h.size;have cZ:=h.blo;have hkd:=h.offk;have hzW:=hB.below.size;have hrb:=(hKX b hzb λe=>(yz b e).2.2.1 rfl).trans hr;have hkq':∀q,k'=F q->q≠b/\q≠g:=λq hq=>(hN q hq).elim (λe=>(yz q e).2.2) λe=>zO;have st:∀q,q≠b->q≠g->((W.setCell (b,1) v').setCell (g,f) (M .u8 1)).heap[q]?=W.heap[q]?:=λq h1 h2=>(zJ _ _ _ _ h2).trans (zJ _ _ _ _ h1);have yZ:Below lo W ((W.setCell (b,1) v').setCell (g,f) (M .u8 1)):=Below.setCell (Below.setCell (Below.refl _ _) (p:=⟨b,1,I⟩) fZ _) (p:=⟨g,f,I⟩) yK _;have dh:Below lo w ((W.setCell (b,1) v').setCell (g,f) (M .u8 1)):=hB.below.trans yZ;have hX:qU (Uy B D) W ((W.setCell (b,1) v').setCell (g,f) (M .u8 1)):=Uy.keep λq _ hq=>st q (λe=>hkd b (.inl rfl) (e▸hq)) (λe=>hkd g (.inr (.inl rfl)) (e▸hq));have ho1:=QQ ho (w':=W) λq hq=>by cases hq;exact hKX g xC λe=>(yz g e).2.2.2 rfl
 have ho2:=qbW (qij (k:=1) (v:=v') ho1 uP) (k:=f) hf 1;refine⟨⟨fZ,cZ,λq hq=>⟨(h.dB q hq).1,by have:=(h.dB q hq).2.1;simp;omega,λhx=>?_⟩,A1,n1,c1,v',c3,A4,c4,(zJ _ _ _ _ λe=>uP e.symm).trans (qi hrb 1 v'),ho2,?_,hb.below (Below.mono dh cZ),hl.below (Below.mono dh cZ)⟩,⟨dh,λq hq hn=>(st q (λe=>hn (.inl e)) (λe=>hn (.inr (.inl e)))).trans (hB.rows q hq hn)⟩⟩;exact(h.dB q hq).2.2 (B3.of_new hN q (h.dB q hq).2.1 hx);obtain⟨ps,e,hc,hp⟩:=hw;refine⟨ps,e,?_,λp ag=>⟨(hp p ag).1,λC hC=>(hp p ag).2 C (hX.trans hC λ_ _ h=>h)⟩⟩;rcases hc with⟨e1,hm,A,e2,sJ⟩|⟨q,e1,e2,how⟩
 exact .inl ⟨e1,hm,A,e2,sJ.below (Below.mono yZ cZ)⟩;exact .inr ⟨q,e1,e2,QQ how λq' sG=>by rw[e2]at sG;cases sG;exact st q (hkq' q e1).1 (hkq' q e1).2⟩
theorem or_none(a b:Nat)(ha:a<256)(hb:b<256):(bits .or .u8 (a:Int) (b:Int)!=0)=!(decide (a=0)&&decide (b=0)):=by rw[<-qld a b ha hb];rfl
theorem first_eq(hf:f<256)(h:jx S f=O)(pq:∀k,8<=k->k<f->jx S k=Oa):jd S≠[]/\Za S=f:=by
 have e:∃l,jd S=f::l:=by
  unfold jd;have h0:JJ S f=[]:=by
   unfold JJ;rw[List.filter_eq_nil_iff];intro k hk;have hkf:k<f:=by simpa using hk
   rcases Nat.lt_or_ge k 8 with h8|h8
   unfold jx;simp;omega;rw[pq k h8 hkf];decide
  have h1:=XY S f;rw[if_pos h,h0]at h1;obtain⟨t,ht⟩:=qcv S (show f+1<=256 by omega);exact⟨t,by rw[<-ht,h1];rfl⟩
 obtain⟨l,e⟩:=e;exact⟨by rw[e];simp,by unfold Za;rw[e];rfl⟩
theorem qlR(h:∀k,8<=k->k<256->jx S k=Oa):jd S=[]:=by
 unfold jd JJ;rw[List.filter_eq_nil_iff];intro k hk;have hkf:k<256:=by simpa using hk
 rcases Nat.lt_or_ge k 8 with h8|h8
 unfold jx;simp;omega;rw[h k h8 hkf];decide
theorem IsB.keepX(h:IsB lo n l v w)(hk:qU X w C)(hX:∀q,lo<=q->q<w.heap.size->¬X q):Bys C C v l:=by
 obtain⟨A,c,e,⟨A',c',e',hc,hm,hr⟩,hf⟩:=h;refine⟨A',c',e',hc,hm,hr.1,λhn=>?_⟩;obtain⟨b,off,e2,hb,aF⟩:=hr.2 hn;subst e2;have aQ:=hf ⟨b,off,I⟩ _ _ e';have hl:0<(l.map bv).length:=by simpa using hn
 exact⟨b,off,rfl,World.block_lt_of_cell? C ⟨b,off+0,I⟩ (hk _ _ (hX b aQ hb) (aF 0 _ (zL hl))),λj u hu=>hk _ _ (hX b aQ hb) (aF j u hu)⟩
theorem WsB.slice{B lo b g:Nat}(h:WsB D B lo b g k v ws w):∃A c,v=E A ws.length c:=by
 obtain⟨ps,e,hc,_⟩:=h;rcases hc with⟨_,_,A,e2,_⟩|⟨q,_,_,how⟩
 exact⟨A,_,e2⟩;obtain⟨A,c,e,_⟩:=qC how;exact⟨A,c,e⟩
def XP(D:Nat->Prop)(B lo b g:Nat)(k:Option Nat)(S:Sto)(lvl:Int)(its:List It)(w:Oc)(e:Ending)(W:Oc):Prop:=Qi lo b g k w W /\
 match Zg S lvl its with
 |.error er=>e=Y (Od #[M Z 0,er])
 |.ok (f,S')=>e=Y (Od #[(f:Int),M Z 0])/\∃k' D',Zs w k k'/\Yd w D D'/\Bch D' B lo b g k' S' W
theorem XP.bad{B lo b g:Nat}{its:List It}(h:Zg S lvl its=.error er)(hB:Qi lo b g k w W):XP D B lo b g k S lvl its w (Y (Od #[M Z 0,er])) W:=by refine⟨hB,?_⟩;rw[h]
theorem XP.good{B lo b g:Nat}{its:List It}(h:Zg S lvl its=.ok (f,S'))(hB:Qi lo b g k w W)(hN:Zs w k k')(hD:Yd w D D')(hb:Bch D' B lo b g k' S' W):XP D B lo b g k S lvl its w (Y (Od #[(f:Int),M Z 0])) W:=by refine⟨hB,?_⟩;rw[h];exact⟨rfl,k',D',hN,hD,hb⟩
theorem kV(h4:a.tmps[4]?.getD undef=u)(h5:a.tmps[5]?.getD undef=v)(hd:a.defers=[])(hR:R (Y (Od #[u,v])) W):bodyPost prog Tryz.f165 R .ret a W:=by refine bodyPost_ret (v:=Od #[u,v]) ?_ hd hR;simp[results,results165,go_sem,h4,h5]
set_option maxRecDepth 100000 in
theorem qao (D:Nat->Prop) (B lo b g:Nat) (k:Option Nat) (S:Sto) (lvl:Int) (A n c) (its:List It) (gu:∀ x∈its,Zb x) (uV:S.ws.length<=4096) (w:World) (h:Bch D B lo b g k S w) (hx:Kh (B3 b g k) w (.slice A n c) its):Calls prog 165 #[.pointer (some ⟨b,0,none⟩),jW lvl A n c] w (XP D B lo b g k S lvl its w):=by
 obtain⟨fZ,hzb,yK,xC,uP,oL,yz⟩:=h.size;have dC:=h.b3;obtain⟨nX,-,-,hA⟩:=hx.now.at_;subst nX;cases hm:Qj lvl its
 case false =>
  have hE:=zH (show Zg S lvl its=.error 8 by unfold Zg;rw[hm];rfl);have hW:=zH (fun W (hw:Ext w W)=>qjU lvl A its.length c its W (hx.now.ext hw) hm);replace hx:=zH hx;replace h:=zH h;clear hA hm yz dC;go_enter func165,ntmps165;go_wp2_with fail;generalize aA:World.alloc _ _=w1;have x1:Ext w w1:=by rw[<-aA];exact zN _ _
  clear aA;refine(hW.out w1 x1).mono ?_;rintro e w2 ⟨rfl,hB⟩;have x2:Ext w w2:=x1.trans hB;clear hB x1 hW;go_wp2_with fail;exact kV rfl rfl rfl (XP.bad hE.out (Qi.of_ext x2 oL))
 case true =>
  have hE:Hid (Zg S lvl its=match ja (qA its) S.now with
   | .error e=>.error e
   | .ok t=>if jd (qp S t)=[]\/S.ws.length=4096 then .error 9 else .ok (Za (qp S t),vz (qp S t) (Za (qp S t)) (Zo (QA lvl its)))):=zH (by unfold Zg;rw[hm];rfl)
  obtain⟨lq,pX,hl5,hib⟩:=Jb hm;have hW:=zH (fun W (hw:Ext w W)=>qda lvl A its.length c its W (hx.now.ext hw) hm gu);have hX:=zH hx;have hsl:=zH (Vr (b:=QA lvl its) (by have:=XA lvl its.length its.length gu hl5;rw[Xz] at this;omega));replace hA:=zH hA;replace hib:=zH hib;replace gu:=zH gu;replace h:=zH h;replace dC:=zH dC;replace yz:=zH yz;replace uV:=zH uV;clear hx hm lq pX;go_enter func165,ntmps165;go_wp2_with fail;generalize aA:World.alloc _ _=w1;have x1:Ext w w1:=by rw[<-aA];exact zN _ _
  have p1:w1.heap[w.heap.size]?=some (.cells #[.int .i64 lvl,.slice A its.length c] 113 (0,0)):=by rw[<-aA];exact zI _ _ _ rfl
  clear aA;refine(hW.out w1 x1).mono ?_;rintro e w2 ⟨u,rfl,⟨u,rfl,hu⟩,hB⟩;have hB:Ext w1 w2:=hB;have x2:Ext w w2:=x1.trans hB;have p2:=qb p1 hB;have kp:=qa p2;have z1:w.heap.size<w1.heap.size:=(zG.1 p1).1;obtain⟨A0,c0,rfl,hu1,hu2⟩:=hu;have hu:IsB w1.heap.size 128 (Zo (QA lvl its)) (.slice A0 128 c0) w2:=⟨A0,c0,rfl,hu1,hu2⟩
  replace hu:=zH hu;clear hB x1 p1 hW hu1 hu2;go_wp2_with fail;go_loopw [21] (fun i wr=>∃ (j:Nat) (t:List UInt8),j<=its.length/\i=.int .i64 (j:Int)/\ja (qA (its.take j)) S.now=.ok t/\Bch D B lo b g k (qp S t) wr/\Qi lo b g k w2 wr) (fun i _=>its.length-(intOf i).toNat)
  case atStart=>exact⟨0,S.now,Nat.zero_le _,rfl,rfl,h.out.ext x2,Qi.refl _ _ _ _ _⟩
  case round =>
   obtain⟨j,t,hj,rfl,gG,bn,nG⟩:=hrel;have pG:=hX.out.trans ((qU.of_ext (X:=B3 b g k) x2).trans nG.keepX fun _ _ h=>h) (fun _ _ h=>h);by_cases hlt:j<its.length
   ·obtain⟨bi,off,rfl,hbi⟩:=hA.out zO;obtain⟨A',c',d0,d1,d2,d3,d4,-⟩:=pG.now.item j hlt;have iw:=hib.out its[j] (List.getElem_mem hlt);have hrr:its[j].r=0\/(8<=its[j].r/\its[j].r<256):=by unfold itB at iw;simp at iw;exact iw.1
    have bQ:=zH (fun e h1=>qkn hlt (e:=e) gG h1);have bG:=zH (fun t' h1=>qiz hlt (t'':=t') gG h1);generalize its[j]=x at *;have nR:=zH (IntWalk.wrap64_in ((j:Int)+1) zO);replace gG:=zH gG;replace pG:=zH pG;clear hbi iw;rcases hrr with hr0|oP
    ·have hsh2:=zH (bG.out t (by rw[hr0];simp[ZR]));rw[hr0] at d3;have aZ:=bn.size.2.2.2.2.2.1;replace bn:=zH bn;replace nG:=zH nG;clear hr0 bQ bG kp;go_wp2_with fail;try rw[nR.out]
     refine⟨⟨j+1,t,zO,rfl,hsh2.out,bn.out.ext (zN _ _),nG.out.trans (Qi.of_ext (zN _ _) aZ) (Zs.refl _ _)⟩,?_⟩;simp[intOf];omega
    ·obtain⟨a,hra⟩:∃ a:Nat,x.r=(a:Int):=⟨x.r.toNat,zO⟩
     have ha8:8<=a:=zO;have ha9:a<256:=zO;have hsa:(x.r).toNat=a:=zO;rw[hra] at d3;rw[hsa] at bQ bG;have uG:Hid (ZR t a=if qL t a=0 then .error 6 else if qL t a=255 then .error 70 else .ok (zj t a 1)):=zH (by unfold ZR;rw[if_neg zO]);have hza:((a:Int) == 0)=false:=by rw[beq_eq_false_iff_ne];omega
     have aZ:=bn.size.2.2.2.2.2.1;have HS:=zH (fun W (hW:Ext wr W)=>qcj D B lo b g k (qp S t) a ha9 W (bn.ext hW));replace bn:=zH bn;replace nG:=zH nG;clear kp oP hsa hra;go_wp2_with fail;generalize iO:World.alloc _ _=wa;have xa:Ext wr wa:=by rw[<-iO];exact zN _ _
     have ra:wa.heap[wr.heap.size]?=some (.cells #[.int .u8 x.k,.int .u32 x.i,.int .u32 x.o,.int .i64 (a:Int),.slice A' x.val.length c'] 51 (0,0)):=by rw[<-iO];exact zI _ _ _ rfl
     have ka:=qa ra;clear iO d0 d1 d2 d3 d4;go_wp2_with fail;refine(HS.out wa xa).mono ?_;rintro e wsh ⟨yx,aI⟩;have gy:=nG.out.trans ((Qi.of_ext xa aZ).trans yx (Zs.refl _ _)) (Zs.refl _ _);clear HS yx ka ra xa;rcases aI with ⟨dX,rfl⟩|⟨dX,rfl⟩|⟨dX,dP,rfl,dC⟩
     ·have hEE:=zH (show Zg S lvl its=.error 6 by rw[hE.out,bQ.out 6 (by rw[uG.out,if_pos dX])]);clear hE bQ bG uG dX;go_wp2_with fail;exact kV rfl rfl rfl (XP.bad hEE.out ((Qi.of_ext x2 oL).trans gy (Zs.refl _ _)))
     ·have hEE:=zH (show Zg S lvl its=.error 70 by rw[hE.out,bQ.out 70 (by rw[uG.out,if_neg zO,if_pos dX])]);clear hE bQ bG uG dX;go_wp2_with fail;exact kV rfl rfl rfl (XP.bad hEE.out ((Qi.of_ext x2 oL).trans gy (Zs.refl _ _)))
     ·have IR:∃ (j':Nat) (t':List UInt8),j'<=its.length/\Value.int .i64 ((j:Int)+1)=.int .i64 (j':Int)/\ja (qA (its.take j')) S.now=.ok t'/\Bch D B lo b g k (qp S t') wsh/\Qi lo b g k w2 wsh:=
       ⟨j+1,zj t a 1,zO,rfl,bG.out _ (by rw[uG.out,if_neg dX,if_neg dP]),dC,gy⟩
      replace IR:=zH IR;clear hE bQ bG uG dX dP dC gy nG bn;go_wp2_with fail;try rw[nR.out]
      refine⟨IR.out,?_⟩;simp[intOf];omega
   ·obtain rfl:j=its.length:=zO;rw[List.take_length] at gG;rw[gG] at hE;have hE:Hid (Zg S lvl its=if jd (qp S t)=[]\/S.ws.length=4096 then .error 9 else .ok (Za (qp S t),vz (qp S t) (Za (qp S t)) (Zo (QA lvl its)))):=hE;have hEw:Hid ((qp S t).ws.length=S.ws.length):=rfl;rw[<-hEw.out] at hE uV;generalize qp S t=S' at *;have hAQ:=(Qi.of_ext (b:=b) (g:=g) (k:=k) x2 oL).trans nG (Zs.refl _ _);obtain⟨D',hD'⟩:∃ D':Nat->Prop,D'=fun q=>D q\/(w1.heap.size<=q/\q<w2.heap.size):=⟨_,rfl⟩
    have dC:=dC.out;have hzw:=h.out.size.2.2.2.2.2.1;have hux:=zH (fun C (hC:qU (Uy B D') wr C)=>hu.out.keepX (X:=fun q=>B3 b g k q\/Uy B D' q) ((nG.keepX.mono fun q _ h=>.inl h).trans hC fun _ _ h=>.inr h) (fun q h1 h2=>by
     rintro (hx|hx)
     ·have:=(dC q hx).2;omega
     ·exact hx.2 (by rw[hD'];exact .inr ⟨h1,h2⟩)))
    have hDD:∀ q,D q->D' q:=fun q hq=>by rw[hD'];exact .inl hq
    have hDn:Yd w.heap.size D D':=fun q hq=>by rw[hD'] at hq;exact hq.imp id fun h=>zO
    have hDb:∀ W,Ext wr W->∀ q,D' q->lo<=q/\q<W.heap.size/\¬B3 b g k q:=fun W hW q hq=>by
     have hz:=hW.size;have aX:=nG.below.size;rw[hD'] at hq;rcases hq with hq|⟨h1,h2⟩
     ·have:=bn.dB q hq;exact⟨this.1,zO,this.2.2⟩
     ·exact⟨zO,zO,fun hx=>by have:=(dC q hx).2;omega⟩
    have hkD:∀ q,k=some q->¬(q<B\/D' q):=fun q hq hx=>hx.elim (fun h1=>h.out.off q h1 (.inr (.inr hq))) fun h1=>(hDb wr (Ext.refl _) q h1).2.2 (.inr (.inr hq));replace hDb:=zH hDb;replace hDn:=zH hDn;replace hDD:=zH hDD;replace hkD:=zH hkD;clear hD' dC hzw;obtain⟨A1,n1,c1,v2,c3,A4,c4,hr,ho,hwb,bg,lW⟩:=bn.ex;obtain⟨hlen,hED⟩:=bn.lens;obtain⟨pU,tN,-,-⟩:=ZI ho;obtain⟨b4,o4,rfl,hb4lt,pR⟩:∃ b4 o4,A4=some ⟨b4,o4,none⟩/\b4<B/\∀ a,a<256->wr.cell? ⟨b4,o4+a,none⟩=some (.int .u8 (Yx S' a:Int)):=by obtain⟨A',c',e,_,_,sJ⟩:=lW;simp only[Value.slice.injEq] at e;obtain⟨rfl,_,rfl⟩:=e;obtain⟨b4,o4,e,h1,h2⟩:=sJ.2 zO;exact⟨b4,o4,e,h1,fun a ha=>h2 a _ (by rw[List.getElem?_map,zL zO];simp[Yx,zL (show a<S'.last.length by omega)])⟩
    have pU:Hid (∀ a,a<256->wr.cell? ⟨g,a,none⟩=some (.int .u8 (js S' a:Int))):=zH pU;have pR:=zH pR;have hfr:Hid (∀ k,8<=k->(bits .or .u8 (js S' k:Int) (Yx S' k:Int) != 0)=!jx S' k):=zH fun k h8=>by rw[or_none _ _ (qkY S' k) (qhN S' k)];unfold jx;rw[decide_eq_true h8,Bool.true_and]
    obtain⟨A2,c2,rfl⟩:=hwb.slice;have h5g:=h.out.size;have hHT:=bn.size.2.2.2.2.2.2;replace hHT:=zH hHT;have h0:=h;clear kp hu pG hX hA hib gu h nG gG hEw p2 yz h5g;replace bn:=zH bn;replace hwb:=zH hwb;replace ho:=zH ho;replace bg:=zH bg;replace lW:=zH lW;replace hAQ:=zH hAQ;replace tN:=zH tN;replace hlen:=zH hlen;replace hED:=zH hED;have hwx:=zH (Ext.refl wr);generalize hwm:wr=wm at *;clear hwm;go_wp2_with fail;go_loopw [4] (fun i wr=>∃ k:Nat,8<=k/\k<=256/\i=.int .i64 (k:Int)/\(∀ j,8<=j->j<k->jx S' j=false)/\Ext wm wr) (fun i _=>256-(intOf i).toNat)
    case atStart=>exact⟨8,zM _,zO,rfl,fun _ _ h=>zO,Ext.refl _⟩
    case round =>
     obtain⟨f,h8,hf,rfl,pq,mr⟩:=hrel;replace pq:=zH pq;have r2:=qb hr mr;by_cases hlt:f<256
     ·have g1:∀ W,qm.r wr W->∀ i,W.cell? ⟨b,i,none⟩=#[.slice A1 n1 c1,.slice A2 S'.ws.length c2,.slice (some ⟨g,0,none⟩) 256 c3,.slice (some ⟨b4,o4,none⟩) 256 c4][i]?:=fun W h=>qa (qb r2 h);have g2:∀ W,qm.r wr W->W.cell? ⟨g,f,none⟩=some (.int .u8 (js S' f:Int)):=fun W h=>Ext.cell (mr.trans h) (pU.out f hlt);have g3:∀ W,qm.r wr W->W.cell? ⟨b4,o4+f,none⟩=some (.int .u8 (Yx S' f:Int)):=fun W h=>Ext.cell (mr.trans h) (pR.out f hlt);have hbit:=hfr.out f h8;generalize js S' f=nw at *;generalize Yx S' f=lw at *;have d1:decide ((f:Int)<256)=true:=decide_eq_true zO;have d2:decide (f<256)=true:=decide_eq_true hlt;have nR:=zH (IntWalk.wrap64_in ((f:Int)+1) zO);have hEM:=zH (fun (h:jx S' f=false)=>(fun j hj (hlt:j<f+1)=>(Nat.lt_or_ge j f).elim (fun h1=>pq.out j hj h1) fun h1=>by rw[show j=f by omega];exact h:∀ j,8<=j->j<f+1->jx S' j=false));have tK:=zH (fun (h:jx S' f=true)=>first_eq hlt h pq.out);generalize jx S' f=fb at *;have e0:=zH mr;clear mr;go_upto_region 13 with fail;refine qt zQ ?_;refine qY (w:=wr) qm (qP []) (List.replicate 22 true) 0 zQ zQ zQ zQ zQ zQ zQ ?st (Rel.drew _ _) ?walk
      case st=>exact qk (fun _ h=>by cases h)
      case walk =>
       intro K hK;dsimp only[qv,List.replicate];refine zB7 ?_;refine qd (.pointer (some ⟨g,f,none⟩)) zA0 zA0 (fun W hW _=>⟨W,?_,Rel.refl _ W⟩) ?_
       ·go_simp;intro lg;exfalso;omega
       refine zB7 ?_;refine qd (.pointer (some ⟨b4,o4+f,none⟩)) zA0 zA0 (fun W hW _=>⟨W,?_,Rel.refl _ W⟩) ?_
       ·go_simp;intro lg;exfalso;omega
       refine zB7 ?_;refine qB (hK _ _ fun W hW hF=>?_);clear hF hK g1 g2 g3;have hW:Ext wr W:=hW;have xE:Ext wm W:=e0.out.trans hW;clear e0 hW;refine zC4 ?_;cases fb
       ·have IR:∃ k':Nat,8<=k'/\k'<=256/\Value.int .i64 ((f:Int)+1)=.int .i64 (k':Int)/\(∀ j,8<=j->j<k'->jx S' j=false)/\Ext wm W:=⟨f+1,zO,zO,rfl,hEM.out rfl,xE⟩
        replace IR:=zH IR;clear xE pq hEM tK;go_wp2;refine Qq ?_;go_wp2_with fail;try rw[nR.out]
        refine⟨IR.out,?_⟩;simp[intOf];omega
       ·have aH:=zH (tK.out rfl).1;have hfs:=zH (tK.out rfl).2;clear pq hEM tK hbit pU pR hfr d1 d2;have r3:=qb hr xE;have k3:=qa r3;have f3:=qe r3;have e1:((f:Int) == 256)=false:=by rw[beq_eq_false_iff_ne];omega
        by_cases hw4:S'.ws.length=4096
        ·have hEE:=zH (show Zg S lvl its=.error 9 by rw[hE.out,if_pos (.inr hw4)]);have lq:((S'.ws.length:Int) == 4096)=true:=by rw[beq_iff_eq];omega
         replace hw4:=zH hw4;replace xE:=zH xE;go_wp2;refine Qq ?_;go_wp2_with fail;exact kV rfl rfl rfl (XP.bad hEE.out (hAQ.out.trans (Qi.of_ext xE.out bn.out.size.2.2.2.2.2.1) (Zs.refl _ _)))
        ·have hEE:=zH (show Zg S lvl its=.ok (f,vz S' f (Zo (QA lvl its))) by rw[hE.out,if_neg (fun h=>h.elim aH.out hw4),hfs.out]);have lq:((S'.ws.length:Int) == 4096)=false:=by rw[beq_eq_false_iff_ne];omega
         replace hw4:=zH hw4;have xw:=zH xE;have zW:=xE.size;have zwm:=bn.out.size.2.2.2.2.2.1;have hbW:=zH ((bn.out.ext xE).mono hDD.out (hDb.out W (hwx.out.trans xE)));clear xE;go_wp2;refine Qq ?_;go_wp2_with (at_builtin;refine qV ?_);have zBlo:=h0.out.blo;refine Qm.go (qgF rfl (.tmp 78) (.tmp 82) rfl rfl rfl ((hwb.out.mono hDD.out).ext xw.out zO) zO hkD.out (by have:=uV.out;omega) (f:Int) A0 128 c0 (Zo (QA lvl its)) hsl.out.symm (fun C hC=>hux.out C ((qU.of_ext (hwx.out.trans xw.out)).trans hC fun _ _ h=>h)) ?_);intro v4 w4 k4 hW4 hK4 hN4 uF;obtain⟨A5,c5,rfl⟩:=hW4.slice;rw[List.length_append,List.length_singleton] at hW4;have r4:=(uF b (zG.1 r3).1 fun e=>(hHT.out b e).2.2.1 rfl).trans r3;have kr4:=qa r4;have fr4:=qe r4;have oW:=zu ho.out xw.out;have o4:=QQ oW (w':=w4) fun q hq=>by cases hq;exact uF g (Qn oW g rfl).2 fun e=>(hHT.out g e).2.2.2 rfl
         have kg4:=(ZI o4).1 f hlt;have fg4:=(ZI o4).2.1 f;have P:=zH (Bch.put hbW.out r3 oW (bg.out.below (Below.mono xw.out zO)) (lW.out.below (Below.mono xw.out zO)) hlt hW4 hK4 hN4 uF);have hAll:Hid (Qi lo b g k w _):=zH (hAQ.out.trans ((Qi.of_ext xw.out zwm).trans P.out.2 (Zs.refl _ _)) (Zs.refl _ _));replace hN4:=zH hN4;clear o4 oW uF hW4 r3 k3 f3 hK4;go_wp2_with fail;exact kV rfl rfl rfl (XP.good hEE.out hAll.out (hN4.out.mono (by have:=hAQ.out.below.size;omega)) hDn.out P.out.1)
     ·have d1:decide ((f:Int)<256)=false:=decide_eq_false zO;have e1:((f:Int) == 256)=true:=by rw[beq_iff_eq];omega
      have hf6:f=256:=zO;have hEE:=zH (show Zg S lvl its=.error 9 by rw[hE.out,if_pos (.inl (qlR fun j h8 hj=>pq.out j h8 zO))]);have e0:=zH mr;replace hf6:=zH hf6;clear mr pU pR hfr pq r2;go_upto_region 13 with fail;refine qt zQ ?_;refine qY (w:=wr) qm (qP []) (List.replicate 22 true) 0 zQ zQ zQ zQ zQ zQ zQ ?st (Rel.drew _ _) ?walk
      case st=>exact qk (fun _ h=>by cases h)
      case walk =>intro K hK;dsimp only[qv,List.replicate];refine zB7 ?_;refine qB (hK _ _ fun W hW hF=>?_);clear hF hK;have hW:Ext wr W:=hW;have xE:Ext wm W:=e0.out.trans hW;clear e0 hW;refine zC4 ?_;replace xE:=zH xE;go_wp2;refine Qq ?_;go_wp2_with fail;exact kV rfl rfl rfl (XP.bad hEE.out (hAQ.out.trans (Qi.of_ext xE.out bn.out.size.2.2.2.2.2.1) (Zs.refl _ _)))
def km(xs:List It)(k:K3):Bool:=match xs[qF xs k]? with
 |none=>Oa
 |some x=>decide (qw x=k)
theorem vH{k:K3}(h:qF xs k<xs.length):km xs k=decide (qw xs[qF xs k]=k):=by unfold km;rw[zL h]
theorem KO{k:K3}(h:¬qF xs k<xs.length):km xs k=Oa:=by unfold km;rw[List.getElem?_eq_none zO]
theorem key_if(x:It)(k i o:Int)(W:Oc):(if x.k=k then if x.i=i then if x.o=o then Result.ok (Next.value (Value.bool O)) W else Result.ok (Next.value (Value.bool Oa)) W else Result.ok (Next.value (Value.bool Oa)) W else Result.ok (Next.value (Value.bool Oa)) W)=Result.ok (Next.value (Value.bool (decide (qw x=(k,i,o))))) W:=by
 have e:(qw x=(k,i,o))↔(x.k=k/\x.i=i/\x.o=o):=by unfold qw;simp only[Prod.mk.injEq]
 by_cases h1:x.k=k;by_cases h2:x.i=i;by_cases h3:x.o=o;rw[if_pos h1,if_pos h2,if_pos h3,decide_eq_true (e.2 ⟨h1,h2,h3⟩)];rw[if_pos h1,if_pos h2,if_neg h3,decide_eq_false (λh=>h3 (e.1 h).2.2)];rw[if_pos h1,if_neg h2,decide_eq_false (λh=>h2 (e.1 h).2.1)];rw[if_neg h1,decide_eq_false (λh=>h1 (e.1 h).1)]
theorem qfd(h2:a.tmps[4]?.getD undef=u)(h3:a.tmps[5]?.getD undef=v)(hd:a.defers=[])(hR:R (Y (Od #[u,v])) W):bodyPost prog Tryz.f146 R .ret a W:=by refine bodyPost_ret (v:=Od #[u,v]) ?_ hd hR;simp[results,results146,go_sem,h2,h3]
set_option maxRecDepth 100000 in
theorem qdg(lvl:Int)(A c)(xs:List It)(k i o:Int)(w:Oc)(hl:xs.length<=5)(h:Its w w (E A xs.length c) xs):Calls prog 146 #[jW lvl A xs.length c,Uh k i o] w (Ret (Od #[M Z ((qF xs (k,i,o):Nat):Int),.bool (km xs (k,i,o))]) w):=by
 obtain⟨-,dP,au,hA⟩:=h.at_;have HI:=zH h;clear h;go_enter func146,ntmps146;go_wp2_with fail;generalize aA:(Oe (Oe w _) _)=w1;have x1:Ext w w1:=by rw[<-aA];exact(zN _ _).trans (zN _ _)
 have rn:w1.heap[w.heap.size]?=F (U #[M Z lvl,E A xs.length c] 113 (0,0)):=by rw[<-aA];exact(zK _ _ _ zA3).trans (zI _ _ _ rfl)
 have rk:w1.heap[w.heap.size+1]?=F (U #[M .u8 k,M .u32 i,M .u32 o] 49 (0,0)):=aA▸zI _ _ _ zA3;clear aA;go_loopw [4,11] (λp j wr=>∃n:Nat,n<=xs.length/\j=M Z (n:Int)/\p=M Z ((qF (xs.take n) (k,i,o):Nat):Int)/\Ext w1 wr) (λ_ j _=>xs.length-(intOf j).toNat)
 case atStart=>exact⟨0,Nat.zero_le _,rfl,rfl,Ext.refl _⟩
 case round=>
  obtain⟨n,hn,rfl,rfl,xr⟩:=hrel;have xwr:=x1.trans xr;have kn:=qa (qb rn xr);have kk:=qa (qb rk xr);have zk:w.heap.size+1<wr.heap.size:=(zG.1 (qb rk xr)).1;by_cases hlt:n<xs.length
  ·obtain⟨b,off,rfl,hb⟩:=hA zO;obtain⟨A',c',d0,d1,d2,d3,d4,-⟩:=HI.out.item n hlt;replace d0:=Ext.cell xwr d0;replace d1:=Ext.cell xwr d1;replace d2:=Ext.cell xwr d2;replace d3:=Ext.cell xwr d3;replace d4:=Ext.cell xwr d4;have HP:=zH (qjW (k:=(k,i,o)) hlt);have bz:=JR (xs.take n) (k,i,o);rw[List.length_take]at bz;generalize qF (xs.take n) (k,i,o)=pl at*;generalize xs[n]=x at*;go_wp2_with fail;generalize iO:(Oe wr _)=wa;have xa:Ext wr wa:=iO▸zN _ _;clear iO;refine(VN x.k x.i x.o k i o wa).mono ?_;rintro e wl ⟨rfl,hB⟩;have xl:Ext w1 wl:=xr.trans (xa.trans hB);clear kn kk d0 d1 d2 d3 d4;rcases hls:vJ x.k x.i x.o k i o with _|_
   ·have hz:qF (xs.take (n+1)) (k,i,o)=pl:=by rw[HP.out,if_neg (show ¬Qg (qw x) (k,i,o)=O from(λh=>by rw[show Qg (qw x) (k,i,o)=Oa from hls]at h;cases h))];rfl
    replace hz:=zH hz;go_wp2_with fail;refine⟨⟨n+1,hlt,rfl,by rw[hz.out],xl⟩,?_⟩;simp[intOf];omega
   have hz:qF (xs.take (n+1)) (k,i,o)=pl+1:=by rw[HP.out,if_pos (show Qg (qw x) (k,i,o)=O from hls)]
   replace hz:=zH hz;go_wp2_with fail;refine⟨⟨n+1,hlt,rfl,by rw[hz.out];rfl,xl⟩,?_⟩;simp[intOf];omega
  obtain rfl:n=xs.length:=zO;rw[List.take_length];have bz:=JR xs (k,i,o);go_wp2_with fail;by_cases hp:qF xs (k,i,o)<xs.length
  ·have hia:=vH hp;obtain⟨b,off,rfl,hb⟩:=hA zO;obtain⟨A',c',d0,d1,d2,-,-,-⟩:=HI.out.item _ hp;replace d0:=Ext.cell xwr d0;replace d1:=Ext.cell xwr d1;replace d2:=Ext.cell xwr d2;generalize xs[qF xs (k,i,o)]=x at*;generalize qF xs (k,i,o)=pl at*;generalize dn:km xs (k,i,o)=ie at*;have gN:∀W,qm.r wr W->∀i,W.cell? ⟨w,i,I⟩=#[M Z lvl,E (b,off) xs.length c][i]?:=λW h=>qa (qb (qb rn xr) h);have gK:∀W,qm.r wr W->∀j,W.cell? ⟨w.heap.size+1,j,I⟩=#[M .u8 k,M .u32 i,M .u32 o][j]?:=λW h=>qa (qb (qb rk xr) h);have gD:∀W,qm.r wr W->W.cell? (b,off+pl*5)=F (M .u8 x.k)/\W.cell? (b,off+pl*5+1)=F (M .u32 x.i)/\W.cell? (b,off+pl*5+2)=F (M .u32 x.o):=λW h=>⟨Ext.cell h d0,Ext.cell h d1,Ext.cell h d2⟩
   have gD0:=λW h=>(gD W h).1;have gD1:=λW h=>(gD W h).2.1;have gD2:=λW h=>(gD W h).2.2;replace hia:=zH hia;clear d0 d1 d2 gD;refine qt zQ ?_;refine qY (w:=wr) qm (qP []) [O,O,O,O,O,O,O,O,O,O,O,O,O,O,O,O,O] 1 zQ zQ zQ zQ zQ zQ zQ ?st (Rel.drew _ _) ?walk
   case st=>exact qk (λ_ h=>by cases h)
   case walk=>
    intro K hK;dsimp only[qv];refine zB7 ?_;refine qd (.bool ie) zA0 zA0 (λW hW _=>⟨W,?_,Rel.refl _ W⟩) ?_
    ·go_simp;rw[hia.out];exact key_if x k i o W
    refine zB7 ?_;refine qB (hK _ _ λW hW hF=>?_);clear hF hK gN gK gD0 gD1 gD2;have bZ:Ext wr W:=hW;refine zB6 ?_;go_wp2;refine Qq ?_;go_wp2_with fail;exact qfd rfl rfl rfl ⟨rfl,xwr.trans bZ⟩
  have hia:=KO hp;have gN:∀W,qm.r wr W->∀i,W.cell? ⟨w,i,I⟩=#[M Z lvl,E A xs.length c][i]?:=λW h=>qa (qb (qb rn xr) h);generalize qF xs (k,i,o)=pl at*;generalize dn:km xs (k,i,o)=ie at*;replace hia:=zH hia;refine qt zQ ?_;refine qY (w:=wr) qm (qP []) [O,O,O,O,O,O,O,O,O,O,O,O,O,O,O,O,O] 1 zQ zQ zQ zQ zQ zQ zQ ?st (Rel.drew _ _) ?walk
  case st=>exact qk (λ_ h=>by cases h)
  case walk=>intro K hK;dsimp only[qv];refine zB7 ?_;refine qB (hK _ _ λW hW hF=>?_);clear hF hK gN;have bZ:Ext wr W:=hW;refine zB6 ?_;go_wp2;refine Qq ?_;go_wp2_with fail;exact qfd rfl rfl rfl ⟨by rw[hia.out];rfl,xwr.trans bZ⟩
theorem qaH(lvl:Int)(A c)(xs:List It)(k i o:Int)(lo:Nat)(w:Oc)(hl:xs.length<=5)(h:ZO lo w (E A xs.length c) xs):Calls prog 146 #[jW lvl A xs.length c,Uh k i o] w (Ret (Od #[M Z ((qF xs (k,i,o):Nat):Int),.bool (km xs (k,i,o))]) w):=qdg lvl A c xs k i o w hl h.its
def looseL:List Nat->List UInt8->Except Int (List UInt8)
 |[],t=>.ok t
 |a::r,t=>if a=0 then looseL r t else if qL t a=0 then .error 6 else looseL r (jf t a)
theorem jk(r:List Nat)(t:List UInt8):looseL (0::r) t=looseL r t:=by simp[looseL]
theorem jR{a:Nat}(ha:a≠0){t:List UInt8}(h:qL t a=0)(r:List Nat):looseL (a::r) t=.error 6:=by simp only[looseL];rw[if_neg ha,if_pos h]
theorem jj{a:Nat}(ha:a≠0){t:List UInt8}(h:qL t a≠0)(r:List Nat):looseL (a::r) t=looseL r (jf t a):=by simp only[looseL];rw[if_neg ha,if_neg h]
theorem JO:∀(l r:List Nat)(t:List UInt8),looseL (l++r) t=match looseL l t with
  |.error e=>.error e
  |.ok t'=>looseL r t'
 |[],_,_=>rfl
 |a::l,r,t=>by by_cases ha:a=0;subst ha;rw[List.cons_append,jk,jk];exact JO l r t;by_cases h:qL t a=0;rw[List.cons_append,jR ha h,jR ha h];rw[List.cons_append,jj ha h,jj ha h];exact JO l r _
def leaveF(S:Sto):Nat->Int->List UInt8->Nat->Option (List UInt8)
 |0,_,_,_=>I
 |h+1,lvl,t,a=>if qL t a=0 then I else if 1<qL t a then F (jf t a) else
  match qo S a with
  |none=>I
  |some (l,xs)=>if 0<=lvl/\l≠lvl then I else if 0<l then(qA xs).foldl (λacc r=>acc.bind λt=>leaveF S h (l-1) t r) (F (t.set a 0)) else
   match looseL (qA xs) (t.set a 0) with
   |.error _=>I
   |.ok t'=>F t'
theorem vw(S:Sto)(h:Nat)(lvl:Int)(t:List UInt8)(a:Nat):leaveF S (h+1) lvl t a=if qL t a=0 then I else if 1<qL t a then F (jf t a) else
  match qo S a with
  |none=>I
  |some (l,xs)=>if 0<=lvl/\l≠lvl then I else if 0<l then(qA xs).foldl (λacc r=>acc.bind λt=>leaveF S h (l-1) t r) (F (t.set a 0)) else
   match looseL (qA xs) (t.set a 0) with
   |.error _=>I
   |.ok t'=>F t':=rfl
theorem qbo(S:Sto):∀(h:Nat)(lvl:Int)(t:List UInt8)(a:Nat),0<=lvl->lvl<h->leaveF S (h+1) lvl t a=leaveF S h lvl t a
 |0,lvl,t,a,h0,h1=>zO
 |h+1,lvl,t,a,h0,h1=>by
  rw[vw,vw];split;rfl;split;rfl;split;rfl;rename_i l xs _;split;rfl;rename_i hl;have e:l=lvl:=by by_cases h:l=lvl;exact h;exact absurd ⟨h0,h⟩ hl
  subst e;split;rename_i hp;congr 1;funext acc r;congr 1;funext t;exact qbo S h (l-1) t r zO zO;rfl
theorem zY{a:Nat}(h:qo S a=F (lvl,xs)):0<=lvl/\lvl<6/\xs.length<=5:=by have:=Jb (qI h).1;exact⟨this.1,this.2.1,this.2.2.1⟩
def QK(S:Sto)(lvl:Int)(t:List UInt8)(a:Nat):Option (List UInt8):=leaveF S 7 lvl t a
def JK(S:Sto):List (Nat×Int)->List UInt8->Option (List UInt8)
 |[],t=>F t
 |x::r,t=>match QK S x.2 t x.1 with
  |none=>I
  |some t'=>JK S r t'
theorem Up(S:Sto):∀(l r:List (Nat×Int))(t:List UInt8),JK S (l++r) t=match JK S l t with
  |none=>I
  |some t'=>JK S r t'
 |[],_,_=>rfl
 |x::l,r,t=>by
  simp only[List.cons_append,JK];cases QK S x.2 t x.1 with
  |none=>rfl
  |some t'=>exact Up S l r t'
theorem qbp(S:Sto)(l:Int):∀(rs:List Nat)(o:Option (List UInt8)),rs.foldl (λacc r=>acc.bind λt=>QK S l t r) o=o.bind λt=>JK S (rs.map λr=>(r,l)) t
 |[],o=>by cases o<;>rfl
 |a::r,o=>by
  rw[List.foldl_cons,qbp S l r];cases o with
  |none=>rfl
  |some t=>
   simp only[Option.bind_some,List.map_cons,JK];cases QK S l t a<;>rfl
theorem VM(S:Sto)(lvl:Int)(t:List UInt8)(a:Nat):QK S lvl t a=if qL t a=0 then I else if 1<qL t a then F (jf t a) else
  match qo S a with
  |none=>I
  |some (l,xs)=>if 0<=lvl/\l≠lvl then I else if 0<l then JK S ((qA xs).map λr=>(r,l-1)) (t.set a 0) else
   match looseL (qA xs) (t.set a 0) with
   |.error _=>I
   |.ok t'=>F t':=by
 obtain⟨h,hh⟩:∃h,h=6:=⟨_,rfl⟩
 have L1:∀lvl t a,QK S lvl t a=leaveF S (h+1) lvl t a:=λlvl t a=>by rw[hh];rfl
 rw[L1,vw];have key:∀l xs,qo S a=F (l,xs)->0<l->(qA xs).foldl (λacc r=>acc.bind λt=>leaveF S h (l-1) t r) (F (t.set a 0))=JK S ((qA xs).map λr=>(r,l-1)) (t.set a 0):=λl xs hn h0=>by
  obtain⟨_,h6,_⟩:=zY hn;have e1:=qbp S (l-1) (qA xs) (F (t.set a 0));rw[Option.bind_some]at e1;rw[<-e1];have e:(λ(acc:Option (List UInt8))(r:Nat)=>acc.bind λt=>leaveF S h (l-1) t r)=λacc r=>acc.bind λt=>QK S (l-1) t r:=by
   funext acc r;cases acc with
   |none=>rfl
   |some t=>
    simp only[Option.bind_some];rw[L1,qbo S h (l-1) t r zO zO]
  rw[e]
 split;rfl;split;rfl;split;rfl;rename_i l xs hn;split;rfl;split;rename_i h0;exact key l xs hn h0;rfl
def jz(k:K3)(r:Nat):It:=⟨k.1,k.2.1,k.2.2,(r:Int),[]⟩
def jy(p:List It):K3:=match p with
 |[]=>(0,0,0)
 |x::_=>qw x
def makeL(lvl:Int):List (List It)->Sto->Except Int (List It×Sto)
 |[],S=>.ok ([],S)
 |p::r,S=>match Zg S lvl p with
  |.error e=>.error e
  |.ok (f,S')=>match makeL lvl r S' with
   |.error e=>.error e
   |.ok (up,S'')=>.ok (jz (jy p) f::up,S'')
def ZQ(l:List It):List (List It):=if 5<l.length then [l.take 3,l.drop 3]else [l]
def Qy(S:Sto)(lvl:Int)(l held:List It):Except Int (List It×Sto):=match makeL lvl (ZQ l) S with
 |.error e=>.error e
 |.ok (up,S')=>match looseL (qA held) S'.now with
  |.error e=>.error e
  |.ok t=>.ok (up,qp S' t)
def ZE(xs:List It)(p many:Nat)(up:List It):List It:=xs.take p++up++xs.drop (p+many)
def jJ(S:Sto)(k:K3):Nat->List It->List (Nat×List It×Nat)
 |0,xs=>[(0,xs,qF xs k)]
 |h+1,xs=>(h+1,xs,if km xs k=O then qF xs k else qF xs k-1)::match xs[if km xs k=O then qF xs k else qF xs k-1]? with
  |none=>[]
  |some y=>match qo S y.r.toNat with
   |none=>[]
   |some (_,ys)=>jJ S k h ys
def YF(k:K3)(lvl:Nat)(xs:List It):Nat:=if lvl=0/\km xs k=Oa then 0 else 1
def JF(k:K3):List (Nat×List It×Nat)->List It->Sto->Except Int (List It×Sto)
 |[],up,S=>.ok (up,S)
 |(lvl,xs,p)::r,up,S=>match Qy S (lvl:Int) (ZE xs p (YF k lvl xs) up) up with
  |.error e=>.error e
  |.ok (up',S')=>JF k r up' S'
def qbE(k:K3)(l:List (Nat×List It×Nat)):Bool:=decide (l.length=6)&&(l.all λs=>!decide (s.2.1.length<5))&&!(match l.getLast? with
 |none=>Oa
 |some s=>km s.2.1 k)
def putX(S:Sto)(L:Nat)(xs:List It)(root:Nat)(x:It):Except Int (Nat×Sto):=
 if qbE (qw x) (jJ S (qw x) L xs)=O then .error 120 else
 match JF (qw x) (jJ S (qw x) L xs).reverse [x] S with
 |.error e=>.error e
 |.ok (up,S1)=>match(if 1<up.length then Qy S1 ((jJ S (qw x) L xs).length:Int) up up else .ok (up,S1)) with
  |.error e=>.error e
  |.ok (up',S2)=>match QK S2 (-1) S2.now root with
   |none=>.error 8
   |some t=>.ok (match up' with
    |[]=>0
    |y::_=>y.r.toNat,qp S2 t)
end Go.Proofs.YtmeadnlmepcmbaaGreat
