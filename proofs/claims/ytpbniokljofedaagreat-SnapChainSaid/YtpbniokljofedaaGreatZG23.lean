/- Texts PutL, LeaveW, VolF, VolF2, FFind, VFind, FHas, joined. -/
import Derived.WalkMore
import Derived.Test.YtpbniokljofedaaGreatZG10
import Derived.Test.YtpbniokljofedaaGreatZG16
import Derived.Test.YtpbniokljofedaaGreatZG20
import Derived.Test.YtpbniokljofedaaGreatZG21
import Derived.Test.YtpbniokljofedaaGreatZG22
set_option linter.unusedSimpArgs false
set_option linter.unusedVariables false
set_option maxHeartbeats 8000000
open Go.Proofs.Tryz
namespace Go.Proofs.YtpbniokljofedaaGreat
open Go.RowKit
theorem qig {S:Sto} {h:Nat} {xs:List It} {k:K3} (hs:(qD S h xs).isSome=true) (h0:0<xs.length) : (∀ y∈qC S h (xs.take (Zi xs k)),qM (qo y) k=true)/\∀ y∈qC S h (xs.drop (Zi xs k+1)),qM k (qo y)=true:=by
 have ho:=(VR hs).2;have hp:=fun i hi=>Jk (k:=k) ho i hi;have hle:=Jl xs k;have hlt:=jY (k:=k) h0;constructor
 ·intro y hy;have hl:=items_lt hs hlt hy;have di:0<Zi xs k:=by
   rcases Nat.eq_zero_or_pos (Zi xs k) with e|e
   ·rw[e,List.take_zero,JB] at hy;cases hy
   ·exact e
  have hk:leK (qo xs[Zi xs k]) k:=by
   by_cases hi:KX xs k=true
   ·have e1:Zi xs k=qA xs k:=by unfold Zi;rw[if_pos hi]
    have aH:qA xs k<xs.length:=zO;rw[kI aH,decide_eq_true_eq] at hi;have:xs[Zi xs k]=xs[qA xs k]:=by congr 1
    rw[this,hi];exact TZ k
   ·have e1:Zi xs k=qA xs k-1:=by unfold Zi;rw[if_neg hi]
    exact Vt ((hp _ hlt).2 zO)
  exact YY hl hk
 ·intro y hy;obtain⟨j,hj,hy⟩:=qjV hy;rw[List.length_drop] at hj;rw[List.getElem_drop] at hy;have hl:=one_low hs (j:=Zi xs k+1+j) zO hy;refine YY ?_ hl;have hUN:∀ i (hi:i<xs.length),Zi xs k<i->qM k (qo xs[i])=true:=fun i hi iY=>by
   by_cases his:KX xs k=true
   ·have e1:Zi xs k=qA xs k:=by unfold Zi;rw[if_pos his]
    have aH:qA xs k<xs.length:=zO;rw[kI aH,decide_eq_true_eq] at his;have:=Yf ho (i:=qA xs k) (j:=i) zO hi
    rwa [his] at this
   ·have e1:Zi xs k=qA xs k-1:=by unfold Zi;rw[if_neg his]
    have aH:qA xs k<xs.length:=zO;have lG:qM (qo xs[qA xs k]) k=false:=by rw[<-Bool.not_eq_true];intro e;have:=(hp _ aH).1 e;omega
    rw[kI aH,decide_eq_true_eq] at his;have hgk:qM k (qo xs[qA xs k])=true:=by
     rcases hq:qM k (qo xs[qA xs k]) with _|_
     ·exact absurd (qdO hq lG) his
     ·rfl
    by_cases hi3:i=qA xs k
    ·subst hi3;exact hgk
    ·exact Jj hgk (Yf ho zO hi)
  exact hUN _ zO zO
theorem qgi (A B C:List It) (b:Nat):(qT B).count b<=(qT (A++B++C)).count b:=by simp only[qT,List.map_append,List.count_append];omega
structure qeE (S:Sto) (x:It):Prop where
 ok:Zm x
 it:itB x.r x.val.length=true
 one:jr S 0 x=some (qo x,qo x)
theorem qeE.of {S:Sto} {x:It} (hx:Zm x) (h:Td S x=0):qeE S x:=by
 unfold Td at h;split at h
 ·rename_i h1;split at h
  ·cases h
  ·rename_i h2;refine⟨hx,h1,?_⟩;unfold jr;rw[if_pos];by_cases hr:x.r=0
   ·exact .inl hr
   ·exact .inr (Nat.pos_of_ne_zero fun e=>h2 ⟨hr,e⟩)
 ·cases h
theorem qba {S:Sto} {x:It} (hS:qm S=true) (hx:qeE S x):∀ (h:Nat) {a:Nat} {xs up:List It} {S':Sto},qu S a=some ((h:Int),xs)->(qD S h xs).isSome=true->jp (qo x) (km S (qo x) h xs).reverse [x] S=.ok (up,S') ->
  SM S S'/\qm S'=true/\(qD S' (h+1) up).isSome=true/\qC S' (h+1) up=YA (qo x) x (qC S h xs)/\up≠[]/\∀ y∈up,Zm y/\itB y.r y.val.length=true
 |0,a,xs,up,S',hn,hs,e=>by
  rw[qbR,List.reverse_singleton,UX] at e;simp only at e;have ho:Ord xs:=(VR hs).2;rw[leaf_ins ho] at e;have hmx:=(qN hn).2.1;have fZ:∀ y∈YA (qo x) x xs,y=x\/y∈xs:=fun y hy=>by
   unfold YA at hy;simp only[List.mem_append,List.mem_filter,List.mem_singleton] at hy;rcases hy with (hy|hy)|hy
   ·exact .inr hy.1
   ·exact .inl hy
   ·exact .inr hy.1
  have hl:∀ y∈YA (qo x) x xs,Zm y:=fun y hy=>by
   rcases fZ y hy with rfl|hy
   ·exact hx.ok
   ·exact(hmx y hy).1
  have hh:∀ y∈[x],itB y.r y.val.length=true:=fun y hy=>by rw[List.mem_singleton.1 hy];exact hx.it
  have aN:(qD S 0 (YA (qo x) x xs)).isSome=true:=ju.2 ⟨fun y hy=>by
   rcases fZ y hy with rfl|hy
   ·exact⟨_,hx.one⟩
   ·exact(ju.1 hs).1 y hy,qiO ho⟩
  have hb:=Ti (h:=0) hS hl hh (fun b _=>by unfold YA;exact qgi _ [x] _ b) (by unfold YA;simp) aN e;exact⟨hb.1,hb.2.1,hb.2.2.1,hb.2.2.2.1,hb.2.2.2.2,(KM hl hh hS e).2.2.1⟩
 |h+1,a,xs,up,S',hn,hs,e=>by
  have h0:=qaw (qN hn).1 zO;have hlt:=jY (k:=qo x) h0;obtain⟨b,e1,-,-,zs,e4,e5⟩:=ZZ (jv hs _ (List.getElem_mem hlt));have lL:qu S (xs[Zi xs (qo x)].r).toNat=some ((h:Int),zs):=by rw[e1,Int.toNat_natCast];exact e4
  rw[UH (zL hlt) lL,List.reverse_cons,Vh] at e;split at e
  ·cases e
  ·rename_i xk S1 eg;obtain⟨m1,xx,hHY,uM,nD,iJ⟩:=qba hS hx h e4 e5 eg;rw[UX] at e;simp only at e;have hm1:JE (qo x) (h+1) xs=1:=by unfold JE;rw[if_neg zO]
   rw[hm1] at e;unfold VL at e;obtain⟨hA,hC⟩:=qig (k:=qo x) hs h0;have hmx:=(qN hn).2.1;generalize hp:Zi xs (qo x)=p at *;have hED:xs=xs.take p++[xs[p]]++xs.drop (p+1):=by rw[List.append_assoc,List.singleton_append,List.getElem_cons_drop,List.take_append_drop]
   have hs':=hs;rw[hED] at hs';have hsA:(qD S (h+1) (xs.take p)).isSome=true:=UF (xs:=[]) (ys:=xs.take p) (zs:=[xs[p]]++xs.drop (p+1)) (by rw[List.nil_append,<-List.append_assoc];exact hs');have hsC:(qD S (h+1) (xs.drop (p+1))).isSome=true:=UF (xs:=xs.take p++[xs[p]]) (ys:=xs.drop (p+1)) (zs:=[]) (by rw[List.append_nil];exact hs');have hB:qC S (h+1) [xs[p]]=qC S h zs:=by simp only[qC,List.flatMap_cons,List.flatMap_nil,List.append_nil,lL]
   have hCV:qC S1 (h+1) (xs.take p++xk++xs.drop (p+1))=YA (qo x) x (qC S (h+1) xs):=by
    conv=>rhs;rw[hED,Qt,Qt,ins_mid hA hC,hB,<-uM]
    rw[Qt,Qt,m1.items _ _ hsA,m1.items _ _ hsC]
   have hl:∀ y∈xs.take p++xk++xs.drop (p+1),Zm y:=fun y hy=>by
    rcases List.mem_append.1 hy with hy|hy
    ·rcases List.mem_append.1 hy with hy|hy
     ·exact(hmx y (List.mem_of_mem_take hy)).1
     ·exact(iJ y hy).1
    ·exact(hmx y (List.mem_of_mem_drop hy)).1
   have aN:(qD S1 (h+1) (xs.take p++xk++xs.drop (p+1))).isSome=true:=ju.2 ⟨GC (GC (m1.each (ju.1 hsA).1) (ju.1 hHY).1) (m1.each (ju.1 hsC).1),by rw[hCV];exact qiO (VR hs).1⟩;have hb:=Ti (h:=h+1) xx hl (fun y hy=>(iJ y hy).2) (fun b _=>qgi _ xk _ b) (by simp[nD]) aN e;exact⟨m1.trans hb.1,hb.2.1,hb.2.2.1,hb.2.2.2.1.trans hCV,hb.2.2.2.2,(KM hl (fun y hy=>(iJ y hy).2) xx e).2.2.1⟩
theorem qfJ {lvl:Int}:∀ {ps:List (List It)} {S S':Sto} {up:List It},jf lvl ps S=.ok (up,S')->up.length=ps.length
 | [],S,S',up,h=>by cases h;rfl
 |p :: r,S,S',up,h=>by
  simp only[jf] at h;split at h
  ·cases h
  ·split at h
   ·cases h
   ·rename_i hl;cases h;simp[qfJ hl]
theorem qcP {k:K3}:∀ {ps:List Stp} {up up':List It} {S S':Sto},jp k ps up S=.ok (up',S')->up.length<=2->up'.length<=2
 | [],up,up',S,S',h,h0=>by cases h;exact h0
 |(lvl,xs,p) :: r,up,up',S,S',h,h0=>by
  simp only[jp] at h;split at h
  ·cases h
  ·rename_i xk S1 hb;refine qcP h ?_;unfold QW at hb;split at hb
   ·cases hb
   ·rename_i hm;split at hb
    ·cases hb
    ·cases hb;rw[qfJ hm];unfold ZM;split <;> simp
theorem qfS {S:Sto} {H:Nat} {y:It} (h:(qD S (H+1) [y]).isSome=true):∃ ys,qu S y.r.toNat=some ((H:Int),ys)/\(qD S H ys).isSome=true/\qC S (H+1) [y]=qC S H ys:=by
 obtain⟨b,e1,-,-,ys,e4,e5⟩:=ZZ (jv h y zA2);have hn:qu S y.r.toNat=some ((H:Int),ys):=by rw[e1,Int.toNat_natCast];exact e4
 exact⟨ys,hn,e5,by simp only[qC,List.flatMap_cons,List.flatMap_nil,List.append_nil,hn]⟩
theorem qkn {S S':Sto} {h a r:Nat} {xs:List It} {x:It} (hS:qm S=true) (hx:qeE S x) (hn:qu S a=some ((h:Int),xs)) (hs:(qD S h xs).isSome=true) (e:putX S h xs a x=.ok (r,S')) : ∃ S2 t,∃ (H:Nat) (ys:List It),S'=qy S2 t/\SM S S2/\qm S2=true/\qu S2 r=some ((H:Int),ys)/\(qD S2 H ys).isSome=true/\qC S2 H ys=YA (qo x) x (qC S h xs)/\QQ S2 (-1) S2.now a=some t:=by
 unfold putX at e;split at e
 ·cases e
 ·split at e
  ·cases e
  ·rename_i up S1 eg;obtain⟨m1,xx,hHY,uM,nD,iJ⟩:=qba hS hx h hn hs eg;have hwl:=qaG (k:=qo x) h (qN hn).1 hs;split at e
   ·cases e
   ·rename_i up2 S2 eb;split at e
    ·cases e
    ·rename_i t hl;cases e;split at eb
     ·rename_i hlen;rw[hwl] at eb;have hb:=Ti (h:=h+1) xx (fun y hy=>(iJ y hy).1) (fun y hy=>(iJ y hy).2) (fun b _=>zM _) nD hHY eb;have hmay:=KM (fun y hy=>(iJ y hy).1) (fun y hy=>(iJ y hy).2) xx eb;have hup:up.length<=2:=qcP eg zA2;obtain⟨y,rfl⟩:∃ y,up2=[y]:=by have h1:=hmay.2.1;unfold ZM at h1;rw[if_neg zO] at h1;exact List.length_eq_one_iff.1 (by simpa using h1)
      obtain⟨ys,g1,g2,g3⟩:=qfS hb.2.2.1;exact⟨S2,t,h+1,ys,rfl,m1.trans hb.1,hb.2.1,g1,g2,by rw[<-g3,hb.2.2.2.1,uM],hl⟩
     ·cases eb;rename_i hlen;obtain⟨y,rfl⟩:∃ y,up=[y]:=List.length_eq_one_iff.1 (by have:=List.length_pos_iff.2 nD;omega);obtain⟨ys,g1,g2,g3⟩:=qfS hHY;exact⟨S1,t,h,ys,rfl,m1,xx,g1,g2,by rw[<-g3,uM],hl⟩
def Vd:List UInt8->Nat
 | []=>0
 |x :: r=>x.toNat+Vd r
theorem qbN:∀ (t:List UInt8) (a:Nat) (x:UInt8),a<t.length->Vd (t.set a x)+qZ t a=Vd t+x.toNat
 | [],a,x,h=>by simp at h
 |y :: r,0,x,h=>by simp[Vd,qZ];omega
 |y :: r,a+1,x,h=>by
  have:=qbN r a x (by simpa using h);simp only[zC,Vd];have e:qZ (y :: r) (a+1)=qZ r a:=by simp[qZ]
  rw[e];omega
theorem TK {t:List UInt8} {a:Nat} (h:t.length<=a):qZ t a=0:=by unfold qZ;rw[List.getElem?_eq_none h];rfl
theorem XM {t:List UInt8} {a:Nat} (h:a<t.length) (x:UInt8):qZ (t.set a x) a=x.toNat:=by unfold qZ;rw[List.getElem?_set_self h];rfl
theorem YM {t:List UInt8} {a j:Nat} (h:j≠a) (x:UInt8):qZ (t.set a x) j=qZ t j:=by unfold qZ;rw[List.getElem?_set_ne zO]
theorem qau (t:List UInt8) (a:Nat):qZ t a<256:=(t[a]?.getD 0).toNat_lt
theorem qaR {t:List UInt8} {a:Nat} (h:qZ t a≠0):Vd (kZ t a)+1=Vd t:=by
 have hl:a<t.length:=by
  by_cases h1:a<t.length
  ·exact h1
  ·exact absurd (TK zO) h
 have e:=qbN t a (UInt8.ofNat (qZ t a-1)) hl;have h2:=qau t a;have h3:(UInt8.ofNat (qZ t a-1)).toNat=qZ t a-1:=by rw[UInt8.toNat_ofNat'];omega
 unfold kZ;omega
theorem qdI (t:List UInt8) (a j:Nat):qZ (kZ t a) j<=qZ t j:=by
 unfold kZ;by_cases hj:j=a
 ·subst hj;by_cases hl:j<t.length
  ·rw[XM hl];have h2:=qau t j;rw[UInt8.toNat_ofNat'];omega
  ·rw[TK (by simpa using hl)];omega
 ·rw[YM hj];omega
theorem UM {t:List UInt8} {a:Nat} (h:qZ t a=1):Vd (t.set a 0)+1=Vd t:=by
 have hl:a<t.length:=by
  by_cases h1:a<t.length
  ·exact h1
  ·rw[TK zO] at h;cases h
 have e:=qbN t a 0 hl;rw[h] at e;simpa using e
theorem zero_le (t:List UInt8) (a j:Nat):qZ (t.set a 0) j<=qZ t j:=by
 by_cases hj:j=a
 ·subst hj;by_cases hl:j<t.length
  ·rw[XM hl];simp
  ·rw[TK (by simpa using hl)];omega
 ·rw[YM hj];omega
theorem Kx:∀ {l:List Nat} {t t':List UInt8},QJ l t=.ok t'->Vd t'<=Vd t/\∀ j,qZ t' j<=qZ t j
 | [],t,t',e=>by cases e;exact⟨zM _,fun _=>zM _⟩
 |a :: l,t,t',e=>by
  by_cases ha:a=0
  ·subst ha;rw[JD] at e;exact Kx e
  ·by_cases h0:qZ t a=0
   ·rw[vk ha h0] at e;cases e
   ·rw[JC ha h0] at e;obtain⟨h1,h2⟩:=Kx e;have:=qaR h0;exact⟨zO,fun j=>Nat.le_trans (h2 j) (qdI t a j)⟩
theorem qhH {S:Sto} {t:List UInt8} {a:Nat} (h:qZ t a≠0) (hle:qZ t a<=qZ S.now a):qu (qy S t) a=qu S a:=by
 have e1:qu (qy S t) a=if qZ t a=0 then none else QL (Jb S a):=rfl
 have e2:qu S a=if qZ S.now a=0 then none else QL (Jb S a):=rfl
 rw[e1,e2,if_neg h,if_neg zO]
theorem qhI {S:Sto} {a:Nat} {lvl:Int} {xs:List It} (h:qu S a=some (lvl,xs)) (hl:0<lvl):∀ r∈qT xs,8<=r/\r<256:=fun r hr=>by
 have h1:=Xv h r hr;obtain⟨x,hx,rfl⟩:=List.mem_map.1 hr;have hm:=(qN h).1;have lH:=((qN h).2.1 x hx).1.2.2.2.1.1;unfold Qb at hm;simp only[Bool.and_eq_true] at hm;obtain⟨i,hi,e⟩:=List.mem_iff_getElem.1 hx;have h2:=List.all_eq_true.1 hm.2 i (List.mem_range.2 hi);unfold GB at h2;rw[zL hi] at h2;simp only[Bool.and_eq_true] at h2;have h3:=h2.2;rw[e,decide_eq_true hl] at h3;have h4:x.r≠0:=by intro h5;rw[h5] at h3;simp at h3
 omega
structure LvI (S:Sto) (a:Nat) (st:List (Nat×Int)) (t:List UInt8):Prop where
 eq:QQ S (-1) S.now a=Jt S st.reverse t
 may:Qn t=true
 le:∀ j,qZ t j<=qZ S.now j
 few:st.length+5*Vd t<=5*Vd S.now+1
 at_:∀ p∈st,8<=p.1/\p.1<256/\-1<=p.2/\p.2<6
theorem qhB (S:Sto) (x:Nat×Int) (t:List UInt8):Jt S [x] t=QQ S x.2 t x.1:=by unfold Jt;cases QQ S x.2 t x.1 <;> rfl
theorem LvI.start {S:Sto} (hS:qm S=true) {a:Nat} (ha:8<=a) (aj:a<256):LvI S a [(a,-1)] S.now:=by
 refine⟨(qhB S (a,-1) S.now).symm,(qE.1 hS).2.1,fun _=>zM _,zA1,fun p hp=>?_⟩;obtain rfl:p=(a,-1):=by simpa using hp
 exact⟨ha,aj,zA2,zA2⟩
theorem LvI.done {S:Sto} {a:Nat} {t:List UInt8} (h:LvI S a [] t):QQ S (-1) S.now a=some t:=h.eq
section
variable {S:Sto} {a:Nat} {s:List (Nat×Int)} {x:Nat×Int} {t:List UInt8}
theorem LvI.eq' (h:LvI S a (s++[x]) t):QQ S (-1) S.now a=match QQ S x.2 t x.1 with
  |none=>none
  |some t'=>Jt S s.reverse t':=by
 rw[h.eq,List.reverse_append];rfl
theorem LvI.top (h:LvI S a (s++[x]) t):8<=x.1/\x.1<256/\-1<=x.2/\x.2<6:=h.at_ x zA2
theorem LvI.bad0 (h:LvI S a (s++[x]) t) (h0:qZ t x.1=0):QQ S (-1) S.now a=none:=by rw[h.eq',YX,if_pos h0]
theorem LvI.more (h:LvI S a (s++[x]) t) (h1:1<qZ t x.1):LvI S a s (kZ t x.1):=by have hd:=qaR (t:=t) (a:=x.1) zO;have hf:=h.few;simp only[List.length_append,List.length_cons,List.length_nil] at hf;refine⟨?_,ZQ h.may h.top.1 _,fun j=>Nat.le_trans (qdI t x.1 j) (h.le j),zO,fun p hp=>h.at_ p (by simp[hp])⟩;rw[h.eq',YX,if_neg zO,if_pos h1]
theorem LvI.one (h:LvI S a (s++[x]) t) (h1:qZ t x.1=1):QQ S (-1) S.now a=match (match qu S x.1 with
  |none=>none
  |some (l,xs)=>if 0<=x.2/\l≠x.2 then none else if 0<l then Jt S ((qT xs).map fun r=>(r,l-1)) (t.set x.1 0) else
   match QJ (qT xs) (t.set x.1 0) with
   | .error _=>none
   | .ok t'=>some t') with
  |none=>none
  |some t'=>Jt S s.reverse t':=by
 rw[h.eq',YX,if_neg zO,if_neg zO] <;> rfl
theorem LvI.none_ (h:LvI S a (s++[x]) t) (h1:qZ t x.1=1) (hn:qu S x.1=none):QQ S (-1) S.now a=none:=by rw[h.one h1,hn]
theorem LvI.level (h:LvI S a (s++[x]) t) (h1:qZ t x.1=1) {l:Int} {xs:List It} (hn:qu S x.1=some (l,xs)) (h0:0<=x.2) (hl:l≠x.2):QQ S (-1) S.now a=none:=by rw[h.one h1,hn];simp only;rw[if_pos ⟨h0,hl⟩]
theorem LvI.push (h:LvI S a (s++[x]) t) (h1:qZ t x.1=1) {l:Int} {xs:List It} (hn:qu S x.1=some (l,xs)) (h0:¬(0<=x.2/\l≠x.2)) (hl:0<l):LvI S a (s++((qT xs).map fun r=>(r,l-1)).reverse) (t.set x.1 0):=by
 have hd:=UM h1;have hf:=h.few;have h6:=jl hn;have hlen:(qT xs).length=xs.length:=by unfold qT;simp
 simp only[List.length_append,List.length_cons,List.length_nil] at hf;refine⟨?_,ZQ h.may h.top.1 _,fun j=>Nat.le_trans (zero_le t x.1 j) (h.le j),by simp only[List.length_append,List.length_reverse,List.length_map];omega,fun p hp=>?_⟩
 ·rw[h.one h1,hn,List.reverse_append,List.reverse_reverse,XQ];simp only;rw[if_neg h0,if_pos hl] <;> rfl
 ·rcases List.mem_append.1 hp with hp|hp
  ·exact h.at_ p (by simp[hp])
  ·obtain⟨r,hr,rfl⟩:=List.mem_map.1 (List.mem_reverse.1 hp);have:=qhI hn hl r hr;exact⟨this.1,this.2,by simp only;omega,by simp only;omega⟩
theorem LvI.leafBad (h:LvI S a (s++[x]) t) (h1:qZ t x.1=1) {l:Int} {xs:List It} (hn:qu S x.1=some (l,xs)) (h0:¬(0<=x.2/\l≠x.2)) (hl:¬0<l) {e:Int} (he:QJ (qT xs) (t.set x.1 0)=.error e):QQ S (-1) S.now a=none:=by rw[h.one h1,hn];simp only;rw[if_neg h0,if_neg hl,he]
theorem LvI.leaf (h:LvI S a (s++[x]) t) (h1:qZ t x.1=1) {l:Int} {xs:List It} (hn:qu S x.1=some (l,xs)) (h0:¬(0<=x.2/\l≠x.2)) (hl:¬0<l) {t':List UInt8} (he:QJ (qT xs) (t.set x.1 0)=.ok t'):LvI S a s t':=by have hd:=UM h1;obtain⟨hs,hj⟩:=Kx he;have hf:=h.few;simp only[List.length_append,List.length_cons,List.length_nil] at hf;refine⟨?_,Ju (fun b hb=>(Xv hn b hb).1) (ZQ h.may h.top.1 _) he,fun j=>Nat.le_trans (hj j) (Nat.le_trans (zero_le t x.1 j) (h.le j)),zO,fun p hp=>h.at_ p (by simp[hp])⟩;rw[h.one h1,hn];simp only;rw[if_neg h0,if_neg hl,he]
end
def Qr (vs:List Vol) (id:Int):Option Vol:=vs.find? fun v=>decide (v.id=id)
abbrev XI:Vol:=⟨0,0,false,0⟩
def volQ:Option Vol->Value
 |none=>.tuple #[jB XI,.int .i64 6]
 |some v=>.tuple #[jB v,.int .i64 0]
def VolIx (vs:List Vol) (id:Int) (u:Value):Prop:=(∃ (j:Nat) (hj:j<vs.length),u=.int .i64 (j:Int)/\Qr vs id=some vs[j])\/(u=.int .i64 (-1)/\Qr vs id=none)
theorem qgz {vs:List Vol} {id:Int} {j:Nat} (hj:j<vs.length) (he:vs[j].id=id) (hn:∀ i (hi:i<vs.length),i<j->vs[i].id≠id):VolIx vs id (.int .i64 (j:Int)):=by refine .inl ⟨j,hj,rfl,?_⟩;unfold Qr;rw[List.find?_eq_some_iff_getElem];exact⟨by simp[he],j,hj,rfl,fun i hi=>by simp[hn i zO hi]⟩
theorem qbP {vs:List Vol} {id:Int} (hn:∀ i (hi:i<vs.length),vs[i].id≠id):VolIx vs id (.int .i64 (-1)):=by refine .inr ⟨rfl,?_⟩;unfold Qr;rw[List.find?_eq_none];intro v hv;obtain⟨i,hi,rfl⟩:=List.mem_iff_getElem.1 hv;simp[hn i hi]
set_option maxRecDepth 100000 in
theorem vol1_any (v:Vol) (bi:Nat) (id:Int) (w:World) (h:w.heap[bi]?=some (.cells #[.int .u32 id] 29 (0,0))):Calls prog 47 #[jB v,.pointer (some ⟨bi,0,none⟩)] w (Ret (.bool (decide (v.id=id))) w):=by
 have ki:=qa h;have zi:bi<w.heap.size:=(zG.1 h).1;clear h;go_enter func47,ntmps47;by_cases he:v.id=id
 ·have h1:(v.id == id)=true:=by rw[beq_iff_eq];exact he
  rw[decide_eq_true he];replace he:=zH he;go_wp2;go_ret;exact⟨rfl,zN _ _⟩
 ·have h1:(v.id == id)=false:=by rw[beq_eq_false_iff_ne];exact he
  rw[decide_eq_false he];replace he:=zH he;go_wp2;go_ret;exact⟨rfl,zN _ _⟩
set_option maxRecDepth 100000 in
theorem vidx_any (A:Option Addr) (c:Nat) (vs:List Vol) (hl:vs.length<=16) (bi:Nat) (id:Int) (w:World) (h:w.heap[bi]?=some (.cells #[.int .u32 id] 29 (0,0))) (hr:Rd w w.heap.size 4 A vs.length (ZU vs)):Calls prog 46 #[.slice A vs.length c,.func (.func 47) #[] #[.pointer (some ⟨bi,0,none⟩)]] w (Za (fun u _=>VolIx vs id u) w):=by
 replace hr:=zH hr;go_enter func46,ntmps46;go_wp2_with fail;go_loopw [8] (fun i wr=>∃ k:Nat,k<=vs.length/\i=.int .i64 (k:Int)/\Ext w wr/\∀ j (hj:j<vs.length),j<k->vs[j].id≠id) (fun i _=>vs.length-(intOf i).toNat)
 case atStart=>exact⟨0,Nat.zero_le _,rfl,Ext.refl _,fun j _ hj=>absurd hj (Nat.not_lt_zero _)⟩
 case round =>
  obtain⟨k,hk,rfl,xr,aX⟩:=hrel;replace aX:=zH aX;by_cases hlt:k<vs.length
  ·obtain⟨bv,iO,rfl,hbv,aS⟩:=hr.out.2 zO;obtain⟨d0,d1,d2,d3⟩:=Kq vs k hlt;replace d0:=Ext.cell xr (aS _ _ d0);replace d1:=Ext.cell xr (aS _ _ d1);replace d2:=Ext.cell xr (aS _ _ d2);replace d3:=Ext.cell xr (aS _ _ d3);have HAT:=zH (fun he=>qgz (id:=id) hlt he fun i hi hik=>aX.out i hi hik);have HNO:=zH (fun (he:vs[k].id≠id) j (hj:j<vs.length) (hjk:j<k+1)=>by
    rcases Nat.lt_or_ge j k with h1|h1
    ·exact aX.out j hj h1
    ·obtain rfl:j=k:=zO;exact he)
   generalize vs[k]=u at *;rw[<-Nat.add_assoc] at d1 d2 d3;clear aS;have iM:=zH (IntWalk.wrap64_in ((k:Int)+1) zO);have hV:=vol1_any u bi id wr (qb h xr);go_wp2_with fail;refine hV.mono ?_;rintro e w2 ⟨rfl,hB⟩;clear d0 d1 d2 d3 hV;by_cases he:u.id=id
   ·rw[decide_eq_true he];have HQ:=zH (HAT.out he);clear HAT HNO;replace he:=zH he;go_wp2_with fail;refine bodyPost_ret (v:=.int .i64 (k:Int)) ?_ rfl ⟨_,rfl,HQ.out,Ext.trans xr hB⟩;simp[results,results46,go_sem]
   ·rw[decide_eq_false he];have HQ:=zH (HNO.out he);clear HAT HNO;replace he:=zH he;have aA:=iM.out;go_wp2_with fail;refine⟨⟨k+1,hlt,rfl,Ext.trans xr hB,fun j hj hjk=>HQ.out j hj hjk⟩,?_⟩;simp[intOf];omega
  ·obtain rfl:k=vs.length:=zO;have HQ:=zH (qbP (id:=id) fun i hi=>aX.out i hi hi);go_wp2_with fail;refine bodyPost_ret (v:=.int .i64 (-1)) ?_ rfl ⟨_,rfl,HQ.out,xr⟩;simp[results,results46,go_sem]
def VolFQ (S:Sto) (root next:Int) (dead:List Int) (id:Int) (w:World) (e:Ending) (w':World):Prop:=Below w.heap.size w w' /\
 ((e=.returned (.tuple #[jB XI,.int .i64 8])/\∀ vs,Qg S root next dead vs->∃ refs nodes,qX S (Qs root dead vs) refs nodes/\¬QF S refs) \/
  ∃ vs refs nodes,Qg S root next dead vs/\qX S (Qs root dead vs) refs nodes/\QF S refs/\e=.returned (volQ (Qr vs id)))
theorem qaY {R:Ending->World->Prop} {a:Act} {W:World} {b:Nat} {u:Vol} {v:Value} (h4:a.tmps[4]?.getD undef=.pointer (some ⟨b,0,none⟩)) (h5:a.tmps[5]?.getD undef=v) (hd:a.defers=[]) (aF:W.heap[b]?=some (.cells #[.int .u32 u.id,.int .i64 u.root,.bool u.fz,.int .u32 u.frm] 40 (0,0))) (hR:R (.returned (.tuple #[jB u,v])) W):bodyPost prog Tryz.f18 R .ret a W:=by
 refine bodyPost_ret (v:=.tuple #[jB u,v]) ?_ hd hR;have k:=qa aF;simp[results,results18,go_sem,h4,h5,k]
set_option maxRecDepth 100000 in
theorem Kr (A1:Option Addr) (n1 c1:Nat) (A2:Option Addr) (n2 c2:Nat) (A3:Option Addr) (n3 c3:Nat) (A4:Option Addr) (n4 c4:Nat) (gen root next:Int) (A5:Option Addr) (c5:Nat) (S:Sto) (dead:List Int) (id:Int) (w:World) (h:qU w w.heap.size (.slice A1 n1 c1) (.slice A2 n2 c2) (.slice A3 n3 c3) (.slice A4 n4 c4) S) (hd:Zw w w.heap.size (.slice A5 dead.length c5) dead):Calls prog 18 #[.agg (qF (.slice A1 n1 c1) (.slice A2 n2 c2) (.slice A3 n3 c3) (.slice A4 n4 c4) gen root next (.slice A5 dead.length c5)),.int .u32 id] w (VolFQ S root next dead id w):=by
 have HT:=zH (fun W (hx:Ext w W)=>KB A1 n1 c1 A2 n2 c2 A3 n3 c3 A4 n4 c4 gen root next A5 c5 S dead W (h.ext hx) (by obtain⟨A,c,e,q1,q2,q3⟩:=hd;exact⟨A,c,e,q1,q2,(q3.below hx).more hx.size⟩));clear h hd;go_enter func18,ntmps18;go_wp2_with fail;generalize aA:(World.alloc (World.alloc (World.alloc w _) _) _)=w1;have x1:Ext w w1:=by rw[<-aA];exact((zN _ _).trans (zN _ _)).trans (zN _ _)
 have ri1:w1.heap[w.heap.size+1]?=some (.cells #[.int .u32 id] 29 (0,0)):=by rw[<-aA];exact(zK _ _ _ zA2).trans (zI _ _ _ zA2)
 have wX:w1.heap[w.heap.size+2]?=some (.cells #[.int .u32 0,.int .i64 0,.bool false,.int .u32 0] 40 (0,0)):=by rw[<-aA];exact zI _ _ _ zA2
 clear aA;refine(HT.out w1 x1).mono ?_;clear HT;rintro e w2 ⟨hB,hQ⟩;have x2:Ext w w2:=Ext.trans x1 hB;have pG:=qb ri1 hB;have pI:=qb wX hB;have z2:w.heap.size+2<w2.heap.size:=(zG.1 pI).1;have kv2:=qa pI;have fv2:=qe pI;rcases hQ with ⟨rfl,aX⟩|⟨vs,refs,nodes,cb,ca,vv,rfl,hT⟩
 ·replace aX:=zH aX;clear hB x1 ri1 wX;go_wp2_with fail;exact qaY (b:=w.heap.size+2) (u:=XI) rfl rfl rfl (Vm pI _ _ _ _) ⟨Zf x2 zO _ _ _ _,.inl ⟨rfl,aX.out⟩⟩
 ·have hvs:vs.length<=16:=by
   have hv:=hT.pool.vols;unfold vt at hv;split at hv
   ·cases hv
   ·exact VV _ _ _ _ zA2 hv
  obtain⟨AV,cV,rfl,hLN,hLP⟩:=qz hT.own;have oh:=Rd.of_own hT.own;have kc:w2.cell? ⟨cb,518,none⟩=some (.slice AV vs.length cV):=by rw[qa hT.row];exact hT.ar.vol
  have HIX:=zH (vidx_any AV cV vs hvs (w.heap.size+1) id w2 pG oh);have HR:=zH oh;replace hT:=zH hT;clear hB x1 ri1 wX oh;go_wp2_with fail;refine HIX.out.mono ?_;clear HIX;rintro e w3 ⟨u,rfl,hu,hB⟩;have x3:Ext w w3:=Ext.trans x2 hB;have rv3:=qb pI hB;have kv3:=qa rv3;have fv3:=qe rv3;have kc3:=Ext.cell hB kc;rcases hu with ⟨j,hj,rfl,hv⟩|⟨rfl,hv⟩
  ·obtain⟨bv,iO,rfl,hbv,aS⟩:=HR.out.2 zO;obtain⟨d0,d1,d2,d3⟩:=Kq vs j hj;replace d0:=Ext.cell hB (aS _ _ d0);replace d1:=Ext.cell hB (aS _ _ d1);replace d2:=Ext.cell hB (aS _ _ d2);replace d3:=Ext.cell hB (aS _ _ d3);generalize vs[j]=u at *;rw[<-Nat.add_assoc] at d1 d2 d3;have hj1:decide ((j:Int)<0)=false:=decide_eq_false zO;replace hv:=zH hv;replace x3:=zH x3;clear aS kv2 fv2 pI pG kc x2 hB z2;go_wp2_with fail;exact qaY (b:=w.heap.size+2) (u:=u) rfl rfl rfl (Vm rv3 _ _ _ _) ⟨Zf x3.out zO _ _ _ _,.inr ⟨vs,refs,nodes,hT.out.pool,hT.out.cnt,hT.out.enough,by rw[hv.out];rfl⟩⟩
  ·replace hv:=zH hv;replace x3:=zH x3;clear kv2 fv2 pI pG kc x2 hB z2;go_wp2_with fail;exact qaY (b:=w.heap.size+2) (u:=XI) rfl rfl rfl (Vm rv3 _ _ _ _) ⟨Zf x3.out zO _ _ _ _,.inr ⟨vs,refs,nodes,hT.out.pool,hT.out.cnt,hT.out.enough,by rw[hv.out];rfl⟩⟩
abbrev VC (x:It) (A:Option Addr) (c:Nat):Array Value:=#[.int .u8 x.k,.int .u32 x.i,.int .u32 x.o,.int .i64 x.r,.slice A x.val.length c]
abbrev TR:Array Value:=#[.int .u8 0,.int .u32 0,.int .u32 0,.int .i64 0,.slice none 0 0]
def qeC (lo:Nat) (q:Option It) (u:Value) (W:World):Prop:=match q with
 |none=>u=.tuple #[.agg TR,.int .i64 6]
 |some x=>∃ A c,u=.tuple #[.agg (VC x A c),.int .i64 0]/\Bys W W.heap.size (.slice A x.val.length c) x.val/\Zo lo (.slice A x.val.length c)
theorem qcf {w:World} {lo b off n c:Nat} {xs:List It} (h:ZE lo w (.slice (some ⟨b,off,none⟩) n c) xs) (i:Nat) (hi:i<xs.length):∃ A' c',ItAt w w.heap.size b (off+i*5) xs[i] A' c'/\Zo lo (.slice A' xs[i].val.length c'):=by
 obtain⟨ps,rfl,⟨A,c1,e,_,_,hr⟩,hp,hf,hg⟩:=h;cases e;have fV:i<ps.length:=by simpa using hi
 obtain⟨b',off',e,hb,hc⟩:=hr.2 zO;cases e;obtain⟨c0,c1,c2,c3,c4⟩:=ve ps i fV;have hgi:=hg ps[i] (List.getElem_mem fV);obtain⟨⟨A',c',e5⟩,aQ⟩:=hp ps[i] (List.getElem_mem fV);rw[e5] at c4 aQ hgi;refine⟨A',c',?_,by simpa using hgi⟩;simp only[List.getElem_map];refine⟨hc _ _ c0,?_,?_,?_,?_,aQ⟩
 ·rw[Nat.add_assoc];exact hc _ _ c1
 ·rw[Nat.add_assoc];exact hc _ _ c2
 ·rw[Nat.add_assoc];exact hc _ _ c3
 ·rw[Nat.add_assoc];exact hc _ _ c4
def Yt (S:Sto) (i:Value):Nat:=match qu S (intOf i).toNat with
 |some (l,_)=>l.toNat
 |none=>0
theorem Ud {S:Sto} {r h:Nat} {ys:List It} (hn:qu S r=some ((h:Int),ys)):Yt S (.int .i64 (r:Int))=h:=by unfold Yt intOf;simp only[Int.toNat_natCast];rw[hn];simp
structure FnI (S:Sto) (K:K3) (q:Option It) (w2:World) (i:Value) (wr:World):Prop where
 ex:∃ (h r:Nat) (ys:List It),i=.int .i64 (r:Int)/\8<=r/\r<256/\qu S r=some ((h:Int),ys)/\(qD S h ys).isSome=true/\Uj S K h ys=q/\Ext w2 wr
theorem UT {R:Ending->World->Prop} {a:Act} {W:World} {b:Nat} {cs:Array Value} {v:Value} (h6:a.tmps[6]?.getD undef=.pointer (some ⟨b,0,none⟩)) (h7:a.tmps[7]?.getD undef=v) (hd:a.defers=[]) (aF:W.heap[b]?=some (.cells cs 68 (0,0))) (hs:∃ x0 x1 x2 x3 x4,cs=#[x0,x1,x2,x3,x4]) (hR:R (.returned (.tuple #[.agg cs,v])) W):bodyPost prog Tryz.f109 R .ret a W:=by
 refine bodyPost_ret (v:=.tuple #[.agg cs,v]) ?_ hd hR;have k:=qa aF;obtain⟨x0,x1,x2,x3,x4,rfl⟩:=hs;simp[results,results109,go_sem,h6,h7,k]
theorem row5 {w:World} {b:Nat} {ty:TypeId} {y0 y1 y2 y3 y4:Value} (h:w.heap[b]?=some (.cells #[y0,y1,y2,y3,y4] ty (0,0))) (x0 x1 x2 x3 x4:Value) : (((((w.setCell ⟨b,0,none⟩ x0).setCell ⟨b,1,none⟩ x1).setCell ⟨b,2,none⟩ x2).setCell ⟨b,3,none⟩ x3).setCell ⟨b,4,none⟩ x4).heap[b]?=some (.cells #[x0,x1,x2,x3,x4] ty (0,0)):=qi (qi (qi (qi (qi h 0 x0) 1 x1) 2 x2) 3 x3) 4 x4
theorem Tg {w0 w:World} {B b:Nat} (h:Below B w0 w) (hb:B<=b) (x0 x1 x2 x3 x4:Value):Below B w0 (((((w.setCell ⟨b,0,none⟩ x0).setCell ⟨b,1,none⟩ x1).setCell ⟨b,2,none⟩ x2).setCell ⟨b,3,none⟩ x3).setCell ⟨b,4,none⟩ x4):=
 Below.setCell (Below.setCell (Below.setCell (Below.setCell (Below.setCell h (p:=⟨b,0,none⟩) hb _) (p:=⟨b,1,none⟩) hb _) (p:=⟨b,2,none⟩) hb _) (p:=⟨b,3,none⟩) hb _) (p:=⟨b,4,none⟩) hb _
theorem its_set5 {w:World} {lo b:Nat} {v:Value} {xs:List It} (h:ZE lo w v xs) (hb:b<lo) (x0 x1 x2 x3 x4:Value):ZE lo (((((w.setCell ⟨b,0,none⟩ x0).setCell ⟨b,1,none⟩ x1).setCell ⟨b,2,none⟩ x2).setCell ⟨b,3,none⟩ x3).setCell ⟨b,4,none⟩ x4) v xs:=by
 refine h.keep zA2 (fun q hq _=>?_);have aG:∀ j,(⟨b,j,none⟩:Addr)≠q:=fun j e=>by subst e;simp at hq;omega
 rw[World.cell?_setCell_other _ _ _ _ (aG _),World.cell?_setCell_other _ _ _ _ (aG _),World.cell?_setCell_other _ _ _ _ (aG _),World.cell?_setCell_other _ _ _ _ (aG _),World.cell?_setCell_other _ _ _ _ (aG _)]
theorem bys_set5 {w:World} {b lo:Nat} {v:Value} {l:List UInt8} (h:Bys w w.heap.size v l) (hf:Zo lo v) (hb:b<lo) (x0 x1 x2 x3 x4:Value):Bys (((((w.setCell ⟨b,0,none⟩ x0).setCell ⟨b,1,none⟩ x1).setCell ⟨b,2,none⟩ x2).setCell ⟨b,3,none⟩ x3).setCell ⟨b,4,none⟩ x4) (((((w.setCell ⟨b,0,none⟩ x0).setCell ⟨b,1,none⟩ x1).setCell ⟨b,2,none⟩ x2).setCell ⟨b,3,none⟩ x3).setCell ⟨b,4,none⟩ x4).heap.size v l:=by
 have:=((((h.setCell hf (p:=⟨b,0,none⟩) hb x0).setCell hf (p:=⟨b,1,none⟩) hb x1).setCell hf (p:=⟨b,2,none⟩) hb x2).setCell hf (p:=⟨b,3,none⟩) hb x3).setCell hf (p:=⟨b,4,none⟩) hb x4;refine this.more ?_;simp
theorem its_cell {w:World} {lo b:Nat} {v:Value} {xs:List It} (_:ZE lo w v xs) {q:Addr} (hb:b<lo) (x0 x1 x2 x3 x4:Value) (hq:lo<=q.block) : (((((w.setCell ⟨b,0,none⟩ x0).setCell ⟨b,1,none⟩ x1).setCell ⟨b,2,none⟩ x2).setCell ⟨b,3,none⟩ x3).setCell ⟨b,4,none⟩ x4).cell? q=w.cell? q:=by
 have aG:∀ j,(⟨b,j,none⟩:Addr)≠q:=fun j e=>by subst e;simp at hq;omega
 rw[World.cell?_setCell_other _ _ _ _ (aG _),World.cell?_setCell_other _ _ _ _ (aG _),World.cell?_setCell_other _ _ _ _ (aG _),World.cell?_setCell_other _ _ _ _ (aG _),World.cell?_setCell_other _ _ _ _ (aG _)]
set_option maxRecDepth 100000 in
theorem qjH (A1:Option Addr) (n1 c1:Nat) (A2:Option Addr) (n2 c2:Nat) (A3:Option Addr) (n3 c3:Nat) (A4:Option Addr) (n4 c4:Nat) (S:Sto) (hS:qm S=true) (a lvl:Nat) (xs:List It) (ha:8<=a) (aj:a<256) (hn:qu S a=some ((lvl:Int),xs)) (aN:(qD S lvl xs).isSome=true) (k i o:Int) (w:World) (aI:qU w w.heap.size (.slice A1 n1 c1) (.slice A2 n2 c2) (.slice A3 n3 c3) (.slice A4 n4 c4) S):Calls prog 109 #[Qd A1 n1 c1 A2 n2 c2 A3 n3 c3 A4 n4 c4,.int .i64 (a:Int),Tq k i o] w (Za (qeC w.heap.size (Uj S (k,i,o) lvl xs)) w):=by
 have HCK:=zH (fun W (hx:Ext w W)=>KS A1 n1 c1 A2 n2 c2 A3 n3 c3 A4 n4 c4 S hS a ⟨ha,aj,lvl,xs,hn,aN⟩ W (aI.ext hx));have HON:=zH (fun W (hx:Ext w W)=>qdU A1 n1 c1 A2 n2 c2 A3 n3 c3 A4 n4 c4 S (by have:=(Qc hS).2.2.1;omega) W (aI.ext hx));obtain⟨q,hq⟩:∃ q,Uj S (k,i,o) lvl xs=q:=⟨_,rfl⟩
 rw[hq];have HI0:∀ W,FnI S (k,i,o) q W (.int .i64 (a:Int)) W:=fun W=>⟨lvl,a,xs,rfl,ha,aj,hn,aN,hq,Ext.refl _⟩
 replace HI0:=zH HI0;replace hS:=zH hS;clear aI hn aN hq ha aj;go_enter func109,ntmps109;go_wp2_with fail;generalize aA:(World.alloc (World.alloc (World.alloc w _) _) _)=w1;have x1:Ext w w1:=by rw[<-aA];exact((zN _ _).trans (zN _ _)).trans (zN _ _)
 have tX:w1.heap[w.heap.size]?=some (.cells #[.slice A1 n1 c1,.slice A2 n2 c2,.slice A3 n3 c3,.slice A4 n4 c4] 28 (0,0)):=by rw[<-aA];exact(zK _ _ _ zA1).trans ((zK _ _ _ zA2).trans (zI _ _ _ rfl))
 have rk1:w1.heap[w.heap.size+1]?=some (.cells #[.int .u8 k,.int .u32 i,.int .u32 o] 66 (0,0)):=by rw[<-aA];exact(zK _ _ _ zA2).trans (zI _ _ _ zA2)
 have ri1:w1.heap[w.heap.size+2]?=some (.cells TR 68 (0,0)):=by rw[<-aA];exact zI _ _ _ zA2
 clear aA;have ks1:=qa tX;go_step3;go_wp2_with fail;refine(HCK.out w1 x1).mono ?_;clear HCK;rintro e w2 ⟨u,rfl,⟨m,rfl⟩,hB⟩;have x2:Ext w w2:=Ext.trans x1 hB;have xh:=qb tX hB;have rk2:=qb rk1 hB;have pG:=qb ri1 hB;clear tX rk1 ri1 hB x1 ks1;have ks2:=qa xh;go_wp2_with fail;refine(HON.out w2 x2).mono ?_;clear HON;rintro e w3 ⟨u,rfl,⟨bb,A3',c3',rfl,wu,-⟩,hB⟩;have x3:Ext w w3:=Ext.trans x2 hB;have rk3:=qb rk2 hB;have ri3:=qb pG hB;clear xh rk2 pG hB x2 ks2;replace wu:=zH wu;have I0:=zH (HI0.out w3);clear HI0;go_wp2_with fail;go_step3;go_wp2_with fail;go_loopw [10] (fun j wr=>FnI S (k,i,o) q w3 j wr) (fun j _=>Yt S j)
 case atStart=>exact I0.out
 case round =>
  obtain⟨h,r,ys,rfl,h8,h256,hn,aN,hq,xr⟩:=hrel.ex;clear I0 hrel;have hlv:=Ud hn;obtain⟨hm1,lJ,-⟩:=qN hn;have hyl:ys.length<=5:=by unfold Qb ZR at hm1;simp at hm1;omega
  have ry:=(VR aN).2;have su:=Kn 0 bb A1 n1 c1 A2 n2 n2 A3' n3 c3' A4 n4 c4 S hS.out r h8 h256 wr ⟨Nat.zero_le _,(wu.out.ext xr).2⟩;rw[hn] at su;have mO:=x3.trans xr;have rkr:=qb rk3 xr;have rir:=qb ri3 xr;have zr:w.heap.size+2<wr.heap.size:=(zG.1 rir).1;replace hlv:=zH hlv;replace aN:=zH aN;replace hn:=zH hn;replace hq:=zH hq;replace lJ:=zH lJ;replace ry:=zH ry;clear hm1;go_wp2_with fail;refine su.mono ?_;clear su;rintro e w4 ⟨u,rfl,⟨A9,c9,rfl,aJ⟩,hB⟩;have iW:Ext wr w4:=hB;have x4:=mO.trans iW;have rk4:=qb rkr iW;have ri4:=qb rir iW;have z4:w.heap.size+2<w4.heap.size:=(zG.1 ri4).1;have kk4:=qa rk4;have z41:w.heap.size+1<w4.heap.size:=zO;replace aJ:=zH aJ;replace xr:=zH (xr.trans iW);clear rkr rir hB iW mO;go_wp2_with fail;generalize aV:(World.alloc w4 _)=w5;have x5:Ext w4 w5:=by rw[<-aV];exact zN _ _
  have rn5:w5.heap[w4.heap.size]?=some (.cells #[.int .i64 h,.slice A9 ys.length c9] 49 (0,0)):=by rw[<-aV];exact zI _ _ _ rfl
  clear aV;refine(qdg (h:Int) A9 c9 ys k i o _ w5 hyl (aJ.out.ext x5)).mono ?_;rintro e w6 ⟨rfl,hB⟩;have oM:Ext w4 w6:=x5.trans hB;have rn6:=qb rn5 hB;have ri6:=qb ri4 oM;have kn6:=qa rn6;have fi6:=qe ri6;have ki6:=qa ri6;have iG:=zH (aJ.out.ext oM);replace xr:=zH (xr.out.trans oM);replace x4:=zH (x4.trans oM);clear rn5 x5 hB oM rk4 ri4 kk4 z4 z41;have hA:=iG.out.its.at_.2.2.2;have sG:=Jl ys (k,i,o);have hIT:=zH (fun j (hj:j<ys.length) b9 off (he:A9=some ⟨b9,off,none⟩)=>by have:=iG.out.its;rw[he] at this;exact this.item j hj);obtain⟨ie,mf⟩:∃ ie,KX ys (k,i,o)=ie:=⟨_,rfl⟩
  obtain⟨p,hp⟩:∃ p,qA ys (k,i,o)=p:=⟨_,rfl⟩
  have hT:ie=true->∃ hp:qA ys (k,i,o)<ys.length,qo (ys[qA ys (k,i,o)]'hp)=(k,i,o):=fun h0=>by
   rw[h0] at mf;by_cases hl:qA ys (k,i,o)<ys.length
   ·rw[kI hl] at mf;exact⟨hl,of_decide_eq_true mf⟩
   ·rw[Xt hl] at mf;cases mf
  have hF:ie=false->∀ hp:qA ys (k,i,o)<ys.length,qo (ys[qA ys (k,i,o)]'hp)≠(k,i,o):=fun h0 hl=>by rw[h0,kI hl] at mf;exact of_decide_eq_false mf
  rw[mf,hp];rw[hp] at sG;have hT':=zH hT;have mQ:=zH hF;replace hp:=zH hp;replace mf:=zH mf;clear hT hF;have HREL:=zH (fun (x:It) (hx:x∈ys) (hd:TM ys (k,i,o)=some x) (h':Nat) (hh:h=h'+1)=>by
   have h1:=jv aN.out x hx;rw[hh] at h1;obtain⟨b,e1,e2,e3,zs,e4,e5⟩:=ZZ h1;have e6:qu S x.r.toNat=some ((h':Int),zs):=by rw[e1,Int.toNat_natCast];exact e4
   have e7:Uj S (k,i,o) h' zs=q:=by rw[<-one_down hd e6,<-hh];exact hq.out
   have e8:Yt S (.int .i64 (b:Int))<Yt S (.int .i64 (r:Int)):=by rw[Ud e4,hlv.out];omega
   exact(⟨b,e1,⟨⟨h',b,zs,rfl,e2,e3,e4,e5,e7,xr.out⟩⟩,e8⟩:∃ b:Nat,x.r=(b:Int)/\FnI S (k,i,o) q w3 (.int .i64 (b:Int)) w6/\Yt S (.int .i64 (b:Int))<Yt S (.int .i64 (r:Int))))
  rcases Nat.eq_zero_or_pos h with h0|h0
  ·have hh1:((h:Int) == 0)=true:=by rw[beq_iff_eq];omega
   clear HREL;cases ie
   ·have hz:q=none:=by rw[<-hq.out,h0,qfU,leaf_no ry.out (mQ.out rfl)]
    replace h0:=zH h0;replace hz:=zH hz;clear hA sG;go_wp2_with fail;exact UT (b:=w.heap.size+2) rfl rfl rfl (row5 ri6 _ _ _ _ _) ⟨_,_,_,_,_,rfl⟩ ⟨_,rfl,by rw[hz.out];rfl,Tg x4.out zO _ _ _ _ _⟩
   ·obtain⟨bQ,mD⟩:=hT'.out rfl;have hz:q=some ys[qA ys (k,i,o)]:=by rw[<-hq.out,h0,qfU,leaf_is ry.out bQ mD]
    obtain⟨b9,off,rfl,hb9⟩:=hA zO;obtain⟨A',c',d0,d1,d2,d3,d4,-⟩:=hIT.out _ bQ b9 off rfl;have hfr:=zH (fun j=>YW iG.out b9 off ys.length c9 j rfl zO);have hI5:=fun x0 x1 x2 x3 x4=>qcf (its_set5 iG.out (b:=w.heap.size+1+1) zO x0 x1 x2 x3 x4) _ bQ;have iT:=hp.out;generalize ys[qA ys (k,i,o)]=x at *;simp only[iT] at bQ d0 d1 d2 d3 d4 hI5;replace h0:=zH h0;replace hz:=zH hz;replace hI5:=zH hI5;replace mD:=zH mD;clear hA sG iT hb9;go_wp2_with fail;obtain⟨A'',c'',⟨-,-,-,-,g4,gb⟩,gf⟩:=hI5.out (.int .u8 x.k) (.int .u32 x.i) (.int .u32 x.o) (.int .i64 x.r) (.slice A' x.val.length c');have hVC:=its_cell iG.out (b:=w.heap.size+1+1) (q:=⟨b9,off+p*5+4,none⟩) zO (.int .u8 x.k) (.int .u32 x.i) (.int .u32 x.o) (.int .i64 x.r) (.slice A' x.val.length c') (hfr.out 0);rw[hVC,d4] at g4;simp only[Option.some.injEq,Value.slice.injEq,true_and] at g4;obtain⟨rfl,rfl⟩:=g4;exact UT (b:=w.heap.size+2) rfl rfl rfl (row5 ri6 _ _ _ _ _) ⟨_,_,_,_,_,rfl⟩ ⟨_,rfl,by rw[hz.out];exact⟨A',c',rfl,gb,gf.mono zO⟩,Tg x4.out zO _ _ _ _ _⟩
  ·have hh1:((h:Int) == 0)=false:=by rw[beq_eq_false_iff_ne];omega
   obtain⟨h',hh⟩:∃ h',h=h'+1:=⟨h-1,zO⟩
   replace hh:=zH hh;replace h0:=zH h0;cases ie
   ·rcases Nat.eq_zero_or_pos p with hp0|hp0
    ·have hz:q=none:=by rw[<-hq.out,hh.out,one_none (down_no ry.out (by rw[hp.out];exact hp0) (mQ.out rfl))]
     have sD:((p:Int) == 0)=true:=by rw[beq_iff_eq];omega
     replace hp0:=zH hp0;replace hz:=zH hz;clear hA sG HREL;go_wp2_with fail;exact UT (b:=w.heap.size+2) rfl rfl rfl (row5 ri6 _ _ _ _ _) ⟨_,_,_,_,_,rfl⟩ ⟨_,rfl,by rw[hz.out];rfl,Tg x4.out zO _ _ _ _ _⟩
    ·have hd:=qfq ry.out (by rw[hp.out];exact hp0) (mQ.out rfl);have sD:((p:Int) == 0)=false:=by rw[beq_eq_false_iff_ne];omega
     have dS:decide (p=0)=false:=decide_eq_false zO;simp only[hp.out] at hd;obtain⟨b',e1,e2,e3⟩:=HREL.out _ (List.getElem_mem _) hd h' hh.out;obtain⟨x,hx⟩:∃ x,ys[p-1]'(by omega)=x:=⟨_,rfl⟩
     rw[hx] at hd e1;obtain⟨p',rfl⟩:∃ p',p=p'+1:=⟨p-1,zO⟩
     obtain⟨b9,off,rfl,hb9⟩:=hA zO;obtain⟨A',c',-,-,-,d3,-,-⟩:=hIT.out p' zO b9 off rfl;simp only[Nat.add_sub_cancel] at hx;rw[hx,e1] at d3;replace hx:=zH hx;have iM:wrap64 (((p'+1:Nat):Int)-1)=(p':Int):=by rw[IntWalk.wrap64_in _ zO];omega
     have hlt:p'<ys.length:=zO;replace iM:=iM;replace hd:=zH hd;replace e1:=zH e1;replace e2:=zH e2;replace e3:=zH e3;clear hA HREL;replace sG:=zH sG;replace hp0:=zH hp0;go_wp2_with fail;exact⟨e2.out,e3.out⟩
   ·obtain⟨bQ,mD⟩:=hT'.out rfl;have hd:=down_is ry.out bQ mD;obtain⟨b',e1,e2,e3⟩:=HREL.out _ (List.getElem_mem _) hd h' hh.out;obtain⟨b9,off,rfl,hb9⟩:=hA zO;obtain⟨A',c',-,-,-,d3,-,-⟩:=hIT.out _ bQ b9 off rfl;rw[e1] at d3;have iT:=hp.out;simp only[iT] at bQ d3;replace hd:=zH hd;replace mD:=zH mD;replace e1:=zH e1;replace e2:=zH e2;replace e3:=zH e3;clear hA HREL sG iT;obtain⟨pz,sD,dS⟩:∃ pz:Bool,((p:Int) == 0)=pz/\decide (p=0)=pz:=by
     rcases Nat.eq_zero_or_pos p with hp0|hp0
     ·exact⟨true,by rw[beq_iff_eq];omega,decide_eq_true hp0⟩
     ·exact⟨false,by rw[beq_eq_false_iff_ne];omega,decide_eq_false zO⟩
    cases pz;all_goals
     go_wp2_with fail;exact⟨e2.out,e3.out⟩
def qcK (S:Sto) (root:Int) (K:K3):Option It:=match qu S root.toNat with
 |none=>none
 |some (lvl,xs)=>Uj S K lvl.toNat xs
def JK (S:Sto) (root next:Int) (dead:List Int) (vs:List Vol):Prop:=∃ refs nodes,Qg S root next dead vs/\qX S (Qs root dead vs) refs nodes/\QF S refs
def zj (S:Sto) (root next:Int) (dead:List Int):Prop:=∀ vs,Qg S root next dead vs->∃ refs nodes,qX S (Qs root dead vs) refs nodes/\¬QF S refs
theorem JI {vs:List Vol} {id:Int} {v:Vol} (h:Qr vs id=some v):v∈vs:=List.mem_of_find?_eq_some h
theorem qdk {S:Sto} {root next:Int} {dead:List Int} {vs:List Vol} (h:Qg S root next dead vs) {v:Vol} (hv:v∈vs):∃ a:Nat,v.root=(a:Int)/\VU S a:=
 ZY (h.ok v.root (by unfold Zl;exact List.mem_append_right _ (List.mem_map.2 ⟨v,hv,rfl⟩)))
def VFindQ (S:Sto) (root next:Int) (dead:List Int) (id:Int) (K:K3) (w:World) (e:Ending) (w':World):Prop:=Below w.heap.size w w' /\
 ((e=.returned (.tuple #[.agg TR,.int .i64 8])/\zj S root next dead) \/
  ∃ vs u,JK S root next dead vs/\e=.returned u/\match Qr vs id with
   |none=>u=.tuple #[.agg TR,.int .i64 6]
   |some v=>qeC w.heap.size (qcK S v.root K) u w')
theorem XE {R:Ending->World->Prop} {a:Act} {W:World} {b:Nat} {cs:Array Value} {v:Value} (h6:a.tmps[6]?.getD undef=.pointer (some ⟨b,0,none⟩)) (h7:a.tmps[7]?.getD undef=v) (hd:a.defers=[]) (aF:W.heap[b]?=some (.cells cs 68 (0,0))) (hs:∃ x0 x1 x2 x3 x4,cs=#[x0,x1,x2,x3,x4]) (hR:R (.returned (.tuple #[.agg cs,v])) W):bodyPost prog Tryz.f60 R .ret a W:=by
 refine bodyPost_ret (v:=.tuple #[.agg cs,v]) ?_ hd hR;have k:=qa aF;obtain⟨x0,x1,x2,x3,x4,rfl⟩:=hs;simp[results,results60,go_sem,h6,h7,k]
set_option maxRecDepth 100000 in
theorem qkG (A1:Option Addr) (n1 c1:Nat) (A2:Option Addr) (n2 c2:Nat) (A3:Option Addr) (n3 c3:Nat) (A4:Option Addr) (n4 c4:Nat) (gen root next:Int) (A5:Option Addr) (c5:Nat) (S:Sto) (dead:List Int) (id k i o:Int) (w:World) (h:qU w w.heap.size (.slice A1 n1 c1) (.slice A2 n2 c2) (.slice A3 n3 c3) (.slice A4 n4 c4) S) (hd:Zw w w.heap.size (.slice A5 dead.length c5) dead):Calls prog 60 #[.agg (qF (.slice A1 n1 c1) (.slice A2 n2 c2) (.slice A3 n3 c3) (.slice A4 n4 c4) gen root next (.slice A5 dead.length c5)),.int .u32 id,Tq k i o] w (VFindQ S root next dead id (k,i,o) w):=by
 have HT:=zH (fun W (hx:Ext w W)=>Kr A1 n1 c1 A2 n2 c2 A3 n3 c3 A4 n4 c4 gen root next A5 c5 S dead id W (h.ext hx) (by obtain⟨A,c,e,q1,q2,q3⟩:=hd;exact⟨A,c,e,q1,q2,(q3.below hx).more hx.size⟩));have HF:=zH (fun W (hx:Ext w W) (hS:qm S=true) a lvl xs ha aj hn aN=>qjH A1 n1 c1 A2 n2 c2 A3 n3 c3 A4 n4 c4 S hS a lvl xs ha aj hn aN k i o W (h.ext hx));clear h hd;go_enter func60,ntmps60;go_wp2_with fail;generalize aA:(World.alloc (World.alloc (World.alloc w _) _) _)=w1;have x1:Ext w w1:=by rw[<-aA];exact((zN _ _).trans (zN _ _)).trans (zN _ _)
 have lQ:w1.heap[w.heap.size]?=some (.cells (qF (.slice A1 n1 c1) (.slice A2 n2 c2) (.slice A3 n3 c3) (.slice A4 n4 c4) gen root next (.slice A5 dead.length c5)) 32 (0,0)):=by rw[<-aA];exact(zK _ _ _ zA1).trans ((zK _ _ _ zA2).trans (zI _ _ _ rfl))
 have rk1:w1.heap[w.heap.size+1]?=some (.cells #[.int .u8 k,.int .u32 i,.int .u32 o] 66 (0,0)):=by rw[<-aA];exact(zK _ _ _ zA2).trans (zI _ _ _ zA2)
 have ri1:w1.heap[w.heap.size+2]?=some (.cells TR 68 (0,0)):=by rw[<-aA];exact zI _ _ _ zA2
 clear aA;refine(HT.out w1 x1).mono ?_;clear HT;rintro e w2 ⟨hB,hQ⟩;have x2:Ext w w2:=Ext.trans x1 hB;have eP:=qb lQ hB;have rk2:=qb rk1 hB;have pG:=qb ri1 hB;have z2:w.heap.size+2<w2.heap.size:=(zG.1 pG).1;have z20:w.heap.size<w2.heap.size:=zO;have z21:w.heap.size+1<w2.heap.size:=zO;clear hB x1 lQ rk1 ri1;rcases hQ with ⟨rfl,aX⟩|⟨vs,refs,nodes,hp,lD,xB,rfl⟩
 ·replace aX:=zH aX;have ki2:=qa pG;have fi2:=qe pG;go_wp2_with fail;exact XE (b:=w.heap.size+2) (cs:=TR) rfl rfl rfl ((zK _ _ _ zA1).trans (row5 pG _ _ _ _ _)) ⟨_,_,_,_,_,rfl⟩ ⟨Below.alloc (Tg x2 zO _ _ _ _ _) zA1 _,.inl ⟨rfl,aX.out⟩⟩
 ·have hok:=zH (⟨refs,nodes,hp,lD,xB⟩:JK S root next dead vs);replace hp:=zH hp;clear lD xB;rcases hv:Qr vs id with _|v
  ·unfold volQ;replace hv:=zH hv;have ki2:=qa pG;have fi2:=qe pG;go_wp2_with fail;exact XE (b:=w.heap.size+2) (cs:=TR) rfl rfl rfl ((zK _ _ _ zA1).trans (row5 pG _ _ _ _ _)) ⟨_,_,_,_,_,rfl⟩ ⟨Below.alloc (Tg x2 zO _ _ _ _ _) zA1 _,.inr ⟨vs,_,hok.out,rfl,by rw[hv.out];rfl⟩⟩
  ·unfold volQ;obtain⟨a,ha,ht⟩:=qdk hp.out (JI hv);obtain⟨h8,h256,lvl,xs,hn,aN⟩:=ht;have hfs:qcK S v.root (k,i,o)=Uj S (k,i,o) lvl xs:=by unfold qcK;rw[ha,Int.toNat_natCast,hn];simp
   have HFF:=zH (fun W hx=>HF.out W hx hp.out.may a lvl xs h8 h256 hn aN);have uy:=qa eP;have kk2:=qa rk2;replace hv:=zH hv;replace hfs:=zH hfs;replace ha:=zH ha;clear hn aN HF;go_wp2_with fail;generalize aO:(World.alloc w2 _)=w3;have dO:Ext w2 w3:=by rw[<-aO];exact zN _ _
   clear aO;have dL:=HFF.out w3 (x2.trans dO);rw[<-ha.out] at dL;refine dL.mono ?_;clear dL HFF;rintro e w4 ⟨u,rfl,hu,hB⟩;have x4:Ext w w4:=(x2.trans dO).trans hB;have ri4:=qb (qb pG dO) hB;have ki4:=qa ri4;have fi4:=qe ri4;have z3:w.heap.size+2<w3.heap.size:=(zG.1 (qb pG dO)).1;have z4:w.heap.size+2<w4.heap.size:=(zG.1 ri4).1;replace x4:=zH x4;clear uy kk2 eP rk2 pG hB dO x2 z2 z20 z21;rcases hq:Uj S (k,i,o) lvl xs with _|x
   ·rw[hq] at hu hfs;obtain rfl:u=.tuple #[.agg TR,.int .i64 6]:=hu;replace hq:=zH hq;go_wp2_with fail;exact XE (b:=w.heap.size+2) (cs:=TR) rfl rfl rfl (row5 ri4 _ _ _ _ _) ⟨_,_,_,_,_,rfl⟩ ⟨Tg x4.out zO _ _ _ _ _,.inr ⟨vs,_,hok.out,rfl,by rw[hv.out];show qeC _ (qcK S v.root (k,i,o)) _ _;rw[hfs.out];rfl⟩⟩
   ·rw[hq] at hu hfs;obtain⟨A,c,rfl,aQ,hfr⟩:=hu;replace hq:=zH hq;replace aQ:=zH aQ;replace hfr:=zH hfr;go_wp2_with fail;exact XE (b:=w.heap.size+2) (cs:=VC x A c) rfl rfl rfl (row5 ri4 _ _ _ _ _) ⟨_,_,_,_,_,rfl⟩ ⟨Tg x4.out zO _ _ _ _ _,.inr ⟨vs,_,hok.out,rfl,by rw[hv.out];show qeC _ (qcK S v.root (k,i,o)) _ _;rw[hfs.out];exact⟨A,c,rfl,bys_set5 aQ.out hfr.out z3 _ _ _ _ _,hfr.out.mono zO⟩⟩⟩
set_option maxRecDepth 100000 in
theorem qkH (v:Vol) (bi:Nat) (id:Int) (q1 q2 q3:Value) (w:World) (h:w.heap[bi]?=some (.cells #[.int .u32 id,q1,q2,q3] 40 (0,0))):Calls prog 96 #[jB v,.pointer (some ⟨bi,0,none⟩)] w (Ret (.bool (decide (v.id=id))) w):=by
 have ki:=qa h;have zi:bi<w.heap.size:=(zG.1 h).1;clear h;go_enter func96,ntmps96;by_cases he:v.id=id
 ·have h1:(v.id == id)=true:=by rw[beq_iff_eq];exact he
  rw[decide_eq_true he];replace he:=zH he;go_wp2;go_ret;exact⟨rfl,zN _ _⟩
 ·have h1:(v.id == id)=false:=by rw[beq_eq_false_iff_ne];exact he
  rw[decide_eq_false he];replace he:=zH he;go_wp2;go_ret;exact⟨rfl,zN _ _⟩
set_option maxRecDepth 100000 in
theorem qim (A:Option Addr) (c:Nat) (vs:List Vol) (hl:vs.length<=16) (bi:Nat) (id:Int) (q1 q2 q3:Value) (w:World) (h:w.heap[bi]?=some (.cells #[.int .u32 id,q1,q2,q3] 40 (0,0))) (hr:Rd w w.heap.size 4 A vs.length (ZU vs)):Calls prog 46 #[.slice A vs.length c,.func (.func 96) #[] #[.pointer (some ⟨bi,0,none⟩)]] w (Za (fun u _=>VolIx vs id u) w):=by
 replace hr:=zH hr;go_enter func46,ntmps46;go_wp2_with fail;go_loopw [8] (fun i wr=>∃ k:Nat,k<=vs.length/\i=.int .i64 (k:Int)/\Ext w wr/\∀ j (hj:j<vs.length),j<k->vs[j].id≠id) (fun i _=>vs.length-(intOf i).toNat)
 case atStart=>exact⟨0,Nat.zero_le _,rfl,Ext.refl _,fun j _ hj=>absurd hj (Nat.not_lt_zero _)⟩
 case round =>
  obtain⟨k,hk,rfl,xr,aX⟩:=hrel;replace aX:=zH aX;by_cases hlt:k<vs.length
  ·obtain⟨bv,iO,rfl,hbv,aS⟩:=hr.out.2 zO;obtain⟨d0,d1,d2,d3⟩:=Kq vs k hlt;replace d0:=Ext.cell xr (aS _ _ d0);replace d1:=Ext.cell xr (aS _ _ d1);replace d2:=Ext.cell xr (aS _ _ d2);replace d3:=Ext.cell xr (aS _ _ d3);have HAT:=zH (fun he=>qgz (id:=id) hlt he fun i hi hik=>aX.out i hi hik);have HNO:=zH (fun (he:vs[k].id≠id) j (hj:j<vs.length) (hjk:j<k+1)=>by
    rcases Nat.lt_or_ge j k with h1|h1
    ·exact aX.out j hj h1
    ·obtain rfl:j=k:=zO;exact he)
   generalize vs[k]=u at *;rw[<-Nat.add_assoc] at d1 d2 d3;clear aS;have iM:=zH (IntWalk.wrap64_in ((k:Int)+1) zO);have hV:=qkH u bi id q1 q2 q3 wr (qb h xr);go_wp2_with fail;refine hV.mono ?_;rintro e w2 ⟨rfl,hB⟩;clear d0 d1 d2 d3 hV;by_cases he:u.id=id
   ·rw[decide_eq_true he];have HQ:=zH (HAT.out he);clear HAT HNO;replace he:=zH he;go_wp2_with fail;refine bodyPost_ret (v:=.int .i64 (k:Int)) ?_ rfl ⟨_,rfl,HQ.out,Ext.trans xr hB⟩;simp[results,results46,go_sem]
   ·rw[decide_eq_false he];have HQ:=zH (HNO.out he);clear HAT HNO;replace he:=zH he;have aA:=iM.out;go_wp2_with fail;refine⟨⟨k+1,hlt,rfl,Ext.trans xr hB,fun j hj hjk=>HQ.out j hj hjk⟩,?_⟩;simp[intOf];omega
  ·obtain rfl:k=vs.length:=zO;have HQ:=zH (qbP (id:=id) fun i hi=>aX.out i hi hi);go_wp2_with fail;refine bodyPost_ret (v:=.int .i64 (-1)) ?_ rfl ⟨_,rfl,HQ.out,xr⟩;simp[results,results46,go_sem]
set_option maxRecDepth 100000 in
theorem vhas_any (A:Option Addr) (c:Nat) (vs:List Vol) (hl:vs.length<=16) (bi:Nat) (id:Int) (q1 q2 q3:Value) (w:World) (h:w.heap[bi]?=some (.cells #[.int .u32 id,q1,q2,q3] 40 (0,0))) (hr:Rd w w.heap.size 4 A vs.length (ZU vs)):Calls prog 95 #[.slice A vs.length c,.func (.func 96) #[] #[.pointer (some ⟨bi,0,none⟩)]] w (Ret (.bool (Qr vs id).isSome) w):=by
 have HV:=zH (qim A c vs hl bi id q1 q2 q3 w h hr);clear h hr;go_enter func95,ntmps95;go_wp2_with fail;refine HV.out.mono ?_;clear HV;rintro e w2 ⟨u,rfl,hu,hB⟩;rcases hu with ⟨j,hj,rfl,hv⟩|⟨rfl,hv⟩
 ·have e1:decide ((j:Int)≥0)=true:=decide_eq_true zO;replace hv:=zH hv;go_wp2;go_ret;exact⟨by rw[hv.out];rfl,hB⟩
 ·replace hv:=zH hv;go_wp2;go_ret;exact⟨by rw[hv.out];rfl,hB⟩
end Go.Proofs.YtpbniokljofedaaGreat
