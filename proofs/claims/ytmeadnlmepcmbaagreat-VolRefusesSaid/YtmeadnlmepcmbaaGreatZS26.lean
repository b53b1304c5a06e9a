/- Lemmas of the proof. -/
import Derived.Test.YtmeadnlmepcmbaaGreatZS25
set_option linter.all false
set_option maxHeartbeats 8000000
open Go.Proofs.Tryz
open Go.Value renaming slice→D,int→U,pointer→Y,tuple→Ob
open Option renaming some→E,none→F
open Go.Obj renaming cells→I
open Go.World renaming setCell→J,alloc→Od
open Bool renaming true→O,false→Oa
open Go.Ending renaming returned→Z
open Go.IntKind renaming i64→Jx,u32→Oc
open Go renaming World→Oe,Value→Of
namespace Go.Proofs.YtmeadnlmepcmbaaGreat
open Go.RowKit
variable {S S2 S3 S':Sto}{a h f:Nat}{R:List Nat}{M:Nat->Bool}{x:It}{root next:Int}{dead:List Int}{vs:List Vol}{refs nodes:Nat->Nat}{v:Vol}{xs:List It}{k:K3}
theorem qag(h:Zp S a):okL S (-1) (a:Int)=O:=by obtain⟨h8,h256,lvl,xs,hn,hs⟩:=h;unfold okL;rw[if_pos zO,Int.toNat_natCast,hn];simp[hs]
theorem zj.extra(h:zj S R M)(ha:R.count a+JX (QZ S) M a 256<qO S.now a):zj S (a::R) M:=
 ⟨⟨h.cov.kid,h.cov.sub,λb hb=>by
  rw[List.count_cons];by_cases e:a=b
  ·subst e;simp only[beq_self_eq_true,if_true];omega
  ·rw[if_neg (by simpa using e)];exact h.cov.cnt b hb,h.cov.live,h.cov.low⟩,h.nd⟩
theorem putN_cov{a r:Nat}(hS:qk S=O)(hio:QW x)(ht:Zp S a)(hc:zj S (x.r.toNat::a::R) M)(hM:M a=O)(e:Um S a x=.ok (r,S2)):Zp S2 r/\∃M',zj S2 (r::R) M'/\M' r=O/\∀b∈R,M b=O->M' b=O:=by
 obtain⟨h8,h256,lvl,xs,hn,hs⟩:=ht;unfold Um at e;rw[hn]at e;simp only[Int.toNat_natCast]at e;unfold XR at e;split at e
 ·rename_i hask;have hx:=qcm.of hio hask;obtain⟨M',h1,h2,h3⟩:=put_cov hS hx hn hs (R:=R) (M:=M) hc hM e;obtain⟨T,t,H,ys,rfl,m,hT,hn2,hs2,hi2,hl⟩:=qmx hS hx hn hs e;have hlo:=h1.cov.low r h2;refine⟨h1.tree (YC T 7 _ _ _ _ hl) h2 ⟨?_,hlo.2,H,ys,hn2,hs2⟩,M',h1,h2,h3⟩;by_cases h:8<=r
  ·exact h
  ·exfalso;have h4:=qii (S:=T) (a:=r) (by rw[hn2];rfl);exact h4 (by
    have h5:=(qE.1 hT).2.1;unfold Qu kJ at h5;simp only[Bool.and_eq_true,List.all_eq_true]at h5;have hl5:=KF (qE.1 hT).2.1;have h6:=h5.2 (T.now[r]'(by omega)) (List.mem_iff_getElem.2 ⟨r,zA2,zA3⟩);have h7:T.now[r]'(by omega)=0:=by simpa using h6
    unfold qO;rw[zL zO,h7];rfl)
 ·cases e
theorem put_tree{r:Nat}(hp:Qy S root next dead vs)(hc:Qk S (Qo root dead vs) refs nodes)(he:QQ S refs)(hv:v∈vs)(hio:QW x)(hd:x.r=0\/jS S refs nodes x.r O=0)(hsh:zY S v.root=0)(e:Um (Zf S v.root) v.root.toNat x=.ok (r,S2)):Zp S2 r/\∃M',zj S2 (r::Qo root dead vs) M'/\M' r=O/\∀b∈Qo root dead vs,M' b=O:=by
 obtain⟨-,hsm,hmay⟩:=TU hsh;obtain⟨a,ha,ht⟩:=Ub hp hv;have hin:v.root.toNat∈Qo root dead vs:=List.mem_map.2 ⟨v.root,by unfold ZF;exact List.mem_append_right _ (List.mem_map.2 ⟨v,hv,rfl⟩),rfl⟩;have h1:zj S (x.r.toNat::Qo root dead vs) (Vj nodes):=by
  rcases hd with h0|hd
  ·exact(zj.of hp hc he).perm λb hb=>by rw[h0,List.count_cons_of_ne (by show(0:Int).toNat≠b;simp;omega)];exact zM _
  ·refine(zj.of hp hc he).extra ?_;rw[<-hc.mkd.sum];unfold jS at hd;split at hd
   ·split at hd
    ·cases hd
    ·rename_i h2;simp only[not_or,true_and,Nat.not_le]at h2;exact h2.2.2
   ·cases hd
 have h2:=h1.held hsh;have htr:Zp (Zf S v.root) v.root.toNat:=by rw[ha,Int.toNat_natCast];obtain⟨b,e1,hb⟩:=JE (hsm.okL (qag ht));obtain rfl:a=b:=zO;rw[ha]at hb;exact hb
 obtain⟨k1,M',k2,k3,k4⟩:=putN_cov (R:=Qo root dead vs) hmay hio htr (h2.perm λb _=>by simp only[List.count_cons];omega) (hc.mkd.root _ hin) e;exact⟨k1,M',k2,k3,λb hb=>k4 b hb (hc.mkd.root b hb)⟩
theorem qfz(A1 n1 c1 A2 n2 c2 A3 n3 c3 A4 n4 c4)(gen root next:Int)(A5 c5)(S:Sto)(dead:List Int)(id:Int)(x:It)(hxo:itB x.r x.val.length=O->QW x)(Ax:OA)(cx:Nat)(w:Oe)(h:Qi w w.heap.size (D A1 n1 c1) (D A2 n2 c2) (D A3 n3 c3) (D A4 n4 c4) S)(hd:ZM w w.heap.size (D A5 dead.length c5) dead)(hxv:Bys w w.heap.size (D Ax x.val.length cx) x.val):Calls prog 27 #[.agg (qQ (D A1 n1 c1) (D A2 n2 c2) (D A3 n3 c3) (D A4 n4 c4) gen root next (D A5 dead.length c5)),U Oc id,itV x Ax cx] w (qgR S gen root next dead id x w):=
 qmR A1 n1 c1 A2 n2 c2 A3 n3 c3 A4 n4 c4 gen root next A5 c5 S dead id x hxo Ax cx (λvs refs nodes v hp hc he hv _ hdt hsh r2 S2 hq=>by
  by_cases hi:itB x.r x.val.length=O
  ·exact qag (put_tree hp hc he (vL hv) (hxo hi) hdt hsh hq).1
  ·exfalso;unfold Um at hq;split at hq
   ·cases hq
   ·unfold XR Ta at hq;rw[if_neg hi]at hq;simp at hq) w h hd hxv
theorem sm_pos{t:List UInt8}(h:∀j,qO t j≠0->qO S.now j≠0):SM (qu S t) S where
 node r nd e:=by
  unfold qm at e⊢;split at e
  ·cases e
  ·rename_i h1;rw[if_neg (show ¬(S.now[r]?.getD 0).toNat=0 from h r h1)];exact e
 pos r e:=by have:=h r (by unfold qO;simp only[qu]at e;omega);unfold qO at this;omega
theorem SM.refl_(S:Sto):SM S S:=⟨λ_ _ h=>h,λ_ h=>h⟩
theorem GI{T:Sto}:∀{n:Nat}{S S':Sto}{f r H:Nat}{its:List It},qk S=O->8<=f->SM S T->qm S f=E ((H:Int),its)->XJ S H its->(qC T H its).isSome=O->Zo n S f=.ok (r,S') -> ∃(H':Nat)(ys:List It),qm T r=E ((H':Int),ys)/\(qC T H' ys).isSome=O/\qy T H' ys=qy T H its/\SM S' T
 |0,S,S',f,r,H,its,hS,h8,m,hn,hl,hs,e=>by cases e;exact⟨H,its,m.node _ _ hn,hs,rfl,m⟩
 |n+1,S,S',f,r,H,its,hS,h8,m,hn,hl,hs,e=>by
  simp only[Zo,hn]at e;split at e
  ·rename_i y;split at e
   ·cases e;exact⟨H,[y],m.node _ _ hn,hs,rfl,m⟩
   ·rename_i h0;obtain⟨h,rfl⟩:∃h,H=h+1:=⟨H-1,zO⟩
    split at e
    ·cases e
    ·rename_i t ht;split at e
     ·cases e
     ·rename_i t' ht';obtain⟨b,zs,e1,k8,k256,kb,kt,kt',et,hb,hlb,hk⟩:=Ga hS h8 hn hl ht ht';obtain⟨ys,g1,g2,g3⟩:=GN hs;have hzs:ys=zs:=by have h1:=m.node _ _ hb;rw[e1,Int.toNat_natCast,h1]at g1;simp only[Option.some.injEq,Prod.mk.injEq,true_and]at g1;exact g1.symm
      subst hzs;have hm1:SM (qu S t') S:=sm_pos λj hj=>by
       have h1:=YC (qu S t) 7 _ _ _ _ ht' j;by_cases hjb:j=b
       ·subst hjb;exact qaF hb
       ·have h2:qO t j=qO S.now j:=by rw[et];unfold QB;rw[kM _ (by have:=(qZ hS).2.2.1;omega),if_neg hjb]
        omega
      rw[e1,Int.toNat_natCast]at e;obtain⟨H',ys',f1,f2,f3,f4⟩:=GI kt' k8 (hm1.trans m) (hk b _ _ kb hb) (GH h (λr l nd hlt hr=>hk r l nd (λe=>by subst e;rw[hn]at hr;simp only[Option.some.injEq,Prod.mk.injEq]at hr;omega) hr) hlb) g2 e;exact⟨H',ys',f1,f2,f3.trans g3.symm,f4⟩
  ·cases e;exact⟨H,_,m.node _ _ hn,hs,rfl,m⟩
theorem qcQ{R:List Nat}:∀{n:Nat}{S S':Sto}{f r H:Nat}{its:List It}{M:Nat->Bool},qk S=O->8<=f->qm S f=E ((H:Int),its)->XJ S H its->zj S (f::R) M->M f=O->Zo n S f=.ok (r,S') -> ∃M',zj S' (r::R) M'/\M' r=O/\∀b∈R,M b=O->M' b=O
 |0,S,S',f,r,H,its,M,hS,h8,hn,hl,hc,hM,e=>by cases e;exact⟨M,hc,hM,λ_ _ h=>h⟩
 |n+1,S,S',f,r,H,its,M,hS,h8,hn,hl,hc,hM,e=>by
  simp only[Zo,hn]at e;split at e
  ·rename_i y;split at e
   ·cases e;exact⟨M,hc,hM,λ_ _ h=>h⟩
   ·rename_i h0;obtain⟨h,rfl⟩:∃h,H=h+1:=⟨H-1,zO⟩
    split at e
    ·cases e
    ·rename_i t ht;split at e
     ·cases e
     ·rename_i t' ht';obtain⟨b,zs,e1,k8,k256,kb,kt,kt',et,hb,hlb,hk⟩:=Ga hS h8 hn hl ht ht';have hMb:M b=O:=hc.cov.kid f hM b (by rw[TX hn zO];exact vJ hn (by simp[qB,e1]) zO);rw[e1,Int.toNat_natCast]at e ht;obtain⟨c1,-,-⟩:=hc.share (qZ hS).2.2.1 zO k256 ht;have c2:zj (qu S t) (f::b::R) M:=c1.perm λc _=>by simp only[List.count_cons];omega
      obtain⟨M1,c3,l3⟩:=c2.leave hM ht';obtain⟨M2,c4,r4,k4⟩:=qcQ kt' k8 (hk b _ _ kb hb) (GH h (λr l nd hlt hr=>hk r l nd (λe=>by subst e;rw[hn]at hr;simp only[Option.some.injEq,Prod.mk.injEq]at hr;omega) hr) hlb) c3 (l3.keep b List.mem_cons_self hMb) e;exact⟨M2,c4,r4,λc hc hMc=>k4 c hc (l3.keep c (List.mem_cons_of_mem _ hc) hMc)⟩
  ·cases e;exact⟨M,hc,hM,λ_ _ h=>h⟩
theorem GW{L g:Nat}(hS:qk S=O)(hn:qm S a=E ((L:Int),xs))(hsp:(qC S L xs).isSome=O)(h1:(oneT S k L xs).isSome=O)(e:Kz S L xs k=.ok (g,S3)):∃(l hs:List It)(S1 S2:Sto)(f:Nat),qbN k (jA S k L xs).reverse S=.ok (l,hs,S1)/\DelI S L k (qy S L xs) l hs S1/\Qr S1 (if l=[]then 0 else(L:Int)) l hs=.ok ([jG (jF l) f],S2)/\8<=f/\f<256/\qk S2=O/\Zo 7 S2 f=.ok (g,S3):=by
 have hwl:=VH (k:=k) L (qJ hn).1 hsp;unfold Kz at e;split at e
 ·cases e
 ·rename_i l hs S1 hg;have hI:=Ks hS L hn hsp h1 hg;have hLV:(((jA S k L xs).length-1:Nat):Int)=(L:Int):=zO;rw[hLV]at e;split at e
  ·cases e
  ·rename_i up S2 hb;have hf:=Vp (S:=S1) (lvl:=if l=[]then 0 else(L:Int)) (hs:=hs) hI.len;have:∃f:Nat,up=[jG (jF l) f]:=by
    rw[hb]at hf;split at hf
    ·cases hf
    ·split at hf
     ·cases hf
     ·cases hf;exact⟨_,rfl⟩
   obtain⟨f,rfl⟩:=this;have hmay:=jV (λx hx=>(hI.ok x hx).1) hI.held hI.may hb;have h8:=hmay.2.2.2 _ List.mem_cons_self;unfold jG at h8;simp only at h8;exact⟨l,hs,S1,S2,f,hg,hI,hb,zO,zO,hmay.1,e⟩
theorem qhz{S1:Sto}{all l hs:List It}(hI:DelI S h k all l hs S1)(e:Qr S1 (if l=[]then 0 else(h:Int)) l hs=.ok ([jG (jF l) f],S2)):∃(H:Nat)(its:List It),SM S1 S2/\qm S2 f=E ((H:Int),its)/\(qC S2 H its).isSome=O/\qy S2 H its=qy S1 h l:=by
 by_cases hl:l=[]
 ·subst hl;have hz:∀r∈qB hs,r=0:=λr hr=>Classical.byContradiction λh0=>by have h1:(qB hs).count r<=0:=hI.sub r h0;have h2:=List.count_pos_iff.2 hr;omega
  rw[if_pos rfl,Vp zA3]at e;rcases hm:Zb S1 0 []with er|⟨f',S'⟩
  ·rw[hm]at e;cases e
  ·rw[hm]at e;simp only[Xm _ hz]at e;obtain⟨m,-,-,hn,-⟩:=YI (h:=0) hI.may zA3 zA0 hm;simp only[Except.ok.injEq,Prod.mk.injEq,List.cons.injEq,and_true]at e;obtain⟨e1,rfl⟩:=e;obtain rfl:f'=f:=by unfold jG at e1;simp only[It.mk.injEq]at e1;omega
   refine⟨0,[],m,hn,rfl,?_⟩;cases h<;>rfl
 ·rw[if_neg hl]at e;obtain⟨m,-,h3,h4,-⟩:=Vq hI.may (λx hx=>(hI.ok x hx).1) hI.held hI.sub hl hI.span e;obtain⟨ys,g1,g2,g3⟩:=GN h3;have:(jG (jF l) f).r.toNat=f:=by unfold jG;simp
  rw[this]at g1;exact⟨h,ys,m,g1,g2,g3.symm.trans h4⟩
theorem qlQ{L a r:Nat}(hS:qk S=O)(hn:qm S a=E ((L:Int),xs))(hsp:(qC S L xs).isSome=O)(e:XP S L xs a k=.ok (r,S')):(oneT S k L xs).isSome=O/\∃(S2:Sto)(H:Nat)(ys:List It),SM S S2/\SM S' S2/\qm S2 r=E ((H:Int),ys)/\(qC S2 H ys).isSome=O/\qy S2 H ys=Va k (qy S L xs):=by
 unfold XP at e;split at e
 ·rename_i h1;refine⟨h1,?_⟩;unfold qcs at e;split at e
  ·cases e
  ·rename_i g S3 e3;obtain⟨l,hs,S1,S2,f,hg,hI,hb,h8,h256,hS2,hlw⟩:=GW hS hn hsp h1 e3;obtain⟨H,its,m,q1,q2,q3⟩:=qhz hI hb;obtain⟨H',ys,f1,f2,f3,f4⟩:=GI hS2 h8 (SM.refl_ S2) q1 (qfZ H q2) q2 hlw;split at e
   ·cases e
   ·rename_i t ht;cases e;have hle:=YC S3 7 _ _ _ _ ht;exact⟨S2,H',ys,hI.sm.trans m,(sm_left hle).trans f4,f1,f2,f3.trans (q3.trans hI.items)⟩
 ·cases e
theorem del_cov{L a r:Nat}(hS:qk S=O)(hn:qm S a=E ((L:Int),xs))(hsp:(qC S L xs).isSome=O)(hc:zj S (a::R) M)(hM:M a=O)(e:XP S L xs a k=.ok (r,S')):∃M',zj S' (r::R) M'/\M' r=O/\∀b∈R,M b=O->M' b=O:=by
 unfold XP at e;split at e
 ·rename_i h1;unfold qcs at e;split at e
  ·cases e
  ·rename_i g S3 e3;obtain⟨l,hs,S1,S2,f,hg,hI,hb,h8,h256,hS2,hlw⟩:=GW hS hn hsp h1 e3;obtain⟨H,its,m,q1,q2,q3⟩:=qhz hI hb;obtain⟨M1,c1,k1,r1,z1⟩:=qhw hS L hn hsp h1 hc hM hg;have hrf:qB [jG (jF l) f]=[f]:=by simp[qB,jG]
   have h2:∃M2,zj S2 (f::a::R) M2/\(∀b,M1 b=O->M2 b=O)/\M2 f=O:=by
    by_cases hl:l=[]
    ·subst hl;have hh:qB hs=[]:=List.eq_nil_iff_forall_not_mem.2 λr hr=>by have g0:=z1 r hr;have g1:(qB hs).count r<=0:=hI.sub r g0;have g2:=List.count_pos_iff.2 hr;omega
     rw[hh,List.nil_append]at c1;rw[if_pos rfl,Vp zA3,hh]at hb;rcases hm:Zb S1 0 []with er|⟨f',S4⟩
     ·rw[hm]at hb;cases hb
     ·rw[hm]at hb;simp only[looseL,Except.ok.injEq,Prod.mk.injEq,List.cons.injEq,and_true]at hb;obtain⟨e1,rfl⟩:=hb;obtain rfl:f'=f:=by unfold jG at e1;simp only[It.mk.injEq]at e1;omega
      obtain⟨c2,-⟩:=zj.make (h:=0) c1 hI.may zA3 zA0 (λh=>absurd h (Nat.lt_irrefl 0)) hm;exact⟨_,c2,λb hb=>by simp[vY,hb],by simp[vY]⟩
    ·rw[if_neg hl]at hb;obtain⟨M2,c2,k2,r2⟩:=c1.build (h:=L) hI.may (λy hy=>(hI.ok y hy).1) hI.span (λr hr=>qez hI.sub (z1 r hr) hr) (λh0=>qiz (r1 h0)) hb;rw[hrf]at c2 r2;exact⟨M2,c2,k2,r2 f zA3⟩
   obtain⟨M2,c2,k2,hf⟩:=h2;obtain⟨M3,c3,r3,k3⟩:=qcQ hS2 h8 q1 (qfZ H q2) c2 hf hlw;split at e
   ·cases e
   ·rename_i t ht;cases e;have c4:zj S3 (a::r::R) M3:=c3.perm λb _=>by simp only[List.count_cons];omega
    obtain⟨M4,c5,l5⟩:=c4.leave (k3 a List.mem_cons_self (k2 a (k1 a hM))) ht;exact⟨M4,c5,l5.keep r List.mem_cons_self r3,λb hb hMb=>l5.keep b (List.mem_cons_of_mem _ hb) (k3 b (List.mem_cons_of_mem _ hb) (k2 b (k1 b hMb)))⟩
 ·cases e

structure PV where
 E1:OA
 m1:Nat
 e1:Nat
 E2:OA
 m2:Nat
 e2:Nat
 E3:OA
 m3:Nat
 e3:Nat
 E4:OA
 m4:Nat
 e4:Nat
 g:Int
 t:Int
 n:Int
 E5:OA
 m5:Nat
 e5:Nat
abbrev PV.cs(p:PV):Array Of:=qQ (D p.E1 p.m1 p.e1) (D p.E2 p.m2 p.e2) (D p.E3 p.m3 p.e3) (D p.E4 p.m4 p.e4) p.g p.t p.n (D p.E5 p.m5 p.e5)

section
variable {gb:Nat} {c0 c1 c2 c3 c4 c5 c6 c7:Value} {er:Int}
end

end Go.Proofs.YtmeadnlmepcmbaaGreat
namespace Go.Proofs.YtmeadnlmepcmbaaGreat
open Go.RowKit Go.Shelf
attribute [local go_sem] Oper.semAt_some

end Go.Proofs.YtmeadnlmepcmbaaGreat
namespace Go.Proofs.YtmeadnlmepcmbaaGreat
open Go.RowKit




end Go.Proofs.YtmeadnlmepcmbaaGreat
namespace Go.Proofs.YtmeadnlmepcmbaaGreat
open Go.RowKit
attribute [local go_sem] Oper.semAt_some

end Go.Proofs.YtmeadnlmepcmbaaGreat
namespace Go.Proofs.YtmeadnlmepcmbaaGreat
open Go.RowKit
variable {S S2 S':Sto}{M:Nat->Bool}{a L n m j fuel:Nat}{root next e lvl er gen id z0:Int}{dead:List Int}{vs:List Vol}{refs nodes:Nat->Nat}{v:Vol}{k K:K3}{R:Ending->World->Prop}{W w w' C:World}{x0 x1 x2 x3 x4 x5 x6 x7:Value}{xs:List It}{x:It}{P:Except Int (Nat×Sto)}{A:Array Bool}{l:List Oper}{Q:Exit->Act->World->Prop}{tmps:Array Value}{ty1 ty2 ty3:TypeId}{met:List Nat}




theorem zj.nodeM{R:List Nat}(h:zj S R M)(m:SM S S2)(hM:M a=O):qm S a=qm S2 a:=by obtain⟨nd,e⟩:=Option.isSome_iff_exists.1 (h.nd a hM);rw[e,m.node _ _ e]
theorem zj.spanM{R:List Nat}(h:zj S R M)(m:SM S S2):∀(H:Nat){a:Nat}{ys:List It},M a=O->qm S2 a=E ((H:Int),ys)->(qC S2 H ys).isSome=O->qC S H ys=qC S2 H ys:=by
 have hf:∀{H:Nat}{ys:List It},(∀y∈ys,ju S H y=ju S2 H y)->qC S H ys=qC S2 H ys:=λ{H ys} hy=>by unfold qC;refine UX _ _ λa y hm=>?_;unfold Jf;rw[hy y hm]
 intro H;induction H with
 |zero=>
  intro a ys hM hn hs;have hnS:=(h.nodeM m hM).trans hn;refine hf λy hy=>?_;have h1:=QC hs y hy;have hit:=((qJ hn).2.1 y hy).2;unfold itB at hit;rw[decide_eq_true_eq]at hit;unfold ju at h1⊢;split at h1
  ·rename_i hc;rw[if_pos hc,if_pos];by_cases hr:y.r=0
   ·exact .inl hr
   ·right;have hm:y.r.toNat∈QZ S a:=vJ hnS (List.mem_map.2 ⟨y,hy,rfl⟩) zO;have h3:=GZ hM hm (h.cov.low a hM).2;have h4:=h.cov.cnt y.r.toNat zO;show 0<qO S.now _;omega
  ·cases h1
 |succ H ih=>
  intro a ys hM hn hs;have hnS:=(h.nodeM m hM).trans hn;refine hf λy hy=>?_;obtain⟨b,e1,h8,h256,zs,e4,e5⟩:=QH (QC hs y hy);have hMb:M b=O:=by
   have:=h.cov.kid a hM y.r.toNat (by rw[TX hnS zO];exact vJ hnS (List.mem_map.2 ⟨y,hy,rfl⟩) (by rw[e1,Int.toNat_natCast];omega))
   rwa [e1,Int.toNat_natCast]at this
  have h3:=ih hMb e4 e5;rw[Ji,Ji];unfold vT;rw[e1,Int.toNat_natCast,h.nodeM m hMb,e4];simp only[h3]
theorem zj.treeM{R:List Nat}(h:zj S R M)(m:SM S S2)(hM:M a=O)(ht:Zp S2 a):Zp S a:=by obtain⟨h8,h256,lvl,xs,hn,hs⟩:=ht;exact⟨h8,h256,lvl,xs,(h.nodeM m hM).trans hn,by rw[h.spanM m lvl hM hn hs];exact hs⟩
theorem qlP{r:Nat}(hp:Qy S root next dead vs)(hc:Qk S (Qo root dead vs) refs nodes)(he:QQ S refs)(hv:v∈vs)(hsh:zY S v.root=0)(e:qbO (Zf S v.root) v.root.toNat k=.ok (r,S2)):Zp S2 r/\∃M',zj S2 (r::Qo root dead vs) M'/\M' r=O/\∀b∈Qo root dead vs,M' b=O:=by
 obtain⟨-,hsm,hmay⟩:=TU hsh;obtain⟨a,ha,ht⟩:=Ub hp hv;have hin:v.root.toNat∈Qo root dead vs:=List.mem_map.2 ⟨v.root,by unfold ZF;exact List.mem_append_right _ (List.mem_map.2 ⟨v,hv,rfl⟩),rfl⟩;have h2:=(zj.of hp hc he).held hsh;have htr:Zp (Zf S v.root) v.root.toNat:=by rw[ha,Int.toNat_natCast];obtain⟨b,e1,hb⟩:=JE (hsm.okL (qag ht));obtain rfl:a=b:=zO;rw[ha]at hb;exact hb
 obtain⟨h8,h256,lvl,xs,hn,hs⟩:=htr;have e2:XP (Zf S v.root) lvl xs v.root.toNat k=.ok (r,S2):=by unfold qbO at e;rw[hn]at e;exact e
 obtain⟨M',k1,k3,k4⟩:=del_cov (R:=Qo root dead vs) hmay hn hs h2 (hc.mkd.root _ hin) e2;obtain⟨-,T,H,ys,m,m',hn2,hs2,-⟩:=qlQ hmay hn hs e2;obtain⟨-,hr8,hPE⟩:=qhy hmay h8 hn hs e2;exact⟨k1.treeM m' k3 ⟨hr8,hPE,H,ys,hn2,hs2⟩,M',k1,k3,λb hb=>k4 b hb (hc.mkd.root b hb)⟩
def qbV(S:Sto)(root next:Int)(dead:List Int)(id:Int)(k:K3)(er:Int):Prop:=(er=8/\QS S root next dead)\/∃vs refs nodes,Qy S root next dead vs/\Qk S (Qo root dead vs) refs nodes/\QQ S refs /\
 ((er=6/\zF vs id=F)\/∃v,zF vs id=E v/\((er=170/\v.fz=O)\/(v.fz=Oa/\JT S root next dead v (qbO (Zf S v.root) v.root.toNat k) er)))
def VDelOk(S:Sto)(root next:Int)(dead:List Int)(id:Int)(k:K3)(r3:Nat)(S4:Sto):Prop:=∃vs refs nodes v,Qy S root next dead vs/\Qk S (Qo root dead vs) refs nodes/\QQ S refs /\
 zF vs id=E v/\v.fz=Oa/\ChgOk S root next dead v (qbO (Zf S v.root) v.root.toNat k) r3 S4
def VDelQ(S:Sto)(gen root next:Int)(dead:List Int)(id:Int)(k:K3)(w:Oe)(e:Ending)(w':Oe):Prop:=Below w.heap.size w w' /\
 ((∃er,er≠0/\e=Z (Ob #[Tz,U Jx er])/\qbV S root next dead id k er) \/
  ∃r3 S4 u,VDelOk S root next dead id k r3 S4/\e=Z (Ob #[u,U Jx 0])/\Jp w.heap.size S4 gen (r3:Int) next dead u w')
theorem qdG{a:Act}{b:Nat}{v:Of}(h4:a.tmps[6]?.getD undef=Y (E ⟨b,0,F⟩))(h5:a.tmps[7]?.getD undef=v)(hd:a.defers=[])(hAH:W.heap[b]?=E (I #[x0,x1,x2,x3,x4,x5,x6,x7] 32 (0,0)))(hR:R (Z (Ob #[.agg #[x0,x1,x2,x3,x4,x5,x6,x7],v])) W):bodyPost prog Tryz.f39 R .ret a W:=by
 refine bodyPost_ret (v:=Ob #[.agg #[x0,x1,x2,x3,x4,x5,x6,x7],v]) ?_ hd hR;have k:=qa hAH;simp[results,results39,go_sem,h4,h5,k]
set_option maxRecDepth 100000 in
theorem vdel_any(A1 n1 c1 A2 n2 c2 A3 n3 c3 A4 n4 c4)(gen root next:Int)(A5 c5)(S:Sto)(dead:List Int)(id:Int)(k i o:Int)(w:Oe)(h:Qi w w.heap.size (D A1 n1 c1) (D A2 n2 c2) (D A3 n3 c3) (D A4 n4 c4) S)(hd:ZM w w.heap.size (D A5 dead.length c5) dead):Calls prog 39 #[.agg (qQ (D A1 n1 c1) (D A2 n2 c2) (D A3 n3 c3) (D A4 n4 c4) gen root next (D A5 dead.length c5)),U Oc id,Xk k i o] w (VDelQ S gen root next dead id (k,i,o) w):=by
 have HO:=zH (λW (hx:Ext w W)=>qfy A1 n1 c1 A2 n2 c2 A3 n3 c3 A4 n4 c4 gen root next A5 c5 S dead id W (h.ext hx) (hd.ext_ hx));replace h:=zH h;replace hd:=zH hd;go_enter func39,ntmps39;go_wp2_with fail;generalize hw1:Od (Od (Od w _) _) _=w1;have x1:Ext w w1:=by rw[<-hw1];exact((zN _ _).trans (zN _ _)).trans (zN _ _)
 have rp1:w1.heap[w.heap.size]?=E (I (qQ (D A1 n1 c1) (D A2 n2 c2) (D A3 n3 c3) (D A4 n4 c4) gen root next (D A5 dead.length c5)) 32 (0,0)):=by rw[<-hw1];exact(zK _ _ _ zA4).trans ((zK _ _ _ zA4).trans (zI _ _ _ rfl))
 have rx1:w1.heap[w.heap.size+1]?=E (I #[U .u8 k,U Oc i,U Oc o] 49 (0,0)):=by rw[<-hw1];exact(zK _ _ _ zA4).trans (zI _ _ _ zA3)
 have ro1:w1.heap[w.heap.size+2]?=E (I XF 32 (0,0)):=by rw[<-hw1];exact zI _ _ _ zA3
 clear hw1;refine(HO.out w1 x1).mono ?_;clear HO;rintro e w2 ⟨hB,hQ⟩;have x2:Ext w w2:=x1.trans hB;have rp2:=qb rp1 hB;have rx2:=qb rx1 hB;have ro2:=qb ro1 hB;have ko2:=qa ro2;have fo2:=qd ro2;have z0:=(zG.1 rp2).1;have z1:=(zG.1 rx2).1;have z2:w.heap.size+1+1<w2.heap.size:=(zG.1 ro2).1;clear hB rp1 rx1 ro1;obtain⟨u,er,rfl,hu⟩:∃(u:Vol)(er:Int),e=Z (Ob #[Ve u,U Jx er])/\((er≠0/\qbV S root next dead id (k,i,o) er)\/(er=0/\∃vs refs nodes,Qy S root next dead vs/\Qk S (Qo root dead vs) refs nodes/\QQ S refs/\zF vs id=E u/\u.fz=Oa)):=by
  rcases hQ with⟨rfl,hb⟩|⟨vs,refs,nodes,hp,hc,he,rfl⟩
  ·exact⟨Un,8,rfl,.inl ⟨zA1,.inl ⟨rfl,hb⟩⟩⟩
  ·rcases hv:zF vs id with _|u
   ·exact⟨Un,6,rfl,.inl ⟨zA1,.inr ⟨vs,refs,nodes,hp,hc,he,.inl ⟨rfl,hv⟩⟩⟩⟩
   ·rcases hf:u.fz with _|_
    ·exact⟨u,0,by simp[qin,hf],.inr ⟨rfl,vs,refs,nodes,hp,hc,he,hv,hf⟩⟩
    ·exact⟨u,170,by simp[qin,hf],.inl ⟨zA1,.inr ⟨vs,refs,nodes,hp,hc,he,.inr ⟨u,hv,.inl ⟨rfl,hf⟩⟩⟩⟩⟩
 clear hQ;obtain⟨ui,ur,uf,um⟩:=u;unfold Ve;rcases hu with⟨h0,hE⟩|⟨rfl,vs,refs,nodes,hp,hc,he,hv,hfz⟩
 ·have hnb:(er != 0)=O:=by rw[bne_iff_ne];exact h0
  replace h0:=zH h0;replace hE:=zH hE;go_wp2_with fail;exact qdG (b:=w.heap.size+2) rfl rfl rfl (qb (VV ro2 _ _ _ _ _ _ _ _) (zN _ _)) ⟨Below.alloc (jM x2 zO _ _ _ _ _ _ _ _) (by have:=x2.size;simpa using this) _,.inl ⟨er,h0.out,rfl,hE.out⟩⟩
 ·obtain rfl:uf=Oa:=hfz;have hE:Hid (∀er,JT S root next dead ⟨ui,ur,Oa,um⟩ (qbO (Zf S ur) ur.toNat (k,i,o)) er->qbV S root next dead id (k,i,o) er):=zH λer hh=>.inr ⟨vs,refs,nodes,hp,hc,he,.inr ⟨_,hv,.inr ⟨rfl,hh⟩⟩⟩;have hMG:XH ⟨ui,ur,Oa,um⟩:=qiU hp _ (vL hv);have hVO:okL S (-1) ur=O:=hp.ok ur (by unfold ZF;exact List.mem_append_right _ (List.mem_map.2 ⟨_,vL hv,rfl⟩));have HC:=zH (λW (hx:Ext w W)=>qgD A1 n1 c1 A2 n2 c2 A3 n3 c3 A4 n4 c4 gen root next A5 c5 S dead ⟨ui,ur,Oa,um⟩ hMG k i o (λhsh=>by obtain⟨_,hsm,_⟩:=TU hsh;obtain⟨a,ha,ht⟩:=JE (hsm.okL hVO);have ha':ur=(a:Int):=ha;simp only[ha',Int.toNat_natCast]at ht⊢;exact ht) (λhsh r2 S2 hq=>qag (qlP hp hc he (vL hv) hsh hq).1) W (h.out.ext hx) (hd.out.ext_ hx));replace hp:=zH hp;replace hc:=zH hc;replace he:=zH he;replace hv:=zH hv;clear hMG hVO ko2 fo2;go_upto_region 4 with fail;generalize hw3:Od w2 _=w3;have x23:Ext w2 w3:=by rw[<-hw3];exact zN _ _
  have x3:Ext w w3:=x2.trans x23;have rp3:=qb rp2 x23;have rx3:=qb rx2 x23;have ro3:=qb ro2 x23;have kp3:=qa rp3;have kx3:=qa rx3;have rv3:w3.heap[w2.heap.size]?=E (I #[U Oc ui,U Jx ur,.bool Oa,U Oc um] 36 (0,0)):=by rw[<-hw3];exact zI _ _ _ zA3
  have kv3:=qa rv3;replace z2:w.heap.size+1+1<w3.heap.size:=(zG.1 ro3).1;clear hw3 rp2 rx2 ro2;go_wp2_with fail;refine(HC.out w3 x3).mono ?_;clear HC;intro e w6 hQS;obtain⟨hB6,hS6⟩:=hQS.split;have x6:Ext w w6:=x3.trans hB6;have ro6:=qb ro3 hB6;have ko6:=qa ro6;have fo6:=qd ro6;have z6:w.heap.size+1+1<w6.heap.size:=(zG.1 ro6).1;clear hQS hB6;rcases hS6 with⟨er,hne,rfl,hCE⟩|⟨r3,S4,u,hO,rfl,hN⟩
  ·have hEr:Hid (qbV S root next dead id (k,i,o) er):=zH (hE.out er hCE);replace hne:=zH hne;clear hCE;go_wp2_with fail;exact qdG (b:=w.heap.size+2) rfl rfl rfl (VV ro6 _ _ _ _ _ _ _ _) ⟨jM x6 zO _ _ _ _ _ _ _ _,.inl ⟨er,hne.out,rfl,hEr.out⟩⟩
  ·obtain⟨E1,e1,E2,e2,E3,e3,E4,e4,E5,e5,rfl,-⟩:=_root_.id hN;replace hN:=zH hN;replace hO:=zH hO;go_wp2_with fail;exact qdG (b:=w.heap.size+2) rfl rfl rfl (VV ro6 _ _ _ _ _ _ _ _) ⟨jM x6 zO _ _ _ _ _ _ _ _,.inr ⟨r3,S4,_,⟨vs,refs,nodes,_,hp.out,hc.out,he.out,hv.out,rfl,hO.out⟩,rfl,hN.out.keep x3.size zA3 λk h1 h2=>jY zO _ _ _ _ _ _ _ _⟩⟩
theorem qfn{t:List UInt8}(h:Zz t a=.error e):e<160:=by
 unfold Zz at h;split at h
 ·cases h
 ·split at h
  ·cases h;decide
  ·split at h
   ·cases h;decide
   ·cases h
theorem qfo:∀{l:List Nat}{t:List UInt8}{e:Int},ZI l t=.error e->e<160
 |[],t,e,h=>by cases h
 |a::l,t,e,h=>by
  simp only[ZI]at h;split at h
  ·rename_i e' h';cases h;exact qfn h'
  ·exact qfo h
theorem makeX_lt{its:List It}(h:Zb S lvl its=.error e):e<160:=by
 unfold Zb at h;split at h
 ·split at h
  ·rename_i e' h';cases h;exact qfo h'
  ·split at h
   ·cases h;decide
   ·cases h
 ·cases h;decide
theorem qaD:∀{l:List Nat}{t:List UInt8}{e:Int},looseL l t=.error e->e<160
 |[],t,e,h=>by cases h
 |a::l,t,e,h=>by
  by_cases ha:a=0
  ·subst ha;rw[ZQ]at h;exact qaD h
  ·by_cases h0:qO t a=0
   ·rw[js ha h0]at h;cases h;decide
   ·rw[ZP ha h0]at h;exact qaD h
theorem qhY{lvl:Int}:∀{ps:List (List It)}{S:Sto}{e:Int},makeL lvl ps S=.error e->e<160
 |[],S,e,h=>by cases h
 |p::ps,S,e,h=>by
  simp only[makeL]at h;split at h
  ·rename_i e' h';cases h;exact makeX_lt h'
  ·split at h
   ·rename_i e' h';cases h;exact qhY h'
   ·cases h
theorem TQ{l held:List It}(h:Qr S lvl l held=.error e):e<160:=by
 unfold Qr at h;split at h
 ·rename_i e' h';cases h;exact qhY h'
 ·split at h
  ·rename_i e' h';cases h;exact qaD h'
  ·cases h
theorem qhI{k:K3}:∀{ps:List Stp}{up:List It}{S:Sto}{e:Int},jE k ps up S=.error e->e<160
 |[],up,S,e,h=>by cases h
 |(lvl,xs,p)::ps,up,S,e,h=>by
  simp only[jE]at h;split at h
  ·rename_i e1 h1;cases h;exact TQ h1
  ·exact qhI h
theorem preX_lt{lvl:Nat}(h:Gf S lvl xs x=.error e):e<160:=by
 unfold Gf at h;split at h
 ·cases h;decide
 ·split at h
  ·rename_i e1 h1;cases h;exact qhI h1
  ·split at h
   ·exact TQ h
   ·cases h
theorem qhA:∀{ps:List Stp}{l hs:List It}{S:Sto}{e:Int},jB ps l hs S=.error e->e<160
 |[],l,hs,S,e,h=>by cases h
 |s::ps,l,hs,S,e,h=>by
  simp only[jB]at h;split at h
  ·rename_i e1 h1;cases h;unfold JU at h1;split at h1
   ·cases h1
   ·split at h1
    ·rename_i e2 h2;cases h1;exact TQ h2
    ·cases h1
  ·exact qhA h
theorem qeS:∀{n:Nat}{S:Sto}{f:Nat}{e:Int},Zo n S f=.error e->e<160
 |0,S,f,e,h=>by cases h
 |n+1,S,f,e,h=>by
  simp only[Zo]at h;split at h
  ·cases h;decide
  ·split at h
   ·split at h
    ·cases h
    ·split at h
     ·rename_i e1 h1;cases h;exact qfn h1
     ·split at h
      ·cases h;decide
      ·exact qeS h
   ·cases h
theorem delY_lt{root:Nat}(h:XP S L xs root k=.error e):e<160:=by
 unfold XP at h;split at h
 ·unfold qcs at h;split at h
  ·rename_i e1 h1;cases h;unfold Kz qbN at h1;split at h1
   ·rename_i e2 h2;cases h1;exact qhA h2
   ·split at h1
    ·rename_i e2 h2;cases h1;exact TQ h2
    ·exact qeS h1
  ·split at h
   ·cases h;decide
   ·cases h
 ·cases h;decide
theorem qlk{lvl:Nat}(h:XR S lvl xs a x=.error e):e<160:=by
 unfold XR at h;split at h
 ·rw[qcd]at h;split at h
  ·rename_i e1 h1;cases h;exact preX_lt h1
  ·split at h
   ·cases h;decide
   ·cases h
 ·cases h;unfold Ta;split
  ·split<;>decide
  ·decide
theorem putN_lt(h:Um S a x=.error e):e<160:=by
 unfold Um at h;split at h
 ·cases h;decide
 ·exact qlk h
theorem delN_lt(h:qbO S a k=.error e):e<160:=by
 unfold qbO at h;split at h
 ·cases h;decide
 ·exact delY_lt h
theorem setE_lt(h:setE S root v=.error e):e<160:=by
 unfold setE at h;split at h
 ·cases h;decide
 ·exact qlk h
theorem qkJ(S:Sto)(a:Int):Js S a<160:=by
 unfold Js;split
 ·split
  ·split<;>decide
  ·decide
 ·decide
theorem qmK(S:Sto)(a:Int):zY S a<160:=by
 unfold zY;split
 ·exact qkJ S a
 ·split<;>decide
theorem faskE_lt(S:Sto)(next:Int)(v:Vol)(vs:List Vol)(refs:Nat->Nat):jC S next v vs refs<160:=by
 unfold jC;split
 ·decide
 ·split
  ·decide
  ·split
   ·decide
   ·split<;>decide
theorem qmi{a:Int}(h:jX S a=.error e):e<160:=by
 unfold jX at h;split at h
 ·unfold Vu at h;split at h
  ·cases h;decide
  ·cases h
 ·cases h;exact qkJ S a
theorem roomE_lt(S:Sto):jc S<160:=by unfold jc;split<;>decide
theorem UL.lt(h:UL S root next dead v er):er<160:=by
 rcases h with⟨rfl,_⟩|⟨vs,refs,nodes,_,_,_,h|⟨_,h|⟨rfl,_⟩⟩⟩
 ·decide
 ·rw[<-h];exact faskE_lt _ _ _ _ _
 ·exact setE_lt h
 ·decide
theorem JT.lt(hP:∀e,P=.error e->e<160)(h:JT S root next dead v P er):er<160:=by
 rcases h with h|⟨_,h|⟨r2,S2,_,h|⟨r3,S3,vs3,_,h|⟨S4,_,h⟩⟩⟩⟩
 ·rw[<-h];exact qmK _ _
 ·exact hP er h
 ·exact h.lt
 ·exact qmi h
 ·rw[<-h];exact roomE_lt _
theorem SM.oneT(m:SM S S'):∀(h:Nat)(xs:List It),(qC S h xs).isSome=O->Go.Proofs.YtmeadnlmepcmbaaGreat.oneT S' k h xs=Go.Proofs.YtmeadnlmepcmbaaGreat.oneT S k h xs
 |0,xs,_=>rfl
 |h+1,xs,hs=>by
  rcases hd:kI xs k with _|y
  ·simp only[Go.Proofs.YtmeadnlmepcmbaaGreat.oneT,hd]
  ·obtain⟨i,hi,e,-⟩:=qlT hd;have hy:y∈xs:=e▸List.getElem_mem hi;obtain⟨b,e1,-,-,zs,e4,e5⟩:=QH (QC hs y hy);have hn:qm S y.r.toNat=E ((h:Int),zs):=by rw[e1,Int.toNat_natCast];exact e4
   rw[Kw hd hn,Kw hd (m.node _ _ hn)];exact SM.oneT m h zs e5
def RefO(S:Sto)(root next:Int)(dead:List Int)(id:Int)(X:Vol->Prop)(er:Int):Prop:=(er=8/\QS S root next dead)\/∃vs,Kl S root next dead vs /\
 ((er=6/\zF vs id=F)\/∃v,zF vs id=E v/\((er=170/\v.fz=O)\/(v.fz=Oa/\er≠170/\(er=0->X v))))
def RefR(R:Int->Prop)(e:Ending):Prop:=∃A1 n1 c1 A2 n2 c2 A3 n3 c3 A4 n4 c4 g t n A5 n5 c5 er,e=Z (Ob #[.agg (qQ (D A1 n1 c1) (D A2 n2 c2) (D A3 n3 c3) (D A4 n4 c4) g t n (D A5 n5 c5)),U Jx er])/\(er≠0->n3=0)/\R er
theorem qgR.ref{e:Ending}(h:qgR S gen root next dead id x w e w'):Below w.heap.size w w'/\RefR (RefO S root next dead id λ_=>itB x.r x.val.length=O) e:=by
 refine⟨h.1,?_⟩;rcases h.2 with⟨er,hne,rfl,hE⟩|⟨r3,S4,u,⟨vs,refs,nodes,v,h1,h2,h3,h4,h5,h6,-⟩,rfl,hN⟩
 ·refine⟨F,0,0,F,0,0,F,0,0,F,0,0,0,0,0,F,0,0,er,rfl,λ_=>rfl,?_⟩;rcases hE with⟨e,hb⟩|⟨vs,refs,nodes,h1,h2,h3,hE⟩
  ·exact .inl ⟨e,hb⟩
  ·refine .inr ⟨vs,⟨refs,nodes,h1,h2,h3⟩,?_⟩;rcases hE with hE|⟨v,hv,hE⟩
   ·exact .inl hE
   ·refine .inr ⟨v,hv,?_⟩;rcases hE with hE|⟨hf,hE⟩
    ·exact .inl hE
    ·refine .inr ⟨hf,?_,λh=>absurd h hne⟩;rcases hE with⟨rfl,_⟩|⟨_,⟨rfl,_⟩|⟨_,hE⟩⟩
     ·decide
     ·decide
     ·have:=hE.lt λe he=>putN_lt he;omega
 ·obtain⟨A1,c1,A2,c2,A3,c3,A4,c4,A5,c5,rfl,-⟩:=hN;exact⟨A1,_,c1,A2,_,c2,A3,_,c3,A4,_,c4,gen,_,next,A5,_,c5,0,rfl,λh=>absurd rfl h,.inr ⟨vs,⟨refs,nodes,h1,h2,h3⟩,.inr ⟨v,h4,.inr ⟨h5,zA1,λ_=>h6⟩⟩⟩⟩
theorem VDelQ.ref{e:Ending}(h:VDelQ S gen root next dead id k w e w'):Below w.heap.size w w'/\RefR (RefO S root next dead id λv=>(KY S v.root k).isSome=O) e:=by
 refine⟨h.1,?_⟩;rcases h.2 with⟨er,hne,rfl,hE⟩|⟨r3,S4,u,⟨vs,refs,nodes,v,h1,h2,h3,h4,h5,r2,S2,S3,vs3,hsh,hP,-⟩,rfl,hN⟩
 ·refine⟨F,0,0,F,0,0,F,0,0,F,0,0,0,0,0,F,0,0,er,rfl,λ_=>rfl,?_⟩;rcases hE with⟨e,hb⟩|⟨vs,refs,nodes,h1,h2,h3,hE⟩
  ·exact .inl ⟨e,hb⟩
  ·refine .inr ⟨vs,⟨refs,nodes,h1,h2,h3⟩,?_⟩;rcases hE with hE|⟨v,hv,hE⟩
   ·exact .inl hE
   ·refine .inr ⟨v,hv,?_⟩;rcases hE with hE|⟨hf,hE⟩
    ·exact .inl hE
    ·refine .inr ⟨hf,?_,λh=>absurd h hne⟩;have:=hE.lt λe he=>delN_lt he;omega
 ·have hX:(KY S v.root k).isSome=O:=by
   obtain⟨a,ha,h8,h256,lvl,xs,hn,hs⟩:=Ub h1 (vL h4);obtain⟨-,hsm,hmay⟩:=TU hsh;rw[ha,Int.toNat_natCast]at hP;rw[ha];unfold qbO at hP;rw[ha]at hsm hmay;rw[hsm.node _ _ hn]at hP;simp only[Int.toNat_natCast]at hP;have h1t:(oneT (Zf S (a:Int)) k lvl xs).isSome=O:=by
    unfold XP at hP;split at hP
    ·assumption
    ·cases hP
   unfold KY;rw[Int.toNat_natCast,hn];simp only[Int.toNat_natCast];rw[<-SM.oneT hsm lvl xs hs];exact h1t
  obtain⟨A1,c1,A2,c2,A3,c3,A4,c4,A5,c5,rfl,-⟩:=hN;exact⟨A1,_,c1,A2,_,c2,A3,_,c3,A4,_,c4,gen,_,next,A5,_,c5,0,rfl,λh=>absurd rfl h,.inr ⟨vs,⟨refs,nodes,h1,h2,h3⟩,.inr ⟨v,h4,.inr ⟨h5,zA1,λ_=>hX⟩⟩⟩⟩
def RefI(R:Int->Prop)(e:Ending):Prop:=∃(k i o r:Int)(A:OA)(n c:Nat)(er:Int),e=Z (Ob #[.agg #[U .u8 k,U Oc i,U Oc o,U Jx r,D A n c],U Jx er])/\(er≠0->n=0)/\R er
theorem qaq.ref{e:Ending}(h:qaq S root next dead id K w e w'):Below w.heap.size w w'/\RefI (λer=>(er=8/\QS S root next dead)\/∃vs,Kl S root next dead vs/\((er=6/\zF vs id=F)\/∃v,zF vs id=E v/\((KY S v.root K).isSome=O->er=0))) e:=by
 refine⟨h.1,?_⟩;rcases h.2 with⟨rfl,hb⟩|⟨vs,u,hok,rfl,hm⟩
 ·exact⟨0,0,0,0,F,0,0,8,rfl,λ_=>rfl,.inl ⟨rfl,hb⟩⟩
 ·rcases hv:zF vs id with _|v
  ·rw[hv]at hm;subst hm;exact⟨0,0,0,0,F,0,0,6,rfl,λ_=>rfl,.inr ⟨vs,hok,.inl ⟨rfl,hv⟩⟩⟩
  ·rw[hv]at hm;rcases hf:KY S v.root K with _|y
   ·simp only[hf]at hm;have hm:u=Ob #[.agg To,U Jx 6]:=hm;subst hm;exact⟨0,0,0,0,F,0,0,6,rfl,λ_=>rfl,.inr ⟨vs,hok,.inr ⟨v,hv,λh=>by rw[hf]at h;cases h⟩⟩⟩
   ·simp only[hf]at hm;obtain⟨A,c,rfl,-⟩:=hm;exact⟨y.k,y.i,y.o,y.r,A,_,c,0,rfl,λh=>absurd rfl h,.inr ⟨vs,hok,.inr ⟨v,hv,λ_=>rfl⟩⟩⟩
def CreEnd(bp be ba:Nat)(cs:Array Of)(a e:Int)(S:Sto)(W W':Oe):Prop:=XG bp be ba W W' /\
 ((e=0/\jc S=0/\W'.heap[bp]?=E (I cs 32 (0,0))/\W'.heap[be]?=E (I #[U Jx 0] 37 (0,0))/\W'.heap[ba]?=E (I #[U Oc a] 29 (0,0))) \/
  ∃e',e'≠0/\((e=0/\e'=jc S)\/(e≠0/\e'=e))/\W'.heap[bp]?=E (I XF 32 (0,0))/\W'.heap[be]?=E (I #[U Jx e'] 37 (0,0))/\W'.heap[ba]?=E (I #[U Oc 0] 29 (0,0)))
set_option maxRecDepth 100000 in
theorem cre1_any(bp be ba:Nat)(h12:bp≠be)(h13:bp≠ba)(h23:be≠ba)(A1 n1 c1 A2 n2 c2 A3 n3 c3 A4 n4 c4)(gen root next:Int)(v5:Of)(a e:Int)(S:Sto)(u:FrameMode)(w:Oe)(hp:w.heap[bp]?=E (I (qQ (D A1 n1 c1) (D A2 n2 c2) (D A3 n3 c3) (D A4 n4 c4) gen root next v5) 32 (0,0)))(he:w.heap[be]?=E (I #[U Jx e] 37 (0,0)))(ha:w.heap[ba]?=E (I #[U Oc a] 29 (0,0)))(h:e=0->Qi w w.heap.size (D A1 n1 c1) (D A2 n2 c2) (D A3 n3 c3) (D A4 n4 c4) S):CallsD prog 101 #[Y (E ⟨bp,0,F⟩),Y (E ⟨be,0,F⟩),Y (E ⟨ba,0,F⟩)] u w (λx u' w'=>u'=u/\x=Z (Ob #[])/\CreEnd bp be ba (qQ (D A1 n1 c1) (D A2 n2 c2) (D A3 n3 c3) (D A4 n4 c4) gen root next v5) a e S w w'):=by
 have HR:=qmC bp be h12 A1 n1 c1 A2 n2 c2 A3 n3 c3 A4 n4 c4 gen root next v5 e S w hp he h
 clear h hp he;go_enter_d func101,ntmps101;go_wp2_with fail;refine HR.mono ?_;rintro x w2 ⟨rfl,hT,⟨h0,hE,hp2,he2⟩|⟨e',h0,hE,hp2,he2⟩⟩
 ·have ha2:=(hT.same ba (zG.1 ha).1 (Ne.symm h13) (Ne.symm h23)).trans ha;have ke2:=qa he2;have hz:=zH h0;clear h0;go_wp2_with fail;go_end0;exact⟨rfl,XG.of_two hT,.inl ⟨hz.out,hE,hp2,he2,ha2⟩⟩
 ·have ha2:=(hT.same ba (zG.1 ha).1 (Ne.symm h13) (Ne.symm h23)).trans ha;have ke2:=qa he2;have ka2:=qa ha2;have fa2:=qd ha2;have b1:(e' != 0)=O:=by rw[bne_iff_ne];exact h0
  replace h0:=zH h0;replace hE:=zH hE;go_wp2_with fail;go_end0;exact⟨rfl,(XG.of_two hT).set _,.inr ⟨e',h0.out,hE.out,(zJ _ _ _ _ h13).trans hp2,(zJ _ _ _ _ h23).trans he2,qj ha2 0 _⟩⟩
structure Yv(n:Nat)(A:Array Bool)(m:Nat):Prop where
 size:A.size=n
 at_:∀j,j<n->A[j]?=E (m.testBit j)
 out:∀j,n<=j->m.testBit j=Oa
theorem Yv.none_(n:Nat):Yv n (Array.replicate n Oa) 0:=
 ⟨zA3,λj hj=>by rw[Array.getElem?_replicate,if_pos hj,Nat.zero_testBit],λj _=>Nat.zero_testBit j⟩
theorem Yv.getT(h:Yv n A m)(hj:j<n)(d:Bool):A.getD j d=m.testBit j:=by rw[Array.getD_eq_getD_getElem?,h.at_ j hj];rfl
theorem Yv.set(h:Yv n A m){k:Nat}(hk:k<n):Yv n (A.setIfInBounds k O) (m||| 2^k):=by
 refine⟨by simpa using h.size,λj hj=>?_,λj hj=>?_⟩
 ·rw[Nat.testBit_or,Nat.testBit_two_pow];by_cases e:k=j
  ·subst e;rw[Array.getElem?_setIfInBounds_self_of_lt (by rw[h.size];exact hk)];simp
  ·rw[Array.getElem?_setIfInBounds_ne e,h.at_ j hj];simp[e]
 ·rw[Nat.testBit_or,Nat.testBit_two_pow,h.out j hj];simp;omega
def freeN(ops:Array Oper)(oi:Oper)(k m:Nat):Nat->List Oper->Bool
 |_,[]=>O
 |j,oj::r=>(j==k||m.testBit j||oj.after.any (λe=>Region.binds .any e&&e.on==k)||oi.apart ops oj)&&freeN ops oi k m (j+1) r
theorem qcx{ops:Array Oper}{oi:Oper}{k m:Nat}:∀(l:List Oper)(j:Nat),freeN ops oi k m j l=O->∀i o,l[i]?=E o->(j+i==k||m.testBit (j+i)||o.after.any (λe=>Region.binds .any e&&e.on==k)||oi.apart ops o)=O
 |[],_,_,i,o,h=>by simp at h
 |x::r,j,h,i,o,ho=>by
  simp only[freeN,Bool.and_eq_true]at h;rcases i with _|i
  ·simp only[List.getElem?_cons_zero,Option.some.injEq]at ho;subst ho;exact h.1
  ·have:=qcx r (j+1) h.2 i o (by simpa using ho)
   rwa [show j+1+i=j+(i+1)by omega]at this
def lexN(l:List Oper)(fin:Nat):List Nat->Nat->Bool
 |[],m=>m==fin
 |k::r,m=>!m.testBit k&&(match l[k]? with
  |some o=>o.after.toList.all (λe=>!Region.binds .any e||m.testBit e.on)&&freeN l.toArray o k m 0 l
  |none=>Oa)&&lexN l fin r (m||| 2^k)
theorem qeR{l:List Oper}{L:Array Bool}{fin:Nat}(hL:Yv l.length L fin):∀(ks:List Nat)(A:Array Bool)(m:Nat),Yv l.length A m->lexN l fin ks m=O->Zs l.toArray L ks A=O
 |[],A,m,hA,h=>by
  simp only[lexN,beq_iff_eq]at h;subst h;simp only[Zs,beq_iff_eq];refine Array.ext_getElem? λj=>?_;by_cases hj:j<l.length
  ·rw[hA.at_ j hj,hL.at_ j hj]
  ·rw[Array.getElem?_eq_none (by rw[hA.size];omega),Array.getElem?_eq_none (by rw[hL.size];omega)]
 |k::r,A,m,hA,h=>by
  simp only[lexN,Bool.and_eq_true,Bool.not_eq_true']at h;obtain⟨⟨h0,h1⟩,h2⟩:=h;split at h1
  ·rename_i o ho;simp only[Bool.and_eq_true]at h1;obtain⟨h1,h3⟩:=h1;have hk:k<l.length:=(List.getElem?_eq_some_iff.1 ho).1;have hoA:l.toArray[k]?=E o:=by simpa using ho
   simp only[Zs,Bool.and_eq_true];refine⟨⟨?_,?_⟩,qeR hL r _ _ (hA.set hk) h2⟩
   ·have:k∈Region.ready .any l.toArray A:=mem_ready.2 ⟨by rw[hA.getT hk,h0],o,hoA,λe he hb=>by
     have h4:=List.all_eq_true.1 h1 e (by simpa using he);rw[hb]at h4;simp only[Bool.not_true,Bool.false_or]at h4;by_cases hj:e.on<l.length
     ·rw[hA.getT hj,h4]
     ·rw[hA.out e.on zO]at h4;cases h4⟩
    simpa using this
   ·unfold Region.free;rw[hoA];simp only[List.all_eq_true,List.mem_range];intro j hj;have hj':j<l.length:=by simpa using hj
    have h4:=qcx l 0 h3 j l[j] (zL hj');rw[Nat.zero_add]at h4;rw[hA.getT hj',List.getElem?_toArray,zL hj'];simp only;simp only[Bool.or_eq_true]at h4⊢;rcases h4 with((h4|h4)|h4)|h4
    ·exact .inl (.inl h4)
    ·exact .inl (.inr h4)
    ·exact .inr (.inl h4)
    ·exact .inr (.inr h4)
  ·cases h1
theorem Yv.listed(n m:Nat)(h:m<=n):Yv n (QX n m) (2^m-1):=by
 refine⟨by simp[QX],λj hj=>?_,λj hj=>?_⟩
 ·unfold QX;rw[List.getElem?_toArray,List.getElem?_map,List.getElem?_range hj,Nat.testBit_two_pow_sub_one];rfl
 ·rw[Nat.testBit_two_pow_sub_one];simp;omega
theorem qlI{P:Program}{a:Act}(R:Rel)(H:Nat->Option Qd)(M:List Bool)(t:Nat)(hs:Region.noSelect l.toArray=O)(ht:qfu l.toArray (QX l.length (l.length-t)) ((qA 0 l M).map (·.1))=O)(hc0:Xb l.toArray (Array.replicate l.length Oa)=O)(hB:lexN l (2^(l.length-t)-1) ((qA 0 l M).map (·.1)) 0=O)(hKZ:qad l.toArray t (l.length-t) (QX l.length (l.length-t))=O)(hfu:fuel=(qA 0 l M).length+t)(htl:(l.drop (l.length-t)).length=t)(hH:∀i h,H i=E h->∀p,qU R (h.φ p))(hW:R.r w W)(h:∀K:Act->qR->Prop,(∀a' F',(∀W,R.r w W->(∀k,F' k W)->wpList P l.toArray Q (l.drop (l.length-t)) a' W)->K a' F')->jJ R P l.toArray w H K (qA 0 l M) a (λ_ _=>True)):wpAny P .any l.toArray Q fuel (Array.replicate l.length Oa) a W:=
 Qb R H M t hs ht hc0 (qeR (Yv.listed _ _ (Nat.sub_le _ _)) _ _ _ (Yv.none_ _) hB) hKZ hfu htl hH hW h
def newV(next:Int)(r:Nat):Vol:=⟨next,(r:Int),Oa,0⟩
def qao(S:Sto)(root next:Int)(dead:List Int)(er:Int):Prop:=(er=8/\QS S root next dead)\/∃vs refs nodes,Qy S root next dead vs/\Qk S (Qo root dead vs) refs nodes/\QQ S refs /\
 ((er=9/\(16<=vs.length\/next=4294967295))\/Xo S=.error er\/∃ra S1,Xo S=.ok (ra,S1)/\(UL S1 root (next+1) dead (newV next ra) er\/∃r S2 vs',qaV S1 root (next+1) dead (newV next ra) r S2 vs'/\jc S2=er))
def CreQ(S:Sto)(gen root next:Int)(dead:List Int)(w:Oe)(e:Ending)(w':Oe):Prop:=Below w.heap.size w w' /\
 ((∃er,er≠0/\e=Z (Ob #[Tz,U Oc 0,U Jx er])/\qao S root next dead er) \/
  ∃vs refs nodes ra S1 r S2 vs' u,Qy S root next dead vs/\Qk S (Qo root dead vs) refs nodes/\QQ S refs/\vs.length<16/\next<4294967295/\Xo S=.ok (ra,S1)/\qaV S1 root (next+1) dead (newV next ra) r S2 vs'/\jc S2=0 /\
   e=Z (Ob #[u,U Oc next,U Jx 0])/\Jp w.heap.size S2 gen (r:Int) (next+1) dead u w')
theorem qkR{b:Nat}{y z:Of}(h4:tmps[2]?.getD undef=Y (E ⟨b+1,0,F⟩))(h5:tmps[3]?.getD undef=Y (E ⟨b+1+1,0,F⟩))(h6:tmps[4]?.getD undef=Y (E ⟨b+1+1+1,0,F⟩))(r4:W.heap[b+1]?=E (I #[x0,x1,x2,x3,x4,x5,x6,x7] 32 (0,0)))(r5:W.heap[b+2]?=E (I #[y] 29 (0,0)))(r6:W.heap[b+3]?=E (I #[z] 37 (0,0)))(hR:R (Z (Ob #[.agg #[x0,x1,x2,x3,x4,x5,x6,x7],y,z])) W):Leaves prog Tryz.f48 tmps R [] .returning W:=by
 have k4:=qa r4;have k5:=qa r5;have k6:=qa r6;refine⟨Ob #[.agg #[x0,x1,x2,x3,x4,x5,x6,x7],y,z],?_,hR⟩;simp[results,results48,go_sem,h4,h5,h6,k4,k5,k6]
theorem qhv{b:Nat}(A1 n1 c1 A2 n2 c2 A3 n3 c3 A4 n4 c4)(gen root next:Int)(v5:Of)(y e:Int)(S:Sto)(h4:tmps[2]?.getD undef=Y (E ⟨b+1,0,F⟩))(h5:tmps[3]?.getD undef=Y (E ⟨b+1+1,0,F⟩))(h6:tmps[4]?.getD undef=Y (E ⟨b+1+1+1,0,F⟩))(r4:W.heap[b+1]?=E (I (qQ (D A1 n1 c1) (D A2 n2 c2) (D A3 n3 c3) (D A4 n4 c4) gen root next v5) 32 (0,0)))(r5:W.heap[b+2]?=E (I #[U Oc y] 29 (0,0)))(r6:W.heap[b+3]?=E (I #[U Jx e] 37 (0,0)))(h:e=0->Qi W W.heap.size (D A1 n1 c1) (D A2 n2 c2) (D A3 n3 c3) (D A4 n4 c4) S)(hR1:e=0->jc S=0->∀W',XG (b+1) (b+3) (b+2) W W'->R (Z (Ob #[.agg (qQ (D A1 n1 c1) (D A2 n2 c2) (D A3 n3 c3) (D A4 n4 c4) gen root next v5),U Oc y,U Jx 0])) W')(hR2:∀e' W',e'≠0->((e=0/\e'=jc S)\/(e≠0/\e'=e))->XG (b+1) (b+3) (b+2) W W'->R (Z (Ob #[Tz,U Oc 0,U Jx e'])) W'):bodyPostD prog Tryz.f48 R .ret {tmps:=tmps,defers:=[{target:=.fn (.func 101) #[Y (E ⟨b+1,0,F⟩),Y (E ⟨b+1+1+1,0,F⟩),Y (E ⟨b+1+1,0,F⟩)],args:=#[]}]} W:=by
 refine leaves_cons (f:=101) (args:=#[Y (E ⟨b+1,0,F⟩),Y (E ⟨b+1+1+1,0,F⟩),Y (E ⟨b+1+1,0,F⟩)]) zA3 (by simp[go_sem]) ?_;refine(cre1_any (b+1) (b+3) (b+2) zO zO zO A1 n1 c1 A2 n2 c2 A3 n3 c3 A4 n4 c4 gen root next v5 y e S .returning W r4 r6 r5 h).mono ?_;rintro x u' w' ⟨rfl,rfl,hT,⟨h0,hE,g4,g6,g5⟩|⟨e',h0,hE,g4,g6,g5⟩⟩
 ·exact qkR h4 h5 h6 g4 g5 g6 (hR1 h0 hE w' hT)
 ·exact qkR h4 h5 h6 g4 g5 g6 (hR2 e' w' h0 hE hT)
theorem Gt(hne:er≠0)(hc:qao S root next dead er)(h4:tmps[2]?.getD undef=Y (E ⟨w.heap.size+1,0,F⟩))(h5:tmps[3]?.getD undef=Y (E ⟨w.heap.size+1+1,0,F⟩))(h6:tmps[4]?.getD undef=Y (E ⟨w.heap.size+1+1+1,0,F⟩))(r4:W.heap[w.heap.size+1]?=E (I XF 32 (0,0)))(r5:W.heap[w.heap.size+2]?=E (I #[U Oc z0] 29 (0,0)))(r6:W.heap[w.heap.size+3]?=E (I #[U Jx er] 37 (0,0)))(hB:Ext w W):bodyPostD prog Tryz.f48 (CreQ S gen root next dead w) .ret {tmps:=tmps,defers:=[{target:=.fn (.func 101) #[Y (E ⟨w.heap.size+1,0,F⟩),Y (E ⟨w.heap.size+1+1+1,0,F⟩),Y (E ⟨w.heap.size+1+1,0,F⟩)],args:=#[]}]} W:=by
 refine qhv F 0 0 F 0 0 F 0 0 F 0 0 0 0 0 (D F 0 0) z0 er S h4 h5 h6 r4 r5 r6 (λh=>absurd h hne) (λh=>absurd h hne) (λe' W' h0 hE hT=>?_);obtain rfl:e'=er:=by
  rcases hE with⟨h,_⟩|⟨_,h⟩
  ·exact absurd h hne
  ·exact h
 have z:=(zG.1 r4).1;exact⟨hT.below hB zO zO zO zO,.inl ⟨e',hne,rfl,hc⟩⟩
theorem qcv{b:Nat}{v p q0:Of}{cs:Array Of}(r4:W.heap[b+1]?=E (I cs ty1 (0,0)))(r5:W.heap[b+2]?=E (I #[p] ty2 (0,0)))(r6:W.heap[b+3]?=E (I #[q0] ty3 (0,0)))(hC:W.setCell ⟨b+1+1+1,0,F⟩ v=C):C.heap[b+1]?=E (I cs ty1 (0,0))/\C.heap[b+2]?=E (I #[p] ty2 (0,0))/\C.heap[b+3]?=E (I #[v] ty3 (0,0))/\(∀{w0:Oe},w0.heap.size<=b->Ext w0 W->Ext w0 C)/\C.heap.size=W.heap.size/\∀k,k≠b+3->C.heap[k]?=W.heap[k]?:=by
 subst hC;have hs:=λ(k:Nat)(hk:k≠b+3)=>zJ W ⟨b+1+1+1,0,F⟩ v k hk;exact⟨(hs _ zO).trans r4,(hs _ zO).trans r5,qj r6 0 v,λhb hx=>Below.setCell hx (p:=⟨b+1+1+1,0,F⟩) zA2 _,zA3,hs⟩
theorem newE_err(h:Xo S=.error er):er≠0:=by
 unfold Xo at h;split at h
 ·exact YG h
 ·cases h;decide
theorem cre_mid{b vb:Nat}{u0 u1 u2 u3 u4 u5 u6 u7 y0 y1 y2 y3 p q0 x0 x1 x2 x3 z ev nx:Of}{tyP tyV:TypeId}{cs:Array Of}(ra:W.heap[b]?=E (I #[u0,u1,u2,u3,u4,u5,u6,u7] tyP (0,0)))(rv:W.heap[vb]?=E (I #[y0,y1,y2,y3] tyV (0,0)))(r4:W.heap[b+1]?=E (I cs ty1 (0,0)))(r5:W.heap[b+2]?=E (I #[p] ty2 (0,0)))(r6:W.heap[b+3]?=E (I #[q0] ty3 (0,0)))(hvb:b+3<vb)(hC:((((((W.setCell ⟨b,0,F⟩ x0).setCell ⟨b,1,F⟩ x1).setCell ⟨b,2,F⟩ x2).setCell ⟨b,3,F⟩ x3).setCell ⟨vb,1,F⟩ z).setCell ⟨b+1+1+1,0,F⟩ ev).setCell ⟨b,6,F⟩ nx=C):C.heap[b]?=E (I #[x0,x1,x2,x3,u4,u5,nx,u7] tyP (0,0))/\C.heap[vb]?=E (I #[y0,z,y2,y3] tyV (0,0))/\C.heap[b+1]?=E (I cs ty1 (0,0))/\C.heap[b+2]?=E (I #[p] ty2 (0,0))/\C.heap[b+3]?=E (I #[ev] ty3 (0,0)) /\
   C.heap.size=W.heap.size/\(∀{w0:Oe},w0.heap.size<=b->Ext w0 W->Ext w0 C)/\∀k,k≠b->k≠vb->k≠b+3->C.heap[k]?=W.heap[k]?:=by
 subst hC;have hs:=λ(A:Oe)(b j:Nat)(v:Of)(k:Nat)(hk:k≠b)=>zJ A ⟨b,j,F⟩ v k hk;have r1:=qj (qj (qj (qj ra 0 x0) 1 x1) 2 x2) 3 x3;have o1:∀k,k≠b->((((W.setCell ⟨b,0,F⟩ x0).setCell ⟨b,1,F⟩ x1).setCell ⟨b,2,F⟩ x2).setCell ⟨b,3,F⟩ x3).heap[k]?=W.heap[k]?:=λk hk=>by rw[hs _ _ _ _ _ hk,hs _ _ _ _ _ hk,hs _ _ _ _ _ hk,hs _ _ _ _ _ hk]
 have hCC:∀k,k≠b->k≠vb->k≠b+3->(((((((W.setCell ⟨b,0,F⟩ x0).setCell ⟨b,1,F⟩ x1).setCell ⟨b,2,F⟩ x2).setCell ⟨b,3,F⟩ x3).setCell ⟨vb,1,F⟩ z).setCell ⟨b+1+1+1,0,F⟩ ev).setCell ⟨b,6,F⟩ nx).heap[k]?=W.heap[k]?:=λk h1 h2 h3=>by rw[hs _ _ _ _ _ h1,hs _ _ _ _ _ zO,hs _ _ _ _ _ h2,o1 k h1]
 refine⟨?_,?_,(hCC _ zO zO zO).trans r4,(hCC _ zO zO zO).trans r5,?_,zA3,λhb hx=>?_,hCC⟩
 ·exact qj (t:=tyP) (cs:=#[x0,x1,x2,x3,u4,u5,u6,u7]) (by rw[hs _ _ _ _ _ zO,hs _ _ _ _ _ zO];exact r1) 6 nx
 ·rw[hs _ _ _ _ _ zO,hs _ _ _ _ _ zO];exact qj (t:=tyV) (cs:=#[y0,y1,y2,y3]) ((o1 vb zO).trans rv) 1 z
 ·rw[hs _ _ _ _ _ zO];exact qj (t:=ty3) (cs:=#[q0]) (by rw[hs _ _ _ _ _ zO,o1 _ zO];exact r6) 0 ev
 ·exact Below.setCell (Below.setCell (Below.setCell (Zv hx (b:=b) hb _ _ _ _) (p:=⟨vb,1,F⟩) zA2 _) (p:=⟨b+1+1+1,0,F⟩) zA2 _) (p:=⟨b,6,F⟩) hb _
set_option maxRecDepth 100000 in
theorem qiP(A1 n1 c1 A2 n2 c2 A3 n3 c3 A4 n4 c4)(gen root next:Int)(A5 c5)(S:Sto)(dead:List Int)(hn0:0<=next)(hn1:next<4294967296)(w:Oe)(h:Qi w w.heap.size (D A1 n1 c1) (D A2 n2 c2) (D A3 n3 c3) (D A4 n4 c4) S)(hd:ZM w w.heap.size (D A5 dead.length c5) dead):Calls prog 48 #[.agg (qQ (D A1 n1 c1) (D A2 n2 c2) (D A3 n3 c3) (D A4 n4 c4) gen root next (D A5 dead.length c5))] w (CreQ S gen root next dead w):=by
 have HV:=zH (λW (hx:Ext w W)=>qlX A1 n1 c1 A2 n2 c2 A3 n3 c3 A4 n4 c4 gen root next A5 c5 S dead W (h.ext hx) (hd.ext_ hx));have HN:=zH (λW (hx:Ext w W)=>pnew_any A1 n1 c1 A2 n2 c2 A3 n3 c3 A4 n4 c4 S W (h.ext hx));have hwn0:Hid (next<4294967295->IntKind.u32.wrap (next+1)=next+1):=zH λh1=>by simp only[IntKind.wrap,IntKind.bits,IntKind.signed,Bool.false_and,Bool.false_eq_true,if_false];omega
 have hMG:Hid (∀ra:Nat,8<=ra->ra<256->XH (newV next ra)):=zH λra h1 h2=>by refine⟨⟨?_,?_⟩,⟨?_,?_⟩,⟨?_,?_⟩⟩<;>simp only[newV]<;>omega
 replace h:=zH h;replace hd:=zH hd;go_enter_defers func48,ntmps48;go_wp2_with fail;generalize hw1:(Od (Od _ _) _)=w1;have x1:Ext w w1:=by rw[<-hw1];exact(((zN _ _).trans (zN _ _)).trans (zN _ _)).trans (zN _ _)
 have s1:w1.heap.size=w.heap.size+4:=by rw[<-hw1];simp
 have ra1:w1.heap[w.heap.size]?=E (I (qQ (D A1 n1 c1) (D A2 n2 c2) (D A3 n3 c3) (D A4 n4 c4) gen root next (D A5 dead.length c5)) 32 (0,0)):=by rw[<-hw1];exact(zK _ _ _ zA4).trans ((zK _ _ _ zA4).trans ((zK _ _ _ zA4).trans (zI _ _ _ rfl)))
 have rb1:w1.heap[w.heap.size+1]?=E (I XF 32 (0,0)):=by rw[<-hw1];exact(zK _ _ _ zA4).trans ((zK _ _ _ zA4).trans (zI _ _ _ zA3))
 have rc1:w1.heap[w.heap.size+2]?=E (I #[U Oc 0] 29 (0,0)):=by rw[<-hw1];exact(zK _ _ _ zA4).trans (zI _ _ _ zA3)
 have rd1:w1.heap[w.heap.size+3]?=E (I #[U Jx 0] 37 (0,0)):=by rw[<-hw1];exact zI _ _ _ zA3
 clear hw1;refine(HV.out w1 x1).mono ?_;clear HV;rintro e w2 ⟨hB,hQ⟩;have x2:Ext w w2:=Ext.trans x1 hB;have z2:w.heap.size+3<w2.heap.size:=by have:=Below.size hB;omega
 have ra2:=qb ra1 hB;have rb2:=qb rb1 hB;have rc2:=qb rc1 hB;have rd2:=qb rd1 hB;clear hB ra1 rb1 rc1 rd1 x1;have ka2:=qa ra2;have kb2:=qa rb2;have kc2:=qa rc2;have kd2:=qa rd2;have fb2:=qd rb2;have fc2:=qd rc2;have fd2:=qd rd2;have zd2:w.heap.size+1+1+1<w2.heap.size:=zO;have zd0:w.heap.size<w2.heap.size:=zO;rcases hQ with⟨rfl,hno⟩|⟨vs,refs,nodes,cb,ca,vv,lo,rfl,hlo,hT⟩
 ·have hce:Hid (qao S root next dead 8):=zH (.inl ⟨rfl,hno⟩);clear hno HN;go_wp2_with fail;obtain⟨rb3,rc3,rd3,xe,-,-⟩:=qcv (b:=w.heap.size) (v:=U Jx 8) rb2 rc2 rd2 rfl;obtain⟨g4,g5,g6,hbl,-,-⟩:=GC (b:=w.heap.size) rb3 rc3 rd3 rfl;exact Gt zA1 hce.out rfl rfl rfl g4 g5 g6 (hbl (B:=w.heap.size) zO (xe (zM _) x2))
 ·have hp:=zH hT.pool;have hc:=zH hT.cnt;have he:=zH hT.enough;obtain⟨AV,cV,rfl,-,-⟩:=qM hT.own;clear hT hlo;by_cases hl:16<=vs.length
  ·have hce:Hid (qao S root next dead 9):=zH (.inr ⟨vs,refs,nodes,hp.out,hc.out,he.out,.inl ⟨rfl,.inl hl⟩⟩);have d1:decide ((vs.length:Int)≥16)=O:=decide_eq_true zO;replace hl:=zH hl;clear HN;go_wp2_with fail;obtain⟨rb3,rc3,rd3,xe,-,-⟩:=qcv (b:=w.heap.size) (v:=U Jx 0) rb2 rc2 rd2 rfl;obtain⟨g4,g5,g6,hbl,-,-⟩:=GC (b:=w.heap.size) rb3 rc3 rd3 rfl;exact Gt zA1 hce.out rfl rfl rfl g4 g5 g6 (hbl (B:=w.heap.size) zO (xe (zM _) x2))
  ·have d1:decide ((vs.length:Int)≥16)=Oa:=decide_eq_false zO;replace hl:=zH hl;by_cases hm:next=4294967295
   ·have hce:Hid (qao S root next dead 9):=zH (.inr ⟨vs,refs,nodes,hp.out,hc.out,he.out,.inl ⟨rfl,.inr hm⟩⟩);have d3:(next==4294967295)=O:=by rw[beq_iff_eq];exact hm
    replace hm:=zH hm;clear HN;go_wp2_with fail;obtain⟨rb3,rc3,rd3,xe,-,-⟩:=qcv (b:=w.heap.size) (v:=U Jx 0) rb2 rc2 rd2 rfl;obtain⟨g4,g5,g6,hbl,-,-⟩:=GC (b:=w.heap.size) rb3 rc3 rd3 rfl;exact Gt zA1 hce.out rfl rfl rfl g4 g5 g6 (hbl (B:=w.heap.size) zO (xe (zM _) x2))
   ·have d3:(next==4294967295)=Oa:=by rw[beq_eq_false_iff_ne];exact hm
    replace hm:=zH hm;have hYQ:vs.length<16:=by have:=hl.out;omega
    have hnx:next<4294967295:=by have:=hm.out;omega
    replace hYQ:=zH hYQ;replace hnx:=zH hnx;go_wp2_with fail;generalize hw3:Od (J w2 _ _) _=w3;have rv3:w3.heap[w2.heap.size]?=E (I #[U Oc next,U Jx 0,.bool Oa,U Oc 0] 36 (0,0)):=by rw[<-hw3];exact zI _ _ _ zA3
    obtain⟨rb3,rc3,rd3,xe,ze,oe⟩:=qcv (b:=w.heap.size) (v:=U Jx 0) rb2 rc2 rd2 rfl;have x3:Ext w w3:=by rw[<-hw3];exact(xe (zM _) x2).trans (zN _ _)
    have ha3:=zN (w2.setCell ⟨w.heap.size+1+1+1,0,F⟩ (U Jx 0)) (I #[U Oc next,U Jx 0,.bool Oa,U Oc 0] 36);rw[hw3]at ha3;replace rb3:=qb rb3 ha3;replace rc3:=qb rc3 ha3;replace rd3:=qb rd3 ha3;have ra3:=qb ((oe w.heap.size zO).trans ra2) ha3;clear hw3 xe ze oe ha3 rb2 rc2 rd2 ra2 ka2 kb2 kc2 kd2 fb2 fc2 fd2;refine(HN.out w3 x3).mono ?_;clear HN;rintro e w4 ⟨u,rfl,hM,hB⟩;have x4:Ext w w4:=x3.trans hB;have ra4:=qb ra3 hB;have rb4:=qb rb3 hB;have rc4:=qb rc3 hB;have rd4:=qb rd3 hB;have rv4:=qb rv3 hB;have ka4:=qa ra4;have kb4:=qa rb4;have kc4:=qa rc4;have kd4:=qa rd4;have kv4:=qa rv4;have fa4:=qd ra4;have fb4:=qd rb4;have fc4:=qd rc4;have fd4:=qd rd4;have fv4:=qd rv4;have zv3:=(zG.1 rv3).1;have zv4:=(zG.1 rv4).1;clear hB ra3 rb3 rc3 rd3 rv3;rcases hq:Xo S with er|⟨ra,S1⟩
    ·rw[hq]at hM;obtain rfl:=hM;have hne:=newE_err hq;have hce:Hid (qao S root next dead er):=zH (.inr ⟨vs,refs,nodes,hp.out,hc.out,he.out,.inr (.inl hq)⟩);have hnb:(er != 0)=O:=by rw[bne_iff_ne];exact hne
     replace hne:=zH hne;replace hq:=zH hq;go_wp2_with fail;have hs5:=(((((Sets.refl (λk=>k=w.heap.size\/k=w2.heap.size) w4).set (b:=w.heap.size) 0 (.inl rfl) (D F 0 0)).set (b:=w.heap.size) 1 (.inl rfl) (D F 0 0)).set (b:=w.heap.size) 2 (.inl rfl) (D F 0 0)).set (b:=w.heap.size) 3 (.inl rfl) (D F 0 0)).set (b:=w2.heap.size) 1 (.inr rfl) (U Jx 0);obtain⟨rb5,rc5,rd5,xe,-,-⟩:=qcv (b:=w.heap.size) (v:=U Jx er) (hs5.row rb4 zO) (hs5.row rc4 zO) (hs5.row rd4 zO) rfl;obtain⟨g4,g5,g6,hbl,-,-⟩:=GC (b:=w.heap.size) rb5 rc5 rd5 rfl;exact Gt hne.out hce.out rfl rfl rfl g4 g5 g6 (hbl (B:=w.heap.size) zO (xe (zM _) (hs5.below x4 zO)))
    ·rw[hq]at hM;obtain⟨v,rfl,hT⟩:=hM;obtain⟨BB,WW,gg,B3,d3,B4,d4,rfl,-⟩:=id hT;have hns:=zH (vG (hT.newSto (QY (GK hq).2.2.1)));have hwn:=hwn0.out hnx.out;have htr:=zH (new_tree hq);have hr8:=(GK hq).2.2.2;have hq':=zH hq;clear hT hq;go_wp2_with fail;generalize hw5:J (J (J (J (J (J (J w4 _ _) _ _) _ _) _ _) _ _) _ _) _ _=w5;obtain⟨ra5,rv5,rb5,rc5,rd5,z5,xe5,o5⟩:=cre_mid (b:=w.heap.size) (vb:=w2.heap.size) ra4 rv4 rb4 rc4 rd4 zO hw5;have x5:=xe5 (zM _) x4;have hNE:=(hns.out w5 (jU λk h1 h2=>o5 k zO zO zO)).more (show w4.heap.size<=w5.heap.size by omega);have HS:=zH (qcB (E ⟨BB,0,F⟩) S1.bs.length S1.bs.length (E ⟨WW,0,F⟩) S1.ws.length (S1.ws.length+1) B3 S1.now.length d3 B4 S1.last.length d4 gen root (next+1) A5 c5 S1 dead (newV next ra) (hMG.out ra hr8.1 hr8.2) (λ_ _ _=>htr.out) w5 hNE (hd.out.ext_ x5));clear hw5 xe5 ra4 rb4 rc4 rd4 rv4 ka4 kb4 kc4 kd4 kv4 fa4 fb4 fc4 fd4 fv4 hNE hns htr;refine HS.out.mono ?_;clear HS;intro e w6 hQS;obtain⟨hB6,hS6⟩:=hQS.split;have x6:Ext w w6:=x5.trans hB6;have rb6:=qb rb5 hB6;have rc6:=qb rc5 hB6;have rd6:=qb rd5 hB6;have rv6:=qb rv5 hB6;obtain⟨E1,m1,e1,E2,m2,e2,E3,m3,e3,E4,m4,e4,g9,t9,n9,E5,m5,e5,er,rfl,hS7⟩:∃E1 m1 e1 E2 m2 e2 E3 m3 e3 E4 m4 e4 g9 t9 n9 E5 m5 e5 er,e=Z (Ob #[.agg (qQ (D E1 m1 e1) (D E2 m2 e2) (D E3 m3 e3) (D E4 m4 e4) g9 t9 n9 (D E5 m5 e5)),U Jx er]) /\
       ((er≠0/\qQ (D E1 m1 e1) (D E2 m2 e2) (D E3 m3 e3) (D E4 m4 e4) g9 t9 n9 (D E5 m5 e5)=XF/\UL S1 root (next+1) dead (newV next ra) er)\/(er=0/\∃r S2 vs',qaV S1 root (next+1) dead (newV next ra) r S2 vs'/\Jp w5.heap.size S2 gen (r:Int) (next+1) dead (.agg (qQ (D E1 m1 e1) (D E2 m2 e2) (D E3 m3 e3) (D E4 m4 e4) g9 t9 n9 (D E5 m5 e5))) w6)):=by
      rcases hS6 with⟨er,h0,rfl,hE⟩|⟨r,S2,vs',u,hO,rfl,hN⟩
      ·exact⟨F,0,0,F,0,0,F,0,0,F,0,0,0,0,0,F,0,0,er,rfl,.inl ⟨h0,rfl,hE⟩⟩
      ·obtain⟨E1,e1,E2,e2,E3,e3,E4,e4,E5,e5,rfl,-⟩:=id hN;exact⟨E1,_,e1,E2,_,e2,E3,_,e3,E4,_,e4,gen,r,next+1,E5,_,e5,0,rfl,.inr ⟨rfl,r,S2,vs',hO,hN⟩⟩
     replace hS7:=zH hS7;have kb6:=qa rb6;have fb6:=qd rb6;have kd6:=qa rd6;have fd6:=qd rd6;clear hQS hS6 ra5 rb5 rc5 rd5 rv5;go_upto_region 13 with fail;generalize hw7:J (J (J (J (J (J (J (J (J w6 _ _) _ _) _ _) _ _) _ _) _ _) _ _) _ _) _ _=w7;have x7:Ext w w7:=by rw[<-hw7];exact Below.setCell (jM x6 (b:=w.heap.size+1) zO _ _ _ _ _ _ _ _) (p:=⟨w.heap.size+1+1+1,0,F⟩) zA2 _
     have z7:w7.heap.size=w6.heap.size:=by rw[<-hw7];simp
     have hs:=λ(A:Oe)(b j:Nat)(v:Of)(k:Nat)(hk:k≠b)=>zJ A ⟨b,j,F⟩ v k hk;have rb7:w7.heap[w.heap.size+1]?=E (I (qQ (D E1 m1 e1) (D E2 m2 e2) (D E3 m3 e3) (D E4 m4 e4) g9 t9 n9 (D E5 m5 e5)) 32 (0,0)):=by rw[<-hw7,hs _ _ _ _ _ zO];exact VV rb6 _ _ _ _ _ _ _ _
     have o7:∀k,k≠w.heap.size+1->k≠w.heap.size+3->w7.heap[k]?=w6.heap[k]?:=λk h1 h2=>by rw[<-hw7,hs _ _ _ _ _ zO,jY h1]
     have rc7:=(o7 (w.heap.size+2) zO zO).trans rc6;have rv7:=(o7 w2.heap.size zO zO).trans rv6;have rd7:w7.heap[w.heap.size+3]?=E (I #[U Jx er] 37 (0,0)):=by rw[<-hw7];exact qj (t:=37) (cs:=#[U Jx 0]) (by rw[jY zO];exact rd6) 0 _
     clear hw7 kb6 fb6 kd6 fd6 rb6 rc6 rd6 rv6 hs;have gO:∀W,qp.r w7 W->∀i,W.cell? ⟨w.heap.size+1,i,F⟩=(qQ (D E1 m1 e1) (D E2 m2 e2) (D E3 m3 e3) (D E4 m4 e4) g9 t9 n9 (D E5 m5 e5))[i]?:=λW h=>qa (qb rb7 h);have gV:∀W,qp.r w7 W->∀i,W.cell? ⟨w2.heap.size,i,F⟩=#[U Oc next,U Jx (ra:Int),.bool Oa,U Oc 0][i]?:=λW h=>qa (qb rv7 h);have gE:∀W,qp.r w7 W->∀i,W.cell? ⟨w.heap.size+1+1+1,i,F⟩=#[U Jx er][i]?:=λW h=>qa (qb rd7 h);refine qw zQ ?_;refine qlI (w:=w7) qp (qV [(4,jo)]) (List.replicate 5 O) 2 zQ zQ zQ zQ zQ zQ zQ ?st (Rel.drew _ _) ?walk
     case st=>exact ql (by simp only[List.forall_mem_cons];exact⟨ja,λ_ h=>by cases h⟩)
     case walk=>
      intro K hK;dsimp only[qA,List.replicate];refine zD0 ?_;refine qH jo zA0 zA0 (λW hW _=>?_) (λ(p:Unit)=>?_)
      ·have hW:Ext w7 W:=hW;have r8:=qb rb7 hW;have k8:=qa r8;have f8:=qd r8;refine VO ?_ (same8 r8);clear gO gV gE;go_simp
      refine zD0 ?_;refine qF (hK _ _ λW hW hF=>?_);clear hF hK gO gV gE;have hW:Ext w7 W:=hW;refine zB8 ?_;have x8:Ext w W:=x7.trans hW;have z78:=hW.size;have rb8:=qb rb7 hW;have rc8:=qb rc7 hW;have rd8:=qb rd7 hW;have kc8:=qa rc8;have fc8:=qd rc8;have kd8:=qa rd8;have fd8:=qd rd8;have zd8:w.heap.size+1+1+1<W.heap.size:=(zG.1 rd8).1;have o8:∀k,k<w6.heap.size->k≠w.heap.size+1->k≠w.heap.size+3->W.heap[k]?=w6.heap[k]?:=λk h0 h1 h2=>(Below.block hW k zO).trans (o7 k h1 h2);replace o8:=zH o8;clear hW o7 rb7 rc7 rd7 rv7;go_wp2;refine Qt ?_;go_wp2_with fail;generalize hwf:J (J W _ _) _ _=Wf;obtain⟨rcf,rdf,hbf,zf,hof⟩:=two_rows (b:=w.heap.size) rc8 rd8 hwf;have rbf:=(hof (w.heap.size+1) zO zO).trans rb8;have yf:=hbf (B:=w.heap.size) zO x8;clear hwf;have hk6:∀k,w5.heap.size<=k->k<w6.heap.size->Wf.heap[k]?=w6.heap[k]?:=λk h1 h2=>(hof k zO zO).trans (o8.out k h2 zO zO);have zWf:Wf.heap.size=W.heap.size:=zf;rcases hS7.out with⟨h0,hz,hE⟩|⟨rfl,r,S2,vs',hO,hN⟩
      ·rw[hz]at rbf;exact Gt h0 (.inr ⟨vs,refs,nodes,hp.out,hc.out,he.out,.inr (.inr ⟨ra,S1,hq'.out,.inl hE⟩)⟩) rfl rfl rfl rbf rcf rdf yf
      ·have hN2:Jp w.heap.size S2 gen (r:Int) (next+1) dead (.agg (qQ (D E1 m1 e1) (D E2 m2 e2) (D E3 m3 e3) (D E4 m4 e4) g9 t9 n9 (D E5 m5 e5))) Wf:=hN.keep x5.size zO hk6;obtain⟨F1,f1,F2,f2,F3,f3,F4,f4,F5,f5,ee,hst,hin⟩:=hN2.sto;simp only[qQ,Value.agg.injEq,Array.mk.injEq,List.cons.injEq,Value.slice.injEq,Value.int.injEq,true_and,and_true]at ee;obtain⟨⟨rfl,rfl,rfl⟩,⟨rfl,rfl,rfl⟩,⟨rfl,rfl,rfl⟩,⟨rfl,rfl,rfl⟩,rfl,rfl,rfl,rfl,rfl,rfl⟩:=ee;refine qhv _ _ _ _ _ _ _ _ _ _ _ _ _ _ _ _ _ 0 S2 rfl rfl rfl rbf rcf rdf (λ_=>hst) (λ_ hE W' hT=>?_) (λe' W' h0 hE hT=>?_)
       ·exact⟨hT.below yf zO zO zO zO,.inr ⟨vs,refs,nodes,ra,S1,r,S2,vs',_,hp.out,hc.out,he.out,hYQ.out,hnx.out,hq'.out,hO,hE,rfl,hN.keep x5.size (by have:=hT.size;omega) λk h1 h2=>(hT.same k zO zO zO zO).trans (hk6 k h1 h2)⟩⟩
       ·refine⟨hT.below yf zO zO zO zO,.inl ⟨e',h0,rfl,.inr ⟨vs,refs,nodes,hp.out,hc.out,he.out,.inr (.inr ⟨ra,S1,hq'.out,.inr ⟨r,S2,vs',hO,?_⟩⟩)⟩⟩⟩;rcases hE with⟨_,h⟩|⟨h,_⟩
        ·exact h.symm
        ·exact absurd rfl h
def okOf{α:Type}(q:Except Int (Nat×α))(d:α):α:=match q with
 |.ok (_,x)=>x
 |.error _=>d
def st1:Sto:=okOf (Xo Qf) Qf
def vol1:Vol:=⟨1,9,Oa,0⟩
def st2:Sto:=okOf (setE st1 8 vol1) st1
theorem QS.not{refs:List Nat}(hb:QS S root next dead)(h:XK S root next dead=E (vs,met,refs)):False:=by obtain⟨h1,h2,h3⟩:=YL h;obtain⟨refs',nodes',hc,hn⟩:=hb vs h1;obtain⟨_,e⟩:=Jo.same hc.mkd h2.mkd;subst e;exact hn h3
theorem ZM.nil_(w:Oe)(B:Nat):ZM w B (D F 0 0) []:=⟨F,0,rfl,zM _,by simp[maxLen],Rd.none_⟩
end Go.Proofs.YtmeadnlmepcmbaaGreat
