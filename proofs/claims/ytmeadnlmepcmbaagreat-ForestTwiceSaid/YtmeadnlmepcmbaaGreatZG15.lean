/- Lemmas of the proof. -/
import Derived.Deep.LoopGhost
import Derived.Test.YtmeadnlmepcmbaaGreatZG14
set_option linter.all false
set_option maxHeartbeats 8000000
open Go.Proofs.Tryz
namespace Go.Proofs.YtmeadnlmepcmbaaGreat
open Go.RowKit
theorem Tp{xs:List It}{k:K3}(ho:Ord xs)(h0:0<xs.length)(hd:(Yf xs k).isSome=true):Yf xs k=some (xs[Qy xs k]'(QT h0))/\(VN xs k=true\/0<qA xs k):=by
 have hlt:=QT (k:=k) h0;by_cases hi:VN xs k=true
 ·have hp:qA xs k<xs.length:=by
   rcases Nat.lt_or_ge (qA xs k) xs.length with h1|h1
   ·exact h1
   ·rw[VX zO]at hi;cases hi
  have hk:=hi;rw[JM hp,decide_eq_true_eq]at hk;refine⟨?_,.inl hi⟩;rw[qjC ho hp hk];congr 2;unfold Qy;rw[if_pos hi]
 ·have hn:∀hp:qA xs k<xs.length,qp (xs[qA xs k]'hp)≠k:=λhp e=>hi (by rw[JM hp,e];simp);rcases Nat.eq_zero_or_pos (qA xs k)with h|h
  ·rw[qjD ho h hn]at hd;cases hd
  ·refine⟨?_,.inr h⟩;rw[qao ho h hn];congr 2;unfold Qy;rw[if_neg hi]
theorem qjJ{xs:List It}{k:K3}(ho:Ord xs)(h:(qgJ xs k).isSome=true):VN xs k=true:=by
 by_cases hi:VN xs k=true
 ·exact hi
 ·rw[qjK ho λhp e=>hi (by rw[JM hp,e];simp)]at h;cases h
theorem Tj{S:Sto}{h:Nat}{xs:List It}{k:K3}(h1:(Vc S k (h+1) xs).isSome=true):(Yf xs k).isSome=true:=by
 rcases hd:Yf xs k with _|y
 ·rw[qgV hd]at h1;cases h1
 ·rfl
theorem qgQ{S S1:Sto}{h:Nat}{xs:List It}(hs:(qz S (h+1) xs).isSome=true)(m:SM S S1){i:Nat}(hi:i<xs.length):(qz S1 h (ZJ S1 xs i)).isSome=true/\qu S1 h (ZJ S1 xs i)=qu S (h+1) [xs[i]]/\∀y∈ZJ S1 xs i,QY y/\itB y.r y.val.length=true:=by
 obtain⟨b,e1,-,-,zs,e4,e5⟩:=QE (QG hs _ (List.getElem_mem hi));have hn:qk S xs[i].r.toNat=some ((h:Int),zs):=by rw[e1,Int.toNat_natCast];exact e4
 have hn1:=m.node _ _ hn;have e:ZJ S1 xs i=zs:=by unfold ZJ;rw[zL hi];simp only[hn1]
 rw[e];refine⟨m.spanOk e5,?_,(qF e4).2.1⟩;rw[m.items _ _ e5];simp only[qu,List.flatMap_cons,List.flatMap_nil,List.append_nil,hn]
theorem qbO{S S1:Sto}{h:Nat}{k:K3}{xs l:List It}{p:Nat}(hs:(qz S (h+1) xs).isSome=true)(hp:p<xs.length)(m:SM S S1)(hsl:(qz S1 h l).isSome=true)(hi:qu S1 h l=JH k (qu S (h+1) [xs[p]]))(hA:∀y∈qu S (h+1) (xs.take p),qV (qp y) k=true)(hC:∀y∈qu S (h+1) (xs.drop (p+1)),qV k (qp y)=true)(hl:∀y∈l,QY y/\itB y.r y.val.length=true)(hl5:l.length<=5):∃A X C,xs=A++X++C/\A=xs.take (Zr S1 xs p l).2.1/\C=xs.drop ((Zr S1 xs p l).2.1+(Zr S1 xs p l).2.2)/\JH k (qu S (h+1) A)=qu S (h+1) A/\JH k (qu S (h+1) C)=qu S (h+1) C/\(qz S1 h (Zr S1 xs p l).1).isSome=true/\qu S1 h (Zr S1 xs p l).1=JH k (qu S (h+1) X)/\(∀y∈(Zr S1 xs p l).1,QY y/\itB y.r y.val.length=true)/\(∀b,(qB l).count b<=(qB (Zr S1 xs p l).1).count b)/\(Zr S1 xs p l).1.length<=5/\(l≠[]->(Zr S1 xs p l).1≠[])/\(Zr S1 xs p l).2.1+(Zr S1 xs p l).2.2<=xs.length/\0<(Zr S1 xs p l).2.2:=by
 have rA:=XR hA;have rC:=XS hC;have hLB:xs=xs.take p++[xs[p]]++xs.drop (p+1):=by rw[List.append_assoc,List.singleton_append,List.getElem_cons_drop,List.take_append_drop]
 have sub:∀{X:List It}{A C:List It},xs=A++X++C->∀{j:List It},VK S1 h j->qu S1 h j=JH k (qu S (h+1) X)->(qz S1 h j).isSome=true:=λ{X A C} e {j} he e2=>QQ.2 ⟨he,by have h1:(qz S (h+1) (A++X++C)).isSome=true:=e▸hs;rw[e2];exact qfp (ZN (VG h1)).1⟩;have alone:∃A X C,xs=A++X++C/\A=xs.take p/\C=xs.drop (p+1)/\JH k (qu S (h+1) A)=qu S (h+1) A/\JH k (qu S (h+1) C)=qu S (h+1) C /\
   (qz S1 h l).isSome=true/\qu S1 h l=JH k (qu S (h+1) X)/\(∀y∈l,QY y/\itB y.r y.val.length=true)/\(∀b,(qB l).count b<=(qB l).count b)/\l.length<=5/\(l≠[]->l≠[])/\p+1<=xs.length/\0<1:=
  ⟨_,_,_,hLB,rfl,rfl,rA,rC,hsl,hi,hl,λ_=>zM _,hl5,λh=>h,hp,Nat.one_pos⟩
 unfold Zr;by_cases hlast:p+1=xs.length
 ·rw[if_pos hlast];by_cases h0:p=0
  ·rw[if_pos h0];exact alone
  ·rw[if_neg h0];by_cases h5:5<(ZJ S1 xs (p-1)).length+l.length
   ·rw[if_pos h5];exact alone
   ·rw[if_neg h5];have hq:p-1<xs.length:=zO;obtain⟨n1,n2,n3⟩:=qgQ hs m hq;have e1:xs.take p=xs.take (p-1)++[xs[p-1]]:=by
     conv=>lhs;rw[show p=p-1+1 by omega]
     exact List.take_succ_eq_append_getElem hq
    have e2:xs=xs.take (p-1)++([xs[p-1]]++[xs[p]])++xs.drop (p+1):=by
     conv=>lhs;rw[hLB,e1]
     simp only[List.append_assoc]
    have hA':=hA;rw[e1,Qd]at hA';have i2:qu S1 h (ZJ S1 xs (p-1)++l)=JH k (qu S (h+1) ([xs[p-1]]++[xs[p]])):=by rw[Qd,Qd,Ve,n2,hi,XR λy hy=>hA' y (List.mem_append_right _ hy)]
    refine⟨_,_,_,e2,rfl,by rw[show p-1+2=p+1 by omega],XR λy hy=>hA' y (List.mem_append_left _ hy),rC,sub e2 (JY (QQ.1 n1).1 (QQ.1 hsl).1) i2,i2,λy hy=>(List.mem_append.1 hy).elim (n3 y) (hl y),λb=>?_,by simp only[List.length_append];omega,λhne e=>hne (List.append_eq_nil_iff.1 e).2,by show p-1+2<=_;omega,by show 0<2;omega⟩;simp only[qB,List.map_append,List.count_append];omega
 ·rw[if_neg hlast];by_cases h5:5<(ZJ S1 xs (p+1)).length+l.length
  ·rw[if_pos h5];exact alone
  ·rw[if_neg h5];have hq:p+1<xs.length:=zO;obtain⟨n1,n2,n3⟩:=qgQ hs m hq;have e1:xs.drop (p+1)=[xs[p+1]]++xs.drop (p+2):=by rw[List.singleton_append];exact List.drop_eq_getElem_cons hq
   have e2:xs=xs.take p++([xs[p]]++[xs[p+1]])++xs.drop (p+2):=by
    conv=>lhs;rw[hLB,e1]
    simp only[List.append_assoc]
   have hC':=hC;rw[e1,Qd]at hC';have i2:qu S1 h (l++ZJ S1 xs (p+1))=JH k (qu S (h+1) ([xs[p]]++[xs[p+1]])):=by rw[Qd,Qd,Ve,n2,hi,XS λy hy=>hC' y (List.mem_append_left _ hy)]
   refine⟨_,_,_,e2,rfl,rfl,rA,XS λy hy=>hC' y (List.mem_append_right _ hy),sub e2 (JY (QQ.1 hsl).1 (QQ.1 n1).1) i2,i2,λy hy=>(List.mem_append.1 hy).elim (hl y) (n3 y),λb=>?_,by simp only[List.length_append];omega,λhne e=>hne (List.append_eq_nil_iff.1 e).1,by show p+2<=_;omega,by show 0<2;omega⟩;simp only[qB,List.map_append,List.count_append];omega
structure DelI(S:Sto)(h:Nat)(k:K3)(all:List It)(l hs:List It)(S':Sto):Prop where
 sm:SM S S'
 may:qm S'=true
 span:(qz S' h l).isSome=true
 items:qu S' h l=JH k all
 ok:∀y∈l,QY y/\itB y.r y.val.length=true
 sub:∀b,b≠0->(qB hs).count b<=(qB l).count b
 len:l.length<=5
 held:∀y∈hs,itB y.r y.val.length=true
theorem XT{xs up:List It}{q m:Nat}(h:q+m<=xs.length):(zY xs q m up).length+m=xs.length+up.length:=by unfold zY;simp only[List.length_append,List.length_take,List.length_drop];omega
theorem qgu{S S1 S2:Sto}{h a:Nat}{k:K3}{xs zs l hs l' hs':List It}(hn:qk S a=some (((h+1:Nat):Int),xs))(hsp:(qz S (h+1) xs).isSome=true)(hp:Qy xs k<xs.length)(hz:qk S (xs[Qy xs k].r).toNat=some ((h:Int),zs))(hI:DelI S h k (qu S h zs) l hs S1)(e:JQ S1 (h+1,xs,Qy xs k) l hs=.ok (l',hs',S2)):DelI S (h+1) k (qu S (h+1) xs) l' hs' S2:=by
 obtain⟨hA,hC⟩:=Uo (k:=k) hsp zO;have hmx:=(qF hn).2.1;have hx5:=(zy hn).2.2;have hB:qu S (h+1) [xs[Qy xs k]]=qu S h zs:=by simp only[qu,List.flatMap_cons,List.flatMap_nil,List.append_nil,hz]
 generalize Qy xs k=p at*;have hi:=hI.items;rw[<-hB]at hi;have hLB:xs=xs.take p++[xs[p]]++xs.drop (p+1):=by rw[List.append_assoc,List.singleton_append,List.getElem_cons_drop,List.take_append_drop]
 unfold JQ at e;split at e
 ·rename_i hl;cases e;rw[hl,jQ]at hi;obtain⟨r1,r2⟩:=qjT (A:=xs.take p) (X:=[xs[p]]) (C:=xs.drop (p+1)) (up:=[]) (h:=h) (by rw[<-hLB];exact hsp) hI.sm (XR hA) (XS hC) (λy hy=>by cases hy) (by rw[jQ];exact hi);rw[<-hLB]at r2;exact⟨hI.sm,hI.may,r1,r2,λy hy=>by
   rcases List.mem_append.1 hy with hy|hy
   ·rcases List.mem_append.1 hy with hy|hy
    ·exact hmx y (List.mem_of_mem_take hy)
    ·cases hy
   ·exact hmx y (List.mem_of_mem_drop hy),λb _=>by simp[qB],by have:=XT (xs:=xs) (up:=[]) (q:=p) (m:=1) zO;simp only[List.length_nil]at this;show(zY xs p 1 []).length<=5;omega,λy hy=>by cases hy⟩
 ·rename_i hl;split at e
  ·cases e
  ·rename_i up S3 hb;simp only[Except.ok.injEq,Prod.mk.injEq]at e;obtain⟨e1,e2,e3⟩:=e;subst e1 e2 e3;obtain⟨A,X,C,j1,j2,j3,j4,j5,j6,j7,j8,j9,j10,j11,j12,j13⟩:=qbO (k:=k) hsp hp hI.sm hI.span hi hA hC hI.ok hI.len;simp only at hb;rw[show(((h+1:Nat):Int)-1)=(h:Int)by omega]at hb;have hbt:=vV hI.may (λy hy=>(j8 y hy).1) hI.held (λb hb=>Nat.le_trans (hI.sub b hb) (j9 b)) (j11 hl) j6 hb;have hmay:=jZ (λy hy=>(j8 y hy).1) hI.held hI.may hb;have hul:up.length=1:=by rw[hmay.2.1];unfold Zl;rw[if_neg zO];rfl
   obtain⟨r1,r2⟩:=qjT (A:=A) (X:=X) (C:=C) (up:=up) (by rw[<-j1];exact hsp) (hI.sm.trans hbt.1) j4 j5 (QQ.1 hbt.2.2.1).1 (hbt.2.2.2.1.trans j7);have er:zY xs (Zr S1 xs p l).2.1 (Zr S1 xs p l).2.2 up=A++up++C:=by rw[j2,j3];rfl
   rw[<-j1]at r2;refine⟨hI.sm.trans hbt.1,hbt.2.1,by rw[er];exact r1,by rw[er];exact r2,λy hy=>?_,λb _=>by rw[er];exact qcs _ up _ b,?_,λy hy=>(hmay.2.2.1 y hy).2⟩
   ·rcases List.mem_append.1 hy with hy|hy
    ·rcases List.mem_append.1 hy with hy|hy
     ·exact hmx y (List.mem_of_mem_take hy)
     ·exact hmay.2.2.1 y hy
    ·exact hmx y (List.mem_of_mem_drop hy)
   ·have:=XT (up:=up) j12;show(zY xs _ _ up).length<=5;omega
theorem Ka{S:Sto}{k:K3}(hS:qm S=true):∀(h:Nat){a:Nat}{xs l hs:List It}{S':Sto},qk S a=some ((h:Int),xs)->(qz S h xs).isSome=true->(Vc S k h xs).isSome=true->qbA k (jl S k h xs).reverse S=.ok (l,hs,S')->DelI S h k (qu S h xs) l hs S'
 |0,a,xs,l,hs,S',hn,hsp,h1,e=>by rw[Ko,List.reverse_singleton]at e;simp only[qbA,List.tail_cons,jz,qbR]at e;cases e;have ho:=(ZN hsp).2;have hx5:=(zy hn).2.2;rw[leaf_rem ho (qjJ ho h1)];have hmx:=(qF hn).2.1;have hm:∀y∈JH k xs,y∈xs:=λy hy=>(List.mem_filter.1 hy).1;exact⟨⟨λ_ _ e=>e,λ_ e=>e⟩,hS,QQ.2 ⟨λy hy=>(QQ.1 hsp).1 y (hm y hy),qfp ho⟩,rfl,λy hy=>hmx y (hm y hy),λb _=>by simp[qB],Nat.le_trans (List.length_filter_le _ _) hx5,λy hy=>by cases hy⟩
 |h+1,a,xs,l,hs,S',hn,hsp,h1,e=>by
  have h0:=Vm (qF hn).1 zO;have hlt:=QT (k:=k) h0;obtain⟨b,e1,-,-,zs,e4,e5⟩:=QE (QG hsp _ (List.getElem_mem hlt));have hnb:qk S (xs[Qy xs k].r).toNat=some ((h:Int),zs):=by rw[e1,Int.toNat_natCast];exact e4
  have hd:=(Tp (ZN hsp).2 h0 (Tj h1)).1;rw[XL hd hnb]at h1;rw[JK (zL hlt) hnb,List.reverse_cons]at e;obtain⟨s,r,hr⟩:∃s r,(jl S k h zs).reverse=s::r:=by
   rcases hq:(jl S k h zs).reverse with _|⟨s,r⟩
   ·have:=congrArg List.length hq;rw[List.length_reverse,km h (qF e4).1 e5]at this;cases this
   ·exact⟨s,r,rfl⟩
  have e':qbA k (jl S k h zs).reverse S=jz r (qbR (s::r)) [] S:=by rw[hr];rfl
  rw[hr]at e;have e'':jz (r++[(h+1,xs,Qy xs k)]) (qbR (s::r)) [] S=.ok (l,hs,S'):=e;rw[vq]at e'';split at e''
  ·cases e''
  ·rename_i l1 hs1 S1 hg;rw[GE]at e'';exact qgu hn hsp hlt hnb (Ka hS h e4 e5 h1 (e'.trans hg)) e''
def Xd(S:Sto):Nat->List It->Prop
 |0,_=>True
 |h+1,ys=>∀y,ys=[y]->∃(r:Nat)(zs:List It),y.r=(r:Int)/\8<=r/\r<256/\qk S r=some ((h:Int),zs)/\Xd S h zs
theorem qeW{S:Sto}:∀(h:Nat){ys:List It},(qz S h ys).isSome=true->Xd S h ys
 |0,_,_=>trivial
 |h+1,ys,hs=>λy e=>by subst e;obtain⟨b,e1,h8,h256,zs,e4,e5⟩:=QE (QG hs y zA3);exact⟨b,zs,e1,h8,h256,e4,qeW h e5⟩
theorem US{S S':Sto}:∀(h:Nat){ys:List It},(∀r (l:Int) nd,l<h->qk S r=some (l,nd)->qk S' r=some (l,nd))->Xd S h ys->Xd S' h ys
 |0,_,_,_=>trivial
 |h+1,ys,hk,hl=>λy e=>by obtain⟨r,zs,e1,h8,h256,e4,e5⟩:=hl y e;exact⟨r,zs,e1,h8,h256,hk _ _ _ zO e4,US h (λr l nd hlt=>hk r l nd zO) e5⟩
def qgC(hs:List It):Int:=match hs with
 |[]=>0
 |y::_=>y.r
theorem vU{S:Sto}{lvl:Int}{l hs:List It}(h5:l.length<=5):Qs S lvl l hs=match zX S lvl l with
  |.error e=>.error e
  |.ok (f,S')=>match looseL (qB hs) S'.now with
   |.error e=>.error e
   |.ok t=>.ok ([jk (jj l) f],qv S' t):=by
 unfold Qs Zl;rw[if_neg zO];simp only[makeL];rcases zX S lvl l with e|⟨f,S'⟩<;>rfl
def Td(D:Nat->Prop)(B lo b g:Nat)(k:Option Nat)(S:Sto)(lvl:Int)(its hs:List It)(w:World)(e:Ending)(W:World):Prop:=Qh lo b g k w W /\
 match Qs S lvl its hs with
 |.error er=>er≠0/\∃v:Int,e=.returned (.tuple #[.int .i64 v,.int .i64 er])
 |.ok (up,S')=>e=.returned (.tuple #[.int .i64 (VP up:Int),.int .i64 0])/\∃k' D',Zj w.heap.size k k'/\KL w.heap.size D D'/\Bch D' B lo b g k' S' W
theorem Kx{R:Ending->World->Prop}{a:Act}{W:World}{u v:Value}(h4:a.tmps[8]?.getD undef=u)(h5:a.tmps[9]?.getD undef=v)(hd:a.defers=[])(hR:R (.returned (.tuple #[u,v])) W):bodyPost prog Tryz.f118 R .ret a W:=by refine bodyPost_ret (v:=.tuple #[u,v]) ?_ hd hR;simp[results,results118,go_sem,h4,h5]
set_option maxRecDepth 100000 in
theorem qap(D:Nat->Prop)(B lo b g:Nat)(k:Option Nat)(S:Sto)(lvl:Int)(A n c)(its:List It)(hio:∀x∈its,QY x)(h5:its.length<=5)(hws:S.ws.length<=4096)(hs:List It)(hhs:hs=[]\/∃y,hs=[y]/\8<=y.r/\y.r<256)(w:World)(h:Bch D B lo b g k S w)(hx:kO (B3 b g k) w (.slice A n c) its):Calls prog 118 #[.pointer (some ⟨b,0,none⟩),.int .i64 lvl,.slice A n c,.int .i64 (qgC hs)] w (Td D B lo b g k S lvl its hs w):=by
 have HM:=zH (GA D B lo b g k S lvl A n c its hio hws w h hx);have hlw:=h.size.2.2.2.2.2.1;have hbf:=zH (vU (S:=S) (lvl:=lvl) (hs:=hs) h5);clear h hx h5;rcases hm:zX S lvl its with er|⟨f,S1⟩
 ·have hne:=Ti hm;have hQ:Hid (∀W,Qh lo b g k w W->Td D B lo b g k S lvl its hs w (.returned (.tuple #[.int .i64 0,.int .i64 er])) W):=zH λW hk=>⟨hk,by rw[hbf.out,hm];exact⟨hne,0,rfl⟩⟩
  have z1:(er==0)=false:=by rw[beq_eq_false_iff_ne];exact hne
  have z2:decide (er=0)=false:=decide_eq_false hne;replace⟨hm,hne⟩:=zH2 hm hne;clear hbf hhs;go_enter func118,ntmps118;go_wp2_with fail;refine HM.out.mono ?_;clear HM;intro e W hQ2;obtain⟨hk,hq⟩:=hQ2;rw[hm.out]at hq;obtain rfl:=hq;have hQW:=zH (hQ.out W hk);clear hQ hk;go_wp2_with fail;exact Kx rfl rfl rfl hQW.out
 ·rcases hhs with rfl|⟨y,rfl,hy8,hy2⟩
  ·have hQ:Hid (∀W,Qh lo b g k w W->(∃k' D',Zj w.heap.size k k'/\KL w.heap.size D D'/\Bch D' B lo b g k' S1 W)->Td D B lo b g k S lvl its [] w (.returned (.tuple #[.int .i64 (f:Int),.int .i64 0])) W):=zH λW hk hb=>⟨hk,by rw[hbf.out,hm];exact⟨rfl,hb⟩⟩
   replace hm:=zH hm;have hz:Hid (qgC []=0):=zH rfl;clear hbf;go_enter func118,ntmps118;rw[hz.out];go_wp2_with fail;refine HM.out.mono ?_;clear HM;intro e W hQ2;obtain⟨hk,hq⟩:=hQ2;rw[hm.out]at hq;obtain⟨rfl,hq⟩:=hq;have hQW:=zH (hQ.out W hk hq);clear hQ hk hq;go_wp2_with fail;exact Kx rfl rfl rfl hQW.out
  ·obtain⟨r,hr⟩:=Int.eq_ofNat_of_zero_le (show 0<=y.r by omega);have hrf:qB [y]=[r]:=by simp[qB,hr]
   have hr8:8<=r:=zO;have hr2:r<256:=zO;have hbf2:Hid (Qs S lvl its [y]=if qP S1.now r=0 then .error 6 else .ok ([jk (jj its) f],qv S1 (vM S1.now r))):=zH (by
    rw[hbf.out,hm,hrf];simp only;by_cases h0:qP S1.now r=0
    ·rw[jB zO h0,if_pos h0]
    ·rw[ja zO h0,if_neg h0];rfl)
   have hz:Hid (qgC [y]=(r:Int)):=zH hr;have hrp:(0:Int)<(r:Int):=zO;have hrp2:decide (0<r)=true:=decide_eq_true zO;replace⟨hm,hr8⟩:=zH2 hm hr8;clear hbf hy8 hy2 hr hrf;go_enter func118,ntmps118;rw[hz.out];go_wp2_with fail;refine HM.out.mono ?_;clear HM;intro e W hQ2;obtain⟨hk,hq⟩:=hQ2;rw[hm.out]at hq;obtain⟨rfl,k',D',hNk,hND,hb1⟩:=hq;have HL:=zH (Xr D' B lo b g k' S1 r hr2 W hb1);have hsz:=hk.below.size;clear hb1;go_wp2_with fail;refine HL.out.mono ?_;clear HL;rintro e V ⟨hk2,hBU⟩;have hkk:=hk.trans hk2 hNk;have hQ:Td D B lo b g k S lvl its [y] w (if qP S1.now r=0 then .returned (.tuple #[.int .i64 (f:Int),.int .i64 6])else .returned (.tuple #[.int .i64 (f:Int),.int .i64 0])) V:=by
    refine⟨hkk,?_⟩;rw[hbf2.out];rcases hBU with⟨h0,-⟩|⟨h0,-,hb⟩
    ·rw[if_pos h0,if_pos h0];exact⟨zA1,_,rfl⟩
    ·rw[if_neg h0,if_neg h0];exact⟨rfl,k',D',hNk,hND,hb⟩
   have wQV:(qP S1.now r=0/\e=.returned (.int .i64 6))\/(qP S1.now r≠0/\e=.returned (.int .i64 0)):=hBU.imp id λh=>⟨h.1,h.2.1⟩
   replace hQ:=zH hQ;clear hBU hkk hk hk2 hNk hND hbf2 hm;rcases wQV with⟨h0,rfl⟩|⟨h0,rfl⟩
   ·rw[if_pos h0]at hQ;replace h0:=zH h0;go_wp2_with fail;exact Kx rfl rfl rfl hQ.out
   ·rw[if_neg h0]at hQ;replace h0:=zH h0;go_wp2_with fail;exact Kx rfl rfl rfl hQ.out
def VQ:List UInt8->Nat
 |[]=>0
 |x::r=>x.toNat+VQ r
theorem qcK:∀(t:List UInt8)(a:Nat)(x:UInt8),a<t.length->VQ (t.set a x)+qP t a=VQ t+x.toNat
 |[],a,x,h=>by simp at h
 |y::r,0,x,h=>by simp[VQ,qP];omega
 |y::r,a+1,x,h=>by
  have:=qcK r a x (by simpa using h);simp only[zC,VQ];have e:qP (y::r) (a+1)=qP r a:=by simp[qP]
  rw[e];omega
theorem Ye{t:List UInt8}{a:Nat}(h:t.length<=a):qP t a=0:=by unfold qP;rw[List.getElem?_eq_none h];rfl
theorem Vk{t:List UInt8}{a:Nat}(h:a<t.length)(x:UInt8):qP (t.set a x) a=x.toNat:=by unfold qP;rw[List.getElem?_set_self h];rfl
theorem Ja{t:List UInt8}{a j:Nat}(h:j≠a)(x:UInt8):qP (t.set a x) j=qP t j:=by unfold qP;rw[List.getElem?_set_ne zO]
theorem Tf(t:List UInt8)(a:Nat):qP t a<256:=(t[a]?.getD 0).toNat_lt
theorem qbB{t:List UInt8}{a:Nat}(h:qP t a≠0):VQ (vM t a)+1=VQ t:=by
 have hl:a<t.length:=by
  by_cases h1:a<t.length
  ·exact h1
  ·exact absurd (Ye zO) h
 have e:=qcK t a (UInt8.ofNat (qP t a-1)) hl;have h2:=Tf t a;have h3:(UInt8.ofNat (qP t a-1)).toNat=qP t a-1:=by rw[UInt8.toNat_ofNat'];omega
 unfold vM;omega
theorem qeO(t:List UInt8)(a j:Nat):qP (vM t a) j<=qP t j:=by
 unfold vM;by_cases hj:j=a
 ·subst hj;by_cases hl:j<t.length
  ·rw[Vk hl];have h2:=Tf t j;rw[UInt8.toNat_ofNat'];omega
  ·rw[Ye (by simpa using hl)];omega
 ·rw[Ja hj];omega
theorem Gy{t:List UInt8}{a:Nat}(h:qP t a=1):VQ (t.set a 0)+1=VQ t:=by
 have hl:a<t.length:=by
  by_cases h1:a<t.length
  ·exact h1
  ·rw[Ye zO]at h;cases h
 have e:=qcK t a 0 hl;rw[h]at e;simpa using e
theorem zero_le(t:List UInt8)(a j:Nat):qP (t.set a 0) j<=qP t j:=by
 by_cases hj:j=a
 ·subst hj;by_cases hl:j<t.length
  ·rw[Vk hl];simp
  ·rw[Ye (by simpa using hl)];omega
 ·rw[Ja hj];omega
theorem kI:∀{l:List Nat}{t t':List UInt8},looseL l t=.ok t'->VQ t'<=VQ t/\∀j,qP t' j<=qP t j
 |[],t,t',e=>by cases e;exact⟨zM _,λ_=>zM _⟩
 |a::l,t,t',e=>by
  by_cases ha:a=0
  ·subst ha;rw[jb]at e;exact kI e
  ·by_cases h0:qP t a=0
   ·rw[jB ha h0]at e;cases e
   ·rw[ja ha h0]at e;obtain⟨h1,h2⟩:=kI e;have:=qbB h0;exact⟨zO,λj=>Nat.le_trans (h2 j) (qeO t a j)⟩
theorem qcg{S:Sto}{t:List UInt8}{a:Nat}(h:qP t a≠0)(hle:qP t a<=qP S.now a):qk (qv S t) a=qk S a:=by
 have e1:qk (qv S t) a=if qP t a=0 then none else QK (jW S a):=rfl
 have e2:qk S a=if qP S.now a=0 then none else QK (jW S a):=rfl
 rw[e1,e2,if_neg h,if_neg zO]
theorem qch{S:Sto}{a:Nat}{lvl:Int}{xs:List It}(h:qk S a=some (lvl,xs))(hl:0<lvl):∀r∈qB xs,8<=r/\r<256:=λr hr=>by
 have h1:=Ym h r hr;obtain⟨x,hx,rfl⟩:=List.mem_map.1 hr;have hm:=(qF h).1;have hio:=((qF h).2.1 x hx).1.2.2.2.1.1;unfold Qj at hm;simp only[Bool.and_eq_true]at hm;obtain⟨i,hi,e⟩:=List.mem_iff_getElem.1 hx;have h2:=List.all_eq_true.1 hm.2 i (List.mem_range.2 hi);unfold qam at h2;rw[zL hi]at h2;simp only[Bool.and_eq_true]at h2;have h3:=h2.2;rw[e,decide_eq_true hl]at h3;have h4:x.r≠0:=by intro h5;rw[h5]at h3;simp at h3
 omega
structure LvI(S:Sto)(a:Nat)(st:List (Nat×Int))(t:List UInt8):Prop where
 eq:QC S (-1) S.now a=Jz S st.reverse t
 may:QP t=true
 le:∀j,qP t j<=qP S.now j
 few:st.length+5*VQ t<=5*VQ S.now+1
 at_:∀p∈st,8<=p.1/\p.1<256/\-1<=p.2/\p.2<6
theorem qiB(S:Sto)(x:Nat×Int)(t:List UInt8):Jz S [x] t=QC S x.2 t x.1:=by unfold Jz;cases QC S x.2 t x.1<;>rfl
theorem LvI.start{S:Sto}(hS:qm S=true){a:Nat}(ha:8<=a)(ha2:a<256):LvI S a [(a,-1)] S.now:=by
 refine⟨(qiB S (a,-1) S.now).symm,(Qg.1 hS).2.1,λ_=>zM _,zA2,λp hp=>?_⟩;obtain rfl:p=(a,-1):=by simpa using hp
 exact⟨ha,ha2,zA3,zA3⟩
theorem LvI.done{S:Sto}{a:Nat}{t:List UInt8}(h:LvI S a [] t):QC S (-1) S.now a=some t:=h.eq
section
variable {S:Sto} {a:Nat} {s:List (Nat×Int)} {x:Nat×Int} {t:List UInt8}
theorem LvI.eq'(h:LvI S a (s++[x]) t):QC S (-1) S.now a=match QC S x.2 t x.1 with
  |none=>none
  |some t'=>Jz S s.reverse t':=by
 rw[h.eq,List.reverse_append];rfl
theorem LvI.top(h:LvI S a (s++[x]) t):8<=x.1/\x.1<256/\-1<=x.2/\x.2<6:=h.at_ x zA3
theorem LvI.bad0(h:LvI S a (s++[x]) t)(h0:qP t x.1=0):QC S (-1) S.now a=none:=by rw[h.eq',Vx,if_pos h0]
theorem LvI.more(h:LvI S a (s++[x]) t)(h1:1<qP t x.1):LvI S a s (vM t x.1):=by have hd:=qbB (t:=t) (a:=x.1) zO;have hf:=h.few;simp only[List.length_append,List.length_cons,List.length_nil]at hf;refine⟨?_,Jq h.may h.top.1 _,λj=>Nat.le_trans (qeO t x.1 j) (h.le j),zO,λp hp=>h.at_ p (by simp[hp])⟩;rw[h.eq',Vx,if_neg zO,if_pos h1]
theorem LvI.one(h:LvI S a (s++[x]) t)(h1:qP t x.1=1):QC S (-1) S.now a=match(match qk S x.1 with
  |none=>none
  |some (l,xs)=>if 0<=x.2/\l≠x.2 then none else if 0<l then Jz S ((qB xs).map λr=>(r,l-1)) (t.set x.1 0) else
   match looseL (qB xs) (t.set x.1 0) with
   |.error _=>none
   |.ok t'=>some t') with
  |none=>none
  |some t'=>Jz S s.reverse t':=by
 rw[h.eq',Vx,if_neg zO,if_neg zO]<;>rfl
theorem LvI.none_(h:LvI S a (s++[x]) t)(h1:qP t x.1=1)(hn:qk S x.1=none):QC S (-1) S.now a=none:=by rw[h.one h1,hn]
theorem LvI.level(h:LvI S a (s++[x]) t)(h1:qP t x.1=1){l:Int}{xs:List It}(hn:qk S x.1=some (l,xs))(h0:0<=x.2)(hl:l≠x.2):QC S (-1) S.now a=none:=by rw[h.one h1,hn];simp only;rw[if_pos ⟨h0,hl⟩]
theorem LvI.push(h:LvI S a (s++[x]) t)(h1:qP t x.1=1){l:Int}{xs:List It}(hn:qk S x.1=some (l,xs))(h0:¬(0<=x.2/\l≠x.2))(hl:0<l):LvI S a (s++((qB xs).map λr=>(r,l-1)).reverse) (t.set x.1 0):=by
 have hd:=Gy h1;have hf:=h.few;have h6:=zy hn;have hlen:(qB xs).length=xs.length:=by unfold qB;simp
 simp only[List.length_append,List.length_cons,List.length_nil]at hf;refine⟨?_,Jq h.may h.top.1 _,λj=>Nat.le_trans (zero_le t x.1 j) (h.le j),by simp only[List.length_append,List.length_reverse,List.length_map];omega,λp hp=>?_⟩
 ·rw[h.one h1,hn,List.reverse_append,List.reverse_reverse,TD];simp only;rw[if_neg h0,if_pos hl]<;>rfl
 ·rcases List.mem_append.1 hp with hp|hp
  ·exact h.at_ p (by simp[hp])
  ·obtain⟨r,hr,rfl⟩:=List.mem_map.1 (List.mem_reverse.1 hp);have:=qch hn hl r hr;exact⟨this.1,this.2,by simp only;omega,by simp only;omega⟩
theorem LvI.leafBad(h:LvI S a (s++[x]) t)(h1:qP t x.1=1){l:Int}{xs:List It}(hn:qk S x.1=some (l,xs))(h0:¬(0<=x.2/\l≠x.2))(hl:¬0<l){e:Int}(he:looseL (qB xs) (t.set x.1 0)=.error e):QC S (-1) S.now a=none:=by rw[h.one h1,hn];simp only;rw[if_neg h0,if_neg hl,he]
theorem LvI.leaf(h:LvI S a (s++[x]) t)(h1:qP t x.1=1){l:Int}{xs:List It}(hn:qk S x.1=some (l,xs))(h0:¬(0<=x.2/\l≠x.2))(hl:¬0<l){t':List UInt8}(he:looseL (qB xs) (t.set x.1 0)=.ok t'):LvI S a s t':=by have hd:=Gy h1;obtain⟨hs,hj⟩:=kI he;have hf:=h.few;simp only[List.length_append,List.length_cons,List.length_nil]at hf;refine⟨?_,JR (λb hb=>(Ym hn b hb).1) (Jq h.may h.top.1 _) he,λj=>Nat.le_trans (hj j) (Nat.le_trans (zero_le t x.1 j) (h.le j)),zO,λp hp=>h.at_ p (by simp[hp])⟩;rw[h.one h1,hn];simp only;rw[if_neg h0,if_neg hl,he]
end
def mixL:List Bool->Nat->List Value->(Nat->Value)->List Value
 |[],_,l,_=>l
 |_::_,_,[],_=>[]
 |b::m,i,x::r,g=>(bif b then g i else x)::mixL m (i+1) r g
def qcb(D:Nat):Deferred:={target:=.collected D,args:=#[]}
theorem qfH{P:Program}{Q:Exit->Act->World->Prop}{tm:List Value}{w:World}{c:Code}(mask:List Bool)(n₀:Nat)(rel:Nat->(Nat->Value)->List Nat->World->Prop)(h₀:rel n₀ (λi=>tm.getD i undef) [] w)(hmix:mixL mask 0 tm (λi=>tm.getD i undef)=tm)(round:∀(n:Nat)(g:Nat->Value)(Ds:List Nat)(wr:World)(K:Act->World->Prop),rel n g Ds wr->(∀(n':Nat)(g':Nat->Value)(Ds':List Nat)(w':World),n'<n->rel n' g' Ds' w'->K {tmps:=(mixL mask 0 tm g').toArray,defers:=Ds'.map qcb} w')->c.wp P (Exit.then K Q) {tmps:=(mixL mask 0 tm g).toArray,defers:=Ds.map qcb} wr):(Code.loop c).wp P Q {tmps:=tm.toArray,defers:=[]} w:=by
 refine wp_loop_ghost (λn a w=>∃g Ds,a={tmps:=(mixL mask 0 tm g).toArray,defers:=Ds.map qcb}/\rel n g Ds w) n₀ ⟨_,[],by rw[hmix];rfl,h₀⟩ ?_;rintro n a wr ⟨g,Ds,rfl,h⟩;exact round n g Ds wr _ h λn' g' Ds' w' hlt hr=>⟨n',hlt,g',Ds',rfl,hr⟩
theorem qce{mask:List Bool}{tm:List Value}{n:Nat}{rel:Nat->(Nat->Value)->List Nat->World->Prop}{K:Act->World->Prop}(hK:∀(n':Nat)(g':Nat->Value)(Ds':List Nat)(w':World),n'<n->rel n' g' Ds' w'->K {tmps:=(mixL mask 0 tm g').toArray,defers:=Ds'.map qcb} w'){l:List Value}{df:List Deferred}{w':World}(n':Nat)(hlt:n'<n)(Ds':List Nat)(hdf:df=Ds'.map qcb)(heq:l=mixL mask 0 tm (λi=>l.getD i undef))(hr:rel n' (λi=>l.getD i undef) Ds' w'):K {tmps:=l.toArray,defers:=df} w':=by
 have:=hK n' _ Ds' w' hlt hr;rw[<-heq]at this
 rwa [hdf]
structure jU(lo:Nat)(Ds:List Nat)(w:World):Prop where
 nodup:Ds.Nodup
 at_:∀D∈Ds,lo<=D/\w.heap[D]?=some (.deferred (some []))
theorem jU.nil(lo:Nat)(w:World):jU lo [] w:=⟨List.nodup_nil,λ_ h=>by cases h⟩
theorem jU.keep{lo:Nat}{Ds:List Nat}{w W:World}(h:jU lo Ds w)(hk:∀(q:Nat)(o:Obj),w.heap[q]?=some o->o.isCells=false->W.heap[q]?=some o):jU lo Ds W:=⟨h.nodup,λD hD=>⟨(h.at_ D hD).1,hk D _ (h.at_ D hD).2 rfl⟩⟩
theorem jU.cons{lo:Nat}{Ds:List Nat}{w W:World}(h:jU lo Ds w)(hk:∀(q:Nat)(o:Obj),w.heap[q]?=some o->o.isCells=false->W.heap[q]?=some o){D:Nat}(hD:w.heap.size<=D)(hl:lo<=D)(hr:W.heap[D]?=some (.deferred (some []))):jU lo (D::Ds) W:=by
 have h1:=h.keep hk;refine⟨List.nodup_cons.2 ⟨λhm=>?_,h1.nodup⟩,λq hq=>?_⟩
 ·have:=(zG.1 (h.at_ D hm).2).1;omega
 ·rcases List.mem_cons.1 hq with rfl|hq
  ·exact⟨hl,hr⟩
  ·exact h1.at_ q hq
theorem UP{F:Fence}{n:Nat}{P:Program}{fn:Func}{tmps:Array Value}{R:Ending->World->Prop}{lo:Nat}:∀(Ds:List Nat)(W:World),jU lo Ds W -> (∀W',(∀q,q∉Ds->W'.heap[q]?=W.heap[q]?)->W'.heap.size=W.heap.size->W'.os=W.os->W'.tape=W.tape->W'.output=W.output->LeavesIn F n P fn tmps R [] .returning W')->LeavesInM F n P fn tmps R (Ds.map qcb) .returning W
 |[],W,_,h=>h W (λ_ _=>rfl) rfl rfl rfl rfl
 |D::Ds,W,hm,h=>by
  refine⟨zA3,.inl ⟨D,_,rfl,run_takeDeferred (hm.at_ D List.mem_cons_self).2,?_⟩⟩;have hnd:=List.nodup_cons.1 hm.nodup;refine UP (lo:=lo) Ds (W.putObj D (.deferred none)) ⟨hnd.2,λq hq=>⟨(hm.at_ q (List.mem_cons_of_mem _ hq)).1,(World.putObj_heap_other (o:=.deferred none) (λe=>by subst e;exact hnd.1 hq)).trans (hm.at_ q (List.mem_cons_of_mem _ hq)).2⟩⟩ ?_;intro W' h1 h2 h3 h4 h5;refine h W' (λq hq=>?_) ?_ ?_ ?_ ?_
  ·exact(h1 q λhx=>hq (List.mem_cons_of_mem _ hx)).trans (World.putObj_heap_other (o:=.deferred none) λe=>hq (by rw[e];exact List.mem_cons_self))
  ·rw[h2];simp
  ·rw[h3];rfl
  ·rw[h4];rfl
  ·rw[h5];rfl
end Go.Proofs.YtmeadnlmepcmbaaGreat
namespace Go.Proofs.YtmeadnlmepcmbaaGreat
open Go.RowKit Go.Shelf
attribute [local go_sem] Oper.semAt_some
abbrev Ui:Type:=It×Sl
abbrev uiz:Ui:=((⟨0,0,0,0,[]⟩:It),(none,0,0))
set_option maxRecDepth 100000 in
theorem backi_in(n:Nat)(hn:1<=n)(l Bs b off len cap:Nat)(us:List Ui)(hFH:len<1099511627776)(J Jx:List Nat->World->Prop)(hY:∀pre (x:Nat) W,J pre W->pre.length<len->YieldAt Fence.wide (n-1) prog l #[.int .i64 (x:Int),.agg #[.int .u8 (us[x]?.getD uiz).1.k,.int .u32 (us[x]?.getD uiz).1.i,.int .u32 (us[x]?.getD uiz).1.o,.int .i64 (us[x]?.getD uiz).1.r,sv (us[x]?.getD uiz).2]] W λe W'=>
   (e=.returned (.bool true)/\J (pre++[x]) W'/\Qu Bs b W W')\/(e=.returned (.bool false)/\Jx (pre++[x]) W'))
  (W:World) (hBs:W.cell? ⟨Bs,0,none⟩=some (.slice (some ⟨b,off,none⟩) len cap)) (hc:∀i,i<len->W.cell? ⟨b,off+i*5,none⟩=some (.int .u8 (us[i]?.getD uiz).1.k)/\W.cell? ⟨b,off+i*5+1,none⟩=some (.int .u32 (us[i]?.getD uiz).1.i)/\W.cell? ⟨b,off+i*5+2,none⟩=some (.int .u32 (us[i]?.getD uiz).1.o)/\W.cell? ⟨b,off+i*5+3,none⟩=some (.int .i64 (us[i]?.getD uiz).1.r)/\W.cell? ⟨b,off+i*5+4,none⟩=some (sv (us[i]?.getD uiz).2)) (h0:J [] W) :
  CallsIn Fence.wide n prog 197 #[.func (.yield l) #[] #[],.pointer (some ⟨Bs,0,none⟩)] W λe W'=>(∃v,e=.returned v) /\
   ((∃ys,ys=ZO (λj=>len-1-j) len/\J ys W')\/(∃pre,(∃k,k<=len/\pre=ZO (λj=>len-1-j) k)/\Jx pre W')):=by
 refine callsIn_of_wp func197 rfl trivial ?_ rfl;simp only[ntmps197,List.size_toArray,List.length_cons,List.length_nil,Nat.reduceAdd,Nat.reduceSub,Array.replicate_succ,Array.replicate_zero,List.push_toArray,List.append_toArray,List.nil_append,List.cons_append]
 gi_wp2
 gi_loopw [3] (λi wr=>∃k:Nat,k<=len/\i=.int .i64 ((len:Int)-1-k)/\J (ZO (λj=>len-1-j) k) wr/\Qu Bs b W wr)
  (λi _=>(intOf i+1).toNat)
 case atStart=>exact⟨0,Nat.zero_le _,zA3,h0,Qu.refl _ _ _⟩
 case round=>
  obtain⟨k,hk,rfl,hJs,hnx⟩:=hrel;have hBr:wr.cell? ⟨Bs,0,none⟩=some (.slice (some ⟨b,off,none⟩) len cap):=(World.cell?_of_block (w:=W) hnx.1).trans hBs;by_cases hlt:k<len
  ·obtain⟨fn,tmps,assign,body,hy,hR⟩:=hY _ (len-1-k) wr hJs (by rw[Zt];exact hlt);have hc0:=(World.cell?_of_block (w:=W) (a:=⟨b,off+(len-1-k)*5,none⟩) hnx.2).trans (hc (len-1-k) zO).1;have hc1:=(World.cell?_of_block (w:=W) (a:=⟨b,off+(len-1-k)*5+1,none⟩) hnx.2).trans (hc (len-1-k) zO).2.1;have hc2:=(World.cell?_of_block (w:=W) (a:=⟨b,off+(len-1-k)*5+2,none⟩) hnx.2).trans (hc (len-1-k) zO).2.2.1;have hc3:=(World.cell?_of_block (w:=W) (a:=⟨b,off+(len-1-k)*5+3,none⟩) hnx.2).trans (hc (len-1-k) zO).2.2.2.1;have hc4:=(World.cell?_of_block (w:=W) (a:=⟨b,off+(len-1-k)*5+4,none⟩) hnx.2).trans (hc (len-1-k) zO).2.2.2.2;try dsimp only at hy
   obtain⟨i,hi⟩:∃i:Nat,len-1-k=i:=⟨_,rfl⟩
   have hi2:(len:Int)-1-k=(i:Int):=zO;have hil:i<len:=zO;have hik:k+i+1<=len/\len<=k+i+1:=zO;have HU:=zH (Vi (λj=>len-1-j) k);obtain⟨u,hu⟩:∃u,us[i]?.getD uiz=u:=⟨_,rfl⟩
   rw[hi]at hc0 hc1 hc2 hc3 hc4 hy hR;rw[hu]at hc0 hc1 hc2 hc3 hc4 hy;rw[hi2];clear hi2;clear hu;have HI:=zH hi;clear hi
   gi_wp2
   refine hR.mono ?_;rintro e W3 (⟨rfl,hJ3,hk3⟩|⟨rfl,hUK⟩)
   ·gi_wp2
    go_roundw
    case rel=>exact⟨k+1,zO,by go_num,by rw[HU.out,HI.out];exact hJ3,hnx.t hk3⟩
    case measure=>simp[intOf]
   ·gi_wp2
    refine bodyPost_ret (results_none rfl _ _ _) rfl ?_;exact⟨⟨_,rfl⟩,.inr ⟨_,⟨k+1,zO,by rw[HU.out,HI.out]⟩,hUK⟩⟩
  ·obtain rfl:k=len:=zO
   gi_wp2
   go_end0;exact⟨⟨_,rfl⟩,.inl ⟨_,rfl,hJs⟩⟩
set_option maxRecDepth 100000 in
theorem qeG(n l Bs c:Nat)(A:OA)(J:List Nat->World->Prop)(W:World)(hBs:W.cell? ⟨Bs,0,none⟩=some (.slice A 0 c))(h0:J [] W):CallsIn Fence.wide n prog 197 #[.func (.yield l) #[] #[],.pointer (some ⟨Bs,0,none⟩)] W λe W'=>(∃v,e=.returned v)/\J [] W':=by
 refine callsIn_of_wp func197 rfl trivial ?_ rfl;simp only[ntmps197,List.size_toArray,List.length_cons,List.length_nil,Nat.reduceAdd,Nat.reduceSub,Array.replicate_succ,Array.replicate_zero,List.push_toArray,List.append_toArray,List.nil_append,List.cons_append]
 gi_wp2
 gi_loopw [3] (λi wr=>i=.int .i64 (-1)/\J [] wr) (λ_ _=>0)
 case atStart=>exact⟨rfl,h0⟩
 case round=>
  obtain⟨rfl,hJs⟩:=hrel
  gi_wp2
  go_end0;exact⟨⟨_,rfl⟩,hJs⟩
def SWi(W:World)(Bs b:Nat)(v:Value)(us:List Ui):Prop:=
 W.cell? ⟨Bs,0,none⟩=some v/\((us=[]/\∃A c,v=.slice A 0 c)\/∃off cap,v=.slice (some ⟨b,off,none⟩) us.length cap/\∀i,i<us.length->W.cell? ⟨b,off+i*5,none⟩=some (.int .u8 (us[i]?.getD uiz).1.k)/\W.cell? ⟨b,off+i*5+1,none⟩=some (.int .u32 (us[i]?.getD uiz).1.i)/\W.cell? ⟨b,off+i*5+2,none⟩=some (.int .u32 (us[i]?.getD uiz).1.o)/\W.cell? ⟨b,off+i*5+3,none⟩=some (.int .i64 (us[i]?.getD uiz).1.r)/\W.cell? ⟨b,off+i*5+4,none⟩=some (sv (us[i]?.getD uiz).2))
theorem SWi.keep{W W':World}{Bs b:Nat}{v:Value}{us:List Ui}(h:SWi W Bs b v us)(hk:Qu Bs b W W'):SWi W' Bs b v us:=by
 refine⟨(World.cell?_of_block (w:=W) hk.1).trans h.1,?_⟩;rcases h.2 with h|⟨off,cap,e,hc⟩
 ·exact .inl h
 ·exact .inr ⟨off,cap,e,λi hi=>⟨(World.cell?_of_block (w:=W) hk.2).trans (hc i hi).1,(World.cell?_of_block (w:=W) hk.2).trans (hc i hi).2.1,(World.cell?_of_block (w:=W) hk.2).trans (hc i hi).2.2.1,(World.cell?_of_block (w:=W) hk.2).trans (hc i hi).2.2.2.1,(World.cell?_of_block (w:=W) hk.2).trans (hc i hi).2.2.2.2⟩⟩
theorem qfZ(n:Nat)(hn:1<=n)(Bs b:Nat)(v:Value)(us:List Ui)(hFH:us.length<1099511627776)(w:World)(hBs:Bs<w.heap.size)(hb:b<w.heap.size)(hS:SWi w Bs b v us):SeqStopsK Fence.wide n prog 197 #[.pointer (some ⟨Bs,0,none⟩)] (λx:Nat=>#[.int .i64 (x:Int),.agg #[.int .u8 (us[x]?.getD uiz).1.k,.int .u32 (us[x]?.getD uiz).1.i,.int .u32 (us[x]?.getD uiz).1.o,.int .i64 (us[x]?.getD uiz).1.r,sv (us[x]?.getD uiz).2]]) (Qu Bs b) (λys=>ys=ZO (λj=>us.length-1-j) us.length)
   (λpre=>∃k,k<=us.length/\pre=ZO (λj=>us.length-1-j) k) us.length w:=λl J Jx W hW _ _ hY h0=>by
 obtain⟨hc,h⟩:=hS.keep (Qu.below hW hBs hb);rcases h with⟨rfl,A,c,rfl⟩|⟨off,cap,rfl,hcs⟩
 ·exact(qeG n l Bs c A J W hc h0).mono λe W' ⟨he,hj⟩=>⟨he,.inl ⟨_,rfl,hj⟩⟩
 ·exact backi_in n hn l Bs b off us.length cap us hFH J Jx hY W hc hcs h0
theorem qcX(A m c)(w:World):Calls prog 172 #[.slice A m c] w (λe w'=>e=.returned (.func (.func 197) #[] #[.pointer (some ⟨w.heap.size,0,none⟩)])/\w'=w.alloc (.cells #[.slice A m c] 55)):=by
 go_enter func172,ntmps172;go_wp2;go_ret;exact⟨rfl,rfl⟩
end Go.Proofs.YtmeadnlmepcmbaaGreat
