/- Lemmas of the proof. -/
import Derived.Test.YtmeadnlmepcmbaaGreatZS20
set_option linter.all false
set_option maxHeartbeats 8000000
open Go.Proofs.Tryz
open Bool renaming true→E
open Option renaming some→F,none→Oa
open Go.Ending renaming returned→I
open Go.Value renaming int→O,slice→U,tuple→Y,pointer→Ob
open Go.IntKind renaming i64→Q
open Go renaming World→Z
open Go.Obj renaming cells→Oc
namespace Go.Proofs.YtmeadnlmepcmbaaGreat
open Go.RowKit
variable {S S' S2 S1:Sto}{h H i p q m a n:Nat}{xs l up hs:List It}{k:K3}{x y:It}{lvl root next:Int}{R:Ending->World->Prop}{W:World}{u v:Value}{f:List UInt8->Nat->Option (List UInt8)}{dead:List Int}{vs:List Vol}{refs nodes:Nat->Nat}{M M':Nat->Bool}{rs:Nat->List Nat}{R':List Nat}{nd:Int×List It}
theorem XA(hs:(qC S h xs).isSome=E)(h0:0<xs.length):(∀y∈qy S h (xs.take (QE xs k)),Qm (qz y) k=E)/\∀y∈qy S h (xs.drop (QE xs k+1)),Qm k (qz y)=E:=by
 have ho:=(jd hs).2;have hp:=λi hi=>JH (k:=k) ho i hi;have hle:=JI xs k;have hlt:=za (k:=k) h0;constructor;intro y hy;have hl:=items_lt hs hlt hy;have hEJ:0<QE xs k:=by
  rcases Nat.eq_zero_or_pos (QE xs k)with e|e
  rw[e,List.take_zero,JN]at hy;cases hy;exact e
 have hk:leK (qz xs[QE xs k]) k:=by
  by_cases hi:kD xs k=E;have e1:QE xs k=qD xs k:=by unfold QE;rw[if_pos hi]
  have hBP:qD xs k<xs.length:=zO;rw[vn hBP,decide_eq_true_eq]at hi;have:xs[QE xs k]=xs[qD xs k]:=by congr 1
  rw[this,hi];exact GD k;have e1:QE xs k=qD xs k-1:=by unfold QE;rw[if_neg hi]
  exact Kf ((hp _ hlt).2 zO)
 exact Gb hl hk;intro y hy;obtain⟨j,hj,hy⟩:=qmd hy;rw[List.length_drop]at hj;rw[List.getElem_drop]at hy;have hl:=one_low hs (j:=QE xs k+1+j) zO hy;refine Gb ?_ hl;have wLT:∀i (hi:i<xs.length),QE xs k<i->Qm k (qz xs[i])=E:=λi hi hgt=>by
  by_cases his:kD xs k=E;have e1:QE xs k=qD xs k:=by unfold QE;rw[if_pos his]
  have hBP:qD xs k<xs.length:=zO;rw[vn hBP,decide_eq_true_eq]at his;have:=Yq ho (i:=qD xs k) (j:=i) zO hi
  rwa [his]at this
  have e1:QE xs k=qD xs k-1:=by unfold QE;rw[if_neg his]
  have hBP:qD xs k<xs.length:=zO;have hge:Qm (qz xs[qD xs k]) k=false:=by rw[<-Bool.not_eq_true];intro e;have:=(hp _ hBP).1 e;omega
  rw[vn hBP,decide_eq_true_eq]at his;have hgk:Qm k (qz xs[qD xs k])=E:=by
   rcases hq:Qm k (qz xs[qD xs k])with _|_
   exact absurd (qfX hq hge) his;rfl
  by_cases hi3:i=qD xs k;subst hi3;exact hgk;exact vU hgk (Yq ho zO hi)
 exact wLT _ zO zO
theorem qdn(A B C:List It)(b:Nat):(qB B).count b<=(qB (A++B++C)).count b:=by simp only[qB,List.map_append,List.count_append];omega
structure qcm(S:Sto)(x:It):Prop where
 ok:QW x
 it:itB x.r x.val.length=E
 one:ju S 0 x=F (qz x,qz x)
theorem qcm.of(hx:QW x)(h:Ta S x=0):qcm S x:=by unfold Ta at h;split at h;rename_i h1;split at h;cases h;rename_i h2;refine⟨hx,h1,?_⟩;unfold ju;rw[if_pos];by_cases hr:x.r=0;exact .inl hr;exact .inr (Nat.pos_of_ne_zero λe=>h2 ⟨hr,e⟩);cases h
theorem Xf(hS:qk S=E)(hx:qcm S x):∀(h:Nat){a:Nat}{xs up:List It}{S':Sto},qm S a=F ((h:Int),xs)->(qC S h xs).isSome=E->jE (qz x) (jA S (qz x) h xs).reverse [x] S=.ok (up,S') ->
  SM S S'/\qk S'=E/\(qC S' (h+1) up).isSome=E/\qy S' (h+1) up=KM (qz x) x (qy S h xs)/\up≠[]/\∀y∈up,QW y/\itB y.r y.val.length=E
 |0,a,xs,up,S',hn,hs,e=>by
  rw[kj,List.reverse_singleton,YA]at e;simp only at e;have ho:Ord xs:=(jd hs).2;rw[qhU ho]at e;have hmx:=(qJ hn).2.1;have hIE:∀y∈KM (qz x) x xs,y=x\/y∈xs:=λy hy=>by
   unfold KM at hy;simp only[List.mem_append,List.mem_filter,List.mem_singleton]at hy;rcases hy with(hy|hy)|hy
   exact .inr hy.1;exact .inl hy;exact .inr hy.1
  have hl:∀y∈KM (qz x) x xs,QW y:=λy hy=>by
   rcases hIE y hy with rfl|hy
   exact hx.ok;exact(hmx y hy).1
  have hh:∀y∈[x],itB y.r y.val.length=E:=λy hy=>by rw[List.mem_singleton.1 hy];exact hx.it
  have hsp:(qC S 0 (KM (qz x) x xs)).isSome=E:=QJ.2 ⟨λy hy=>by
   rcases hIE y hy with rfl|hy
   exact⟨_,hx.one⟩
   ·exact(QJ.1 hs).1 y hy,qbZ ho⟩
  have hb:=Vq (h:=0) hS hl hh (λb _=>by unfold KM;exact qdn _ [x] _ b) (by unfold KM;simp) hsp e;exact⟨hb.1,hb.2.1,hb.2.2.1,hb.2.2.2.1,hb.2.2.2.2,(jV hl hh hS e).2.2.1⟩
 |h+1,a,xs,up,S',hn,hs,e=>by
  have h0:=vW (qJ hn).1 zO;have hlt:=za (k:=qz x) h0;obtain⟨b,e1,-,-,zs,e4,e5⟩:=QH (QC hs _ (List.getElem_mem hlt));have hnb:qm S (xs[QE xs (qz x)].r).toNat=F ((h:Int),zs):=by rw[e1,Int.toNat_natCast];exact e4
  rw[JL (zL hlt) hnb,List.reverse_cons,vR]at e;split at e;cases e;rename_i up1 S1 eg;obtain⟨m1,hS1,hSQ,hi1,hKB,hKG⟩:=Xf hS hx h e4 e5 eg;rw[YA]at e;simp only at e;have hm1:JS (qz x) (h+1) xs=1:=by unfold JS;rw[if_neg zO]
  rw[hm1]at e;unfold Ze at e;obtain⟨hA,hC⟩:=XA (k:=qz x) hs h0;have hmx:=(qJ hn).2.1;generalize hp:QE xs (qz x)=p at*;have hFF:xs=xs.take p++[xs[p]]++xs.drop (p+1):=by rw[List.append_assoc,List.singleton_append,List.getElem_cons_drop,List.take_append_drop]
  have hs':=hs;rw[hFF]at hs';have hsA:(qC S (h+1) (xs.take p)).isSome=E:=vk (xs:=[]) (ys:=xs.take p) (zs:=[xs[p]]++xs.drop (p+1)) (by rw[List.nil_append,<-List.append_assoc];exact hs');have hsC:(qC S (h+1) (xs.drop (p+1))).isSome=E:=vk (xs:=xs.take p++[xs[p]]) (ys:=xs.drop (p+1)) (zs:=[]) (by rw[List.append_nil];exact hs');have hB:qy S (h+1) [xs[p]]=qy S h zs:=by simp only[qy,List.flatMap_cons,List.flatMap_nil,List.append_nil,hnb]
  have hPX:qy S1 (h+1) (xs.take p++up1++xs.drop (p+1))=KM (qz x) x (qy S (h+1) xs):=by
   conv=>rhs;rw[hFF,Qc,Qc,qkY hA hC,hB,<-hi1]
   rw[Qc,Qc,m1.items _ _ hsA,m1.items _ _ hsC]
  have hl:∀y∈xs.take p++up1++xs.drop (p+1),QW y:=λy hy=>by
   rcases List.mem_append.1 hy with hy|hy
   rcases List.mem_append.1 hy with hy|hy
   exact(hmx y (List.mem_of_mem_take hy)).1;exact(hKG y hy).1;exact(hmx y (List.mem_of_mem_drop hy)).1
  have hsp:(qC S1 (h+1) (xs.take p++up1++xs.drop (p+1))).isSome=E:=QJ.2 ⟨jT (jT (m1.each (QJ.1 hsA).1) (QJ.1 hSQ).1) (m1.each (QJ.1 hsC).1),by rw[hPX];exact qbZ (jd hs).1⟩;have hb:=Vq (h:=h+1) hS1 hl (λy hy=>(hKG y hy).2) (λb _=>qdn _ up1 _ b) (by simp[hKB]) hsp e;exact⟨m1.trans hb.1,hb.2.1,hb.2.2.1,hb.2.2.2.1.trans hPX,hb.2.2.2.2,(jV hl (λy hy=>(hKG y hy).2) hS1 e).2.2.1⟩
theorem qhZ:∀{ps:List (List It)}{S S':Sto}{up:List It},makeL lvl ps S=.ok (up,S')->up.length=ps.length
 |[],S,S',up,h=>by cases h;rfl
 |p::r,S,S',up,h=>by simp only[makeL]at h;split at h;cases h;split at h;cases h;rename_i hl;cases h;simp[qhZ hl]
theorem qaA:∀{ps:List Stp}{up up':List It}{S S':Sto},jE k ps up S=.ok (up',S')->up.length<=2->up'.length<=2
 |[],up,up',S,S',h,h0=>by cases h;exact h0
 |(lvl,xs,p)::r,up,up',S,S',h,h0=>by simp only[jE]at h;split at h;cases h;rename_i up1 S1 hb;refine qaA h ?_;unfold Qr at hb;split at hb;cases hb;rename_i hm;split at hb;cases hb;cases hb;rw[qhZ hm];unfold Zi;split<;>simp
theorem GN(h:(qC S (H+1) [y]).isSome=E):∃ys,qm S y.r.toNat=F ((H:Int),ys)/\(qC S H ys).isSome=E/\qy S (H+1) [y]=qy S H ys:=by
 obtain⟨b,e1,-,-,ys,e4,e5⟩:=QH (QC h y zA3);have hn:qm S y.r.toNat=F ((H:Int),ys):=by rw[e1,Int.toNat_natCast];exact e4
 exact⟨ys,hn,e5,by simp only[qy,List.flatMap_cons,List.flatMap_nil,List.append_nil,hn]⟩
theorem qmx{h a r:Nat}(hS:qk S=E)(hx:qcm S x)(hn:qm S a=F ((h:Int),xs))(hs:(qC S h xs).isSome=E)(e:putX S h xs a x=.ok (r,S')):∃S2 t,∃(H:Nat)(ys:List It),S'=qu S2 t/\SM S S2/\qk S2=E/\qm S2 r=F ((H:Int),ys)/\(qC S2 H ys).isSome=E/\qy S2 H ys=KM (qz x) x (qy S h xs)/\QD S2 (-1) S2.now a=F t:=by
 unfold putX at e;split at e;cases e;split at e;cases e;rename_i up S1 eg;obtain⟨m1,hS1,hSQ,hi1,hKB,hKG⟩:=Xf hS hx h hn hs eg;have hwl:=VH (k:=qz x) h (qJ hn).1 hs;split at e;cases e;rename_i up2 S2 eb;split at e;cases e;rename_i t hl;cases e;split at eb;rename_i hlen;rw[hwl]at eb;have hb:=Vq (h:=h+1) hS1 (λy hy=>(hKG y hy).1) (λy hy=>(hKG y hy).2) (λb _=>zM _) hKB hSQ eb;have hmay:=jV (λy hy=>(hKG y hy).1) (λy hy=>(hKG y hy).2) hS1 eb;have hup:up.length<=2:=qaA eg zA3;obtain⟨y,rfl⟩:∃y,up2=[y]:=by have h1:=hmay.2.1;unfold Zi at h1;rw[if_neg zO]at h1;exact List.length_eq_one_iff.1 (by simpa using h1)
 obtain⟨ys,g1,g2,g3⟩:=GN hb.2.2.1;exact⟨S2,t,h+1,ys,rfl,m1.trans hb.1,hb.2.1,g1,g2,by rw[<-g3,hb.2.2.2.1,hi1],hl⟩;cases eb;rename_i hlen;obtain⟨y,rfl⟩:∃y,up=[y]:=List.length_eq_one_iff.1 (by have:=List.length_pos_iff.2 hKB;omega);obtain⟨ys,g1,g2,g3⟩:=GN hSQ;exact⟨S1,t,h,ys,rfl,m1,hS1,g1,g2,by rw[<-g3,hi1],hl⟩
def ZX(S:Sto)(xs:List It)(i:Nat):List It:=match xs[i]? with
 |none=>[]
 |some y=>match qm S y.r.toNat with
  |none=>[]
  |some (_,ys)=>ys
def Zx(S:Sto)(xs:List It)(p:Nat)(l:List It):List It×Nat×Nat:=
 if p+1=xs.length then
  if p=0 then(l,p,1)else if 5<(ZX S xs (p-1)).length+l.length then(l,p,1) else(ZX S xs (p-1)++l,p-1,2)
 else if 5<(ZX S xs (p+1)).length+l.length then(l,p,1) else(l++ZX S xs (p+1),p,2)
def JU(S:Sto)(s:Stp)(l hs:List It):Except Int (List It×List It×Sto):=
 if l=[]then .ok (Ze s.2.1 s.2.2 1 [],[],S) else
 match Qr S ((s.1:Int)-1) (Zx S s.2.1 s.2.2 l).1 hs with
 |.error e=>.error e
 |.ok (up,S')=>.ok (Ze s.2.1 (Zx S s.2.1 s.2.2 l).2.1 (Zx S s.2.1 s.2.2 l).2.2 up,up,S')
def jB:List Stp->List It->List It->Sto->Except Int (List It×List It×Sto)
 |[],l,hs,S=>.ok (l,hs,S)
 |s::r,l,hs,S=>match JU S s l hs with
  |.error e=>.error e
  |.ok (l',hs',S')=>jB r l' hs' S'
theorem vO:∀(ps qs:List Stp)(l hs:List It)(S:Sto),jB (ps++qs) l hs S=match jB ps l hs S with
  |.error e=>.error e
  |.ok (l',hs',S')=>jB qs l' hs' S'
 |[],qs,l,hs,S=>rfl
 |s::ps,qs,l,hs,S=>by
  simp only[List.cons_append,jB];rcases JU S s l hs with e|⟨l',hs',S'⟩
  rfl;exact vO ps qs l' hs' S'
theorem qav(s:Stp)(l hs:List It)(S:Sto):jB [s] l hs S=JU S s l hs:=by simp only[jB];rcases JU S s l hs with e|⟨l',hs',S'⟩<;>rfl
def qcL(l:List Stp):List It:=match l with
 |[]=>[]
 |s::_=>Ze s.2.1 s.2.2 1 []
def qbN(k:K3)(l:List Stp)(S:Sto):Except Int (List It×List It×Sto):=jB l.tail (qcL l) [] S
def Zo:Nat->Sto->Nat->Except Int (Nat×Sto)
 |0,S,f=>.ok (f,S)
 |n+1,S,f=>match qm S f with
  |none=>.error 8
  |some (lvl,ys)=>match ys with
   |[y]=>if lvl=0 then .ok (f,S)else match Zz S.now y.r.toNat with
    |.error e=>.error e
    |.ok t=>match QD (qu S t) (-1) t f with
     |none=>.error 8
     |some t'=>Zo n (qu S t') y.r.toNat
   |_=>.ok (f,S)
def Kz(S:Sto)(L:Nat)(xs:List It)(k:K3):Except Int (Nat×Sto):=
 match qbN k (jA S k L xs).reverse S with
 |.error e=>.error e
 |.ok (l,hs,S1)=>match Qr S1 (if l=[]then 0 else(((jA S k L xs).length-1:Nat):Int)) l hs with
  |.error e=>.error e
  |.ok (up,S2)=>Zo 7 S2 (kE up)
def qcs(S:Sto)(L:Nat)(xs:List It)(root:Nat)(k:K3):Except Int (Nat×Sto):=
 match Kz S L xs k with
 |.error e=>.error e
 |.ok (g,S3)=>match QD S3 (-1) S3.now root with
  |none=>.error 8
  |some t=>.ok (g,qu S3 t)
def XP(S:Sto)(L:Nat)(xs:List It)(root:Nat)(k:K3):Except Int (Nat×Sto):=if(oneT S k L xs).isSome=E then qcs S L xs root k else .error 6
def Va(k:K3)(l:List It):List It:=l.filter λy=>!decide (qz y=k)
theorem Vw(k:K3)(a b:List It):Va k (a++b)=Va k a++Va k b:=List.filter_append a b
theorem TD(h:∀y∈l,Qm (qz y) k=E):Va k l=l:=List.filter_eq_self.2 λy hy=>by have:=h y hy;simp only[Bool.not_eq_true',decide_eq_false_iff_not];intro e;rw[e,VQ]at this;cases this
theorem TE(h:∀y∈l,Qm k (qz y)=E):Va k l=l:=List.filter_eq_self.2 λy hy=>by have:=h y hy;simp only[Bool.not_eq_true',decide_eq_false_iff_not];intro e;rw[e,VQ]at this;cases this
theorem qgt(h:Ord l):Ord (Va k l):=List.Pairwise.sublist List.filter_sublist h
theorem leaf_rem(h:Ord xs)(hi:kD xs k=E):Ze xs (qD xs k) 1 []=Va k xs:=by
 have hlt:qD xs k<xs.length:=by
  rcases Nat.lt_or_ge (qD xs k) xs.length with h1|h1
  exact h1;rw[kO zO]at hi;cases hi
 have hk:=hi;rw[vn hlt,decide_eq_true_eq]at hk;have e:xs=xs.take (qD xs k)++([xs[qD xs k]]++xs.drop (qD xs k+1)):=by rw[List.singleton_append,<-List.drop_eq_getElem_cons hlt,List.take_append_drop]
 have e1:Va k (xs.take (qD xs k))=xs.take (qD xs k):=TD λy hy=>by obtain⟨i,hi',rfl⟩:=List.mem_iff_getElem.1 hy;rw[List.length_take]at hi';rw[List.getElem_take];exact(JH h i zO).2 zO
 have e2:Va k (xs.drop (qD xs k+1))=xs.drop (qD xs k+1):=TE λy hy=>by
  obtain⟨i,hi',rfl⟩:=List.mem_iff_getElem.1 hy;rw[List.length_drop]at hi';rw[List.getElem_drop];have h1:=Yq h (i:=qD xs k) (j:=qD xs k+1+i) zO zO
  rwa [hk]at h1
 have e3:Va k [xs[qD xs k]]=[]:=by simp[Va,hk]
 conv=>rhs;rw[e,Vw,Vw,e1,e2,e3]
 simp[Ze]
theorem qln{A X C:List It}(hs:(qC S (h+1) (A++X++C)).isSome=E)(m:SM S S2)(hA:Va k (qy S (h+1) A)=qy S (h+1) A)(hC:Va k (qy S (h+1) C)=qy S (h+1) C)(hu:ku S2 (h+1) up)(hi:qy S2 (h+1) up=Va k (qy S (h+1) X)):(qC S2 (h+1) (A++up++C)).isSome=E/\qy S2 (h+1) (A++up++C)=Va k (qy S (h+1) (A++X++C)):=by
 have hsA:(qC S (h+1) A).isSome=E:=vk (xs:=[]) (ys:=A) (zs:=X++C) (by rw[List.nil_append,<-List.append_assoc];exact hs);have hsC:(qC S (h+1) C).isSome=E:=vk (xs:=A++X) (ys:=C) (zs:=[]) (by rw[List.append_nil];exact hs);have e:qy S2 (h+1) (A++up++C)=Va k (qy S (h+1) (A++X++C)):=by rw[Qc,Qc,m.items _ _ hsA,m.items _ _ hsC,hi,Qc,Qc,Vw,Vw,hA,hC]
 refine⟨QJ.2 ⟨jT (jT (m.each (QJ.1 hsA).1) hu) (m.each (QJ.1 hsC).1),?_⟩,e⟩;rw[e];exact qgt (jd hs).1
theorem Uf(ho:Ord xs)(h0:0<xs.length)(hd:(kI xs k).isSome=E):kI xs k=F (xs[QE xs k]'(za h0))/\(kD xs k=E\/0<qD xs k):=by
 have hlt:=za (k:=k) h0;by_cases hi:kD xs k=E;have hp:qD xs k<xs.length:=by
  rcases Nat.lt_or_ge (qD xs k) xs.length with h1|h1
  exact h1;rw[kO zO]at hi;cases hi
 have hk:=hi;rw[vn hp,decide_eq_true_eq]at hk;refine⟨?_,.inl hi⟩;rw[qkT ho hp hk];congr 2;unfold QE;rw[if_pos hi];have hn:∀hp:qD xs k<xs.length,qz (xs[qD xs k]'hp)≠k:=λhp e=>hi (by rw[vn hp,e];simp);rcases Nat.eq_zero_or_pos (qD xs k)with h|h
 rw[qkU ho h hn]at hd;cases hd;refine⟨?_,.inr h⟩;rw[qbc ho h hn];congr 2;unfold QE;rw[if_neg hi]
theorem qlb(ho:Ord xs)(h:(qhT xs k).isSome=E):kD xs k=E:=by by_cases hi:kD xs k=E;exact hi;rw[qlc ho λhp e=>hi (by rw[vn hp,e];simp)]at h;cases h
theorem TZ(h1:(oneT S k (h+1) xs).isSome=E):(kI xs k).isSome=E:=by
 rcases hd:kI xs k with _|y
 rw[qil hd]at h1;cases h1;rfl
theorem qie(hs:(qC S (h+1) xs).isSome=E)(m:SM S S1)(hi:i<xs.length):(qC S1 h (ZX S1 xs i)).isSome=E/\qy S1 h (ZX S1 xs i)=qy S (h+1) [xs[i]]/\∀y∈ZX S1 xs i,QW y/\itB y.r y.val.length=E:=by
 obtain⟨b,e1,-,-,zs,e4,e5⟩:=QH (QC hs _ (List.getElem_mem hi));have hn:qm S xs[i].r.toNat=F ((h:Int),zs):=by rw[e1,Int.toNat_natCast];exact e4
 have hn1:=m.node _ _ hn;have e:ZX S1 xs i=zs:=by unfold ZX;rw[zL hi];simp only[hn1]
 rw[e];refine⟨m.spanOk e5,?_,(qJ e4).2.1⟩;rw[m.items _ _ e5];simp only[qy,List.flatMap_cons,List.flatMap_nil,List.append_nil,hn]
theorem qcI(hs:(qC S (h+1) xs).isSome=E)(hp:p<xs.length)(m:SM S S1)(hsl:(qC S1 h l).isSome=E)(hi:qy S1 h l=Va k (qy S (h+1) [xs[p]]))(hA:∀y∈qy S (h+1) (xs.take p),Qm (qz y) k=E)(hC:∀y∈qy S (h+1) (xs.drop (p+1)),Qm k (qz y)=E)(hl:∀y∈l,QW y/\itB y.r y.val.length=E)(hl5:l.length<=5):∃A X C,xs=A++X++C/\A=xs.take (Zx S1 xs p l).2.1/\C=xs.drop ((Zx S1 xs p l).2.1+(Zx S1 xs p l).2.2)/\Va k (qy S (h+1) A)=qy S (h+1) A/\Va k (qy S (h+1) C)=qy S (h+1) C/\(qC S1 h (Zx S1 xs p l).1).isSome=E/\qy S1 h (Zx S1 xs p l).1=Va k (qy S (h+1) X)/\(∀y∈(Zx S1 xs p l).1,QW y/\itB y.r y.val.length=E)/\(∀b,(qB l).count b<=(qB (Zx S1 xs p l).1).count b)/\(Zx S1 xs p l).1.length<=5/\(l≠[]->(Zx S1 xs p l).1≠[])/\(Zx S1 xs p l).2.1+(Zx S1 xs p l).2.2<=xs.length/\0<(Zx S1 xs p l).2.2:=by
 have rA:=TD hA;have rC:=TE hC;have hFF:xs=xs.take p++[xs[p]]++xs.drop (p+1):=by rw[List.append_assoc,List.singleton_append,List.getElem_cons_drop,List.take_append_drop]
 have sub:∀{X:List It}{A C:List It},xs=A++X++C->∀{j:List It},ku S1 h j->qy S1 h j=Va k (qy S (h+1) X)->(qC S1 h j).isSome=E:=λ{X A C} e {j} he e2=>QJ.2 ⟨he,by have h1:(qC S (h+1) (A++X++C)).isSome=E:=e▸hs;rw[e2];exact qgt (jd (vk h1)).1⟩;have alone:∃A X C,xs=A++X++C/\A=xs.take p/\C=xs.drop (p+1)/\Va k (qy S (h+1) A)=qy S (h+1) A/\Va k (qy S (h+1) C)=qy S (h+1) C /\
   (qC S1 h l).isSome=E/\qy S1 h l=Va k (qy S (h+1) X)/\(∀y∈l,QW y/\itB y.r y.val.length=E)/\(∀b,(qB l).count b<=(qB l).count b)/\l.length<=5/\(l≠[]->l≠[])/\p+1<=xs.length/\0<1:=
  ⟨_,_,_,hFF,rfl,rfl,rA,rC,hsl,hi,hl,λ_=>zM _,hl5,λh=>h,hp,Nat.one_pos⟩
 unfold Zx;by_cases hlast:p+1=xs.length;rw[if_pos hlast];by_cases h0:p=0;rw[if_pos h0];exact alone;rw[if_neg h0];by_cases h5:5<(ZX S1 xs (p-1)).length+l.length;rw[if_pos h5];exact alone;rw[if_neg h5];have hq:p-1<xs.length:=zO;obtain⟨n1,n2,n3⟩:=qie hs m hq;have e1:xs.take p=xs.take (p-1)++[xs[p-1]]:=by
  conv=>lhs;rw[show p=p-1+1 by omega]
  exact List.take_succ_eq_append_getElem hq
 have e2:xs=xs.take (p-1)++([xs[p-1]]++[xs[p]])++xs.drop (p+1):=by
  conv=>lhs;rw[hFF,e1]
  simp only[List.append_assoc]
 have hA':=hA;rw[e1,Qc]at hA';have i2:qy S1 h (ZX S1 xs (p-1)++l)=Va k (qy S (h+1) ([xs[p-1]]++[xs[p]])):=by rw[Qc,Qc,Vw,n2,hi,TD λy hy=>hA' y (List.mem_append_right _ hy)]
 refine⟨_,_,_,e2,rfl,by rw[show p-1+2=p+1 by omega],TD λy hy=>hA' y (List.mem_append_left _ hy),rC,sub e2 (jT (QJ.1 n1).1 (QJ.1 hsl).1) i2,i2,λy hy=>(List.mem_append.1 hy).elim (n3 y) (hl y),λb=>?_,by simp only[List.length_append];omega,λhne e=>hne (List.append_eq_nil_iff.1 e).2,by show p-1+2<=_;omega,by show 0<2;omega⟩;simp only[qB,List.map_append,List.count_append];omega;rw[if_neg hlast];by_cases h5:5<(ZX S1 xs (p+1)).length+l.length;rw[if_pos h5];exact alone;rw[if_neg h5];have hq:p+1<xs.length:=zO;obtain⟨n1,n2,n3⟩:=qie hs m hq;have e1:xs.drop (p+1)=[xs[p+1]]++xs.drop (p+2):=by rw[List.singleton_append];exact List.drop_eq_getElem_cons hq
 have e2:xs=xs.take p++([xs[p]]++[xs[p+1]])++xs.drop (p+2):=by
  conv=>lhs;rw[hFF,e1]
  simp only[List.append_assoc]
 have hC':=hC;rw[e1,Qc]at hC';have i2:qy S1 h (l++ZX S1 xs (p+1))=Va k (qy S (h+1) ([xs[p]]++[xs[p+1]])):=by rw[Qc,Qc,Vw,n2,hi,TE λy hy=>hC' y (List.mem_append_left _ hy)]
 refine⟨_,_,_,e2,rfl,rfl,rA,TE λy hy=>hC' y (List.mem_append_right _ hy),sub e2 (jT (QJ.1 hsl).1 (QJ.1 n1).1) i2,i2,λy hy=>(List.mem_append.1 hy).elim (hl y) (n3 y),λb=>?_,by simp only[List.length_append];omega,λhne e=>hne (List.append_eq_nil_iff.1 e).1,by show p+2<=_;omega,by show 0<2;omega⟩;simp only[qB,List.map_append,List.count_append];omega
structure DelI(S:Sto)(h:Nat)(k:K3)(all:List It)(l hs:List It)(S':Sto):Prop where
 sm:SM S S'
 may:qk S'=E
 span:(qC S' h l).isSome=E
 items:qy S' h l=Va k all
 ok:∀y∈l,QW y/\itB y.r y.val.length=E
 sub:∀b,b≠0->(qB hs).count b<=(qB l).count b
 len:l.length<=5
 held:∀y∈hs,itB y.r y.val.length=E
theorem TF(h:q+m<=xs.length):(Ze xs q m up).length+m=xs.length+up.length:=by unfold Ze;simp only[List.length_append,List.length_take,List.length_drop];omega
theorem qhD{zs l' hs':List It}(hn:qm S a=F (((h+1:Nat):Int),xs))(hsp:(qC S (h+1) xs).isSome=E)(hp:QE xs k<xs.length)(hz:qm S (xs[QE xs k].r).toNat=F ((h:Int),zs))(hI:DelI S h k (qy S h zs) l hs S1)(e:JU S1 (h+1,xs,QE xs k) l hs=.ok (l',hs',S2)):DelI S (h+1) k (qy S (h+1) xs) l' hs' S2:=by
 obtain⟨hA,hC⟩:=XA (k:=k) hsp zO;have hmx:=(qJ hn).2.1;have hx5:=(Zc hn).2.2;have hB:qy S (h+1) [xs[QE xs k]]=qy S h zs:=by simp only[qy,List.flatMap_cons,List.flatMap_nil,List.append_nil,hz]
 generalize QE xs k=p at*;have hi:=hI.items;rw[<-hB]at hi;have hFF:xs=xs.take p++[xs[p]]++xs.drop (p+1):=by rw[List.append_assoc,List.singleton_append,List.getElem_cons_drop,List.take_append_drop]
 unfold JU at e;split at e;rename_i hl;cases e;rw[hl,JN]at hi;obtain⟨r1,r2⟩:=qln (A:=xs.take p) (X:=[xs[p]]) (C:=xs.drop (p+1)) (up:=[]) (h:=h) (by rw[<-hFF];exact hsp) hI.sm (TD hA) (TE hC) (λy hy=>by cases hy) (by rw[JN];exact hi);rw[<-hFF]at r2;exact⟨hI.sm,hI.may,r1,r2,λy hy=>by
  rcases List.mem_append.1 hy with hy|hy
  rcases List.mem_append.1 hy with hy|hy
  exact hmx y (List.mem_of_mem_take hy);cases hy
  ·exact hmx y (List.mem_of_mem_drop hy),λb _=>by simp[qB],by have:=TF (xs:=xs) (up:=[]) (q:=p) (m:=1) zO;simp only[List.length_nil]at this;show(Ze xs p 1 []).length<=5;omega,λy hy=>by cases hy⟩
 rename_i hl;split at e;cases e;rename_i up S3 hb;simp only[Except.ok.injEq,Prod.mk.injEq]at e;obtain⟨e1,e2,e3⟩:=e;subst e1 e2 e3;obtain⟨A,X,C,j1,j2,j3,j4,j5,j6,j7,j8,j9,j10,j11,j12,j13⟩:=qcI (k:=k) hsp hp hI.sm hI.span hi hA hC hI.ok hI.len;simp only at hb;rw[show(((h+1:Nat):Int)-1)=(h:Int)by omega]at hb;have hbt:=Vq hI.may (λy hy=>(j8 y hy).1) hI.held (λb hb=>Nat.le_trans (hI.sub b hb) (j9 b)) (j11 hl) j6 hb;have hmay:=jV (λy hy=>(j8 y hy).1) hI.held hI.may hb;have hul:up.length=1:=by rw[hmay.2.1];unfold Zi;rw[if_neg zO];rfl
 obtain⟨r1,r2⟩:=qln (A:=A) (X:=X) (C:=C) (up:=up) (by rw[<-j1];exact hsp) (hI.sm.trans hbt.1) j4 j5 (QJ.1 hbt.2.2.1).1 (hbt.2.2.2.1.trans j7);have er:Ze xs (Zx S1 xs p l).2.1 (Zx S1 xs p l).2.2 up=A++up++C:=by rw[j2,j3];rfl
 rw[<-j1]at r2;refine⟨hI.sm.trans hbt.1,hbt.2.1,by rw[er];exact r1,by rw[er];exact r2,λy hy=>?_,λb _=>by rw[er];exact qdn _ up _ b,?_,λy hy=>(hmay.2.2.1 y hy).2⟩;rcases List.mem_append.1 hy with hy|hy
 rcases List.mem_append.1 hy with hy|hy
 exact hmx y (List.mem_of_mem_take hy);exact hmay.2.2.1 y hy;exact hmx y (List.mem_of_mem_drop hy);have:=TF (up:=up) j12;show(Ze xs _ _ up).length<=5;omega
theorem Ks(hS:qk S=E):∀(h:Nat){a:Nat}{xs l hs:List It}{S':Sto},qm S a=F ((h:Int),xs)->(qC S h xs).isSome=E->(oneT S k h xs).isSome=E->qbN k (jA S k h xs).reverse S=.ok (l,hs,S')->DelI S h k (qy S h xs) l hs S'
 |0,a,xs,l,hs,S',hn,hsp,h1,e=>by rw[kj,List.reverse_singleton]at e;simp only[qbN,List.tail_cons,jB,qcL]at e;cases e;have ho:=(jd hsp).2;have hx5:=(Zc hn).2.2;rw[leaf_rem ho (qlb ho h1)];have hmx:=(qJ hn).2.1;have hm:∀y∈Va k xs,y∈xs:=λy hy=>(List.mem_filter.1 hy).1;exact⟨⟨λ_ _ e=>e,λ_ e=>e⟩,hS,QJ.2 ⟨λy hy=>(QJ.1 hsp).1 y (hm y hy),qgt ho⟩,rfl,λy hy=>hmx y (hm y hy),λb _=>by simp[qB],Nat.le_trans (List.length_filter_le _ _) hx5,λy hy=>by cases hy⟩
 |h+1,a,xs,l,hs,S',hn,hsp,h1,e=>by
  have h0:=vW (qJ hn).1 zO;have hlt:=za (k:=k) h0;obtain⟨b,e1,-,-,zs,e4,e5⟩:=QH (QC hsp _ (List.getElem_mem hlt));have hnb:qm S (xs[QE xs k].r).toNat=F ((h:Int),zs):=by rw[e1,Int.toNat_natCast];exact e4
  have hd:=(Uf (jd hsp).2 h0 (TZ h1)).1;rw[Kw hd hnb]at h1;rw[JL (zL hlt) hnb,List.reverse_cons]at e;obtain⟨s,r,hr⟩:∃s r,(jA S k h zs).reverse=s::r:=by
   rcases hq:(jA S k h zs).reverse with _|⟨s,r⟩
   have:=congrArg List.length hq;rw[List.length_reverse,VH h (qJ e4).1 e5]at this;cases this;exact⟨s,r,rfl⟩
  have e':qbN k (jA S k h zs).reverse S=jB r (qcL (s::r)) [] S:=by rw[hr];rfl
  rw[hr]at e;have e'':jB (r++[(h+1,xs,QE xs k)]) (qcL (s::r)) [] S=.ok (l,hs,S'):=e;rw[vO]at e'';split at e'';cases e'';rename_i l1 hs1 S1 hg;rw[qav]at e'';exact qhD hn hsp hlt hnb (Ks hS h e4 e5 h1 (e'.trans hg)) e''
def XJ(S:Sto):Nat->List It->Prop
 |0,_=>True
 |h+1,ys=>∀y,ys=[y]->∃(r:Nat)(zs:List It),y.r=(r:Int)/\8<=r/\r<256/\qm S r=F ((h:Int),zs)/\XJ S h zs
theorem qfZ:∀(h:Nat){ys:List It},(qC S h ys).isSome=E->XJ S h ys
 |0,_,_=>trivial
 |h+1,ys,hs=>λy e=>by subst e;obtain⟨b,e1,h8,h256,zs,e4,e5⟩:=QH (QC hs y zA3);exact⟨b,zs,e1,h8,h256,e4,qfZ h e5⟩
theorem GH:∀(h:Nat){ys:List It},(∀r (l:Int) nd,l<h->qm S r=F (l,nd)->qm S' r=F (l,nd))->XJ S h ys->XJ S' h ys
 |0,_,_,_=>trivial
 |h+1,ys,hk,hl=>λy e=>by obtain⟨r,zs,e1,h8,h256,e4,e5⟩:=hl y e;exact⟨r,zs,e1,h8,h256,hk _ _ _ zO e4,GH h (λr l nd hlt=>hk r l nd zO) e5⟩
def qhM(hs:List It):Int:=match hs with
 |[]=>0
 |y::_=>y.r
theorem Vp(h5:l.length<=5):Qr S lvl l hs=match Zb S lvl l with
  |.error e=>.error e
  |.ok (f,S')=>match looseL (qB hs) S'.now with
   |.error e=>.error e
   |.ok t=>.ok ([jG (jF l) f],qu S' t):=by
 unfold Qr Zi;rw[if_neg zO];simp only[makeL];rcases Zb S lvl l with e|⟨f,S'⟩<;>rfl
def TP(D:Nat->Prop)(B lo b g:Nat)(k:Option Nat)(S:Sto)(lvl:Int)(its hs:List It)(w:Z)(e:Ending)(W:Z):Prop:=Ql lo b g k w W /\
 match Qr S lvl its hs with
 |.error er=>er≠0/\∃v:Int,e=I (Y #[v,er])
 |.ok (up,S')=>e=I (Y #[(kE up:Int),O Q 0])/\∃k' D',Zq w k k'/\Yj w D D'/\Bch D' B lo b g k' S' W
theorem KW{a:Act}(h4:a.tmps[8]?.getD undef=u)(h5:a.tmps[9]?.getD undef=v)(hd:a.defers=[])(hR:R (I (Y #[u,v])) W):bodyPost prog Tryz.f118 R .ret a W:=by refine bodyPost_ret (v:=Y #[u,v]) ?_ hd hR;simp[results,results118,go_sem,h4,h5]
set_option maxRecDepth 100000 in
theorem qbd(D:Nat->Prop)(B lo b g:Nat)(k:Option Nat)(S:Sto)(lvl:Int)(A n c)(its:List It)(hio:∀x∈its,QW x)(h5:its.length<=5)(hws:S.ws.length<=4096)(hs:List It)(hhs:hs=[]\/∃y,hs=[y]/\8<=y.r/\y.r<256)(w:Z)(h:Bch D B lo b g k S w)(hx:Kk (B3 b g k) w (U A n c) its):Calls prog 118 #[Ob b,lvl,U A n c,O Q (qhM hs)] w (TP D B lo b g k S lvl its hs w):=by
 have HM:=zH (qar D B lo b g k S lvl A n c its hio hws w h hx);have hlw:=h.size.2.2.2.2.2.1;have hbf:=zH (Vp (S:=S) (lvl:=lvl) (hs:=hs) h5);clear h hx h5;rcases hm:Zb S lvl its with er|⟨f,S1⟩
 ·have hne:=YG hm;have hQ:Hid (∀W,Ql lo b g k w W->TP D B lo b g k S lvl its hs w (I (Y #[O Q 0,er])) W):=zH λW hk=>⟨hk,by rw[hbf.out,hm];exact⟨hne,0,rfl⟩⟩
  have z1:(er==0)=false:=by rw[beq_eq_false_iff_ne];exact hne
  have z2:decide (er=0)=false:=decide_eq_false hne;replace⟨hm,hne⟩:=zH2 hm hne;clear hbf hhs;go_enter func118,ntmps118;go_wp2_with fail;refine HM.out.mono ?_;clear HM;intro e W hQ2;obtain⟨hk,hq⟩:=hQ2;rw[hm.out]at hq;obtain rfl:=hq;have hQW:=zH (hQ.out W hk);clear hQ hk;go_wp2_with fail;exact KW rfl rfl rfl hQW.out
 rcases hhs with rfl|⟨y,rfl,hy8,hy2⟩
 ·have hQ:Hid (∀W,Ql lo b g k w W->(∃k' D',Zq w k k'/\Yj w D D'/\Bch D' B lo b g k' S1 W)->TP D B lo b g k S lvl its [] w (I (Y #[(f:Int),O Q 0])) W):=zH λW hk hb=>⟨hk,by rw[hbf.out,hm];exact⟨rfl,hb⟩⟩
  replace hm:=zH hm;have hz:Hid (qhM []=0):=zH rfl;clear hbf;go_enter func118,ntmps118;rw[hz.out];go_wp2_with fail;refine HM.out.mono ?_;clear HM;intro e W hQ2;obtain⟨hk,hq⟩:=hQ2;rw[hm.out]at hq;obtain⟨rfl,hq⟩:=hq;have hQW:=zH (hQ.out W hk hq);clear hQ hk hq;go_wp2_with fail;exact KW rfl rfl rfl hQW.out
 obtain⟨r,hr⟩:=Int.eq_ofNat_of_zero_le (show 0<=y.r by omega);have hrf:qB [y]=[r]:=by simp[qB,hr]
 have hr8:8<=r:=zO;have hr2:r<256:=zO;have hbf2:Hid (Qr S lvl its [y]=if qO S1.now r=0 then .error 6 else .ok ([jG (jF its) f],qu S1 (Vi S1.now r))):=zH (by
  rw[hbf.out,hm,hrf];simp only;by_cases h0:qO S1.now r=0;rw[js zO h0,if_pos h0]
  ·rw[ZP zO h0,if_neg h0];rfl)
 have hz:Hid (qhM [y]=(r:Int)):=zH hr;have hrp:(0:Int)<(r:Int):=zO;have hrp2:decide (0<r)=E:=decide_eq_true zO;replace⟨hm,hr8⟩:=zH2 hm hr8;clear hbf hy8 hy2 hr hrf;go_enter func118,ntmps118;rw[hz.out];go_wp2_with fail;refine HM.out.mono ?_;clear HM;intro e W hQ2;obtain⟨hk,hq⟩:=hQ2;rw[hm.out]at hq;obtain⟨rfl,k',D',hNk,hND,hb1⟩:=hq;have HL:=zH (Tc D' B lo b g k' S1 r hr2 W hb1);have hsz:=hk.below.size;clear hb1;go_wp2_with fail;refine HL.out.mono ?_;clear HL;rintro e V ⟨hk2,hAP⟩;have hkk:=hk.trans hk2 hNk;have hQ:TP D B lo b g k S lvl its [y] w (if qO S1.now r=0 then I (Y #[(f:Int),O Q 6])else I (Y #[(f:Int),O Q 0])) V:=by
  refine⟨hkk,?_⟩;rw[hbf2.out];rcases hAP with⟨h0,-⟩|⟨h0,-,hb⟩
  rw[if_pos h0,if_pos h0];exact⟨zA1,_,rfl⟩;rw[if_neg h0,if_neg h0];exact⟨rfl,k',D',hNk,hND,hb⟩
 have wFG:(qO S1.now r=0/\e=I (O Q 6))\/(qO S1.now r≠0/\e=I (O Q 0)):=hAP.imp id λh=>⟨h.1,h.2.1⟩
 replace hQ:=zH hQ;clear hAP hkk hk hk2 hNk hND hbf2 hm;rcases wFG with⟨h0,rfl⟩|⟨h0,rfl⟩
 ·rw[if_pos h0]at hQ;replace h0:=zH h0;go_wp2_with fail;exact KW rfl rfl rfl hQ.out
 rw[if_neg h0]at hQ;replace h0:=zH h0;go_wp2_with fail;exact KW rfl rfl rfl hQ.out
theorem qkK(hf:∀t r t',f t r=F t'->∀j,qO t' j<=qO t j):∀(rs:List Nat)(o:Option (List UInt8))(t':List UInt8),rs.foldl (λacc r=>acc.bind λt=>f t r) o=t'->∃t,o=F t/\∀j,qO t' j<=qO t j
 |[],o,t',h=>⟨t',h,λ_=>zM _⟩
 |r::rs,o,t',h=>by
  rw[List.foldl_cons]at h;obtain⟨t1,h1,h2⟩:=qkK hf rs _ t' h;cases o with
  |none=>cases h1
  |some t=>
   exact⟨t,rfl,λj=>Nat.le_trans (h2 j) (hf t r t1 h1 j)⟩
theorem YC(S:Sto):∀(h:Nat)(lvl:Int)(t:List UInt8)(a:Nat)(t':List UInt8),leaveF S h lvl t a=t'->∀j,qO t' j<=qO t j
 |0,lvl,t,a,t',e=>by cases e
 |h+1,lvl,t,a,t',e=>by rw[vE]at e;split at e;cases e;split at e;cases e;exact λj=>qfQ t a j;split at e;cases e;rename_i l xs _;split at e;cases e;split at e;obtain⟨t0,h0,h1⟩:=qkK (λt r t'=>YC S h (l-1) t r t') _ _ _ e;cases h0;exact λj=>Nat.le_trans (h1 j) (zero_le t a j);split at e;cases e;rename_i t1 hl;cases e;exact λj=>Nat.le_trans ((Kg hl).2 j) (zero_le t a j)
theorem sm_left{t:List UInt8}(h:∀j,qO t j<=qO S.now j):SM (qu S t) S where
 node r nd e:=by unfold qm at e⊢;split at e;cases e;rename_i h1;rw[if_neg (by have:=h r;unfold qO at this;simp only[qu]at h1;omega)];exact e
 pos r e:=by have:=h r;unfold qO at this;simp only[qu]at e;omega

theorem qeM:∀(h:Nat)(xs:List It),(∀x∈xs,QW x)->∀y∈qy S h xs,QW y
 |0,xs,hx,y,hy=>hx y hy
 |h+1,xs,_,y,hy=>by
  rw[ZG]at hy;obtain⟨z,hz,hy⟩:=List.mem_flatMap.1 hy;rcases hn:qm S z.r.toNat with _|⟨lvl,ys⟩
  rw[hn]at hy;cases hy;rw[hn]at hy;exact qeM h ys (λx hx=>((qJ hn).2.1 x hx).1) y hy
theorem qiU(h:Qy S root next dead vs):∀v∈vs,XH v:=λv hv=>by obtain⟨a,rfl,h8,h256,lvl,xs,hn,hs⟩:=JE h.top;have hvs:=h.vols;unfold Gl at hvs;rw[show((a:Nat):Int).toNat=a from rfl,hn]at hvs;simp only[Int.toNat_natCast]at hvs;rw[qdI _ _ _ zA3]at hvs;split at hvs;rename_i hc;simp only[Option.some.injEq,List.nil_append]at hvs;rw[<-hvs]at hv;obtain⟨x,hx,rfl⟩:=List.mem_map.1 hv;have h1:=qeM (S:=S) lvl xs (λy hy=>((qJ hn).2.1 y hy).1) x hx;have h2:=List.all_eq_true.1 hc.1 x hx;unfold vq Gu at h2;simp only[Bool.and_eq_true,decide_eq_true_eq]at h2;exact qiQ h1 zO;cases hvs
theorem QS.no(h:QS S root next dead)(hp:Qy S root next dead vs)(hc:Qk S (Qo root dead vs) refs nodes)(he:QQ S refs):False:=by obtain⟨r,n,h1,h2⟩:=h vs hp;obtain⟨_,e⟩:=Jo.same h1.mkd hc.mkd;subst e;exact h2 he
def qaR(M:Nat->Bool)(a:Nat):Nat->Bool:=λb=>if b=a then false else M b
theorem qfA(M:Nat->Bool)(a:Nat):qaR M a a=false:=by simp[qaR]
theorem qah{a b:Nat}(h:b≠a):qaR M a b=M b:=by simp[qaR,h]
theorem Ka{a b:Nat}(h:qaR M a b=E):M b=E/\b≠a:=by by_cases e:b=a;subst e;rw[qfA]at h;cases h;rw[qah e]at h;exact⟨h,e⟩
theorem qmn(h:M a=E):vY (qaR M a) a=M:=by funext b;unfold vY qaR;by_cases e:b=a;subst e;simp[h];simp[e]
theorem qaM{a b:Nat}(h:M a=E)(n:Nat):JX rs M b n=JX rs (qaR M a) b n+if a<n then(rs a).count b else 0:=by rw[<-Ue (qfA M a) n,qmn h]
theorem qaL {rs:Nat->List Nat} {M M':Nat->Bool} (h:∀ a,M a=true->M' a=true) (b:Nat):∀ n,JX rs M b n<=JX rs M' b n
 |0=>zM _
 |n+1=>by
  unfold JX;have h1:=qaL (rs:=rs) h b n;by_cases hn:M n=true
  ·rw[if_pos hn,if_pos (h n hn)];omega
  ·rw[if_neg hn];omega
theorem GZ{a b:Nat}(ha:M a=E)(hb:b∈rs a)(hn:a<n):0<JX rs M b n:=by rw[qaM ha n,if_pos hn];have:=List.count_pos_iff.2 hb;omega
structure Cov(ks rs:Nat->List Nat)(t:List UInt8)(R:List Nat)(M:Nat->Bool):Prop where
 kid:∀a,M a=E->∀b∈ks a,M b=E
 sub:∀a b,b∈ks a->b∈rs a
 cnt:∀b,0<b->R.count b+JX rs M b 256<=qO t b
 live:∀a,M a=E->qO t a≠0
 low:∀a,M a=E->0<a/\a<256
structure YW(R:List Nat)(M M':Nat->Bool):Prop where
 le:∀a,M' a=E->M a=E
 keep:∀a,a∈R->M a=E->M' a=E
theorem YW.refl(R:List Nat)(M:Nat->Bool):YW R M M:=⟨λ_ h=>h,λ_ _ h=>h⟩
theorem YW.trans{R:List Nat}{M'':Nat->Bool}(h:YW R M M')(k:YW R M' M''):YW R M M'':=⟨λa x=>h.le a (k.le a x),λa x y=>k.keep a x (h.keep a x y)⟩
theorem YW.mono{R:List Nat}(h:YW R M M')(hr:∀a∈R',a∈R):YW R' M M':=⟨h.le,λa x y=>h.keep a (hr a x) y⟩
section
variable {ks rs:Nat->List Nat} {t t':List UInt8} {R R':List Nat} {M:Nat->Bool} {a b:Nat}
theorem Cov.perm(h:Cov ks rs t R M)(hc:∀b,0<b->R'.count b<=R.count b):Cov ks rs t R' M:=⟨h.kid,h.sub,λb hb=>Nat.le_trans (Nat.add_le_add_right (hc b hb) _) (h.cnt b hb),h.live,h.low⟩
theorem Cov.drop(h:Cov ks rs t R M)(ha:M a=E)(h0:JX rs M a 256=0):Cov ks rs t R (qaR M a) where
 kid c hc d hd:=by
  obtain⟨h1,h2⟩:=Ka hc;have e:d≠a:=λe=>by have:=GZ h1 (h.sub c d hd) (h.low c h1).2;rw[e]at this;omega
  rw[qah e];exact h.kid c h1 d hd
 sub:=h.sub
 cnt b hb:=Nat.le_trans (Nat.add_le_add_left (qaL (λc hc=>(Ka hc).1) b 256) _) (h.cnt b hb)
 live c hc:=h.live c (Ka hc).1
 low c hc:=h.low c (Ka hc).1
theorem Kr{t:List UInt8}{b:Nat}(h:qO t b≠0)(c:Nat):qO (Vi t b) c=if c=b then qO t b-1 else qO t c:=by
 have hl:b<t.length:=by by_cases h1:b<t.length;exact h1;exact absurd (Yz zO) h
 have h2:=KT t b;unfold Vi;by_cases e:c=b;subst e;rw[if_pos rfl,VC hl,UInt8.toNat_ofNat'];omega;rw[if_neg e,Jt e]
theorem Cov.loose(h:Cov ks rs t (b::R) M)(hb:0<b):∃M',Cov ks rs (Vi t b) R M'/\YW R M M':=by
 have h1:=h.cnt b hb;rw[List.count_cons_self]at h1;have hne:qO t b≠0:=zO;have hc:∀c,0<c->R.count c+JX rs M c 256<=qO (Vi t b) c:=λc hc=>by
  rw[Kr hne c];split;rename_i e;subst e;omega;rename_i e;have:=h.cnt c hc
  rwa [List.count_cons_of_ne (λx=>e x.symm)]at this
 by_cases hM:M b=E/\qO t b=1;have h0:JX rs M b 256=0:=zO;have hr:R.count b=0:=zO;have hd:=h.drop hM.1 h0;refine⟨qaR M b,⟨hd.kid,h.sub,λc hcp=>Nat.le_trans (Nat.add_le_add_left (qaL (λd hd=>(Ka hd).1) c 256) _) (hc c hcp),λc hcM=>?_,hd.low⟩,λc hc=>(Ka hc).1,λc hcR hcM=>?_⟩;obtain⟨k1,k2⟩:=Ka hcM;rw[Kr hne c,if_neg k2];exact h.live c k1;rw[qah];exact hcM;rintro rfl;exact absurd hcR (List.count_eq_zero.1 hr);refine⟨M,⟨h.kid,h.sub,hc,λc hcM=>?_,h.low⟩,YW.refl _ _⟩;rw[Kr hne c];split;rename_i e;subst e;intro e;exact hM ⟨hcM,zO⟩;exact h.live c hcM
theorem Cov.looseL:∀{l:List Nat}{t t':List UInt8}{M:Nat->Bool},Cov ks rs t (l++R) M->looseL l t=.ok t'->∃M',Cov ks rs t' R M'/\YW R M M'
 |[],t,t',M,h,e=>by cases e;exact⟨M,h,YW.refl _ _⟩
 |a::l,t,t',M,h,e=>by by_cases ha:a=0;subst ha;rw[ZQ]at e;exact Cov.looseL (h.perm λb hb=>by rw[List.cons_append,List.count_cons_of_ne zO];exact zM _) e;by_cases h0:qO t a=0;rw[js ha h0]at e;cases e;rw[ZP ha h0]at e;obtain⟨M1,h1,l1⟩:=Cov.loose (R:=l++R) h zO;obtain⟨M2,h2,l2⟩:=Cov.looseL h1 e;exact⟨M2,h2,(l1.mono λ_ x=>List.mem_append_right _ x).trans l2⟩
end
section
variable {S:Sto} {R:List Nat}
theorem Xx{S:Sto}{a:Nat}{lvl:Int}{xs:List It}(hn:qm S a=F (lvl,xs)){b:Nat}(hb:0<b):(qB xs).count b=(QZ S a).count b:=by unfold QZ qB;rw[hn];simp only;rw[List.count_filter (by simpa using(show b≠0 by omega))]
theorem TX{S:Sto}{a:Nat}{lvl:Int}{xs:List It}(hn:qm S a=F (lvl,xs))(hl:0<lvl):ZD S a=QZ S a:=by unfold ZD;rw[hn];simp only;rw[if_pos hl]
theorem Cov.gone{t:List UInt8}{M:Nat->Bool}{a:Nat}{lvl:Int}{xs:List It}(h:Cov (ZD S) (QZ S) t (a::R) M)(hM:M a=E)(h1:qO t a=1)(hn:qm S a=F (lvl,xs)):Cov (ZD S) (QZ S) (t.set a 0) (qB xs++R) (qaR M a)/\R.count a=0/\(∀r∈ZD S a,qaR M a r=E):=by
 obtain⟨ha0,ha2⟩:=h.low a hM;have h2:=h.cnt a ha0;rw[List.count_cons_self,h1]at h2;have h0:JX (QZ S) M a 256=0:=zO;have hR:R.count a=0:=zO;have hd:=h.drop hM h0;have hl:a<t.length:=by by_cases hx:a<t.length;exact hx;rw[Yz zO]at h1;cases h1
 have hra:(QZ S a).count a=0:=by have:=qaM (rs:=QZ S) (b:=a) hM 256;rw[if_pos ha2]at this;omega
 refine⟨⟨hd.kid,h.sub,λb hb=>?_,λc hc=>?_,hd.low⟩,hR,λr hr=>?_⟩;rw[List.count_append,Xx hn hb];have h3:=qaM (rs:=QZ S) (b:=b) hM 256;rw[if_pos ha2]at h3;by_cases e:b=a;subst e;rw[VC hl];show _<=0;omega;rw[Jt e];have h4:=h.cnt b hb;rw[List.count_cons_of_ne (λx=>e x.symm)]at h4;omega;obtain⟨k1,k2⟩:=Ka hc;rw[Jt k2];exact h.live c k1;rw[qah];exact h.kid a hM r hr;rintro rfl;have:=List.count_pos_iff.2 (h.sub r r hr);omega
theorem Cov.foldl{f:List UInt8->Nat->Option (List UInt8)}(hf:∀{t t':List UInt8}{a:Nat}{R:List Nat}{M:Nat->Bool},Cov (ZD S) (QZ S) t (a::R) M->M a=E->f t a=t'->∃M',Cov (ZD S) (QZ S) t' R M'/\YW R M M'):∀(l:List Nat){t t':List UInt8}{M:Nat->Bool},Cov (ZD S) (QZ S) t (l++R) M->(∀r∈l,M r=E)->l.foldl (λacc r=>acc.bind λt=>f t r) (F t)=t'->∃M',Cov (ZD S) (QZ S) t' R M'/\YW R M M'
 |[],t,t',M,h,_,e=>by cases e;exact⟨M,h,YW.refl _ _⟩
 |a::l,t,t',M,h,hM,e=>by
  rw[List.foldl_cons,Option.bind_some]at e;rcases e1:f t a with _|t1
  rw[e1]at e;exfalso;have:∀l:List Nat,l.foldl (λacc r=>acc.bind λt=>f t r) Oa=Oa:=λl=>by
   induction l with
   |nil=>rfl
   |cons x l ih=>rw[List.foldl_cons];exact ih
  rw[this]at e;cases e;rw[e1]at e;obtain⟨M1,h1,l1⟩:=hf (R:=l++R) h (hM a List.mem_cons_self) e1;obtain⟨M2,h2,l2⟩:=Cov.foldl hf l h1 (λr hr=>l1.keep r (List.mem_append_left _ hr) (hM r (List.mem_cons_of_mem _ hr))) e;exact⟨M2,h2,(l1.mono λ_ x=>List.mem_append_right _ x).trans l2⟩
theorem Cov.leaveF:∀(h:Nat)(lvl:Int){t t':List UInt8}{a:Nat}{R:List Nat}{M:Nat->Bool},Cov (ZD S) (QZ S) t (a::R) M->M a=E->leaveF S h lvl t a=t'->∃M',Cov (ZD S) (QZ S) t' R M'/\YW R M M'
 |0,lvl,t,t',a,R,M,_,_,e=>by cases e
 |h+1,lvl,t,t',a,R,M,hc,hM,e=>by
  rw[vE]at e;split at e;cases e;rename_i h0;split at e;cases e;exact hc.loose (hc.low a hM).1;rename_i h1;split at e;cases e;rename_i l xs hn;split at e;cases e;obtain⟨hg,hR,hk⟩:=hc.gone hM zO hn;have hlw:YW R M (qaR M a):=⟨λc hc=>(Ka hc).1,λc hcR hcM=>by
   rw[qah];exact hcM
   ·rintro rfl;exact absurd hcR (List.count_eq_zero.1 hR)⟩
  split at e;rename_i hl;obtain⟨M',h2,l2⟩:=Cov.foldl (R:=R) (f:=λt r=>Go.Proofs.YtmeadnlmepcmbaaGreat.leaveF S h (l-1) t r) (λhc hM e=>Cov.leaveF h (l-1) hc hM e) (qB xs) hg (λr hr=>hk r (by rw[TX hn hl];have h8:=(qcZ hn hl r hr).1;have:=Xx hn (show 0<r by omega);have hp:=List.count_pos_iff.2 hr;exact List.count_pos_iff.1 zO)) e;exact⟨M',h2,hlw.trans l2⟩;split at e;cases e;rename_i t1 el;cases e;obtain⟨M',h2,l2⟩:=Cov.looseL (R:=R) hg el;exact⟨M',h2,hlw.trans l2⟩
end
theorem qcT{h r b:Nat}{t t':List UInt8}(hl:S.now.length=256)(hn:qm S r=F (((h+1:Nat):Int),[y]))(hy:y.r=(b:Int))(h8:8<=b)(hb:b<256)(hbr:b≠r)(h0:qO S.now b≠0)(e:Zz S.now b=.ok t)(e':QD (qu S t) (-1) t r=t'):t=QB S.now b 1/\∀q (l:Int) nd,q≠r->qm S q=F (l,nd)->qm (qu S t') q=F (l,nd):=by
 unfold Zz at e;rw[if_neg zO,if_neg h0]at e;split at e;cases e;rename_i hNY;cases e;refine⟨rfl,?_⟩;have hcn:∀q,qO (QB S.now b 1) q=qO S.now q+if q=b then 1 else 0:=λq=>by unfold QB;rw[kM _ zO];split;rename_i e;subst e;have h2:=KT S.now q;rw[UInt8.toNat_ofNat'];omega;rfl
 have hEJ:∀q,q≠r->qO S.now q≠0->qO t' q≠0:=λq hq hc=>by
  have h1:=hcn q;rw[VP]at e';split at e';cases e';split at e';cases e';rw[Kr (by assumption)];rw[if_neg hq];omega;have hn1:qm (qu S (QB S.now b 1)) r=F (((h+1:Nat):Int),[y]):=by have h3:=hcn r;rw[if_neg (λe=>hbr e.symm)]at h3;unfold qm at hn⊢;unfold qO at h3;split at hn;cases hn;rename_i hz;rw[if_neg (by show ¬((QB S.now b 1)[r]?.getD 0).toNat=0;omega)];exact hn
  rw[hn1]at e';simp only at e';rw[if_neg zO,if_pos zO]at e';have hrf:qB [y]=[b]:=by simp[qB,hy]
  rw[hrf]at e';simp only[List.map_cons,List.map_nil,JW]at e';have hcs:∀q,qO ((QB S.now b 1).set r 0) q=if q=r then 0 else qO (QB S.now b 1) q:=λq=>by by_cases hr:r<(QB S.now b 1).length;rw[kM _ hr];rfl;rw[List.set_eq_of_length_le zO];split;rename_i e;subst e;unfold qO;rw[List.getElem?_eq_none zO];rfl;rfl
  have hb2:qO ((QB S.now b 1).set r 0) b=qO S.now b+1:=by rw[hcs,if_neg hbr,hcn,if_pos rfl]
  split at e';cases e';rename_i t1 hl1;cases e';rw[VP,if_neg zO,if_pos zO]at hl1;cases hl1;rw[Kr zO];split;omega;rw[hcs,if_neg hq];omega
 intro q l nd hq hnq;unfold qm at hnq⊢;split at hnq;cases hnq;rename_i hz;rw[if_neg (by have:=hEJ q hq hz;exact this)];exact hnq
theorem qaF(h:qm S a=nd):qO S.now a≠0:=λe=>by
 have e2:qm S a=if qO S.now a=0 then Oa else QO (Jm S a):=rfl
 rw[e2,if_pos e]at h;cases h
def LowQ(D:Nat->Prop)(B lo b g:Nat)(k:Option Nat)(q:Except Int (Nat×Sto))(w:Z)(e:Ending)(W:Z):Prop:=Ql lo b g k w W /\
 match q with
 |.error er=>er≠0/\∃v:Int,e=I (Y #[v,er])
 |.ok (r,S')=>qk S'=E/\r<256/\e=I (Y #[(r:Int),O Q 0])/\Bch D B lo b g k S' W
theorem Xd{a:Act}(h4:a.tmps[4]?.getD undef=u)(h5:a.tmps[5]?.getD undef=v)(hd:a.defers=[])(hR:R (I (Y #[u,v])) W):bodyPost prog Tryz.f120 R .ret a W:=by refine bodyPost_ret (v:=Y #[u,v]) ?_ hd hR;simp[results,results120,go_sem,h4,h5]
structure LowI(D:Nat->Prop)(B lo b g:Nat)(k:Option Nat)(S:Sto)(q:Except Int (Nat×Sto))(w:Z)(i:Value)(W:Z):Prop where
 ex:∃(r:Nat)(S':Sto)(n:Nat)(ys:List It)(m:Nat),i=O Q (r:Int)/\8<=r/\r<256/\qk S'=E/\qm S r=F ((n:Int),ys)/\XJ S n ys/\(∀q (l:Int) nd,l<=(n:Int)->qm S q=F (l,nd)->qm S' q=F (l,nd))/\n<m/\Zo m S' r=q/\Bch D B lo b g k S' W
 keep:Ql lo b g k w W
set_option maxRecDepth 100000 in
theorem qjw(D:Nat->Prop)(B lo b g:Nat)(k:Option Nat)(S:Sto)(hS:qk S=E)(f:Nat)(hf:8<=f)(hf2:f<256)(H:Nat)(its:List It)(hn:qm S f=F ((H:Int),its))(hEZ:XJ S H its)(m:Nat)(hm:H<m)(w:Z)(h:Bch D B lo b g k S w):Calls prog 120 #[Ob b,O Q (f:Int)] w (LowQ D B lo b g k (Zo m S f) w):=by
 obtain⟨q,hq⟩:∃q,Zo m S f=q:=⟨_,rfl⟩
 rw[hq];have I0:Hid (LowI D B lo b g k S q w (O Q (f:Int)) w):=zH ⟨⟨f,S,H,its,m,rfl,hf,hf2,hS,hn,hEZ,λ_ _ _ _ h=>h,hm,hq,h⟩,Ql.refl _ _ _ _ _⟩;clear hS hf hf2 hn hEZ hm h hq;go_enter func120,ntmps120;go_wp2_with fail;go_loopw [1,4,5] (λv x y wr=>LowI D B lo b g k S q w v wr) (λv _ _ _=>vF S v)
 case atStart=>exact I0.out
 case round=>
  obtain⟨⟨r,S',n,ys,m,rfl,hr8,hr2,hS',hn,hEZ,hCC,hnm,hq,hb⟩,hk⟩:=hrel;clear I0;have wGJ:=zH (VR hn);have hn':=hCC r _ _ (Int.le_refl _) hn;have hlb:=hb.size.1;have HN:=zH (by obtain⟨A1',n1',c1',A2',n2',c2',c3',A4',c4',hr',hJP⟩:=hb.sto;exact Vn lo b A1' n1' c1' A2' n2' c2' _ 256 c3' A4' 256 c4' S' hS' r hr8 hr2 wr ⟨hlb,hr',hJP⟩:Calls prog 145 #[Ob (F ⟨b,0,Oa⟩),O Q (r:Int)] wr (zv (qcl wr.heap.size (qm S' r)) wr));rw[hn']at HN;replace⟨hb,hk,hn,hn',hEZ,hCC⟩:=zH6 hb hk hn hn' hEZ hCC;replace⟨hq,hS',hnm,hlb,hr8,hr2⟩:=zH6 hq hS' hnm hlb hr8 hr2;go_wp2_with fail;refine HN.out.mono ?_;clear HN;rintro e w2 ⟨u,rfl,⟨A9,c9,rfl,hBE⟩,hB⟩;have x2:Ext wr w2:=hB;replace hBE:=zH hBE;clear hB;go_upto_region 2 with fail;generalize hw3:World.alloc w2 _=w3;have x23:Ext w2 w3:=hw3▸zN _ _;have x3:Ext wr w3:=x2.trans x23;have r3:w3.heap[w2.heap.size]?=F (Oc #[O Q n,U A9 ys.length c9] 113 (0,0)):=hw3▸zI _ _ _ rfl;have k3:=qa r3;have hb3:=zH (hb.out.ext x3);have hk3:Hid (Ql lo b g k w w3):=zH (hk.out.trans (Ql.of_ext x3 (by have:=hb.out.size.2.2.2.2.2.1;omega)) (Zq.refl _ _));replace hBE:=zH (hBE.out.ext x23);clear hw3 x2 x23 hb hk;have hZP:Hid (∀W,Ext w3 W->Zo m S' r=.ok (r,S')->LowQ D B lo b g k q w (I (Y #[O Q (r:Int),O Q 0])) W):=zH λW hW e=>⟨hk3.out.trans (Ql.of_ext hW (by have:=hb3.out.size.2.2.2.2.2.1;omega)) (Zq.refl _ _),by rw[<-hq.out,e];exact⟨hS'.out,hr2.out,rfl,hb3.out.ext hW⟩⟩
  obtain⟨m',rfl⟩:∃m',m=m'+1:=⟨m-1,by have:=hnm.out;omega⟩
  rcases Nat.eq_zero_or_pos n with h0|h0
  ·have z1:((n:Int)==0)=E:=by rw[beq_iff_eq];omega
   have z2:decide (n=0)=E:=decide_eq_true h0;have he:Zo (m'+1) S' r=.ok (r,S'):=by simp only[Zo,hn'.out];split;rw[if_pos zO];rfl
   have hR:=zH (hZP.out w3 (Ext.refl _) he);replace h0:=zH h0;clear hZP he hq hnm hCC hEZ hn hn' hb3 hk3 hBE wGJ;go_wp2_with fail;exact Xd rfl rfl rfl hR.out
  have z1:((n:Int)==0)=false:=by rw[beq_eq_false_iff_ne];omega
  have z2:decide (n=0)=false:=decide_eq_false zO;by_cases h1:ys.length=1
  ·obtain⟨y,hy⟩:∃y,ys=[y]:=List.length_eq_one_iff.1 h1;obtain⟨n',hn1⟩:∃n',n=n'+1:=⟨n-1,zO⟩
   have hl2:=hEZ.out;rw[hn1]at hl2;obtain⟨c,zs,e1,hc8,hc2,hcn,hcl⟩:=hl2 y hy;have hA:=hBE.out.its.at_.2.2.2;obtain⟨b9,off,rfl,hb9⟩:=hA zO;obtain⟨A',c',-,-,-,d3,-,-⟩:=hBE.out.its.item 0 zO;have d3':w3.cell? (b9,off+3)=F (O Q (c:Int)):=by
    have e:ys[0]'(by omega)=y:=by simp[hy]
    rw[e,e1,Nat.zero_mul,Nat.add_zero]at d3;exact d3
   rw[h1]at k3;clear r3;have hS3:=hb3.out;have hKQ:qO S'.now c≠0:=qaF (hCC.out c _ _ zO hcn);have hcr:c≠r:=λe=>by subst e;have h5:=hn.out;rw[hcn]at h5;simp only[Option.some.injEq,Prod.mk.injEq]at h5;omega
   have hCR:Hid (Zo (m'+1) S' r=match Zz S'.now c with
    |.error e=>.error e
    |.ok t=>match QD (qu S' t) (-1) t r with
     |none=>.error 8
     |some t'=>Zo m' (qu S' t') c):=zH (by
    simp only[Zo,hn'.out,hy,e1,Int.toNat_natCast];rw[if_neg zO]<;>rfl)
   have HSh:=zH (qcp D B lo b g k S' c hc2 w3 hb3.out);replace⟨h1,hy,hcl,hcn,hn1,hKQ⟩:=zH6 h1 hy hcl hcn hn1 hKQ;replace⟨hcr,hc8,hc2,e1⟩:=zH4 hcr hc8 hc2 e1;clear hS3 d3 hA hl2 h0 hBE hZP;go_wp2_with fail;refine HSh.out.mono ?_;clear HSh;rintro e V1 ⟨hk4,hAP⟩;have hk5:=hk3.out.trans hk4 (Zq.refl _ _);rcases hAP with⟨h0,-⟩|⟨hNY,rfl⟩|⟨-,hNY,rfl,hb5⟩
   exact absurd h0 hKQ.out
   ·have hQ:Hid (LowQ D B lo b g k q w (I (Y #[O Q 0,O Q 70])) V1):=zH ⟨hk5,by rw[<-hq.out,hCR.out];unfold Zz;rw[if_neg (by have:=hc8.out;omega),if_neg hKQ.out,if_pos hNY];exact⟨zA1,0,rfl⟩⟩;clear hk4 hk5 hCR hb3 hk3;go_wp2_with fail;exact Xd rfl rfl rfl hQ.out
   have hsh:Zz S'.now c=.ok (QB S'.now c 1):=by unfold Zz;rw[if_neg (by have:=hc8.out;omega),if_neg hKQ.out,if_neg hNY]
   have hSt:qk (qu S' (QB S'.now c 1))=E:=vX hS'.out (Gh (.inr hc8.out) (qE.1 hS'.out).2.1 hsh);have HL:=zH (YY D B lo b g k (qu S' (QB S'.now c 1)) hSt r hr8.out hr2.out V1 hb5);replace⟨hsh,hSt,hNY,hk5⟩:=zH4 hsh hSt hNY hk5;clear hk4 hb5 hb3 hk3;go_wp2_with fail;refine HL.out.mono ?_;clear HL;rintro e V2 ⟨hk6,hAP⟩;have hk7:=hk5.out.trans hk6 (Zq.refl _ _);have hnw:(qu S' (QB S'.now c 1)).now=QB S'.now c 1:=rfl;rw[hnw]at hAP;rcases hlv:QD (qu S' (QB S'.now c 1)) (-1) (QB S'.now c 1) r with _|t'
   ·rw[hlv]at hAP;obtain rfl:=hAP;have hQ:Hid (LowQ D B lo b g k q w (I (Y #[O Q 0,O Q 8])) V2):=zH ⟨hk7,by rw[<-hq.out,hCR.out,hsh.out];simp only[hlv];exact⟨zA1,0,rfl⟩⟩;clear hk6 hk7 hk5 hCR hlv;go_wp2_with fail;exact Xd rfl rfl rfl hQ.out
   rw[hlv]at hAP;obtain⟨rfl,hb7⟩:=hAP;have hJK:=(qcT (h:=n') (by have:=qZ hS'.out;omega) (by rw[<-hn1.out,<-hy.out];exact hn'.out) e1.out hc8.out hc2.out hcr.out hKQ.out hsh.out hlv).2;have hF:LowI D B lo b g k S q w (O Q (c:Int)) V2:=⟨⟨c,qu S' t',n',zs,m',rfl,hc8.out,hc2.out,vX hS'.out (JC hr8.out (qE.1 hSt.out).2.1 hlv),hcn.out,hcl.out,λq' l nd hl hqq=>hJK q' l nd (λe=>by have h5:=hn.out;rw[<-e,hqq]at h5;simp only[Option.some.injEq,Prod.mk.injEq]at h5;have:=hn1.out;omega) (hCC.out q' l nd (by have:=hn1.out;omega) hqq),by have:=hnm.out;have:=hn1.out;omega,by rw[<-hq.out,hCR.out,hsh.out];simp only[hlv],hb7⟩,hk7⟩
   have hms:vF S (O Q (c:Int))<vF S (O Q (r:Int)):=by rw[VR hcn.out,wGJ.out];have:=hn1.out;omega
   replace⟨hF,hms⟩:=zH2 hF hms;clear hk6 hk7 hk5 hCR hlv hJK hb7;go_wp2_with fail;exact⟨hF.out,hms.out⟩
  have l1:((ys.length:Int)!=1)=E:=by rw[bne_iff_ne];omega
  have l2:decide (ys.length=1)=false:=decide_eq_false h1;have he:Zo (m'+1) S' r=.ok (r,S'):=by simp only[Zo,hn'.out];split;exact absurd rfl h1;rfl
  have hR:=zH (hZP.out w3 (Ext.refl _) he);replace⟨h0,h1⟩:=zH2 h0 h1;clear hZP he hq hnm hCC hEZ hn hn' hb3 hk3 hBE wGJ;go_wp2_with fail;exact Xd rfl rfl rfl hR.out
end Go.Proofs.YtmeadnlmepcmbaaGreat
namespace Go.Proofs.YtmeadnlmepcmbaaGreat
open Go.RowKit Go.Shelf
attribute [local go_sem] Oper.semAt_some
variable {W W':World}{v:Value}
abbrev Ud:Type:=Stp×Sl
abbrev udz:Ud:=((0,[],0),(Oa,0,0))
set_option maxRecDepth 100000 in
theorem backd_in(n:Nat)(hn:1<=n)(l Bs b off len cap:Nat)(us:List Ud)(hDE:len<1099511627776)(J Jx:List Nat->Z->Prop)(hY:∀pre (x:Nat) W,J pre W->pre.length<len->x<len->YieldAt Fence.wide (n-1) prog l #[(x:Int),.agg #[O Q ((us[x]?.getD udz).1.1:Int),sv (us[x]?.getD udz).2,O Q ((us[x]?.getD udz).1.2.2:Int)]] W λe W'=>
   (e=I (.bool E)/\J (pre++[x]) W'/\Qx Bs b W W')\/(e=I (.bool false)/\Jx (pre++[x]) W'))
  (W:Z) (hBs:W.cell? Bs=F (U (b,off) len cap)) (hc:∀i,i<len->W.cell? ⟨b,off+i*3,Oa⟩=F (O Q ((us[i]?.getD udz).1.1:Int))/\W.cell? ⟨b,off+i*3+1,Oa⟩=F (sv (us[i]?.getD udz).2)/\W.cell? ⟨b,off+i*3+2,Oa⟩=F (O Q ((us[i]?.getD udz).1.2.2:Int))) (h0:J [] W) :
  CallsIn Fence.wide n prog 163 #[.func (.yield l) #[] #[],Ob Bs] W λe W'=>(∃v,e=I v) /\
   ((∃ys,ys=jf (λj=>len-1-j) len/\J ys W')\/(∃pre,(∃k,k<=len/\pre=jf (λj=>len-1-j) k)/\Jx pre W')):=by
 refine callsIn_of_wp func163 rfl trivial ?_ rfl;simp only[ntmps163,List.size_toArray,List.length_cons,List.length_nil,Nat.reduceAdd,Nat.reduceSub,Array.replicate_succ,Array.replicate_zero,List.push_toArray,List.append_toArray,List.nil_append,List.cons_append]
 gi_wp2
 gi_loopw [3] (λi wr=>∃k:Nat,k<=len/\i=O Q ((len:Int)-1-k)/\J (jf (λj=>len-1-j) k) wr/\Qx Bs b W wr)
  (λi _=>(intOf i+1).toNat)
 case atStart=>exact⟨0,Nat.zero_le _,zA3,h0,Qx.refl _ _ _⟩
 case round=>
  obtain⟨k,hk,rfl,hJs,hnx⟩:=hrel;have hBr:wr.cell? Bs=F (U (b,off) len cap):=(World.cell?_of_block (w:=W) hnx.1).trans hBs;by_cases hlt:k<len
  ·obtain⟨fn,tmps,assign,body,hy,hR⟩:=hY _ (len-1-k) wr hJs (by rw[ZA];exact hlt) zO;have hc0:=(World.cell?_of_block (w:=W) (a:=⟨b,off+(len-1-k)*3,Oa⟩) hnx.2).trans (hc (len-1-k) zO).1;have hc1:=(World.cell?_of_block (w:=W) (a:=⟨b,off+(len-1-k)*3+1,Oa⟩) hnx.2).trans (hc (len-1-k) zO).2.1;have hc2:=(World.cell?_of_block (w:=W) (a:=⟨b,off+(len-1-k)*3+2,Oa⟩) hnx.2).trans (hc (len-1-k) zO).2.2;try dsimp only at hy
   obtain⟨i,hi⟩:∃i:Nat,len-1-k=i:=⟨_,rfl⟩
   have hi2:(len:Int)-1-k=(i:Int):=zO;have hil:i<len:=zO;have hik:k+i+1<=len/\len<=k+i+1:=zO;have HU:=zH (VA (λj=>len-1-j) k);obtain⟨u,hu⟩:∃u,us[i]?.getD udz=u:=⟨_,rfl⟩
   rw[hi]at hc0 hc1 hc2 hy hR;rw[hu]at hc0 hc1 hc2 hy;rw[hi2];clear hi2;clear hu;have HI:=zH hi;clear hi
   gi_wp2
   refine hR.mono ?_;rintro e W3 (⟨rfl,hJ3,hk3⟩|⟨rfl,hKP⟩)
   ·gi_wp2
    go_roundw
    case rel=>exact⟨k+1,zO,by go_num,by rw[HU.out,HI.out];exact hJ3,hnx.t hk3⟩
    case measure=>simp[intOf]
   gi_wp2
   refine bodyPost_ret (results_none rfl _ _ _) rfl ?_;exact⟨⟨_,rfl⟩,.inr ⟨_,⟨k+1,zO,by rw[HU.out,HI.out]⟩,hKP⟩⟩
  obtain rfl:k=len:=zO
  gi_wp2
  go_end0;exact⟨⟨_,rfl⟩,.inl ⟨_,rfl,hJs⟩⟩
set_option maxRecDepth 100000 in
theorem qfJ(n l Bs c:Nat)(A:OA)(J:List Nat->Z->Prop)(W:Z)(hBs:W.cell? Bs=F (U A 0 c))(h0:J [] W):CallsIn Fence.wide n prog 163 #[.func (.yield l) #[] #[],Ob Bs] W λe W'=>(∃v,e=I v)/\J [] W':=by
 refine callsIn_of_wp func163 rfl trivial ?_ rfl;simp only[ntmps163,List.size_toArray,List.length_cons,List.length_nil,Nat.reduceAdd,Nat.reduceSub,Array.replicate_succ,Array.replicate_zero,List.push_toArray,List.append_toArray,List.nil_append,List.cons_append]
 gi_wp2
 gi_loopw [3] (λi wr=>i=O Q (-1)/\J [] wr) (λ_ _=>0)
 case atStart=>exact⟨rfl,h0⟩
 case round=>
  obtain⟨rfl,hJs⟩:=hrel
  gi_wp2
  go_end0;exact⟨⟨_,rfl⟩,hJs⟩
def SWd(W:Z)(Bs b:Nat)(v:Value)(us:List Ud):Prop:=
 W.cell? Bs=v/\((us=[]/\∃A c,v=U A 0 c)\/∃off cap,v=U (F ⟨b,off,Oa⟩) us.length cap/\∀i,i<us.length->W.cell? ⟨b,off+i*3,Oa⟩=F (O Q ((us[i]?.getD udz).1.1:Int))/\W.cell? ⟨b,off+i*3+1,Oa⟩=F (sv (us[i]?.getD udz).2)/\W.cell? ⟨b,off+i*3+2,Oa⟩=F (O Q ((us[i]?.getD udz).1.2.2:Int)))
theorem SWd.keep{Bs b:Nat}{us:List Ud}(h:SWd W Bs b v us)(hk:Qx Bs b W W'):SWd W' Bs b v us:=by
 refine⟨(World.cell?_of_block (w:=W) hk.1).trans h.1,?_⟩;rcases h.2 with h|⟨off,cap,e,hc⟩
 exact .inl h;exact .inr ⟨off,cap,e,λi hi=>⟨(World.cell?_of_block (w:=W) hk.2).trans (hc i hi).1,(World.cell?_of_block (w:=W) hk.2).trans (hc i hi).2.1,(World.cell?_of_block (w:=W) hk.2).trans (hc i hi).2.2⟩⟩
theorem qhc(n:Nat)(hn:1<=n)(Bs b:Nat)(v:Value)(us:List Ud)(hDE:us.length<1099511627776)(w:Z)(hBs:Bs<w)(hb:b<w)(hS:SWd w Bs b v us):SeqStopsK Fence.wide n prog 163 #[Ob Bs] (λx:{j:Nat // j<us.length}=>#[(x.1:Int),.agg #[O Q ((us[x.1]?.getD udz).1.1:Int),sv (us[x.1]?.getD udz).2,O Q ((us[x.1]?.getD udz).1.2.2:Int)]]) (Qx Bs b) (λys=>ys.map (·.1)=jf (λj=>us.length-1-j) us.length)
   (λpre=>∃k,k<=us.length/\pre.map (·.1)=jf (λj=>us.length-1-j) k) us.length w:=λl J Jx W hW _ _ hY h0=>by
 obtain⟨hc,h⟩:=hS.keep (Qx.below hW hBs hb);rcases h with⟨rfl,A,c,rfl⟩|⟨off,cap,rfl,hcs⟩
 exact(qfJ n l Bs c A (λpre W=>pre=[]/\J [] W) W hc ⟨rfl,h0⟩).mono λe W' ⟨he,hj⟩=>⟨he,.inl ⟨[],rfl,hj.2⟩⟩
 refine(backd_in n hn l Bs b off us.length cap us hDE (λpre W=>∃p':List {j:Nat // j<us.length},p'.map (·.1)=pre/\J p' W) (λpre W=>∃p':List {j:Nat // j<us.length},p'.map (·.1)=pre/\Jx p' W) (λpre x W hJ hl hx=>?_) W hc hcs ⟨[],rfl,h0⟩).mono λe W' ⟨he,hj⟩=>⟨he,?_⟩
 obtain⟨p',rfl,hJ⟩:=hJ;obtain⟨fn,tmps,assign,body,hy,hR⟩:=hY p' ⟨x,hx⟩ W hJ (by simpa using hl);exact⟨fn,tmps,assign,body,hy,hR.mono λe W' h=>h.imp (λ⟨a,b,c⟩=>⟨a,⟨_,zA3,b⟩,c⟩) λ⟨a,b⟩=>⟨a,_,zA3,b⟩⟩;rcases hj with⟨ys,rfl,p',e,hJ⟩|⟨pre,⟨k,hk,rfl⟩,p',e,hJ⟩
 exact .inl ⟨p',e,hJ⟩;exact .inr ⟨p',⟨k,hk,e⟩,hJ⟩
theorem qdR(A m c)(w:Z):Calls prog 116 #[U A m c] w (λe w'=>e=I (.func (.func 163) #[] #[Ob w])/\w'=w.alloc (Oc #[U A m c] 160)):=by go_enter func116,ntmps116;go_wp2;go_ret;exact⟨rfl,rfl⟩
end Go.Proofs.YtmeadnlmepcmbaaGreat
namespace Go.Proofs.YtmeadnlmepcmbaaGreat
open Go.RowKit
variable {S S':Sto}{xs hs l0:List It}{p j L lo n:Nat}{k:K3}{ps l:List Stp}{e:Int}{s:Stp}{X:Nat->Prop}{w W w3:World}{v sv_:Value}{ips:List (It×Value)}{pre:List Nat}
theorem qif(S:Sto)(xs:List It)(i:Nat):∀y∈ZX S xs i,QW y:=λy hy=>by unfold ZX at hy;split at hy;cases hy;split at hy;cases hy;rename_i hn;exact((qJ hn).2.1 y hy).1
theorem joinX_ok{l:List It}(hl:∀y∈l,QW y):∀y∈(Zx S xs p l).1,QW y:=λy hy=>by unfold Zx at hy;split at hy;split at hy;exact hl y hy;split at hy;exact hl y hy;exact(List.mem_append.1 hy).elim (qif S xs _ y) (hl y);split at hy;exact hl y hy;exact(List.mem_append.1 hy).elim (hl y) (qif S xs _ y)
theorem qme{l:List It}(hp:p<xs.length)(h5:l.length<=5):(Zx S xs p l).2.1+(Zx S xs p l).2.2<=xs.length/\((Zx S xs p l).2.2=1\/(Zx S xs p l).2.2=2)/\(Zx S xs p l).1.length<=5/\(l≠[]->(Zx S xs p l).1≠[]):=by unfold Zx;split;split;exact⟨hp,.inl rfl,h5,λh=>h⟩;split;exact⟨hp,.inl rfl,h5,λh=>h⟩;exact⟨by simp only;omega,.inr rfl,by simp only[List.length_append];omega,λh e=>h (List.append_eq_nil_iff.1 e).2⟩;split;exact⟨hp,.inl rfl,h5,λh=>h⟩;exact⟨by simp only;omega,.inr rfl,by simp only[List.length_append];omega,λh e=>h (List.append_eq_nil_iff.1 e).1⟩
theorem qiZ:∀(h:Nat){a:Nat}{xs:List It},qm S a=F ((h:Int),xs)->(qC S h xs).isSome=E->∀s∈jA S k h xs,0<s.1->∀y∈s.2.1,8<=y.r/\y.r<256
 |0,a,xs,hn,hs,s,hm,h0=>by
  rw[kj]at hm;obtain rfl:s=(0,xs,qD xs k):=by simpa using hm
  exact absurd h0 (Nat.lt_irrefl 0)
 |h+1,a,xs,hn,hs,s,hm,h0=>by
  have hx:=vW (qJ hn).1 zO;obtain⟨b,e1,-,-,zs,e4,e5⟩:=QH (QC hs _ (List.getElem_mem (za (k:=k) hx)));rw[JL (zL (za hx)) (by rw[e1,Int.toNat_natCast];exact e4)]at hm;rcases List.mem_cons.1 hm with rfl|hm
  intro y hy;obtain⟨c,f1,f8,f256,-⟩:=QH (QC hs y hy);omega;exact qiZ h e4 e5 s hm h0
theorem qlA {S:Sto} {k:K3}:∀ (h:Nat) {a:Nat} {xs:List It},qm S a=some ((h:Int),xs)->(qC S h xs).isSome=true->∀ j,j<=h->(sAt (jA S k h xs) j).1=h-j
 |0,a,xs,hn,hs,j,hj=>by obtain rfl:j=0:=zO;rfl
 |h+1,a,xs,hn,hs,j,hj=>by
  have hx:=vW (qJ hn).1 zO;obtain⟨b,e1,-,-,zs,e4,e5⟩:=QH (QC hs _ (List.getElem_mem (za (k:=k) hx)));rw[JL (zL (za hx)) (by rw[e1,Int.toNat_natCast];exact e4)];rcases j with _|j
  ·rfl
  ·have:=qlA (k:=k) h e4 e5 j zO;unfold sAt at this ⊢;rw[List.getElem?_cons_succ,this];omega
theorem qiY {S:Sto} {k:K3}:∀ (h:Nat) {a:Nat} {xs:List It},qm S a=some ((h:Int),xs)->(qC S h xs).isSome=true->(oneT S k h xs).isSome=true->∃ ys,sAt (jA S k h xs) h=(0,ys,qD ys k)/\qD ys k<ys.length
 |0,a,xs,hn,hs,h1=>by
  refine⟨xs,rfl,?_⟩;have hi:=qlb (jd hs).2 h1;rcases Nat.lt_or_ge (qD xs k) xs.length with h2|h2
  ·exact h2
  ·rw[kO zO] at hi;cases hi
 |h+1,a,xs,hn,hs,h1=>by
  have h0:=vW (qJ hn).1 zO;have hlt:=za (k:=k) h0;obtain⟨b,e1,-,-,zs,e4,e5⟩:=QH (QC hs _ (List.getElem_mem hlt));have hnb:qm S (xs[QE xs k].r).toNat=some ((h:Int),zs):=by rw[e1,Int.toNat_natCast];exact e4
  have hd:=(Uf (jd hs).2 h0 (TZ h1)).1;rw[Kw hd hnb] at h1;rw[JL (zL hlt) hnb];obtain⟨ys,f1,f2⟩:=qiY (k:=k) h e4 e5 h1;refine⟨ys,?_,f2⟩;unfold sAt at f1 ⊢;rw[List.getElem?_cons_succ];exact f1
theorem qjv{l:List It}(h:jB (ps.take j) l hs S=.error e):jB ps l hs S=.error e:=by have:ps=ps.take j++ps.drop j:=(List.take_append_drop _ _).symm;rw[this,vO,h]
theorem qju{l l' hs':List It}(h:jB ps l hs S=.ok (l',hs',S')):jB (ps++[s]) l hs S=JU S' s l' hs':=by rw[vO,h];exact qav _ _ _ _
theorem qmB(h:l.length=L+1):l.reverse=sAt l L::(l.take L).reverse:=by
 have h1:l=l.take L++[sAt l L]:=by
  have h2:=List.take_succ_eq_append_getElem (l:=l) (i:=L) zO;rw[List.take_of_length_le zO]at h2;have h3:sAt l L=l[L]:=by unfold sAt;rw[zL zO];rfl
  rw[h3];exact h2
 conv=>lhs;rw[h1]
 rw[List.reverse_append];rfl
theorem qiG(h:j<L):sAt (l.take L) j=sAt l j:=by unfold sAt;rw[List.getElem?_take,if_pos h]
theorem qhx(h:l.length=L+1)(S:Sto):qbN k l.reverse S=jB (l.take L).reverse (Ze (sAt l L).2.1 (sAt l L).2.2 1 []) [] S:=by rw[qmB h];rfl
def XD(B0 b g LB HB:Nat)(k:Option Nat)(q:Nat):Prop:=q<B0+5\/q=LB\/q=HB\/B3 b g k q
structure DelV(l:List Stp)(l0:List It)(S:Sto)(B0 lo b g LB HB TB SB CB w2:Nat)(w3:Z)(sv_:Value)(pre:List Nat)(W:Z):Prop where
 ex:∃(ls hs:List It)(S':Sto)(k':Option Nat)(D':Nat->Prop)(Al:OA)(cl:Nat)(lps:List (It×Value)),jB (pre.map (sAt l)) l0 [] S=.ok (ls,hs,S')/\qk S'=E/\ls.length<=5/\lps.map (·.1)=ls/\(∀y∈ls,QW y)/\(hs=[]\/∃y,hs=[y]/\8<=y.r/\y.r<256) /\
  jK (XD B0 b g LB HB k') W (U Al ls.length cl) lps/\W.heap[LB]?=F (Oc #[U Al ls.length cl] 55)/\W.heap[HB]?=F (Oc #[O Q (qhM hs)] 3)/\Bch D' B0 lo b g k' S' W
 r2:W.heap[B0+2]?=F (Oc #[U Oa 0 0,U Oa 0 0,U Oa 0 0,U Oa 0 0] 28)
 r3:W.heap[B0+3]?=F (Oc #[O Q 0] 3)
 r4:W.heap[B0+4]?=F (Oc #[O Q 0] 37)
 rT:W.heap[TB]?=F (Oc #[Ob b] 92)
 rC:∃A c,W.heap[CB]?=F (Oc #[U A l.length c] 160)
 rS:W.heap[SB]?=F (Oc #[sv_] 160)
 kx:qY (λq=>q<w2) w3 W
theorem jK.ck(h:jK X w v ips)(hk:Qj w W):jK X W v ips:=h.trans (qY.of_ck X hk) λ_ _ h=>h
theorem DelV.ck{B0 lo b g LB HB TB SB CB w2:Nat}(h:DelV l l0 S B0 lo b g LB HB TB SB CB w2 w3 sv_ pre w)(hk:Qj w W):DelV l l0 S B0 lo b g LB HB TB SB CB w2 w3 sv_ pre W:=by obtain⟨ls,hs,S',k',D',Al,cl,lps,h1,h2,h3,h4,h5,h6,h7,h8,h9,h10⟩:=h.ex;obtain⟨A,c,hC⟩:=h.rC;exact⟨⟨ls,hs,S',k',D',Al,cl,lps,h1,h2,h3,h4,h5,h6,h7.ck hk,hk.row h8,hk.row h9,h10.ck hk⟩,hk.row h.r2,hk.row h.r3,hk.row h.r4,hk.row h.rT,⟨A,c,hk.row hC⟩,hk.row h.rS,h.kx.trans (qY.of_ck _ hk) λ_ _ h=>h⟩
theorem jK.of_own{ps:List (It×Value)}(ho:w.ownsRow lo 51 5 v n (qG ps))(hl:ps.length=n)(hX:∀q,v.ownBlock=F q->¬X q)(hp:∀p∈ps,(∃A c,p.2=U A p.1.val.length c)/\∀C,qY X w C->Bys C C.heap.size p.2 p.1.val):jK X w v ps:=by
 obtain⟨A,c,rfl,h1,h2⟩:=qM ho;subst hl;refine⟨⟨A,c,rfl,h1,h2,λC hC=>⟨ho.1,λhn=>?_⟩⟩,hp⟩;rcases ho.2 with⟨_,h0⟩|⟨g,cap,cur,hv,hb,hg,hnc,_,hsz,htk⟩
 omega;have hne:¬X g:=hX g (by rw[hv];rfl);cases hv;have hc:∀j u,(qG ps)[j]?=F u->w.cell? ⟨g,0+j,Oa⟩=F u:=λj u hu=>by rw[Nat.zero_add,qa hg,<-Array.getElem?_toList];rw[<-htk,List.getElem?_take]at hu;split at hu;exact hu;cases hu
 have hl0:0<(qG ps).length:=by rw[ho.1];omega
 exact⟨g,0,rfl,World.block_lt_of_cell? C ⟨g,0+0,Oa⟩ (hC _ _ hne (hc 0 _ (zL hl0))),λj u hu=>hC _ _ hne (hc j u hu)⟩
end Go.Proofs.YtmeadnlmepcmbaaGreat
