/- Lemmas of the proof. -/
import Derived.Test.YtmeadnlmepcmbaaGreatZJ14
set_option linter.all false
set_option maxHeartbeats 8000000
open Go.Proofs.Tryz
namespace Go.Proofs.YtmeadnlmepcmbaaGreat
open Go.RowKit
theorem qax (k:Nat):∀ n,n<256 ^ k->JU (qB n k)=n:=by
 induction k with
 |zero=>intro n h;simp at h;subst h;rfl
 |succ k ih =>
  intro n h;simp only[qB,JU];rw[ih (n / 256) (by rw[Nat.div_lt_iff_lt_mul zO];rw[Nat.pow_succ] at h;exact h)];simp[UInt8.toNat_ofNat'];omega
theorem GU {n:Nat} (h:n<256):(UInt8.ofNat n).toNat=n:=by simp[UInt8.toNat_ofNat'];omega
theorem Xq {l A r:List UInt8} {a k n:Nat} (h:l.drop a=A++r) (hA:A=qB n k) (hn:n<256 ^ k) (hl:a+k<=l.length):Zp l a k=(n:Int):=by unfold Zp;rw[if_pos hl,h,List.take_left' (by rw[hA,QB]),hA,qax k n hn]
theorem VI {l A r:List UInt8} {a k:Nat} (h:l.drop a=A++r) (hk:A.length=k):l.drop (a+k)=r:=by rw[<-List.drop_drop,h,List.drop_left' hk]
theorem item_rt {x:It} (h:zu x) (hb:itB x.r x.val.length=true) (r:List UInt8):Zb (Zw x++r)=some (x,12+x.val.length):=by
 obtain⟨⟨k0,k1⟩,⟨i0,i1⟩,⟨o0,o1⟩,⟨r0,r1⟩,hv⟩:=h;obtain⟨k,i,o,rr,v⟩:=x;obtain⟨k,rfl⟩:=Int.eq_ofNat_of_zero_le k0;obtain⟨i,rfl⟩:=Int.eq_ofNat_of_zero_le i0;obtain⟨o,rfl⟩:=Int.eq_ofNat_of_zero_le o0;obtain⟨rr,rfl⟩:=Int.eq_ofNat_of_zero_le r0;simp only at k1 i1 o1 r1 hv hb ⊢;have hlen:(Zw ⟨(k:Int),(i:Int),(o:Int),(rr:Int),v⟩++r).length=12+v.length+r.length:=by rw[List.length_append,Xj]
 have d1:(Zw ⟨(k:Int),(i:Int),(o:Int),(rr:Int),v⟩++r).drop 1=qB i 4++(qB o 4++(qB rr 2++(UInt8.ofNat v.length :: (v++r)))):=by simp[Zw,List.append_assoc]
 have e0:(Zw ⟨(k:Int),(i:Int),(o:Int),(rr:Int),v⟩++r)[0]?.getD 0=UInt8.ofNat k:=by simp[Zw]
 generalize Zw ⟨(k:Int),(i:Int),(o:Int),(rr:Int),v⟩++r=l at *;have d5:l.drop 5=_:=VI (k:=4) d1 (QB _ _);have d9:l.drop 9=_:=VI (k:=4) d5 (QB _ _);have d11:l.drop 11=_:=VI (k:=2) d9 (QB _ _);have d12:l.drop 12=v++r:=by rw[show 12=11+1 from rfl,<-List.drop_drop,d11];rfl
 have e11:l[11]?.getD 0=UInt8.ofNat v.length:=by
  have:l[11]?=(l.drop 11)[0]?:=by rw[List.getElem?_drop]
  rw[this,d11];rfl
 have hsz:vJ l=12+v.length:=by unfold vJ;rw[e11,GU zO]
 have hit:qaQ l=⟨(k:Int),(i:Int),(o:Int),(rr:Int),v⟩:=by unfold qaQ;rw[e0,GU zO,Xq d1 rfl zO zO,Xq d5 rfl zO zO,Xq d9 rfl zO zO,d12,hsz,List.take_left' zO]
 unfold Zb;rw[hit,hsz,if_neg zO];simp only[Nat.add_sub_cancel_left];rw[if_pos hb]
theorem its_rt {xs:List It} (h:∀ x∈xs,zu x/\itB x.r x.val.length=true) (r:List UInt8):∀ k,k<=xs.length->QY (QW xs++r) k=some (xs.take k,QW (xs.drop k)++r)
 |0,_=>by simp[QY]
 |k+1,hk=>by
  have hk':k<xs.length:=zO;have hx:=h xs[k] (List.getElem_mem hk');have e:QW (xs.drop k)=Zw xs[k]++QW (xs.drop (k+1)):=by
   conv=>lhs;rw[List.drop_eq_getElem_cons hk']
   unfold QW;rw[List.flatMap_cons]
  have hr:Zb (QW (xs.drop k)++r)=some (xs[k],12+xs[k].val.length):=by rw[e,List.append_assoc];exact item_rt hx.1 hx.2 _
  rw[Uq (its_rt h r k zO) hr,List.take_succ_eq_append_getElem hk',e,List.append_assoc,List.drop_left' (Xj _)]
theorem node_rt {lvl:Int} {xs:List It} (hm:Qf lvl xs=true) (hok:∀ x∈xs,zu x):QI (Ze (Qu lvl xs))=some (lvl,xs):=by
 obtain⟨h0,h6,h5,hit⟩:=jF hm;obtain⟨L,rfl⟩:=Int.eq_ofNat_of_zero_le h0;have mi:(Qu (L:Int) xs).length<=124:=by have:=Yo xs hok;unfold Qu;simp only[List.length_cons];omega
 have hlen:(Ze (Qu (L:Int) xs)).length=128:=vH mi;have d0:(Ze (Qu (L:Int) xs)).drop 0=qB (crc (Ks 124 (Qu (L:Int) xs))) 4++Ks 124 (Qu (L:Int) xs):=by simp[Ze]
 have d4:(Ze (Qu (L:Int) xs)).drop 4=Ks 124 (Qu (L:Int) xs):=by have:=VI (k:=4) d0 (QB _ _);simpa using this
 have ht4:(Ze (Qu (L:Int) xs)).take 4=qB (crc (Ks 124 (Qu (L:Int) xs))) 4:=by unfold Ze;exact List.take_left' (QB _ _)
 have tN:qaE (Ze (Qu (L:Int) xs))=true:=by unfold qaE;rw[ht4,d4,qax 4 _ (by have:=qhF (Ks 124 (Qu (L:Int) xs));omega)];simp
 obtain⟨z,hz,hzz⟩:∃ z,Ks 124 (Qu (L:Int) xs)=78 :: UInt8.ofNat L :: UInt8.ofNat xs.length :: (QW xs++z)/\kL z=true:=⟨List.replicate (124-(Qu (L:Int) xs).length) 0,by simp[Ks,Qu],by simp[kL]⟩
 rw[hz] at d4;have g:∀ j:Nat,(Ze (Qu (L:Int) xs))[4+j]?=(78 :: UInt8.ofNat L :: UInt8.ofNat xs.length :: (QW xs++z))[j]?:=fun j=>by rw[<-d4,List.getElem?_drop]
 have g4:=g 0;have g5:=g 1;have g6:=g 2;have d7:(Ze (Qu (L:Int) xs)).drop 7=QW xs++z:=by rw[show 7=4+3 from rfl,<-List.drop_drop,d4];rfl
 simp only[Nat.add_zero,Nat.reduceAdd,List.getElem?_cons_zero,List.getElem?_cons_succ] at g4 g5 g6;rw[qaw hlen tN,g4,g5,g6,d7];simp only[Option.getD_some];rw[GU (show L<256 by omega),GU (show xs.length<256 by omega)];have hr:=its_rt (fun x hx=>⟨hok x hx,hit x hx⟩) z xs.length (zM _);rw[List.take_length,List.drop_length] at hr;have e78:(78:UInt8).toNat=78:=rfl;rw[e78,qav h5 hr,if_pos ⟨hm,by simpa [QW] using hzz⟩]
theorem SM.trans {S1 S2 S3:Sto} (h:SM S1 S2) (h':SM S2 S3):SM S1 S3:=⟨fun r nd e=>h'.node r nd (h.node r nd e),fun r e=>h'.pos r (h.pos r e)⟩
theorem Uj (t:List UInt8) {a:Nat} (ha:a<t.length) (v:UInt8) (b:Nat):qN (t.set a v) b=if b=a then v.toNat else qN t b:=by
 unfold qN;by_cases h:b=a
 ·subst h;rw[if_pos rfl,List.getElem?_set_self ha];rfl
 ·rw[if_neg h,List.getElem?_set_ne (Ne.symm h)]
theorem cnt_lt {t:List UInt8} {a:Nat} (h:qN t a≠0):a<t.length:=by apply Classical.byContradiction;intro hn;exact h (by unfold qN;rw[List.getElem?_eq_none zO];rfl)
theorem cnt_u8 (t:List UInt8) (a:Nat):qN t a<256:=UInt8.toNat_lt _
theorem TY:∀ {l:List Nat} {t t':List UInt8},ZI l t=.ok t'->∀ b,b≠0->qN t' b=qN t b+l.count b
 | [],t,t',h,b,_=>by simp only[ZI] at h;cases h;simp
 |a :: r,t,t',h,b,hb=>by
  simp only[ZI] at h;split at h
  ·cases h
  ·rename_i t1 h1;rw[TY h b hb,List.count_cons];unfold vt at h1;split at h1
   ·rename_i h0;cases h1;rw[if_neg zA1];omega
   ·split at h1
    ·cases h1
    ·split at h1
     ·cases h1
     ·rename_i h2 h3;cases h1;have hu:=cnt_u8 t a;unfold ZY;rw[Uj t (cnt_lt h2),GU zO];by_cases e:b=a
      ·subst e;simp;omega
      ·rw[if_neg e,if_neg zA1];omega
theorem TQ:∀ {l:List Nat} {t t':List UInt8},looseL l t=.ok t'->∀ b,b≠0->qN t' b+l.count b=qN t b
 | [],t,t',h,b,_=>by simp only[looseL] at h;cases h;simp
 |a :: r,t,t',h,b,hb=>by
  simp only[looseL] at h;rw[List.count_cons];split at h
  ·rename_i h0;rw[if_neg zA1];exact TQ h b hb
  ·split at h
   ·cases h
   ·rename_i h0 h2;have:=TQ h b hb;have hu:=cnt_u8 t a;unfold vd at this;rw[Uj t (cnt_lt h2),GU zO] at this;by_cases e:b=a
    ·subst e;rw[if_pos rfl] at this;simp;omega
    ·rw[if_neg e] at this;rw[if_neg zA1];omega
theorem now0 {S:Sto} (hS:ql S=true):qN S.now 0=0:=qaF (qG.1 hS).2.1
theorem span_nil {S:Sto} {h:Nat} {xs:List It} (e:qD S h xs=some none):xs=[]:=by
 rcases Gb xs with rfl|⟨r,y,rfl⟩
 ·rfl
 ·exfalso;rw[kA] at e;obtain⟨_,_,⟨_,e2⟩|⟨_,_,_,_,e2⟩⟩:=XV e <;> cases e2
theorem GC {S S':Sto} {h f:Nat} {p:List It} (hS:ql S=true) (fQ:∀ x∈p,zu x) (aN:(qD S h p).isSome=true) (e:Zz S (h:Int) p=.ok (f,S')):SM S S'/\ql S'=true/\(∀ b,b≠0->qN S.now b+(qz p).count b<=qN S'.now b)/\qt S' f=some ((h:Int),p)/\8<=f/\f<256:=by
 obtain⟨t,hm,ht,hw,h8,hf,ry,rfl,xq⟩:=UE hS e;have hmay:=(KL fQ hS e).1;have hl:=YE xq;have hc:=TY ht;have h0:qN t f=0:=by unfold ZZ at ry;simp only[Bool.and_eq_true,decide_eq_true_eq] at ry;exact ry.2.1
 have s1:SM S (qw S t):=qeV fun r hr=>by
  by_cases hr0:r=0
  ·subst hr0;have:=now0 hS;unfold qN at this;omega
  ·have:=hc r hr0;unfold qN at this;omega
 have s2:SM (qw S t) (JV (qw S t) f (Ze (Qu (h:Int) p))):=sm_put _ h0 (by show f<t.length;omega);refine⟨s1.trans s2,hmay,fun b hb=>?_,?_,h8,hf⟩
 ·show _<=qN (t.set f 1) b;rw[Uj t zO];have:=hc b hb;split
  ·rename_i e;subst e;have e1:(1:UInt8).toNat=1:=rfl;omega
  ·omega
 ·rw[qgx (show f<t.length by omega)];exact node_rt hm fQ
theorem made_one {S:Sto} {h f:Nat} {p:List It} (hn:qt S f=some ((h:Int),p)) (h8:8<=f) (hf:f<256) (aN:(qD S h p).isSome=true) (aG:p≠[]):(∃ l,jB S (h+1) (GD (VV p) f)=some (qo (GD (VV p) f),l))/\qC S (h+1) [GD (VV p) f]=qC S h p:=by
 have hr:(GD (VV p) f).r=(f:Int):=rfl;have hk:qo (GD (VV p) f)=VV p:=rfl;constructor
 ·rcases hq:qD S h p with _|_|⟨f0,l0⟩
  ·rw[hq] at aN;cases aN
  ·exact absurd (span_nil hq) aG
  ·refine⟨l0,?_⟩;have hf0:f0=VV p:=by
    obtain⟨x,r,rfl⟩:∃ x r,p=x :: r:=by
     cases p with
     |nil=>exact absurd rfl aG
     |cons x r=>exact⟨x,r,rfl⟩
    obtain⟨⟨a,r1,e1,ha⟩,-⟩:=qdX hq;obtain⟨l,ho⟩:=(Zf.1 aN).1 x List.mem_cons_self;obtain⟨⟨a2,r2,e2,ak⟩,-⟩:=UL S h x _ _ ho;have:qC S h (x :: r)=qC S h [x]++qC S h r:=Qm h [x] r;rw[this,e2,List.cons_append,List.cons.injEq] at e1;rw[<-ha,<-e1.1,ak];rfl
   rw[VM,hr,hk];unfold Vn;rw[if_pos zO];simp only[Int.toNat_natCast,hn,if_true,hq,Option.getD_some,hf0]
 ·simp only[qC,List.flatMap_cons,List.flatMap_nil,List.append_nil,hr,Int.toNat_natCast,hn]
theorem SM.each {S S':Sto} (hm:SM S S') {h:Nat} {xs:List It} (e:Ki S h xs):Ki S' h xs:=fun y hy=>by obtain⟨l,ho⟩:=e y hy;exact⟨l,hm.one h y _ ho⟩
theorem Ka {S:Sto} {h:Nat} {xs ys:List It} (h1:Ki S h xs) (h2:Ki S h ys):Ki S h (xs++ys):=fun y hy=>(List.mem_append.1 hy).elim (h1 y) (h2 y)
theorem qbK {h:Nat}:∀ {ps:List (List It)} {S S':Sto} {up:List It},(∀ p∈ps,p≠[]/\(∀ x∈p,zu x)/\(qD S h p).isSome=true)->ql S=true->makeL (h:Int) ps S=.ok (up,S') ->
  SM S S'/\ql S'=true/\(∀ b,b≠0->qN S.now b+(qz ps.flatten).count b<=qN S'.now b)/\Ki S' (h+1) up/\qC S' (h+1) up=qC S h ps.flatten
 | [],S,S',up,_,hS,e=>by cases e;exact⟨⟨fun _ _ e=>e,fun _ e=>e⟩,hS,fun b _=>by simp[qz],fun y hy=>(List.not_mem_nil hy).elim,by simp[JS]⟩
 |p :: ps,S,S',up,hp,hS,e=>by
  simp only[makeL] at e;split at e
  ·cases e
  ·rename_i f S1 e1;obtain⟨aG,fQ,aN⟩:=hp p List.mem_cons_self;obtain⟨m1,nG,dE,lW,h8,hf⟩:=GC hS fQ aN e1;split at e
   ·cases e
   ·rename_i up1 S2 e2;cases e;obtain⟨m2,yc,bG,fG,hi2⟩:=qbK (fun q hq=>⟨(hp q (List.mem_cons_of_mem _ hq)).1,(hp q (List.mem_cons_of_mem _ hq)).2.1,m1.spanOk (hp q (List.mem_cons_of_mem _ hq)).2.2⟩) nG e2;have hsp2:=m2.spanOk (m1.spanOk aN);obtain⟨ho,hi⟩:=made_one (m2.node _ _ lW) h8 hf hsp2 aG;refine⟨m1.trans m2,yc,fun b hb=>?_,?_,?_⟩
    ·have:=dE b hb;have:=bG b hb;simp only[List.flatten_cons,qz,List.map_append,List.count_append] at *;omega
    ·intro y hy;rcases List.mem_cons.1 hy with rfl|hy
     ·exact ho
     ·exact fG y hy
    ·have e3:GD (VV p) f :: up1=[GD (VV p) f]++up1:=rfl;rw[e3,Qm,hi,hi2,List.flatten_cons,Qm,(m1.trans m2).items h p aN];congr 1;have:∀ qs:List (List It),(∀ q∈qs,(qD S h q).isSome=true)->qC S1 h qs.flatten=qC S h qs.flatten:=fun qs=>by
      induction qs with
      |nil=>intro _;simp[JS]
      |cons q qs ih =>
       intro hq;rw[List.flatten_cons,Qm,Qm,m1.items h q (hq q List.mem_cons_self),ih fun q' lJ=>hq q' (List.mem_cons_of_mem _ lJ)]
     exact this ps fun q hq=>(hp q (List.mem_cons_of_mem _ hq)).2.2
theorem each_pos {S:Sto} {h:Nat} {xs:List It} (e:Ki S h xs) {x:It} (hx:x∈xs) (h0:x.r.toNat≠0):0<qN S.now x.r.toNat:=by
 obtain⟨l,ho⟩:=e x hx;cases h with
 |zero =>
  unfold jB at ho;split at ho
  ·rename_i hc;rcases hc with hc|hc
   ·rw[hc] at h0;exact absurd rfl h0
   ·exact hc
  ·cases ho
 |succ h =>
  unfold jB at ho;split at ho
  ·split at ho
   ·cases ho
   ·rename_i hn;unfold qt at hn;split at hn
    ·cases hn
    ·rename_i hc;unfold qN;omega
  ·cases ho
theorem qbZ (l:List It):(Zq l).flatten=l:=by unfold Zq;split <;> simp
theorem kD {S:Sto} {h:Nat} {xs ys zs:List It} (e:(qD S h (xs++ys++zs)).isSome=true):(qD S h ys).isSome=true:=by obtain⟨h1,h2⟩:=Zf.1 e;rw[Qm,Qm] at h2;exact Zf.2 ⟨fun y hy=>h1 y (by simp[hy]),(List.pairwise_append.1 (List.pairwise_append.1 h2).1).2.1⟩
theorem TG {S S':Sto} {h:Nat} {l held up:List It} (hS:ql S=true) (hl:∀ x∈l,zu x) (hh:∀ x∈held,itB x.r x.val.length=true) (hBK:∀ b,b≠0->(qz held).count b<=(qz l).count b) (aG:l≠[]) (aN:(qD S h l).isSome=true) (e:QU S (h:Int) l held=.ok (up,S')):SM S S'/\ql S'=true/\(qD S' (h+1) up).isSome=true/\qC S' (h+1) up=qC S h l/\up≠[]:=by
 have hmay:=VS hl hh hS e;unfold QU at e;split at e
 ·cases e
 ·rename_i up1 S1 e1;split at e
  ·cases e
  ·rename_i t e2;cases e;have hp:∀ p∈Zq l,p≠[]/\(∀ x∈p,zu x)/\(qD S h p).isSome=true:=fun p hp=>by
    refine⟨?_,Xt hl p hp,?_⟩
    ·intro hn;subst hn;unfold Zq at hp;split at hp
     ·rename_i h5;simp only[List.mem_cons,List.not_mem_nil,or_false] at hp;rcases hp with hp|hp
      ·have:=congrArg List.length hp;simp at this;omega
      ·have:=congrArg List.length hp;simp at this;omega
     ·simp only[List.mem_cons,List.not_mem_nil,or_false] at hp;exact aG hp.symm
    ·unfold Zq at hp;split at hp
     ·simp only[List.mem_cons,List.not_mem_nil,or_false] at hp;rcases hp with rfl|rfl
      ·exact kD (xs:=[]) (zs:=l.drop 3) (by simpa using aN)
      ·exact kD (xs:=l.take 3) (zs:=[]) (by simpa using aN)
     ·simp only[List.mem_cons,List.not_mem_nil,or_false] at hp;subst hp;exact aN
   obtain⟨m1,nG,hc,he,hi⟩:=qbK hp hS e1;rw[qbZ] at hc hi;have hlc:=TQ e2;have m2:SM S1 (qw S1 t):=qeV fun r hr=>by
    show 0<qN t r;have mZ:0<qN S1.now r:=hr;by_cases hr0:r=0
    ·subst hr0;have:=now0 nG;omega
    ·have h1:=hc r hr0;have h2:=hlc r hr0;have h3:=hBK r hr0;by_cases hz:(qz l).count r=0
     ·omega
     ·obtain⟨x,hx,nN⟩:∃ x∈l,x.r.toNat=r:=by have:=List.count_pos_iff.1 (Nat.pos_of_ne_zero hz);unfold qz at this;simpa using this
      have:=each_pos (Zf.1 aN).1 hx zO;rw[nN] at this;omega
   have pI:(qC S1 (h+1) up).Pairwise (fun a b=>qP (qo a) (qo b)=true):=by rw[hi];exact(Zf.1 aN).2
   have xk:(qD S1 (h+1) up).isSome=true:=Zf.2 ⟨he,pI⟩;refine⟨m1.trans m2,hmay.1,m2.spanOk xk,?_,?_⟩
   ·rw[m2.items (h+1) up xk,hi]
   ·intro hn;have h2:=hmay.2.1;rw[hn] at h2;unfold Zq at h2;split at h2 <;> simp at h2
def UpOk (y:It):Prop:=zu y/\(y.r=0\/8<=y.r)/\y.r<256
theorem replL_ok {ys up:List It} {p m:Nat} (h1:∀ y∈ys,zu y) (h2:∀ y∈up,zu y):∀ y∈Vt ys p m up,zu y:=fun y hy=>by
 unfold Vt at hy;rcases List.mem_append.1 hy with hy|hy
 ·rcases List.mem_append.1 hy with hy|hy
  ·exact h1 y (List.mem_of_mem_take hy)
  ·exact h2 y hy
 ·exact h1 y (List.mem_of_mem_drop hy)
theorem qdu {k:K3}:∀ {ps:List Stp} {up up':List It} {S S':Sto},(∀ s∈ps,qfn k s)->(∀ y∈up,UpOk y)->ql S=true->jo k ps up S=.ok (up',S')->ql S'=true/\(∀ y∈up',UpOk y)/\(ps≠[]->0<up'.length/\up'.length<=2/\∀ y∈up',8<=y.r/\y.val=[])
 | [],up,up',S,S',_,hu,hS,e=>by cases e;exact⟨hS,hu,fun h=>absurd rfl h⟩
 |(lvl,xs,p) :: ps,up,up',S,S',hw,hu,hS,e=>by
  have hw0:=hw _ List.mem_cons_self;simp only[jo] at e;split at e
  ·cases e
  ·rename_i up1 S1 e1;obtain⟨h1,h2,h3⟩:=Ye (replL_ok (fun y hy=>(hw0.its y hy).1) fun y hy=>(hu y hy).1) (fun y hy=>(hu y hy).2) hS e1;have hu1:∀ y∈up1,UpOk y:=fun y hy=>⟨(h3 y hy).1,.inr (h3 y hy).2.1.1,(h3 y hy).2.1.2⟩
   obtain⟨g1,g2,g3⟩:=qdu (fun s hs=>hw s (List.mem_cons_of_mem _ hs)) hu1 h1 e;refine⟨g1,g2,fun _=>?_⟩;by_cases hp:ps=[]
   ·subst hp;cases e;exact⟨h2.1,h2.2,fun y hy=>⟨(h3 y hy).2.1.1,(h3 y hy).2.2⟩⟩
   ·exact g3 hp
theorem askP_up {S:Sto} {x:It} (hx:zu x) (h:TA S x=0):UpOk x:=by
 unfold TA at h;split at h
 ·rename_i h1;unfold itB at h1;simp only[decide_eq_true_eq] at h1;have:=hx.2.2.2.1;exact⟨hx,zO,zO⟩
 ·cases h
theorem preX_may {S S2:Sto} {lvl a:Nat} {xs up:List It} {x:It} (hS:ql S=true) (hn:qt S a=some ((lvl:Int),xs)) (aN:(qD S lvl xs).isSome=true) (hx:UpOk x) (e:GJ S lvl xs x=.ok (up,S2)):ql S2=true/\0<up.length/\∀ y∈up,UpOk y/\8<=y.r:=by
 have wS:=Ge (k:=qo x) lvl (qM hn).1 aN;unfold GJ at e;split at e
 ·cases e
 ·split at e
  ·cases e
  ·rename_i up1 S1 e1;obtain⟨h1,h2,h3⟩:=qdu (fun s hs=>qiT lvl hn aN s (List.mem_reverse.1 hs)) (fun y hy=>by rw[List.mem_singleton.1 hy];exact hx) hS e1;obtain⟨h4,h5,h6⟩:=h3 (fun e=>by have:=congrArg List.length e;simp[wS] at this);split at e
   ·obtain⟨k1,k2,k3⟩:=Ye (fun y hy=>(h2 y hy).1) (fun y hy=>(h2 y hy).2) h1 e;exact⟨k1,k2.1,fun y hy=>⟨⟨(k3 y hy).1,.inr (k3 y hy).2.1.1,(k3 y hy).2.1.2⟩,(k3 y hy).2.1.1⟩⟩
   ·cases e;exact⟨h1,h4,fun y hy=>⟨h2 y hy,(h6 y hy).1⟩⟩
theorem qgL {S S':Sto} {lvl a r:Nat} {xs:List It} {x:It} (hS:ql S=true) (ha:8<=a) (hn:qt S a=some ((lvl:Int),xs)) (aN:(qD S lvl xs).isSome=true) (hx:zu x) (e:Tc S lvl xs a x=.ok (r,S')):ql S'=true/\8<=r/\r<256:=by
 unfold Tc at e;split at e
 ·rename_i h0;rw[qeO] at e;split at e
  ·cases e
  ·rename_i up S2 e2;obtain⟨h1,h2,h3⟩:=preX_may hS hn aN (askP_up hx h0) e2;split at e
   ·cases e
   ·rename_i t ht;simp only[Except.ok.injEq,Prod.mk.injEq] at e;obtain⟨rfl,rfl⟩:=e;obtain⟨y,ys,rfl⟩:∃ y ys,up=y :: ys:=by
     cases up with
     |nil=>simp at h2
     |cons y ys=>exact⟨y,ys,rfl⟩
    obtain⟨h4,h5⟩:=h3 y List.mem_cons_self;have h6:=h4.2.2;exact⟨UG h1 (Yq ha (qG.1 h1).2.1 ht),by simp only[YB];omega,by simp only[YB];omega⟩
 ·cases e
theorem qdt {k:K3}:∀ {ps:List Stp} {up:List It} {S:Sto} {e:Int},jo k ps up S=.error e->e≠0
 | [],up,S,e,h=>by cases h
 |(lvl,xs,p) :: ps,up,S,e,h=>by
  simp only[jo] at h;split at h
  ·rename_i e1 h1;cases h;exact Yd h1
  ·exact qdt h
theorem preX_err {S:Sto} {lvl:Nat} {xs:List It} {x:It} {e:Int} (h:GJ S lvl xs x=.error e):e≠0:=by
 unfold GJ at h;split at h
 ·cases h;decide
 ·split at h
  ·rename_i e1 h1;cases h;exact qdt h1
  ·split at h
   ·exact Yd h
   ·cases h
theorem qgK {S:Sto} {lvl a:Nat} {xs:List It} {x:It} {e:Int} (h:Tc S lvl xs a x=.error e):e≠0:=by
 unfold Tc at h;split at h
 ·rw[qeO] at h;split at h
  ·rename_i e1 h1;cases h;exact preX_err h1
  ·split at h
   ·cases h;decide
   ·cases h
 ·rename_i h0;cases h;exact h0
def Vy (k:K3) (x:It) (l:List It):List It:=(l.filter fun y=>qP (qo y) k)++[x]++l.filter fun y=>qP k (qo y)
abbrev Ord (l:List It):Prop:=l.Pairwise fun a b=>qP (qo a) (qo b)=true
theorem KK (k:K3):qP k k=false:=Yr k
theorem qba {x:It} {l:List It} (h:Ord l):Ord (Vy (qo x) x l):=by
 unfold Vy;refine List.pairwise_append.2 ⟨List.pairwise_append.2 ⟨h.sublist List.filter_sublist,List.pairwise_singleton _ _,fun a ha b hb=>?_⟩,h.sublist List.filter_sublist,fun a ha b hb=>?_⟩
 ·rw[List.mem_singleton.1 hb];exact(List.mem_filter.1 ha).2
 ·have h2:=(List.mem_filter.1 hb).2;rcases List.mem_append.1 ha with ha|ha
  ·exact Jy (List.mem_filter.1 ha).2 h2
  ·rw[List.mem_singleton.1 ha];exact h2
theorem qjq {k:K3} {x:It} {A B C:List It} (hA:∀ y∈A,qP (qo y) k=true) (hC:∀ y∈C,qP k (qo y)=true):Vy k x (A++B++C)=A++Vy k x B++C:=by
 have a1:A.filter (fun y=>qP (qo y) k)=A:=List.filter_eq_self.2 hA;have a2:A.filter (fun y=>qP k (qo y))=[]:=List.filter_eq_nil_iff.2 fun y hy e=>by have:=Jy (hA y hy) e;rw[KK] at this;cases this
 have c1:C.filter (fun y=>qP k (qo y))=C:=List.filter_eq_self.2 hC;have c2:C.filter (fun y=>qP (qo y) k)=[]:=List.filter_eq_nil_iff.2 fun y hy e=>by have:=Jy (hC y hy) e;rw[KK] at this;cases this
 unfold Vy;simp only[List.filter_append,a1,a2,c1,c2,List.append_nil,List.nil_append,List.append_assoc]
theorem qgm {k:K3} {x:It} {xs:List It} (h:Ord xs):Vt xs (qA xs k) (Jp k 0 xs) [x]=Vy k x xs:=by
 have hp:=fun i hi=>JA (k:=k) h i hi;have hle:=JB xs k;have e1:xs.take (qA xs k)=xs.filter fun y=>qP (qo y) k:=by
  conv=>rhs;rw[<-List.take_append_drop (qA xs k) xs]
  rw[List.filter_append,List.filter_eq_self.2,List.filter_eq_nil_iff.2,List.append_nil]
  ·intro y hy e;obtain⟨i,hi,rfl⟩:=List.mem_iff_getElem.1 hy;rw[List.length_drop] at hi;rw[List.getElem_drop] at e;have:=(hp _ zO).1 e;omega
  ·intro y hy;obtain⟨i,hi,rfl⟩:=List.mem_iff_getElem.1 hy;rw[List.length_take] at hi;rw[List.getElem_take];exact(hp _ zO).2 zO
 have hk:∀ i (hi:i<xs.length),qP k (qo xs[i])=true↔qA xs k+Jp k 0 xs<=i:=fun i hi=>by
  unfold Jp;by_cases hlt:qA xs k<xs.length
  ·rw[Kd hlt];by_cases he:qo xs[qA xs k]=k
   ·rw[if_neg (by simp[he])];constructor
    ·intro e;apply Classical.byContradiction;intro hn;by_cases hi2:i<qA xs k
     ·have:=Jy e ((hp i hi).2 hi2);rw[KK] at this;cases this
     ·obtain rfl:i=qA xs k:=zO;rw[he,KK] at e;cases e
    ·intro hi2;have:=Yv h (i:=qA xs k) (j:=i) zO hi
     rwa [he] at this
   ·rw[if_pos (by simp[he])];have ig:qP (qo xs[qA xs k]) k=false:=by rw[<-Bool.not_eq_true];intro e;have:=(hp _ hlt).1 e;omega
    have iT:qP k (qo xs[qA xs k])=true:=by
     rcases hq:qP k (qo xs[qA xs k]) with _|_
     ·exact absurd (qeu hq ig) he
     ·rfl
    constructor
    ·intro e;apply Classical.byContradiction;intro hn;have:=Jy e ((hp i hi).2 zO);rw[KK] at this;cases this
    ·intro hi2;by_cases hi3:i=qA xs k
     ·subst hi3;exact iT
     ·exact Jy iT (Yv h zO hi)
  ·rw[XK hlt,if_pos zA2];constructor
   ·intro e;have:=Jy e ((hp i hi).2 zO);rw[KK] at this;cases this
   ·intro hi2;omega
 have e2:xs.drop (qA xs k+Jp k 0 xs)=xs.filter fun y=>qP k (qo y):=by
  conv=>rhs;rw[<-List.take_append_drop (qA xs k+Jp k 0 xs) xs]
  rw[List.filter_append,List.filter_eq_nil_iff.2,List.filter_eq_self.2,List.nil_append]
  ·intro y hy;obtain⟨i,hi,rfl⟩:=List.mem_iff_getElem.1 hy;rw[List.length_drop] at hi;rw[List.getElem_drop];exact(hk _ zO).2 zO
  ·intro y hy e;obtain⟨i,hi,rfl⟩:=List.mem_iff_getElem.1 hy;rw[List.length_take] at hi;rw[List.getElem_take] at e;have:=(hk _ zO).1 e;omega
 unfold Vt Vy;rw[e1,e2]
theorem qcr {S:Sto} {h:Nat} {xs:List It} {k:K3} (hs:(qD S h xs).isSome=true) (h0:0<xs.length) : (∀ y∈qC S h (xs.take (zZ xs k)),qP (qo y) k=true)/\∀ y∈qC S h (xs.drop (zZ xs k+1)),qP k (qo y)=true:=by
 have ho:=(Vg hs).2;have hp:=fun i hi=>JA (k:=k) ho i hi;have hle:=JB xs k;have hlt:=jH (k:=k) h0;constructor
 ·intro y hy;have hl:=items_lt hs hlt hy;have dZ:0<zZ xs k:=by
   rcases Nat.eq_zero_or_pos (zZ xs k) with e|e
   ·rw[e,List.take_zero,JS] at hy;cases hy
   ·exact e
  have hk:leK (qo xs[zZ xs k]) k:=by
   by_cases hi:Yn xs k=true
   ·have e1:zZ xs k=qA xs k:=by unfold zZ;rw[if_pos hi]
    have aI:qA xs k<xs.length:=zO;rw[Kd aI,decide_eq_true_eq] at hi;have:xs[zZ xs k]=xs[qA xs k]:=by congr 1
    rw[this,hi];exact Uy k
   ·have e1:zZ xs k=qA xs k-1:=by unfold zZ;rw[if_neg hi]
    exact VK ((hp _ hlt).2 zO)
  exact Xm hl hk
 ·intro y hy;obtain⟨j,hj,hy⟩:=qkw hy;rw[List.length_drop] at hj;rw[List.getElem_drop] at hy;have hl:=one_low hs (j:=zZ xs k+1+j) zO hy;refine Xm ?_ hl;have hNZ:∀ i (hi:i<xs.length),zZ xs k<i->qP k (qo xs[i])=true:=fun i hi iT=>by
   by_cases his:Yn xs k=true
   ·have e1:zZ xs k=qA xs k:=by unfold zZ;rw[if_pos his]
    have aI:qA xs k<xs.length:=zO;rw[Kd aI,decide_eq_true_eq] at his;have:=Yv ho (i:=qA xs k) (j:=i) zO hi
    rwa [his] at this
   ·have e1:zZ xs k=qA xs k-1:=by unfold zZ;rw[if_neg his]
    have aI:qA xs k<xs.length:=zO;have ig:qP (qo xs[qA xs k]) k=false:=by rw[<-Bool.not_eq_true];intro e;have:=(hp _ aI).1 e;omega
    rw[Kd aI,decide_eq_true_eq] at his;have yH:qP k (qo xs[qA xs k])=true:=by
     rcases hq:qP k (qo xs[qA xs k]) with _|_
     ·exact absurd (qeu hq ig) his
     ·rfl
    by_cases hi3:i=qA xs k
    ·subst hi3;exact yH
    ·exact Jy yH (Yv ho zO hi)
  exact hNZ _ zO zO
theorem qgQ (A B C:List It) (b:Nat):(qz B).count b<=(qz (A++B++C)).count b:=by simp only[qz,List.map_append,List.count_append];omega
structure GY (S:Sto) (x:It):Prop where
 ok:zu x
 it:itB x.r x.val.length=true
 one:jB S 0 x=some (qo x,qo x)
theorem GY.of {S:Sto} {x:It} (hx:zu x) (h:TA S x=0):GY S x:=by
 unfold TA at h;split at h
 ·rename_i h1;split at h
  ·cases h
  ·rename_i h2;refine⟨hx,h1,?_⟩;unfold jB;rw[if_pos];by_cases hr:x.r=0
   ·exact .inl hr
   ·exact .inr (Nat.pos_of_ne_zero fun e=>h2 ⟨hr,e⟩)
 ·cases h
theorem Yk {S:Sto} {x:It} (hS:ql S=true) (hx:GY S x):∀ (h:Nat) {a:Nat} {xs up:List It} {S':Sto},qt S a=some ((h:Int),xs)->(qD S h xs).isSome=true->jo (qo x) (kI S (qo x) h xs).reverse [x] S=.ok (up,S') ->
  SM S S'/\ql S'=true/\(qD S' (h+1) up).isSome=true/\qC S' (h+1) up=Vy (qo x) x (qC S h xs)/\up≠[]/\∀ y∈up,zu y/\itB y.r y.val.length=true
 |0,a,xs,up,S',hn,hs,e=>by
  rw[Gf,List.reverse_singleton,KE] at e;simp only at e;have ho:Ord xs:=(Vg hs).2;rw[qgm ho] at e;have hmx:=(qM hn).2.1;have eH:∀ y∈Vy (qo x) x xs,y=x\/y∈xs:=fun y hy=>by
   unfold Vy at hy;simp only[List.mem_append,List.mem_filter,List.mem_singleton] at hy;rcases hy with (hy|hy)|hy
   ·exact .inr hy.1
   ·exact .inl hy
   ·exact .inr hy.1
  have hl:∀ y∈Vy (qo x) x xs,zu y:=fun y hy=>by
   rcases eH y hy with rfl|hy
   ·exact hx.ok
   ·exact(hmx y hy).1
  have hh:∀ y∈[x],itB y.r y.val.length=true:=fun y hy=>by rw[List.mem_singleton.1 hy];exact hx.it
  have aN:(qD S 0 (Vy (qo x) x xs)).isSome=true:=Zf.2 ⟨fun y hy=>by
   rcases eH y hy with rfl|hy
   ·exact⟨_,hx.one⟩
   ·exact(Zf.1 hs).1 y hy,qba ho⟩
  have hb:=TG (h:=0) hS hl hh (fun b _=>by unfold Vy;exact qgQ _ [x] _ b) (by unfold Vy;simp) aN e;exact⟨hb.1,hb.2.1,hb.2.2.1,hb.2.2.2.1,hb.2.2.2.2,(VS hl hh hS e).2.2.1⟩
 |h+1,a,xs,up,S',hn,hs,e=>by
  have h0:=UF (qM hn).1 zO;have hlt:=jH (k:=qo x) h0;obtain⟨b,e1,-,-,zs,e4,e5⟩:=ZF (ZU hs _ (List.getElem_mem hlt));have iG:qt S (xs[zZ xs (qo x)].r).toNat=some ((h:Int),zs):=by rw[e1,Int.toNat_natCast];exact e4
  rw[XB (zL hlt) iG,List.reverse_cons,vl] at e;split at e
  ·cases e
  ·rename_i up1 S1 eg;obtain⟨m1,nG,tH,ng,iH,iI⟩:=Yk hS hx h e4 e5 eg;rw[KE] at e;simp only at e;have hm1:Jp (qo x) (h+1) xs=1:=by unfold Jp;rw[if_neg zO]
   rw[hm1] at e;unfold Vt at e;obtain⟨hA,hC⟩:=qcr (k:=qo x) hs h0;have hmx:=(qM hn).2.1;generalize hp:zZ xs (qo x)=p at *;have mg:xs=xs.take p++[xs[p]]++xs.drop (p+1):=by rw[List.append_assoc,List.singleton_append,List.getElem_cons_drop,List.take_append_drop]
   have wP:=hs;rw[mg] at wP;have hsA:(qD S (h+1) (xs.take p)).isSome=true:=kD (xs:=[]) (ys:=xs.take p) (zs:=[xs[p]]++xs.drop (p+1)) (by rw[List.nil_append,<-List.append_assoc];exact wP);have hsC:(qD S (h+1) (xs.drop (p+1))).isSome=true:=kD (xs:=xs.take p++[xs[p]]) (ys:=xs.drop (p+1)) (zs:=[]) (by rw[List.append_nil];exact wP);have hB:qC S (h+1) [xs[p]]=qC S h zs:=by simp only[qC,List.flatMap_cons,List.flatMap_nil,List.append_nil,iG]
   have og:qC S1 (h+1) (xs.take p++up1++xs.drop (p+1))=Vy (qo x) x (qC S (h+1) xs):=by
    conv=>rhs;rw[mg,Qm,Qm,qjq hA hC,hB,<-ng]
    rw[Qm,Qm,m1.items _ _ hsA,m1.items _ _ hsC]
   have hl:∀ y∈xs.take p++up1++xs.drop (p+1),zu y:=fun y hy=>by
    rcases List.mem_append.1 hy with hy|hy
    ·rcases List.mem_append.1 hy with hy|hy
     ·exact(hmx y (List.mem_of_mem_take hy)).1
     ·exact(iI y hy).1
    ·exact(hmx y (List.mem_of_mem_drop hy)).1
   have aN:(qD S1 (h+1) (xs.take p++up1++xs.drop (p+1))).isSome=true:=Zf.2 ⟨Ka (Ka (m1.each (Zf.1 hsA).1) (Zf.1 tH).1) (m1.each (Zf.1 hsC).1),by rw[og];exact qba (Vg hs).1⟩;have hb:=TG (h:=h+1) nG hl (fun y hy=>(iI y hy).2) (fun b _=>qgQ _ up1 _ b) (by simp[iH]) aN e;exact⟨m1.trans hb.1,hb.2.1,hb.2.2.1,hb.2.2.2.1.trans og,hb.2.2.2.2,(VS hl (fun y hy=>(iI y hy).2) nG e).2.2.1⟩
theorem qgq {lvl:Int}:∀ {ps:List (List It)} {S S':Sto} {up:List It},makeL lvl ps S=.ok (up,S')->up.length=ps.length
 | [],S,S',up,h=>by cases h;rfl
 |p :: r,S,S',up,h=>by
  simp only[makeL] at h;split at h
  ·cases h
  ·split at h
   ·cases h
   ·rename_i hl;cases h;simp[qgq hl]
theorem Gw {k:K3}:∀ {ps:List Stp} {up up':List It} {S S':Sto},jo k ps up S=.ok (up',S')->up.length<=2->up'.length<=2
 | [],up,up',S,S',h,h0=>by cases h;exact h0
 |(lvl,xs,p) :: r,up,up',S,S',h,h0=>by
  simp only[jo] at h;split at h
  ·cases h
  ·rename_i up1 S1 hb;refine Gw h ?_;unfold QU at hb;split at hb
   ·cases hb
   ·rename_i hm;split at hb
    ·cases hb
    ·cases hb;rw[qgq hm];unfold Zq;split <;> simp
theorem qgz {S:Sto} {H:Nat} {y:It} (h:(qD S (H+1) [y]).isSome=true):∃ ys,qt S y.r.toNat=some ((H:Int),ys)/\(qD S H ys).isSome=true/\qC S (H+1) [y]=qC S H ys:=by
 obtain⟨b,e1,-,-,ys,e4,e5⟩:=ZF (ZU h y zA2);have hn:qt S y.r.toNat=some ((H:Int),ys):=by rw[e1,Int.toNat_natCast];exact e4
 exact⟨ys,hn,e5,by simp only[qC,List.flatMap_cons,List.flatMap_nil,List.append_nil,hn]⟩
theorem qkM {S S':Sto} {h a r:Nat} {xs:List It} {x:It} (hS:ql S=true) (hx:GY S x) (hn:qt S a=some ((h:Int),xs)) (hs:(qD S h xs).isSome=true) (e:putX S h xs a x=.ok (r,S')) : ∃ S2 t,∃ (H:Nat) (ys:List It),S'=qw S2 t/\SM S S2/\ql S2=true/\qt S2 r=some ((H:Int),ys)/\(qD S2 H ys).isSome=true/\qC S2 H ys=Vy (qo x) x (qC S h xs)/\QH S2 (-1) S2.now a=some t:=by
 unfold putX at e;split at e
 ·cases e
 ·split at e
  ·cases e
  ·rename_i up S1 eg;obtain⟨m1,nG,tH,ng,iH,iI⟩:=Yk hS hx h hn hs eg;have wS:=Ge (k:=qo x) h (qM hn).1 hs;split at e
   ·cases e
   ·rename_i up2 S2 eb;split at e
    ·cases e
    ·rename_i t hl;cases e;split at eb
     ·rename_i hlen;rw[wS] at eb;have hb:=TG (h:=h+1) nG (fun y hy=>(iI y hy).1) (fun y hy=>(iI y hy).2) (fun b _=>zM _) iH tH eb;have hmay:=VS (fun y hy=>(iI y hy).1) (fun y hy=>(iI y hy).2) nG eb;have hup:up.length<=2:=Gw eg zA2;obtain⟨y,rfl⟩:∃ y,up2=[y]:=by have h1:=hmay.2.1;unfold Zq at h1;rw[if_neg zO] at h1;exact List.length_eq_one_iff.1 (by simpa using h1)
      obtain⟨ys,g1,g2,g3⟩:=qgz hb.2.2.1;exact⟨S2,t,h+1,ys,rfl,m1.trans hb.1,hb.2.1,g1,g2,by rw[<-g3,hb.2.2.2.1,ng],hl⟩
     ·cases eb;rename_i hlen;obtain⟨y,rfl⟩:∃ y,up=[y]:=List.length_eq_one_iff.1 (by have:=List.length_pos_iff.2 iH;omega);obtain⟨ys,g1,g2,g3⟩:=qgz tH;exact⟨S1,t,h,ys,rfl,m1,nG,g1,g2,by rw[<-g3,ng],hl⟩
def Vq:List UInt8->Nat
 | []=>0
 |x :: r=>x.toNat+Vq r
theorem qcs:∀ (t:List UInt8) (a:Nat) (x:UInt8),a<t.length->Vq (t.set a x)+qN t a=Vq t+x.toNat
 | [],a,x,h=>by simp at h
 |y :: r,0,x,h=>by simp[Vq,qN];omega
 |y :: r,a+1,x,h=>by
  have:=qcs r a x (by simpa using h);simp only[zC,Vq];have e:qN (y :: r) (a+1)=qN r a:=by simp[qN]
  rw[e];omega
theorem KC {t:List UInt8} {a:Nat} (h:t.length<=a):qN t a=0:=by unfold qN;rw[List.getElem?_eq_none h];rfl
theorem vM {t:List UInt8} {a:Nat} (h:a<t.length) (x:UInt8):qN (t.set a x) a=x.toNat:=by unfold qN;rw[List.getElem?_set_self h];rfl
theorem jY {t:List UInt8} {a j:Nat} (h:j≠a) (x:UInt8):qN (t.set a x) j=qN t j:=by unfold qN;rw[List.getElem?_set_ne zO]
theorem XH (t:List UInt8) (a:Nat):qN t a<256:=(t[a]?.getD 0).toNat_lt
theorem qbv {t:List UInt8} {a:Nat} (h:qN t a≠0):Vq (vd t a)+1=Vq t:=by
 have hl:a<t.length:=by
  by_cases h1:a<t.length
  ·exact h1
  ·exact absurd (KC zO) h
 have e:=qcs t a (UInt8.ofNat (qN t a-1)) hl;have h2:=XH t a;have h3:(UInt8.ofNat (qN t a-1)).toNat=qN t a-1:=by rw[UInt8.toNat_ofNat'];omega
 unfold vd;omega
theorem qaY (t:List UInt8) (a j:Nat):qN (vd t a) j<=qN t j:=by
 unfold vd;by_cases hj:j=a
 ·subst hj;by_cases hl:j<t.length
  ·rw[vM hl];have h2:=XH t j;rw[UInt8.toNat_ofNat'];omega
  ·rw[KC (by simpa using hl)];omega
 ·rw[jY hj];omega
theorem Gl {t:List UInt8} {a:Nat} (h:qN t a=1):Vq (t.set a 0)+1=Vq t:=by
 have hl:a<t.length:=by
  by_cases h1:a<t.length
  ·exact h1
  ·rw[KC zO] at h;cases h
 have e:=qcs t a 0 hl;rw[h] at e;simpa using e
theorem zero_le (t:List UInt8) (a j:Nat):qN (t.set a 0) j<=qN t j:=by
 by_cases hj:j=a
 ·subst hj;by_cases hl:j<t.length
  ·rw[vM hl];simp
  ·rw[KC (by simpa using hl)];omega
 ·rw[jY hj];omega
theorem VL:∀ {l:List Nat} {t t':List UInt8},looseL l t=.ok t'->Vq t'<=Vq t/\∀ j,qN t' j<=qN t j
 | [],t,t',e=>by cases e;exact⟨zM _,fun _=>zM _⟩
 |a :: l,t,t',e=>by
  by_cases ha:a=0
  ·subst ha;rw[jr] at e;exact VL e
  ·by_cases h0:qN t a=0
   ·rw[Jd ha h0] at e;cases e
   ·rw[jq ha h0] at e;obtain⟨h1,h2⟩:=VL e;have:=qbv h0;exact⟨zO,fun j=>Nat.le_trans (h2 j) (qaY t a j)⟩
theorem qbP {S:Sto} {t:List UInt8} {a:Nat} (h:qN t a≠0) (hle:qN t a<=qN S.now a):qt (qw S t) a=qt S a:=by
 have e1:qt (qw S t) a=if qN t a=0 then none else QI (Ji S a):=rfl
 have e2:qt S a=if qN S.now a=0 then none else QI (Ji S a):=rfl
 rw[e1,e2,if_neg h,if_neg zO]
theorem qbQ {S:Sto} {a:Nat} {lvl:Int} {xs:List It} (h:qt S a=some (lvl,xs)) (hl:0<lvl):∀ r∈qz xs,8<=r/\r<256:=fun r hr=>by
 have h1:=KM h r hr;obtain⟨x,hx,rfl⟩:=List.mem_map.1 hr;have hm:=(qM h).1;have fQ:=((qM h).2.1 x hx).1.2.2.2.1.1;unfold Qf at hm;simp only[Bool.and_eq_true] at hm;obtain⟨i,hi,e⟩:=List.mem_iff_getElem.1 hx;have h2:=List.all_eq_true.1 hm.2 i (List.mem_range.2 hi);unfold qag at h2;rw[zL hi] at h2;simp only[Bool.and_eq_true] at h2;have h3:=h2.2;rw[e,decide_eq_true hl] at h3;have h4:x.r≠0:=by intro h5;rw[h5] at h3;simp at h3
 omega
structure LvI (S:Sto) (a:Nat) (st:List (Nat×Int)) (t:List UInt8):Prop where
 eq:QH S (-1) S.now a=JJ S st.reverse t
 may:Qt t=true
 le:∀ j,qN t j<=qN S.now j
 few:st.length+5*Vq t<=5*Vq S.now+1
 at_:∀ p∈st,8<=p.1/\p.1<256/\-1<=p.2/\p.2<6
theorem qik (S:Sto) (x:Nat×Int) (t:List UInt8):JJ S [x] t=QH S x.2 t x.1:=by unfold JJ;cases QH S x.2 t x.1 <;> rfl
theorem LvI.start {S:Sto} (hS:ql S=true) {a:Nat} (ha:8<=a) (ak:a<256):LvI S a [(a,-1)] S.now:=by
 refine⟨(qik S (a,-1) S.now).symm,(qG.1 hS).2.1,fun _=>zM _,zA1,fun p hp=>?_⟩;obtain rfl:p=(a,-1):=by simpa using hp
 exact⟨ha,ak,zA2,zA2⟩
theorem LvI.done {S:Sto} {a:Nat} {t:List UInt8} (h:LvI S a [] t):QH S (-1) S.now a=some t:=h.eq
section
variable {S:Sto} {a:Nat} {s:List (Nat×Int)} {x:Nat×Int} {t:List UInt8}
theorem LvI.eq' (h:LvI S a (s++[x]) t):QH S (-1) S.now a=match QH S x.2 t x.1 with
  |none=>none
  |some t'=>JJ S s.reverse t':=by
 rw[h.eq,List.reverse_append];rfl
theorem LvI.top (h:LvI S a (s++[x]) t):8<=x.1/\x.1<256/\-1<=x.2/\x.2<6:=h.at_ x zA2
theorem LvI.bad0 (h:LvI S a (s++[x]) t) (h0:qN t x.1=0):QH S (-1) S.now a=none:=by rw[h.eq',Xl,if_pos h0]
theorem LvI.more (h:LvI S a (s++[x]) t) (h1:1<qN t x.1):LvI S a s (vd t x.1):=by have hd:=qbv (t:=t) (a:=x.1) zO;have hf:=h.few;simp only[List.length_append,List.length_cons,List.length_nil] at hf;refine⟨?_,ZJ h.may h.top.1 _,fun j=>Nat.le_trans (qaY t x.1 j) (h.le j),zO,fun p hp=>h.at_ p (by simp[hp])⟩;rw[h.eq',Xl,if_neg zO,if_pos h1]
theorem LvI.one (h:LvI S a (s++[x]) t) (h1:qN t x.1=1):QH S (-1) S.now a=match (match qt S x.1 with
  |none=>none
  |some (l,xs)=>if 0<=x.2/\l≠x.2 then none else if 0<l then JJ S ((qz xs).map fun r=>(r,l-1)) (t.set x.1 0) else
   match looseL (qz xs) (t.set x.1 0) with
   | .error _=>none
   | .ok t'=>some t') with
  |none=>none
  |some t'=>JJ S s.reverse t':=by
 rw[h.eq',Xl,if_neg zO,if_neg zO] <;> rfl
theorem LvI.none_ (h:LvI S a (s++[x]) t) (h1:qN t x.1=1) (hn:qt S x.1=none):QH S (-1) S.now a=none:=by rw[h.one h1,hn]
theorem LvI.level (h:LvI S a (s++[x]) t) (h1:qN t x.1=1) {l:Int} {xs:List It} (hn:qt S x.1=some (l,xs)) (h0:0<=x.2) (hl:l≠x.2):QH S (-1) S.now a=none:=by rw[h.one h1,hn];simp only;rw[if_pos ⟨h0,hl⟩]
theorem LvI.push (h:LvI S a (s++[x]) t) (h1:qN t x.1=1) {l:Int} {xs:List It} (hn:qt S x.1=some (l,xs)) (h0:¬(0<=x.2/\l≠x.2)) (hl:0<l):LvI S a (s++((qz xs).map fun r=>(r,l-1)).reverse) (t.set x.1 0):=by
 have hd:=Gl h1;have hf:=h.few;have h6:=jw hn;have hlen:(qz xs).length=xs.length:=by unfold qz;simp
 simp only[List.length_append,List.length_cons,List.length_nil] at hf;refine⟨?_,ZJ h.may h.top.1 _,fun j=>Nat.le_trans (zero_le t x.1 j) (h.le j),by simp only[List.length_append,List.length_reverse,List.length_map];omega,fun p hp=>?_⟩
 ·rw[h.one h1,hn,List.reverse_append,List.reverse_reverse,Tj];simp only;rw[if_neg h0,if_pos hl] <;> rfl
 ·rcases List.mem_append.1 hp with hp|hp
  ·exact h.at_ p (by simp[hp])
  ·obtain⟨r,hr,rfl⟩:=List.mem_map.1 (List.mem_reverse.1 hp);have:=qbQ hn hl r hr;exact⟨this.1,this.2,by simp only;omega,by simp only;omega⟩
theorem LvI.leafBad (h:LvI S a (s++[x]) t) (h1:qN t x.1=1) {l:Int} {xs:List It} (hn:qt S x.1=some (l,xs)) (h0:¬(0<=x.2/\l≠x.2)) (hl:¬0<l) {e:Int} (he:looseL (qz xs) (t.set x.1 0)=.error e):QH S (-1) S.now a=none:=by rw[h.one h1,hn];simp only;rw[if_neg h0,if_neg hl,he]
theorem LvI.leaf (h:LvI S a (s++[x]) t) (h1:qN t x.1=1) {l:Int} {xs:List It} (hn:qt S x.1=some (l,xs)) (h0:¬(0<=x.2/\l≠x.2)) (hl:¬0<l) {t':List UInt8} (he:looseL (qz xs) (t.set x.1 0)=.ok t'):LvI S a s t':=by have hd:=Gl h1;obtain⟨hs,hj⟩:=VL he;have hf:=h.few;simp only[List.length_append,List.length_cons,List.length_nil] at hf;refine⟨?_,JK (fun b hb=>(KM hn b hb).1) (ZJ h.may h.top.1 _) he,fun j=>Nat.le_trans (hj j) (Nat.le_trans (zero_le t x.1 j) (h.le j)),zO,fun p hp=>h.at_ p (by simp[hp])⟩;rw[h.one h1,hn];simp only;rw[if_neg h0,if_neg hl,he]
end
def Qs (vs:List Vol) (id:Int):Option Vol:=vs.find? fun v=>decide (v.id=id)
abbrev YS:Vol:=⟨0,0,false,0⟩
def volQ:Option Vol->Value
 |none=>.tuple #[jz YS,.int .i64 6]
 |some v=>.tuple #[jz v,.int .i64 0]
def VolIx (vs:List Vol) (id:Int) (u:Value):Prop:=(∃ (j:Nat) (hj:j<vs.length),u=.int .i64 (j:Int)/\Qs vs id=some vs[j])\/(u=.int .i64 (-1)/\Qs vs id=none)
theorem qhi {vs:List Vol} {id:Int} {j:Nat} (hj:j<vs.length) (he:vs[j].id=id) (hn:∀ i (hi:i<vs.length),i<j->vs[i].id≠id):VolIx vs id (.int .i64 (j:Int)):=by refine .inl ⟨j,hj,rfl,?_⟩;unfold Qs;rw[List.find?_eq_some_iff_getElem];exact⟨by simp[he],j,hj,rfl,fun i hi=>by simp[hn i zO hi]⟩
theorem qcv {vs:List Vol} {id:Int} (hn:∀ i (hi:i<vs.length),vs[i].id≠id):VolIx vs id (.int .i64 (-1)):=by refine .inr ⟨rfl,?_⟩;unfold Qs;rw[List.find?_eq_none];intro v hv;obtain⟨i,hi,rfl⟩:=List.mem_iff_getElem.1 hv;simp[hn i hi]
set_option maxRecDepth 100000 in
theorem vol1_any (v:Vol) (bi:Nat) (id:Int) (w:World) (h:w.heap[bi]?=some (.cells #[.int .u32 id] 29 (0,0))):Calls prog 61 #[jz v,.pointer (some ⟨bi,0,none⟩)] w (Ret (.bool (decide (v.id=id))) w):=by
 have ki:=qa h;have zi:bi<w.heap.size:=(zG.1 h).1;clear h;go_enter func61,ntmps61;by_cases he:v.id=id
 ·have h1:(v.id == id)=true:=by rw[beq_iff_eq];exact he
  rw[decide_eq_true he];replace he:=zH he;go_wp2;go_ret;exact⟨rfl,zN _ _⟩
 ·have h1:(v.id == id)=false:=by rw[beq_eq_false_iff_ne];exact he
  rw[decide_eq_false he];replace he:=zH he;go_wp2;go_ret;exact⟨rfl,zN _ _⟩
set_option maxRecDepth 100000 in
theorem vidx_any (A c) (vs:List Vol) (hl:vs.length<=16) (bi:Nat) (id:Int) (w:World) (h:w.heap[bi]?=some (.cells #[.int .u32 id] 29 (0,0))) (hr:Rd w w.heap.size 4 A vs.length (je vs)):Calls prog 60 #[.slice A vs.length c,.func (.func 61) #[] #[.pointer (some ⟨bi,0,none⟩)]] w (Zg (fun u _=>VolIx vs id u) w):=by
 replace hr:=zH hr;go_enter func60,ntmps60;go_wp2_with fail;go_loopw [8] (fun i wr=>∃ k:Nat,k<=vs.length/\i=.int .i64 (k:Int)/\Ext w wr/\∀ j (hj:j<vs.length),j<k->vs[j].id≠id) (fun i _=>vs.length-(intOf i).toNat)
 case atStart=>exact⟨0,Nat.zero_le _,rfl,Ext.refl _,fun j _ hj=>absurd hj (Nat.not_lt_zero _)⟩
 case round =>
  obtain⟨k,hk,rfl,xr,aX⟩:=hrel;replace aX:=zH aX;by_cases hlt:k<vs.length
  ·obtain⟨bv,offv,rfl,hbv,aU⟩:=hr.out.2 zO;obtain⟨d0,d1,d2,d3⟩:=XF vs k hlt;replace d0:=Ext.cell xr (aU _ _ d0);replace d1:=Ext.cell xr (aU _ _ d1);replace d2:=Ext.cell xr (aU _ _ d2);replace d3:=Ext.cell xr (aU _ _ d3);have HAT:=zH (fun he=>qhi (id:=id) hlt he fun i hi hik=>aX.out i hi hik);have HNO:=zH (fun (he:vs[k].id≠id) j (hj:j<vs.length) (hjk:j<k+1)=>by
    rcases Nat.lt_or_ge j k with h1|h1
    ·exact aX.out j hj h1
    ·obtain rfl:j=k:=zO;exact he)
   generalize vs[k]=u at *;rw[<-Nat.add_assoc] at d1 d2 d3;clear aU;have iM:=zH (IntWalk.wrap64_in ((k:Int)+1) zO);have hV:=vol1_any u bi id wr (qb h xr);go_wp2_with fail;refine hV.mono ?_;rintro e w2 ⟨rfl,hB⟩;clear d0 d1 d2 d3 hV;by_cases he:u.id=id
   ·rw[decide_eq_true he];have HQ:=zH (HAT.out he);clear HAT HNO;replace he:=zH he;go_wp2_with fail;refine bodyPost_ret (v:=.int .i64 (k:Int)) ?_ rfl ⟨_,rfl,HQ.out,Ext.trans xr hB⟩;simp[results,results60,go_sem]
   ·rw[decide_eq_false he];have HQ:=zH (HNO.out he);clear HAT HNO;replace he:=zH he;have aA:=iM.out;go_wp2_with fail;refine⟨⟨k+1,hlt,rfl,Ext.trans xr hB,fun j hj hjk=>HQ.out j hj hjk⟩,?_⟩;simp[intOf];omega
  ·obtain rfl:k=vs.length:=zO;have HQ:=zH (qcv (id:=id) fun i hi=>aX.out i hi hi);go_wp2_with fail;refine bodyPost_ret (v:=.int .i64 (-1)) ?_ rfl ⟨_,rfl,HQ.out,xr⟩;simp[results,results60,go_sem]
def VolFQ (S:Sto) (root next:Int) (dead:List Int) (id:Int) (w:World) (e:Ending) (w':World):Prop:=Below w.heap.size w w' /\
 ((e=.returned (.tuple #[jz YS,.int .i64 8])/\∀ vs,Qb S root next dead vs->∃ refs nodes,qR S (Qk root dead vs) refs nodes/\¬Qw S refs) \/
  ∃ vs refs nodes,Qb S root next dead vs/\qR S (Qk root dead vs) refs nodes/\Qw S refs/\e=.returned (volQ (Qs vs id)))
theorem qbC {R:Ending->World->Prop} {a:Act} {W:World} {b:Nat} {u:Vol} {v:Value} (h4:a.tmps[4]?.getD undef=.pointer (some ⟨b,0,none⟩)) (h5:a.tmps[5]?.getD undef=v) (hd:a.defers=[]) (aF:W.heap[b]?=some (.cells #[.int .u32 u.id,.int .i64 u.root,.bool u.fz,.int .u32 u.frm] 36 (0,0))) (hR:R (.returned (.tuple #[jz u,v])) W):bodyPost prog Tryz.f17 R .ret a W:=by
 refine bodyPost_ret (v:=.tuple #[jz u,v]) ?_ hd hR;have k:=qa aF;simp[results,results17,go_sem,h4,h5,k]
set_option maxRecDepth 100000 in
theorem VT (A1 n1 c1 A2 n2 c2 A3 n3 c3 A4 n4 c4) (gen root next:Int) (A5 c5) (S:Sto) (dead:List Int) (id:Int) (w:World) (h:qV w w.heap.size (.slice A1 n1 c1) (.slice A2 n2 c2) (.slice A3 n3 c3) (.slice A4 n4 c4) S) (hd:Zv w w.heap.size (.slice A5 dead.length c5) dead):Calls prog 17 #[.agg (qF (.slice A1 n1 c1) (.slice A2 n2 c2) (.slice A3 n3 c3) (.slice A4 n4 c4) gen root next (.slice A5 dead.length c5)),.int .u32 id] w (VolFQ S root next dead id w):=by
 have HT:=zH (fun W (hx:Ext w W)=>KR A1 n1 c1 A2 n2 c2 A3 n3 c3 A4 n4 c4 gen root next A5 c5 S dead W (h.ext hx) (by obtain⟨A,c,e,q1,q2,q3⟩:=hd;exact⟨A,c,e,q1,q2,(q3.below hx).more hx.size⟩));clear h hd;go_enter func17,ntmps17;go_wp2_with fail;generalize aA:(World.alloc (World.alloc (World.alloc w _) _) _)=w1;have x1:Ext w w1:=by rw[<-aA];exact((zN _ _).trans (zN _ _)).trans (zN _ _)
 have ri1:w1.heap[w.heap.size+1]?=some (.cells #[.int .u32 id] 29 (0,0)):=by rw[<-aA];exact(zK _ _ _ zA2).trans (zI _ _ _ zA2)
 have rv1:w1.heap[w.heap.size+2]?=some (.cells #[.int .u32 0,.int .i64 0,.bool false,.int .u32 0] 36 (0,0)):=by rw[<-aA];exact zI _ _ _ zA2
 clear aA;refine(HT.out w1 x1).mono ?_;clear HT;rintro e w2 ⟨hB,hQ⟩;have x2:Ext w w2:=Ext.trans x1 hB;have ri2:=qb ri1 hB;have rv2:=qb rv1 hB;have z2:w.heap.size+2<w2.heap.size:=(zG.1 rv2).1;have kv2:=qa rv2;have fv2:=qe rv2;rcases hQ with ⟨rfl,aX⟩|⟨vs,refs,nodes,cb,ca,vv,rfl,hT⟩
 ·replace aX:=zH aX;clear hB x1 ri1 rv1;go_wp2_with fail;exact qbC (b:=w.heap.size+2) (u:=YS) rfl rfl rfl (VC rv2 _ _ _ _) ⟨Zl x2 zO _ _ _ _,.inl ⟨rfl,aX.out⟩⟩
 ·have hvs:vs.length<=16:=by
   have hv:=hT.pool.vols;unfold Vr at hv;split at hv
   ·cases hv
   ·exact kG _ _ _ _ zA2 hv
  obtain⟨AV,cV,rfl,hHA,hHC⟩:=qE hT.own;have pM:=Rd.of_own hT.own;have kc:w2.cell? ⟨cb,518,none⟩=some (.slice AV vs.length cV):=by rw[qa hT.row];exact hT.ar.vol
  have HIX:=zH (vidx_any AV cV vs hvs (w.heap.size+1) id w2 ri2 pM);have HR:=zH pM;replace hT:=zH hT;clear hB x1 ri1 rv1 pM;go_wp2_with fail;refine HIX.out.mono ?_;clear HIX;rintro e w3 ⟨u,rfl,hu,hB⟩;have x3:Ext w w3:=Ext.trans x2 hB;have rv3:=qb rv2 hB;have kv3:=qa rv3;have fv3:=qe rv3;have kc3:=Ext.cell hB kc;rcases hu with ⟨j,hj,rfl,hv⟩|⟨rfl,hv⟩
  ·obtain⟨bv,offv,rfl,hbv,aU⟩:=HR.out.2 zO;obtain⟨d0,d1,d2,d3⟩:=XF vs j hj;replace d0:=Ext.cell hB (aU _ _ d0);replace d1:=Ext.cell hB (aU _ _ d1);replace d2:=Ext.cell hB (aU _ _ d2);replace d3:=Ext.cell hB (aU _ _ d3);generalize vs[j]=u at *;rw[<-Nat.add_assoc] at d1 d2 d3;have hj1:decide ((j:Int)<0)=false:=decide_eq_false zO;replace hv:=zH hv;replace x3:=zH x3;clear aU kv2 fv2 rv2 ri2 kc x2 hB z2;go_wp2_with fail;exact qbC (b:=w.heap.size+2) (u:=u) rfl rfl rfl (VC rv3 _ _ _ _) ⟨Zl x3.out zO _ _ _ _,.inr ⟨vs,refs,nodes,hT.out.pool,hT.out.cnt,hT.out.enough,by rw[hv.out];rfl⟩⟩
  ·replace hv:=zH hv;replace x3:=zH x3;clear kv2 fv2 rv2 ri2 kc x2 hB z2;go_wp2_with fail;exact qbC (b:=w.heap.size+2) (u:=YS) rfl rfl rfl (VC rv3 _ _ _ _) ⟨Zl x3.out zO _ _ _ _,.inr ⟨vs,refs,nodes,hT.out.pool,hT.out.cnt,hT.out.enough,by rw[hv.out];rfl⟩⟩
abbrev VU (x:It) (A:OA) (c:Nat):Array Value:=#[.int .u8 x.k,.int .u32 x.i,.int .u32 x.o,.int .i64 x.r,.slice A x.val.length c]
abbrev Up:Array Value:=#[.int .u8 0,.int .u32 0,.int .u32 0,.int .i64 0,.slice none 0 0]
def qfh (lo:Nat) (q:Option It) (u:Value) (W:World):Prop:=match q with
 |none=>u=.tuple #[.agg Up,.int .i64 6]
 |some x=>∃ A c,u=.tuple #[.agg (VU x A c),.int .i64 0]/\Bys W W.heap.size (.slice A x.val.length c) x.val/\Zu lo (.slice A x.val.length c)
theorem qcK {w:World} {lo b off n c:Nat} {xs:List It} (h:ZL lo w (.slice (some ⟨b,off,none⟩) n c) xs) (i:Nat) (hi:i<xs.length):∃ A' c',ItAt w w.heap.size b (off+i*5) xs[i] A' c'/\Zu lo (.slice A' xs[i].val.length c'):=by
 obtain⟨ps,rfl,⟨A,c1,e,_,_,hr⟩,hp,hf,hg⟩:=h;cases e;have fP:i<ps.length:=by simpa using hi
 obtain⟨b',off',e,hb,hc⟩:=hr.2 zO;cases e;obtain⟨c0,c1,c2,c3,c4⟩:=vD ps i fP;have hgi:=hg ps[i] (List.getElem_mem fP);obtain⟨⟨A',c',e5⟩,aS⟩:=hp ps[i] (List.getElem_mem fP);rw[e5] at c4 aS hgi;refine⟨A',c',?_,by simpa using hgi⟩;simp only[List.getElem_map];refine⟨hc _ _ c0,?_,?_,?_,?_,aS⟩
 ·rw[Nat.add_assoc];exact hc _ _ c1
 ·rw[Nat.add_assoc];exact hc _ _ c2
 ·rw[Nat.add_assoc];exact hc _ _ c3
 ·rw[Nat.add_assoc];exact hc _ _ c4
def YK (S:Sto) (i:Value):Nat:=match qt S (intOf i).toNat with
 |some (l,_)=>l.toNat
 |none=>0
theorem UD {S:Sto} {r h:Nat} {ys:List It} (hn:qt S r=some ((h:Int),ys)):YK S (.int .i64 (r:Int))=h:=by unfold YK intOf;simp only[Int.toNat_natCast];rw[hn];simp
structure FnI (S:Sto) (K:K3) (q:Option It) (w2:World) (i:Value) (wr:World):Prop where
 ex:∃ (h r:Nat) (ys:List It),i=.int .i64 (r:Int)/\8<=r/\r<256/\qt S r=some ((h:Int),ys)/\(qD S h ys).isSome=true/\UK S K h ys=q/\Ext w2 wr
theorem Gt {R:Ending->World->Prop} {a:Act} {W:World} {b:Nat} {cs:Array Value} {v:Value} (h6:a.tmps[6]?.getD undef=.pointer (some ⟨b,0,none⟩)) (h7:a.tmps[7]?.getD undef=v) (hd:a.defers=[]) (aF:W.heap[b]?=some (.cells cs 51 (0,0))) (hs:∃ x0 x1 x2 x3 x4,cs=#[x0,x1,x2,x3,x4]) (hR:R (.returned (.tuple #[.agg cs,v])) W):bodyPost prog Tryz.f87 R .ret a W:=by
 refine bodyPost_ret (v:=.tuple #[.agg cs,v]) ?_ hd hR;have k:=qa aF;obtain⟨x0,x1,x2,x3,x4,rfl⟩:=hs;simp[results,results87,go_sem,h6,h7,k]
theorem row5 {w:World} {b:Nat} {ty:TypeId} {y0 y1 y2 y3 y4:Value} (h:w.heap[b]?=some (.cells #[y0,y1,y2,y3,y4] ty (0,0))) (x0 x1 x2 x3 x4:Value) : (((((w.setCell ⟨b,0,none⟩ x0).setCell ⟨b,1,none⟩ x1).setCell ⟨b,2,none⟩ x2).setCell ⟨b,3,none⟩ x3).setCell ⟨b,4,none⟩ x4).heap[b]?=some (.cells #[x0,x1,x2,x3,x4] ty (0,0)):=qi (qi (qi (qi (qi h 0 x0) 1 x1) 2 x2) 3 x3) 4 x4
theorem TE {w0 w:World} {B b:Nat} (h:Below B w0 w) (hb:B<=b) (x0 x1 x2 x3 x4:Value):Below B w0 (((((w.setCell ⟨b,0,none⟩ x0).setCell ⟨b,1,none⟩ x1).setCell ⟨b,2,none⟩ x2).setCell ⟨b,3,none⟩ x3).setCell ⟨b,4,none⟩ x4):=
 Below.setCell (Below.setCell (Below.setCell (Below.setCell (Below.setCell h (p:=⟨b,0,none⟩) hb _) (p:=⟨b,1,none⟩) hb _) (p:=⟨b,2,none⟩) hb _) (p:=⟨b,3,none⟩) hb _) (p:=⟨b,4,none⟩) hb _
theorem its_set5 {w:World} {lo b:Nat} {v:Value} {xs:List It} (h:ZL lo w v xs) (hb:b<lo) (x0 x1 x2 x3 x4:Value):ZL lo (((((w.setCell ⟨b,0,none⟩ x0).setCell ⟨b,1,none⟩ x1).setCell ⟨b,2,none⟩ x2).setCell ⟨b,3,none⟩ x3).setCell ⟨b,4,none⟩ x4) v xs:=by
 refine h.keep zA2 (fun q hq _=>?_);have aG:∀ j,(⟨b,j,none⟩:Addr)≠q:=fun j e=>by subst e;simp at hq;omega
 rw[World.cell?_setCell_other _ _ _ _ (aG _),World.cell?_setCell_other _ _ _ _ (aG _),World.cell?_setCell_other _ _ _ _ (aG _),World.cell?_setCell_other _ _ _ _ (aG _),World.cell?_setCell_other _ _ _ _ (aG _)]
theorem bys_set5 {w:World} {b lo:Nat} {v:Value} {l:List UInt8} (h:Bys w w.heap.size v l) (hf:Zu lo v) (hb:b<lo) (x0 x1 x2 x3 x4:Value):Bys (((((w.setCell ⟨b,0,none⟩ x0).setCell ⟨b,1,none⟩ x1).setCell ⟨b,2,none⟩ x2).setCell ⟨b,3,none⟩ x3).setCell ⟨b,4,none⟩ x4) (((((w.setCell ⟨b,0,none⟩ x0).setCell ⟨b,1,none⟩ x1).setCell ⟨b,2,none⟩ x2).setCell ⟨b,3,none⟩ x3).setCell ⟨b,4,none⟩ x4).heap.size v l:=by
 have:=((((h.setCell hf (p:=⟨b,0,none⟩) hb x0).setCell hf (p:=⟨b,1,none⟩) hb x1).setCell hf (p:=⟨b,2,none⟩) hb x2).setCell hf (p:=⟨b,3,none⟩) hb x3).setCell hf (p:=⟨b,4,none⟩) hb x4;refine this.more ?_;simp
theorem its_cell {w:World} {lo b:Nat} {v:Value} {xs:List It} (_:ZL lo w v xs) {q:Addr} (hb:b<lo) (x0 x1 x2 x3 x4:Value) (hq:lo<=q.block) : (((((w.setCell ⟨b,0,none⟩ x0).setCell ⟨b,1,none⟩ x1).setCell ⟨b,2,none⟩ x2).setCell ⟨b,3,none⟩ x3).setCell ⟨b,4,none⟩ x4).cell? q=w.cell? q:=by
 have aG:∀ j,(⟨b,j,none⟩:Addr)≠q:=fun j e=>by subst e;simp at hq;omega
 rw[World.cell?_setCell_other _ _ _ _ (aG _),World.cell?_setCell_other _ _ _ _ (aG _),World.cell?_setCell_other _ _ _ _ (aG _),World.cell?_setCell_other _ _ _ _ (aG _),World.cell?_setCell_other _ _ _ _ (aG _)]
set_option maxRecDepth 100000 in
theorem qkl (A1 n1 c1 A2 n2 c2 A3 n3 c3 A4 n4 c4) (S:Sto) (hS:ql S=true) (a lvl:Nat) (xs:List It) (ha:8<=a) (ak:a<256) (hn:qt S a=some ((lvl:Int),xs)) (aN:(qD S lvl xs).isSome=true) (k i o:Int) (w:World) (aH:qV w w.heap.size (.slice A1 n1 c1) (.slice A2 n2 c2) (.slice A3 n3 c3) (.slice A4 n4 c4) S):Calls prog 87 #[Qe A1 n1 c1 A2 n2 c2 A3 n3 c3 A4 n4 c4,.int .i64 (a:Int),TP k i o] w (Zg (qfh w.heap.size (UK S (k,i,o) lvl xs)) w):=by
 have HCK:=zH (fun W (hx:Ext w W)=>Yj A1 n1 c1 A2 n2 c2 A3 n3 c3 A4 n4 c4 S hS a ⟨ha,ak,lvl,xs,hn,aN⟩ W (aH.ext hx));have HON:=zH (fun W (hx:Ext w W)=>qeA A1 n1 c1 A2 n2 c2 A3 n3 c3 A4 n4 c4 S (by have:=(Qc hS).2.2.1;omega) W (aH.ext hx));obtain⟨q,hq⟩:∃ q,UK S (k,i,o) lvl xs=q:=⟨_,rfl⟩
 rw[hq];have HI0:∀ W,FnI S (k,i,o) q W (.int .i64 (a:Int)) W:=fun W=>⟨lvl,a,xs,rfl,ha,ak,hn,aN,hq,Ext.refl _⟩
 replace HI0:=zH HI0;replace hS:=zH hS;clear aH hn aN hq ha ak;go_enter func87,ntmps87;go_wp2_with fail;generalize aA:(World.alloc (World.alloc (World.alloc w _) _) _)=w1;have x1:Ext w w1:=by rw[<-aA];exact((zN _ _).trans (zN _ _)).trans (zN _ _)
 have rs1:w1.heap[w.heap.size]?=some (.cells #[.slice A1 n1 c1,.slice A2 n2 c2,.slice A3 n3 c3,.slice A4 n4 c4] 28 (0,0)):=by rw[<-aA];exact(zK _ _ _ zA1).trans ((zK _ _ _ zA2).trans (zI _ _ _ rfl))
 have rk1:w1.heap[w.heap.size+1]?=some (.cells #[.int .u8 k,.int .u32 i,.int .u32 o] 49 (0,0)):=by rw[<-aA];exact(zK _ _ _ zA2).trans (zI _ _ _ zA2)
 have ri1:w1.heap[w.heap.size+2]?=some (.cells Up 51 (0,0)):=by rw[<-aA];exact zI _ _ _ zA2
 clear aA;have ks1:=qa rs1;go_step3;go_wp2_with fail;refine(HCK.out w1 x1).mono ?_;clear HCK;rintro e w2 ⟨u,rfl,⟨m,rfl⟩,hB⟩;have x2:Ext w w2:=Ext.trans x1 hB;have rs2:=qb rs1 hB;have rk2:=qb rk1 hB;have ri2:=qb ri1 hB;clear rs1 rk1 ri1 hB x1 ks1;have ks2:=qa rs2;go_wp2_with fail;refine(HON.out w2 x2).mono ?_;clear HON;rintro e w3 ⟨u,rfl,⟨bb,A3',c3',rfl,uO,-⟩,hB⟩;have x3:Ext w w3:=Ext.trans x2 hB;have rk3:=qb rk2 hB;have ri3:=qb ri2 hB;clear rs2 rk2 ri2 hB x2 ks2;replace uO:=zH uO;have I0:=zH (HI0.out w3);clear HI0;go_wp2_with fail;go_step3;go_wp2_with fail;go_loopw [10] (fun j wr=>FnI S (k,i,o) q w3 j wr) (fun j _=>YK S j)
 case atStart=>exact I0.out
 case round =>
  obtain⟨h,r,ys,rfl,h8,h256,hn,aN,hq,xr⟩:=hrel.ex;clear I0 hrel;have hlv:=UD hn;obtain⟨hm1,iw,-⟩:=qM hn;have yB:ys.length<=5:=by unfold Qf ja at hm1;simp at hm1;omega
  have pI:=(Vg aN).2;have pq:=Kz 0 bb A1 n1 c1 A2 n2 n2 A3' n3 c3' A4 n4 c4 S hS.out r h8 h256 wr ⟨Nat.zero_le _,(uO.out.ext xr).2⟩;rw[hn] at pq;have xwr:=x3.trans xr;have rkr:=qb rk3 xr;have rir:=qb ri3 xr;have zr:w.heap.size+2<wr.heap.size:=(zG.1 rir).1;replace hlv:=zH hlv;replace aN:=zH aN;replace hn:=zH hn;replace hq:=zH hq;replace iw:=zH iw;replace pI:=zH pI;clear hm1;go_wp2_with fail;refine pq.mono ?_;clear pq;rintro e w4 ⟨u,rfl,⟨A9,c9,rfl,aK⟩,hB⟩;have iR:Ext wr w4:=hB;have x4:=xwr.trans iR;have rk4:=qb rkr iR;have ri4:=qb rir iR;have z4:w.heap.size+2<w4.heap.size:=(zG.1 ri4).1;have kk4:=qa rk4;have z41:w.heap.size+1<w4.heap.size:=zO;replace aK:=zH aK;replace xr:=zH (xr.trans iR);clear rkr rir hB iR xwr;go_wp2_with fail;generalize aT:(World.alloc w4 _)=w5;have x5:Ext w4 w5:=by rw[<-aT];exact zN _ _
  have rn5:w5.heap[w4.heap.size]?=some (.cells #[.int .i64 h,.slice A9 ys.length c9] 113 (0,0)):=by rw[<-aT];exact zI _ _ _ rfl
  clear aT;refine(qdM (h:Int) A9 c9 ys k i o _ w5 yB (aK.out.ext x5)).mono ?_;rintro e w6 ⟨rfl,hB⟩;have x56:Ext w4 w6:=x5.trans hB;have rn6:=qb rn5 hB;have ri6:=qb ri4 x56;have kn6:=qa rn6;have fi6:=qe ri6;have ki6:=qa ri6;have iE:=zH (aK.out.ext x56);replace xr:=zH (xr.out.trans x56);replace x4:=zH (x4.trans x56);clear rn5 x5 hB x56 rk4 ri4 kk4 z4 z41;have hA:=iE.out.its.at_.2.2.2;have pK:=JB ys (k,i,o);have hIT:=zH (fun j (hj:j<ys.length) b9 off (he:A9=some ⟨b9,off,none⟩)=>by have:=iE.out.its;rw[he] at this;exact this.item j hj);obtain⟨ie,mJ⟩:∃ ie,Yn ys (k,i,o)=ie:=⟨_,rfl⟩
  obtain⟨p,hp⟩:∃ p,qA ys (k,i,o)=p:=⟨_,rfl⟩
  have hT:ie=true->∃ hp:qA ys (k,i,o)<ys.length,qo (ys[qA ys (k,i,o)]'hp)=(k,i,o):=fun h0=>by
   rw[h0] at mJ;by_cases hl:qA ys (k,i,o)<ys.length
   ·rw[Kd hl] at mJ;exact⟨hl,of_decide_eq_true mJ⟩
   ·rw[XK hl] at mJ;cases mJ
  have hF:ie=false->∀ hp:qA ys (k,i,o)<ys.length,qo (ys[qA ys (k,i,o)]'hp)≠(k,i,o):=fun h0 hl=>by rw[h0,Kd hl] at mJ;exact of_decide_eq_false mJ
  rw[mJ,hp];rw[hp] at pK;have hT':=zH hT;have lh:=zH hF;replace hp:=zH hp;replace mJ:=zH mJ;clear hT hF;have HREL:=zH (fun (x:It) (hx:x∈ys) (hd:Ul ys (k,i,o)=some x) (h':Nat) (hh:h=h'+1)=>by
   have h1:=ZU aN.out x hx;rw[hh] at h1;obtain⟨b,e1,e2,e3,zs,e4,e5⟩:=ZF h1;have e6:qt S x.r.toNat=some ((h':Int),zs):=by rw[e1,Int.toNat_natCast];exact e4
   have e7:UK S (k,i,o) h' zs=q:=by rw[<-one_down hd e6,<-hh];exact hq.out
   have e8:YK S (.int .i64 (b:Int))<YK S (.int .i64 (r:Int)):=by rw[UD e4,hlv.out];omega
   exact(⟨b,e1,⟨⟨h',b,zs,rfl,e2,e3,e4,e5,e7,xr.out⟩⟩,e8⟩:∃ b:Nat,x.r=(b:Int)/\FnI S (k,i,o) q w3 (.int .i64 (b:Int)) w6/\YK S (.int .i64 (b:Int))<YK S (.int .i64 (r:Int))))
  rcases Nat.eq_zero_or_pos h with h0|h0
  ·have hh1:((h:Int) == 0)=true:=by rw[beq_iff_eq];omega
   clear HREL;cases ie
   ·have hz:q=none:=by rw[<-hq.out,h0,qgB,leaf_no pI.out (lh.out rfl)]
    replace h0:=zH h0;replace hz:=zH hz;clear hA pK;go_wp2_with fail;exact Gt (b:=w.heap.size+2) rfl rfl rfl (row5 ri6 _ _ _ _ _) ⟨_,_,_,_,_,rfl⟩ ⟨_,rfl,by rw[hz.out];rfl,TE x4.out zO _ _ _ _ _⟩
   ·obtain⟨bM,lU⟩:=hT'.out rfl;have hz:q=some ys[qA ys (k,i,o)]:=by rw[<-hq.out,h0,qgB,leaf_is pI.out bM lU]
    obtain⟨b9,off,rfl,hb9⟩:=hA zO;obtain⟨A',c',d0,d1,d2,d3,d4,-⟩:=hIT.out _ bM b9 off rfl;have hfr:=zH (fun j=>Xk iE.out b9 off ys.length c9 j rfl zO);have hI5:=fun x0 x1 x2 x3 x4=>qcK (its_set5 iE.out (b:=w.heap.size+1+1) zO x0 x1 x2 x3 x4) _ bM;have iQ:=hp.out;generalize ys[qA ys (k,i,o)]=x at *;simp only[iQ] at bM d0 d1 d2 d3 d4 hI5;replace h0:=zH h0;replace hz:=zH hz;replace hI5:=zH hI5;replace lU:=zH lU;clear hA pK iQ hb9;go_wp2_with fail;obtain⟨A'',c'',⟨-,-,-,-,g4,gb⟩,gf⟩:=hI5.out (.int .u8 x.k) (.int .u32 x.i) (.int .u32 x.o) (.int .i64 x.r) (.slice A' x.val.length c');have hOR:=its_cell iE.out (b:=w.heap.size+1+1) (q:=⟨b9,off+p*5+4,none⟩) zO (.int .u8 x.k) (.int .u32 x.i) (.int .u32 x.o) (.int .i64 x.r) (.slice A' x.val.length c') (hfr.out 0);rw[hOR,d4] at g4;simp only[Option.some.injEq,Value.slice.injEq,true_and] at g4;obtain⟨rfl,rfl⟩:=g4;exact Gt (b:=w.heap.size+2) rfl rfl rfl (row5 ri6 _ _ _ _ _) ⟨_,_,_,_,_,rfl⟩ ⟨_,rfl,by rw[hz.out];exact⟨A',c',rfl,gb,gf.mono zO⟩,TE x4.out zO _ _ _ _ _⟩
  ·have hh1:((h:Int) == 0)=false:=by rw[beq_eq_false_iff_ne];omega
   obtain⟨h',hh⟩:∃ h',h=h'+1:=⟨h-1,zO⟩
   replace hh:=zH hh;replace h0:=zH h0;cases ie
   ·rcases Nat.eq_zero_or_pos p with hp0|hp0
    ·have hz:q=none:=by rw[<-hq.out,hh.out,one_none (down_no pI.out (by rw[hp.out];exact hp0) (lh.out rfl))]
     have yL:((p:Int) == 0)=true:=by rw[beq_iff_eq];omega
     replace hp0:=zH hp0;replace hz:=zH hz;clear hA pK HREL;go_wp2_with fail;exact Gt (b:=w.heap.size+2) rfl rfl rfl (row5 ri6 _ _ _ _ _) ⟨_,_,_,_,_,rfl⟩ ⟨_,rfl,by rw[hz.out];rfl,TE x4.out zO _ _ _ _ _⟩
    ·have hd:=qfT pI.out (by rw[hp.out];exact hp0) (lh.out rfl);have yL:((p:Int) == 0)=false:=by rw[beq_eq_false_iff_ne];omega
     have dV:decide (p=0)=false:=decide_eq_false zO;simp only[hp.out] at hd;obtain⟨b',e1,e2,e3⟩:=HREL.out _ (List.getElem_mem _) hd h' hh.out;obtain⟨x,hx⟩:∃ x,ys[p-1]'(by omega)=x:=⟨_,rfl⟩
     rw[hx] at hd e1;obtain⟨p',rfl⟩:∃ p',p=p'+1:=⟨p-1,zO⟩
     obtain⟨b9,off,rfl,hb9⟩:=hA zO;obtain⟨A',c',-,-,-,d3,-,-⟩:=hIT.out p' zO b9 off rfl;simp only[Nat.add_sub_cancel] at hx;rw[hx,e1] at d3;replace hx:=zH hx;have iM:wrap64 (((p'+1:Nat):Int)-1)=(p':Int):=by rw[IntWalk.wrap64_in _ zO];omega
     have hlt:p'<ys.length:=zO;replace iM:=iM;replace hd:=zH hd;replace e1:=zH e1;replace e2:=zH e2;replace e3:=zH e3;clear hA HREL;replace pK:=zH pK;replace hp0:=zH hp0;go_wp2_with fail;exact⟨e2.out,e3.out⟩
   ·obtain⟨bM,lU⟩:=hT'.out rfl;have hd:=down_is pI.out bM lU;obtain⟨b',e1,e2,e3⟩:=HREL.out _ (List.getElem_mem _) hd h' hh.out;obtain⟨b9,off,rfl,hb9⟩:=hA zO;obtain⟨A',c',-,-,-,d3,-,-⟩:=hIT.out _ bM b9 off rfl;rw[e1] at d3;have iQ:=hp.out;simp only[iQ] at bM d3;replace hd:=zH hd;replace lU:=zH lU;replace e1:=zH e1;replace e2:=zH e2;replace e3:=zH e3;clear hA HREL pK iQ;obtain⟨pz,yL,dV⟩:∃ pz:Bool,((p:Int) == 0)=pz/\decide (p=0)=pz:=by
     rcases Nat.eq_zero_or_pos p with hp0|hp0
     ·exact⟨true,by rw[beq_iff_eq];omega,decide_eq_true hp0⟩
     ·exact⟨false,by rw[beq_eq_false_iff_ne];omega,decide_eq_false zO⟩
    cases pz;all_goals
     go_wp2_with fail;exact⟨e2.out,e3.out⟩
def qdm (S:Sto) (root:Int) (K:K3):Option It:=match qt S root.toNat with
 |none=>none
 |some (lvl,xs)=>UK S K lvl.toNat xs
def Jr (S:Sto) (root next:Int) (dead:List Int) (vs:List Vol):Prop:=∃ refs nodes,Qb S root next dead vs/\qR S (Qk root dead vs) refs nodes/\Qw S refs
def QK (S:Sto) (root next:Int) (dead:List Int):Prop:=∀ vs,Qb S root next dead vs->∃ refs nodes,qR S (Qk root dead vs) refs nodes/\¬Qw S refs
theorem jI {vs:List Vol} {id:Int} {v:Vol} (h:Qs vs id=some v):v∈vs:=List.mem_of_find?_eq_some h
theorem qdS {S:Sto} {root next:Int} {dead:List Int} {vs:List Vol} (h:Qb S root next dead vs) {v:Vol} (hv:v∈vs):∃ a:Nat,v.root=(a:Int)/\jj S a:=
 ZR (h.ok v.root (by unfold Za;exact List.mem_append_right _ (List.mem_map.2 ⟨v,hv,rfl⟩)))
def VFindQ (S:Sto) (root next:Int) (dead:List Int) (id:Int) (K:K3) (w:World) (e:Ending) (w':World):Prop:=Below w.heap.size w w' /\
 ((e=.returned (.tuple #[.agg Up,.int .i64 8])/\QK S root next dead) \/
  ∃ vs u,Jr S root next dead vs/\e=.returned u/\match Qs vs id with
   |none=>u=.tuple #[.agg Up,.int .i64 6]
   |some v=>qfh w.heap.size (qdm S v.root K) u w')
theorem XY {R:Ending->World->Prop} {a:Act} {W:World} {b:Nat} {cs:Array Value} {v:Value} (h6:a.tmps[6]?.getD undef=.pointer (some ⟨b,0,none⟩)) (h7:a.tmps[7]?.getD undef=v) (hd:a.defers=[]) (aF:W.heap[b]?=some (.cells cs 51 (0,0))) (hs:∃ x0 x1 x2 x3 x4,cs=#[x0,x1,x2,x3,x4]) (hR:R (.returned (.tuple #[.agg cs,v])) W):bodyPost prog Tryz.f32 R .ret a W:=by
 refine bodyPost_ret (v:=.tuple #[.agg cs,v]) ?_ hd hR;have k:=qa aF;obtain⟨x0,x1,x2,x3,x4,rfl⟩:=hs;simp[results,results32,go_sem,h6,h7,k]
set_option maxRecDepth 100000 in
theorem qlg (A1 n1 c1 A2 n2 c2 A3 n3 c3 A4 n4 c4) (gen root next:Int) (A5 c5) (S:Sto) (dead:List Int) (id k i o:Int) (w:World) (h:qV w w.heap.size (.slice A1 n1 c1) (.slice A2 n2 c2) (.slice A3 n3 c3) (.slice A4 n4 c4) S) (hd:Zv w w.heap.size (.slice A5 dead.length c5) dead):Calls prog 32 #[.agg (qF (.slice A1 n1 c1) (.slice A2 n2 c2) (.slice A3 n3 c3) (.slice A4 n4 c4) gen root next (.slice A5 dead.length c5)),.int .u32 id,TP k i o] w (VFindQ S root next dead id (k,i,o) w):=by
 have HT:=zH (fun W (hx:Ext w W)=>VT A1 n1 c1 A2 n2 c2 A3 n3 c3 A4 n4 c4 gen root next A5 c5 S dead id W (h.ext hx) (by obtain⟨A,c,e,q1,q2,q3⟩:=hd;exact⟨A,c,e,q1,q2,(q3.below hx).more hx.size⟩));have HF:=zH (fun W (hx:Ext w W) (hS:ql S=true) a lvl xs ha ak hn aN=>qkl A1 n1 c1 A2 n2 c2 A3 n3 c3 A4 n4 c4 S hS a lvl xs ha ak hn aN k i o W (h.ext hx));clear h hd;go_enter func32,ntmps32;go_wp2_with fail;generalize aA:(World.alloc (World.alloc (World.alloc w _) _) _)=w1;have x1:Ext w w1:=by rw[<-aA];exact((zN _ _).trans (zN _ _)).trans (zN _ _)
 have rp1:w1.heap[w.heap.size]?=some (.cells (qF (.slice A1 n1 c1) (.slice A2 n2 c2) (.slice A3 n3 c3) (.slice A4 n4 c4) gen root next (.slice A5 dead.length c5)) 32 (0,0)):=by rw[<-aA];exact(zK _ _ _ zA1).trans ((zK _ _ _ zA2).trans (zI _ _ _ rfl))
 have rk1:w1.heap[w.heap.size+1]?=some (.cells #[.int .u8 k,.int .u32 i,.int .u32 o] 49 (0,0)):=by rw[<-aA];exact(zK _ _ _ zA2).trans (zI _ _ _ zA2)
 have ri1:w1.heap[w.heap.size+2]?=some (.cells Up 51 (0,0)):=by rw[<-aA];exact zI _ _ _ zA2
 clear aA;refine(HT.out w1 x1).mono ?_;clear HT;rintro e w2 ⟨hB,hQ⟩;have x2:Ext w w2:=Ext.trans x1 hB;have rp2:=qb rp1 hB;have rk2:=qb rk1 hB;have ri2:=qb ri1 hB;have z2:w.heap.size+2<w2.heap.size:=(zG.1 ri2).1;have z20:w.heap.size<w2.heap.size:=zO;have z21:w.heap.size+1<w2.heap.size:=zO;clear hB x1 rp1 rk1 ri1;rcases hQ with ⟨rfl,aX⟩|⟨vs,refs,nodes,hp,fJ,uU,rfl⟩
 ·replace aX:=zH aX;have ki2:=qa ri2;have fi2:=qe ri2;go_wp2_with fail;exact XY (b:=w.heap.size+2) (cs:=Up) rfl rfl rfl ((zK _ _ _ zA1).trans (row5 ri2 _ _ _ _ _)) ⟨_,_,_,_,_,rfl⟩ ⟨Below.alloc (TE x2 zO _ _ _ _ _) zA1 _,.inl ⟨rfl,aX.out⟩⟩
 ·have hok:=zH (⟨refs,nodes,hp,fJ,uU⟩:Jr S root next dead vs);replace hp:=zH hp;clear fJ uU;rcases hv:Qs vs id with _|v
  ·unfold volQ;replace hv:=zH hv;have ki2:=qa ri2;have fi2:=qe ri2;go_wp2_with fail;exact XY (b:=w.heap.size+2) (cs:=Up) rfl rfl rfl ((zK _ _ _ zA1).trans (row5 ri2 _ _ _ _ _)) ⟨_,_,_,_,_,rfl⟩ ⟨Below.alloc (TE x2 zO _ _ _ _ _) zA1 _,.inr ⟨vs,_,hok.out,rfl,by rw[hv.out];rfl⟩⟩
  ·unfold volQ;obtain⟨a,ha,ht⟩:=qdS hp.out (jI hv);obtain⟨h8,h256,lvl,xs,hn,aN⟩:=ht;have yF:qdm S v.root (k,i,o)=UK S (k,i,o) lvl xs:=by unfold qdm;rw[ha,Int.toNat_natCast,hn];simp
   have HFF:=zH (fun W hx=>HF.out W hx hp.out.may a lvl xs h8 h256 hn aN);have kp2:=qa rp2;have kk2:=qa rk2;replace hv:=zH hv;replace yF:=zH yF;replace ha:=zH ha;clear hn aN HF;go_wp2_with fail;generalize aO:(World.alloc w2 _)=w3;have x23:Ext w2 w3:=by rw[<-aO];exact zN _ _
   clear aO;have dK:=HFF.out w3 (x2.trans x23);rw[<-ha.out] at dK;refine dK.mono ?_;clear dK HFF;rintro e w4 ⟨u,rfl,hu,hB⟩;have x4:Ext w w4:=(x2.trans x23).trans hB;have ri4:=qb (qb ri2 x23) hB;have ki4:=qa ri4;have fi4:=qe ri4;have z3:w.heap.size+2<w3.heap.size:=(zG.1 (qb ri2 x23)).1;have z4:w.heap.size+2<w4.heap.size:=(zG.1 ri4).1;replace x4:=zH x4;clear kp2 kk2 rp2 rk2 ri2 hB x23 x2 z2 z20 z21;rcases hq:UK S (k,i,o) lvl xs with _|x
   ·rw[hq] at hu yF;obtain rfl:u=.tuple #[.agg Up,.int .i64 6]:=hu;replace hq:=zH hq;go_wp2_with fail;exact XY (b:=w.heap.size+2) (cs:=Up) rfl rfl rfl (row5 ri4 _ _ _ _ _) ⟨_,_,_,_,_,rfl⟩ ⟨TE x4.out zO _ _ _ _ _,.inr ⟨vs,_,hok.out,rfl,by rw[hv.out];show qfh _ (qdm S v.root (k,i,o)) _ _;rw[yF.out];rfl⟩⟩
   ·rw[hq] at hu yF;obtain⟨A,c,rfl,aS,hfr⟩:=hu;replace hq:=zH hq;replace aS:=zH aS;replace hfr:=zH hfr;go_wp2_with fail;exact XY (b:=w.heap.size+2) (cs:=VU x A c) rfl rfl rfl (row5 ri4 _ _ _ _ _) ⟨_,_,_,_,_,rfl⟩ ⟨TE x4.out zO _ _ _ _ _,.inr ⟨vs,_,hok.out,rfl,by rw[hv.out];show qfh _ (qdm S v.root (k,i,o)) _ _;rw[yF.out];exact⟨A,c,rfl,bys_set5 aS.out hfr.out z3 _ _ _ _ _,hfr.out.mono zO⟩⟩⟩
end Go.Proofs.YtmeadnlmepcmbaaGreat
