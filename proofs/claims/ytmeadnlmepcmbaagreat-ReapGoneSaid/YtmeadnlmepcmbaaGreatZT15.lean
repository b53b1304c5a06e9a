/- Lemmas of the proof. -/
import Derived.Deep.LoopGhost
import Derived.Test.YtmeadnlmepcmbaaGreatZT14
set_option linter.all false
set_option maxHeartbeats 8000000
open Go.Proofs.Tryz
open Bool renaming true→E
open Option renaming some→I,none→O
open Go.Ending renaming returned→M
open Go.Value renaming int→U,slice→Z
open Go renaming World→Y,Value→Oa
namespace Go.Proofs.YtmeadnlmepcmbaaGreat
open Go.RowKit
variable {n a h f m H i q j lo D:Nat}{x y:It}{lvl e:Int}{xs p ys zs l up hs:List It}{S1 S2 S S':Sto}{k:K3}{R:Ending->World->Prop}{W w w':World}{u v:Value}{P:Program}{Q:Exit->Act->World->Prop}{tm:List Value}{c:Code}{mask:List Bool}{rel:Nat->(Nat->Value)->List Nat->World->Prop}{K:Act->World->Prop}{df:List Deferred}{Ds:List Nat}
theorem qbu(k:Nat):∀n,n<256^k->vy (qQ n k)=n:=by
 induction k with
 |zero=>intro n h;simp at h;subst h;rfl
 |succ k ih=>
  intro n h;simp only[qQ,vy];rw[ih (n/256) (by rw[Nat.div_lt_iff_lt_mul zO];rw[Nat.pow_succ]at h;exact h)];simp[UInt8.toNat_ofNat'];omega
theorem qaQ(h:n<256):(UInt8.ofNat n).toNat=n:=by simp[UInt8.toNat_ofNat'];omega
theorem qcY{l A r:List UInt8}{k:Nat}(h:l.drop a=A++r)(hA:A=qQ n k)(hn:n<256^k)(hl:a+k<=l.length):ZH l a k=(n:Int):=by unfold ZH;rw[if_pos hl,h,List.take_left' (by rw[hA,QU]),hA,qbu k n hn]
theorem TN{l A r:List UInt8}{k:Nat}(h:l.drop a=A++r)(hk:A.length=k):l.drop (a+k)=r:=by rw[<-List.drop_drop,h,List.drop_left' hk]
theorem item_rt(h:Zb x)(hb:itB x.r x.val.length=E)(r:List UInt8):Zk (ZP x++r)=I (x,12+x.val.length):=by
 obtain⟨⟨k0,k1⟩,⟨i0,i1⟩,⟨o0,o1⟩,⟨r0,r1⟩,hv⟩:=h;obtain⟨k,i,o,rr,v⟩:=x;obtain⟨k,rfl⟩:=Int.eq_ofNat_of_zero_le k0;obtain⟨i,rfl⟩:=Int.eq_ofNat_of_zero_le i0;obtain⟨o,rfl⟩:=Int.eq_ofNat_of_zero_le o0;obtain⟨rr,rfl⟩:=Int.eq_ofNat_of_zero_le r0;simp only at k1 i1 o1 r1 hv hb⊢;have hlen:(ZP ⟨(k:Int),(i:Int),(o:Int),(rr:Int),v⟩++r).length=12+v.length+r.length:=by rw[List.length_append,Tf]
 have d1:(ZP ⟨(k:Int),(i:Int),(o:Int),(rr:Int),v⟩++r).drop 1=qQ i 4++(qQ o 4++(qQ rr 2++(UInt8.ofNat v.length::(v++r)))):=by simp[ZP,List.append_assoc]
 have e0:(ZP ⟨(k:Int),(i:Int),(o:Int),(rr:Int),v⟩++r)[0]?.getD 0=UInt8.ofNat k:=by simp[ZP]
 generalize ZP ⟨(k:Int),(i:Int),(o:Int),(rr:Int),v⟩++r=l at*;have d5:l.drop 5=_:=TN (k:=4) d1 (QU _ _);have d9:l.drop 9=_:=TN (k:=4) d5 (QU _ _);have d11:l.drop 11=_:=TN (k:=2) d9 (QU _ _);have d12:l.drop 12=v++r:=by rw[show 12=11+1 from rfl,<-List.drop_drop,d11];rfl
 have e11:l[11]?.getD 0=UInt8.ofNat v.length:=by
  have:l[11]?=(l.drop 11)[0]?:=by rw[List.getElem?_drop]
  rw[this,d11];rfl
 have hsz:Vs l=12+v.length:=by unfold Vs;rw[e11,qaQ zO]
 have hit:qbN l=⟨(k:Int),(i:Int),(o:Int),(rr:Int),v⟩:=by unfold qbN;rw[e0,qaQ zO,qcY d1 rfl zO zO,qcY d5 rfl zO zO,qcY d9 rfl zO zO,d12,hsz,List.take_left' zO]
 unfold Zk;rw[hit,hsz,if_neg zO];simp only[Nat.add_sub_cancel_left];rw[if_pos hb]
theorem its_rt{xs:List It}(h:∀x∈xs,Zb x/\itB x.r x.val.length=E)(r:List UInt8):∀k,k<=xs.length->zm (zh xs++r) k=I (xs.take k,zh (xs.drop k)++r)
 |0,_=>by simp[zm]
 |k+1,hk=>by
  have hk':k<xs.length:=zO;have hx:=h xs[k] (List.getElem_mem hk');have e:zh (xs.drop k)=ZP xs[k]++zh (xs.drop (k+1)):=by
   conv=>lhs;rw[List.drop_eq_getElem_cons hk']
   unfold zh;rw[List.flatMap_cons]
  have hr:Zk (zh (xs.drop k)++r)=I (xs[k],12+xs[k].val.length):=by rw[e,List.append_assoc];exact item_rt hx.1 hx.2 _
  rw[Gn (its_rt h r k zO) hr,List.take_succ_eq_append_getElem hk',e,List.append_assoc,List.drop_left' (Tf _)]
theorem node_rt(hm:Qj lvl xs=E)(hok:∀x∈xs,Zb x):QL (Zo (QA lvl xs))=I (lvl,xs):=by
 obtain⟨h0,h6,h5,hit⟩:=Jb hm;obtain⟨L,rfl⟩:=Int.eq_ofNat_of_zero_le h0;have mO:(QA (L:Int) xs).length<=124:=by have:=Xg xs hok;unfold QA;simp only[List.length_cons];omega
 have hlen:(Zo (QA (L:Int) xs)).length=128:=Vr mO;have d0:(Zo (QA (L:Int) xs)).drop 0=qQ (crc (Yl 124 (QA (L:Int) xs))) 4++Yl 124 (QA (L:Int) xs):=by simp[Zo]
 have d4:(Zo (QA (L:Int) xs)).drop 4=Yl 124 (QA (L:Int) xs):=by have:=TN (k:=4) d0 (QU _ _);simpa using this
 have ht4:(Zo (QA (L:Int) xs)).take 4=qQ (crc (Yl 124 (QA (L:Int) xs))) 4:=by unfold Zo;exact List.take_left' (QU _ _)
 have lQ:qbC (Zo (QA (L:Int) xs))=E:=by unfold qbC;rw[ht4,d4,qbu 4 _ (by have:=qjf (Yl 124 (QA (L:Int) xs));omega)];simp
 obtain⟨z,hz,hzz⟩:∃z,Yl 124 (QA (L:Int) xs)=78::UInt8.ofNat L::UInt8.ofNat xs.length::(zh xs++z)/\KE z=E:=⟨List.replicate (124-(QA (L:Int) xs).length) 0,by simp[Yl,QA],by simp[KE]⟩
 rw[hz]at d4;have g:∀j:Nat,(Zo (QA (L:Int) xs))[4+j]?=(78::UInt8.ofNat L::UInt8.ofNat xs.length::(zh xs++z))[j]?:=λj=>by rw[<-d4,List.getElem?_drop]
 have g4:=g 0;have g5:=g 1;have g6:=g 2;have d7:(Zo (QA (L:Int) xs)).drop 7=zh xs++z:=by rw[show 7=4+3 from rfl,<-List.drop_drop,d4];rfl
 simp only[Nat.add_zero,Nat.reduceAdd,List.getElem?_cons_zero,List.getElem?_cons_succ]at g4 g5 g6;rw[qbt hlen lQ,g4,g5,g6,d7];simp only[Option.getD_some];rw[qaQ (show L<256 by omega),qaQ (show xs.length<256 by omega)];have hr:=its_rt (λx hx=>⟨hok x hx,hit x hx⟩) z xs.length (zM _);rw[List.take_length,List.drop_length]at hr;have e78:(78:UInt8).toNat=78:=rfl;rw[e78,qbs h5 hr,if_pos ⟨hm,by simpa [zh]using hzz⟩]
theorem SM.trans{S3:Sto}(h:SM S1 S2)(h':SM S2 S3):SM S1 S3:=⟨λr nd e=>h'.node r nd (h.node r nd e),λr e=>h'.pos r (h.pos r e)⟩
theorem KI(t:List UInt8)(ha:a<t.length)(v:UInt8)(b:Nat):qL (t.set a v) b=if b=a then v.toNat else qL t b:=by unfold qL;by_cases h:b=a;subst h;rw[if_pos rfl,List.getElem?_set_self ha];rfl;rw[if_neg h,List.getElem?_set_ne (Ne.symm h)]
theorem cnt_lt{t:List UInt8}(h:qL t a≠0):a<t.length:=by apply Classical.byContradiction;intro hn;exact h (by unfold qL;rw[List.getElem?_eq_none zO];rfl)
theorem cnt_u8(t:List UInt8)(a:Nat):qL t a<256:=UInt8.toNat_lt _
theorem UZ:∀{l:List Nat}{t t':List UInt8},ja l t=.ok t'->∀b,b≠0->qL t' b=qL t b+l.count b
 |[],t,t',h,b,_=>by simp only[ja]at h;cases h;simp
 |a::r,t,t',h,b,hb=>by simp only[ja]at h;split at h;cases h;rename_i t1 h1;rw[UZ h b hb,List.count_cons];unfold ZR at h1;split at h1;rename_i h0;cases h1;rw[if_neg zA2];omega;split at h1;cases h1;split at h1;cases h1;rename_i h2 h3;cases h1;have hu:=cnt_u8 t a;unfold zj;rw[KI t (cnt_lt h2),qaQ zO];by_cases e:b=a;subst e;simp;omega;rw[if_neg e,if_neg zA2];omega
theorem UQ:∀{l:List Nat}{t t':List UInt8},looseL l t=.ok t'->∀b,b≠0->qL t' b+l.count b=qL t b
 |[],t,t',h,b,_=>by simp only[looseL]at h;cases h;simp
 |a::r,t,t',h,b,hb=>by simp only[looseL]at h;rw[List.count_cons];split at h;rename_i h0;rw[if_neg zA2];exact UQ h b hb;split at h;cases h;rename_i h0 h2;have:=UQ h b hb;have hu:=cnt_u8 t a;unfold jf at this;rw[KI t (cnt_lt h2),qaQ zO]at this;by_cases e:b=a;subst e;rw[if_pos rfl]at this;simp;omega;rw[if_neg e]at this;rw[if_neg zA2];omega
theorem now0(hS:qj S=E):qL S.now 0=0:=qbD (Qd.1 hS).2.1
theorem span_nil(e:qz S h xs=I O):xs=[]:=by
 rcases qac xs with rfl|⟨r,y,rfl⟩
 rfl;exfalso;rw[Kz]at e;obtain⟨_,_,⟨_,e2⟩|⟨_,_,_,_,e2⟩⟩:=Ub e<;>cases e2
theorem YE(hS:qj S=E)(gu:∀x∈p,Zb x)(aK:(qz S h p).isSome=E)(e:Zg S (h:Int) p=.ok (f,S')):SM S S'/\qj S'=E/\(∀b,b≠0->qL S.now b+(qA p).count b<=qL S'.now b)/\qo S' f=I ((h:Int),p)/\8<=f/\f<256:=by
 obtain⟨t,hm,ht,hw,h8,hf,uw,rfl,htm⟩:=GD hS e;have hmay:=(YD gu hS e).1;have hl:=Xx htm;have hc:=UZ ht;have h0:qL t f=0:=by unfold jx at uw;simp only[Bool.and_eq_true,decide_eq_true_eq]at uw;exact uw.2.1
 have s1:SM S (qp S t):=qko λr hr=>by by_cases hr0:r=0;subst hr0;have:=now0 hS;unfold qL at this;omega;have:=hc r hr0;unfold qL at this;omega
 have s2:SM (qp S t) (vz (qp S t) f (Zo (QA (h:Int) p))):=sm_put _ h0 (by show f<t.length;omega);refine⟨s1.trans s2,hmay,λb hb=>?_,?_,h8,hf⟩;show _<=qL (t.set f 1) b;rw[KI t zO];have:=hc b hb;split;rename_i e;subst e;have e1:(1:UInt8).toNat=1:=rfl;omega;omega;rw[qib (show f<t.length by omega)];exact node_rt hm gu
theorem made_one(hn:qo S f=I ((h:Int),p))(h8:8<=f)(hf:f<256)(aK:(qz S h p).isSome=E)(aH:p≠[]):(∃l,jA S (h+1) (jz (jy p) f)=I (qw (jz (jy p) f),l))/\qu S (h+1) [jz (jy p) f]=qu S h p:=by
 have hr:(jz (jy p) f).r=(f:Int):=rfl;have hk:qw (jz (jy p) f)=jy p:=rfl;constructor;rcases hq:qz S h p with _|_|⟨f0,l0⟩
 rw[hq]at aK;cases aK;exact absurd (span_nil hq) aH;refine⟨l0,?_⟩;have hf0:f0=jy p:=by
  obtain⟨x,r,rfl⟩:∃x r,p=x::r:=by
   cases p with
   |nil=>exact absurd rfl aH
   |cons x r=>exact⟨x,r,rfl⟩
  obtain⟨⟨a,r1,e1,ha⟩,-⟩:=qfo hq;obtain⟨l,ho⟩:=(ZF.1 aK).1 x List.mem_cons_self;obtain⟨⟨a2,r2,e2,bC⟩,-⟩:=GH S h x _ _ ho;have:qu S h (x::r)=qu S h [x]++qu S h r:=Ql h [x] r;rw[this,e2,List.cons_append,List.cons.injEq]at e1;rw[<-ha,<-e1.1,bC];rfl
 rw[Jc,hr,hk];unfold vI;rw[if_pos zO];simp only[Int.toNat_natCast,hn,if_true,hq,Option.getD_some,hf0];simp only[qu,List.flatMap_cons,List.flatMap_nil,List.append_nil,hr,Int.toNat_natCast,hn]
theorem SM.each(hm:SM S S')(e:VZ S h xs):VZ S' h xs:=λy hy=>by obtain⟨l,ho⟩:=e y hy;exact⟨l,hm.one h y _ ho⟩
theorem KK(h1:VZ S h xs)(h2:VZ S h ys):VZ S h (xs++ys):=λy hy=>(List.mem_append.1 hy).elim (h1 y) (h2 y)
theorem qcQ{h:Nat}:∀{ps:List (List It)}{S S':Sto}{up:List It},(∀p∈ps,p≠[]/\(∀x∈p,Zb x)/\(qz S h p).isSome=E)->qj S=E->makeL (h:Int) ps S=.ok (up,S') ->
  SM S S'/\qj S'=E/\(∀b,b≠0->qL S.now b+(qA ps.flatten).count b<=qL S'.now b)/\VZ S' (h+1) up/\qu S' (h+1) up=qu S h ps.flatten
 |[],S,S',up,_,hS,e=>by cases e;exact⟨⟨λ_ _ e=>e,λ_ e=>e⟩,hS,λb _=>by simp[qA],λy hy=>(List.not_mem_nil hy).elim,by simp[Ja]⟩
 |p::ps,S,S',up,hp,hS,e=>by
  simp only[makeL]at e;split at e;cases e;rename_i f S1 e1;obtain⟨aH,gu,aK⟩:=hp p List.mem_cons_self;obtain⟨m1,hS1,dP,eY,h8,hf⟩:=YE hS gu aK e1;split at e;cases e;rename_i up1 S2 e2;cases e;obtain⟨m2,uO,au,iW,dK⟩:=qcQ (λq hq=>⟨(hp q (List.mem_cons_of_mem _ hq)).1,(hp q (List.mem_cons_of_mem _ hq)).2.1,m1.spanOk (hp q (List.mem_cons_of_mem _ hq)).2.2⟩) hS1 e2;have hsp2:=m2.spanOk (m1.spanOk aK);obtain⟨ho,hi⟩:=made_one (m2.node _ _ eY) h8 hf hsp2 aH;refine⟨m1.trans m2,uO,λb hb=>?_,?_,?_⟩;have:=dP b hb;have:=au b hb;simp only[List.flatten_cons,qA,List.map_append,List.count_append]at*;omega;intro y hy;rcases List.mem_cons.1 hy with rfl|hy
  exact ho;exact iW y hy;have e3:jz (jy p) f::up1=[jz (jy p) f]++up1:=rfl;rw[e3,Ql,hi,dK,List.flatten_cons,Ql,(m1.trans m2).items h p aK];congr 1;have:∀qs:List (List It),(∀q∈qs,(qz S h q).isSome=E)->qu S1 h qs.flatten=qu S h qs.flatten:=λqs=>by
   induction qs with
   |nil=>intro _;simp[Ja]
   |cons q qs ih=>
    intro hq;rw[List.flatten_cons,Ql,Ql,m1.items h q (hq q List.mem_cons_self),ih λq' sG=>hq q' (List.mem_cons_of_mem _ sG)]
  exact this ps λq hq=>(hp q (List.mem_cons_of_mem _ hq)).2.2
theorem each_pos(e:VZ S h xs)(hx:x∈xs)(h0:x.r.toNat≠0):0<qL S.now x.r.toNat:=by
 obtain⟨l,ho⟩:=e x hx;cases h with
 |zero=>
  unfold jA at ho;split at ho;rename_i hc;rcases hc with hc|hc
  rw[hc]at h0;exact absurd rfl h0;exact hc;cases ho
 |succ h=>
  unfold jA at ho;split at ho;split at ho;cases ho;rename_i hn;unfold qo at hn;split at hn;cases hn;rename_i hc;unfold qL;omega;cases ho
theorem qde(l:List It):(ZQ l).flatten=l:=by unfold ZQ;split<;>simp
theorem YM(e:(qz S h (xs++ys++zs)).isSome=E):(qz S h ys).isSome=E:=by obtain⟨h1,h2⟩:=ZF.1 e;rw[Ql,Ql]at h2;exact ZF.2 ⟨λy hy=>h1 y (by simp[hy]),(List.pairwise_append.1 (List.pairwise_append.1 h2).1).2.1⟩
theorem UH{held:List It}(hS:qj S=E)(hl:∀x∈l,Zb x)(hh:∀x∈held,itB x.r x.val.length=E)(yV:∀b,b≠0->(qA held).count b<=(qA l).count b)(aH:l≠[])(aK:(qz S h l).isSome=E)(e:Qy S (h:Int) l held=.ok (up,S')):SM S S'/\qj S'=E/\(qz S' (h+1) up).isSome=E/\qu S' (h+1) up=qu S h l/\up≠[]:=by
 have hmay:=Km hl hh hS e;unfold Qy at e;split at e;cases e;rename_i up1 S1 e1;split at e;cases e;rename_i t e2;cases e;have hp:∀p∈ZQ l,p≠[]/\(∀x∈p,Zb x)/\(qz S h p).isSome=E:=λp hp=>by
  refine⟨?_,Tq hl p hp,?_⟩;intro hn;subst hn;unfold ZQ at hp;split at hp;rename_i h5;simp only[List.mem_cons,List.not_mem_nil,or_false]at hp;rcases hp with hp|hp
  have:=congrArg List.length hp;simp at this;omega;have:=congrArg List.length hp;simp at this;omega;simp only[List.mem_cons,List.not_mem_nil,or_false]at hp;exact aH hp.symm;unfold ZQ at hp;split at hp;simp only[List.mem_cons,List.not_mem_nil,or_false]at hp;rcases hp with rfl|rfl
  exact YM (xs:=[]) (zs:=l.drop 3) (by simpa using aK);exact YM (xs:=l.take 3) (zs:=[]) (by simpa using aK);simp only[List.mem_cons,List.not_mem_nil,or_false]at hp;subst hp;exact aK
 obtain⟨m1,hS1,hc,he,hi⟩:=qcQ hp hS e1;rw[qde]at hc hi;have hlc:=UQ e2;have m2:SM S1 (qp S1 t):=qko λr hr=>by
  show 0<qL t r;have iq:0<qL S1.now r:=hr;by_cases hr0:r=0;subst hr0;have:=now0 hS1;omega;have h1:=hc r hr0;have h2:=hlc r hr0;have h3:=yV r hr0;by_cases hz:(qA l).count r=0;omega;obtain⟨x,hx,pG⟩:∃x∈l,x.r.toNat=r:=by have:=List.count_pos_iff.1 (Nat.pos_of_ne_zero hz);unfold qA at this;simpa using this
  have:=each_pos (ZF.1 aK).1 hx zO;rw[pG]at this;omega
 have uC:(qu S1 (h+1) up).Pairwise (λa b=>Qg (qw a) (qw b)=E):=by rw[hi];exact(ZF.1 aK).2
 have uG:(qz S1 (h+1) up).isSome=E:=ZF.2 ⟨he,uC⟩;refine⟨m1.trans m2,hmay.1,m2.spanOk uG,?_,?_⟩;rw[m2.items (h+1) up uG,hi];intro hn;have h2:=hmay.2.1;rw[hn]at h2;unfold ZQ at h2;split at h2<;>simp at h2
def UpOk(y:It):Prop:=Zb y/\(y.r=0\/8<=y.r)/\y.r<256
theorem replL_ok{p:Nat}(h1:∀y∈ys,Zb y)(h2:∀y∈up,Zb y):∀y∈ZE ys p m up,Zb y:=λy hy=>by
 unfold ZE at hy;rcases List.mem_append.1 hy with hy|hy
 rcases List.mem_append.1 hy with hy|hy
 exact h1 y (List.mem_of_mem_take hy);exact h2 y hy;exact h1 y (List.mem_of_mem_drop hy)
theorem qeI{k:K3}:∀{ps:List Stp}{up up':List It}{S S':Sto},(∀s∈ps,qgQ k s)->(∀y∈up,UpOk y)->qj S=E->JF k ps up S=.ok (up',S')->qj S'=E/\(∀y∈up',UpOk y)/\(ps≠[]->0<up'.length/\up'.length<=2/\∀y∈up',8<=y.r/\y.val=[])
 |[],up,up',S,S',_,hu,hS,e=>by cases e;exact⟨hS,hu,λh=>absurd rfl h⟩
 |(lvl,xs,p)::ps,up,up',S,S',hw,hu,hS,e=>by
  have hw0:=hw _ List.mem_cons_self;simp only[JF]at e;split at e;cases e;rename_i up1 S1 e1;obtain⟨h1,h2,h3⟩:=Kl (replL_ok (λy hy=>(hw0.its y hy).1) λy hy=>(hu y hy).1) (λy hy=>(hu y hy).2) hS e1;have hu1:∀y∈up1,UpOk y:=λy hy=>⟨(h3 y hy).1,.inr (h3 y hy).2.1.1,(h3 y hy).2.1.2⟩
  obtain⟨g1,g2,g3⟩:=qeI (λs hs=>hw s (List.mem_cons_of_mem _ hs)) hu1 h1 e;refine⟨g1,g2,λ_=>?_⟩;by_cases hp:ps=[]
  subst hp;cases e;exact⟨h2.1,h2.2,λy hy=>⟨(h3 y hy).2.1.1,(h3 y hy).2.2⟩⟩;exact g3 hp
theorem askP_up(hx:Zb x)(h:qan S x=0):UpOk x:=by unfold qan at h;split at h;rename_i h1;unfold itB at h1;simp only[decide_eq_true_eq]at h1;have:=hx.2.2.2.1;exact⟨hx,zO,zO⟩;cases h
theorem preX_may{lvl:Nat}(hS:qj S=E)(hn:qo S a=I ((lvl:Int),xs))(aK:(qz S lvl xs).isSome=E)(hx:UpOk x)(e:qaI S lvl xs x=.ok (up,S2)):qj S2=E/\0<up.length/\∀y∈up,UpOk y/\8<=y.r:=by have ig:=Yb (k:=qw x) lvl (qI hn).1 aK;unfold qaI at e;split at e;cases e;split at e;cases e;rename_i up1 S1 e1;obtain⟨h1,h2,h3⟩:=qeI (λs hs=>qgD lvl hn aK s (List.mem_reverse.1 hs)) (λy hy=>by rw[List.mem_singleton.1 hy];exact hx) hS e1;obtain⟨h4,h5,h6⟩:=h3 (λe=>by have:=congrArg List.length e;simp[ig]at this);split at e;obtain⟨k1,k2,k3⟩:=Kl (λy hy=>(h2 y hy).1) (λy hy=>(h2 y hy).2) h1 e;exact⟨k1,k2.1,λy hy=>⟨⟨(k3 y hy).1,.inr (k3 y hy).2.1.1,(k3 y hy).2.1.2⟩,(k3 y hy).2.1.1⟩⟩;cases e;exact⟨h1,h4,λy hy=>⟨h2 y hy,(h6 y hy).1⟩⟩
theorem putY_may{lvl a r:Nat}(hS:qj S=E)(ha:8<=a)(hn:qo S a=I ((lvl:Int),xs))(aK:(qz S lvl xs).isSome=E)(hx:Zb x)(e:qaJ S lvl xs a x=.ok (r,S')):qj S'=E/\8<=r/\r<256:=by
 unfold qaJ at e;split at e;rename_i h0;rw[qgo]at e;split at e;cases e;rename_i up S2 e2;obtain⟨h1,h2,h3⟩:=preX_may hS hn aK (askP_up hx h0) e2;split at e;cases e;rename_i t ht;simp only[Except.ok.injEq,Prod.mk.injEq]at e;obtain⟨rfl,rfl⟩:=e;obtain⟨y,ys,rfl⟩:∃y ys,up=y::ys:=by
  cases up with
  |nil=>simp at h2
  |cons y ys=>exact⟨y,ys,rfl⟩
 obtain⟨h4,h5⟩:=h3 y List.mem_cons_self;have h6:=h4.2.2;exact⟨vL h1 (Vk ha (Qd.1 h1).2.1 ht),by simp only[ku];omega,by simp only[ku];omega⟩;cases e
theorem qeH{k:K3}:∀{ps:List Stp}{up:List It}{S:Sto}{e:Int},JF k ps up S=.error e->e≠0
 |[],up,S,e,h=>by cases h
 |(lvl,xs,p)::ps,up,S,e,h=>by simp only[JF]at h;split at h;rename_i e1 h1;cases h;exact Vf h1;exact qeH h
theorem preX_err{lvl:Nat}(h:qaI S lvl xs x=.error e):e≠0:=by unfold qaI at h;split at h;cases h;decide;split at h;rename_i e1 h1;cases h;exact qeH h1;split at h;exact Vf h;cases h
theorem putY_err{lvl:Nat}(h:qaJ S lvl xs a x=.error e):e≠0:=by unfold qaJ at h;split at h;rw[qgo]at h;split at h;rename_i e1 h1;cases h;exact preX_err h1;split at h;cases h;decide;cases h;rename_i h0;cases h;exact h0
abbrev Ord(l:List It):Prop:=l.Pairwise λa b=>Qg (qw a) (qw b)=E
theorem qhS(k:K3):Qg k k=false:=Xi k
theorem qdv(hs:(qz S h xs).isSome=E)(h0:0<xs.length):(∀y∈qu S h (xs.take (QG xs k)),Qg (qw y) k=E)/\∀y∈qu S h (xs.drop (QG xs k+1)),Qg k (qw y)=E:=by
 have ho:=(jI hs).2;have hp:=λi hi=>JQ (k:=k) ho i hi;have hle:=JR xs k;have hlt:=zy (k:=k) h0;constructor;intro y hy;have hl:=items_lt hs hlt hy;have dA:0<QG xs k:=by
  rcases Nat.eq_zero_or_pos (QG xs k)with e|e
  rw[e,List.take_zero,Ja]at hy;cases hy;exact e
 have hk:leK (qw xs[QG xs k]) k:=by
  by_cases hi:km xs k=E;have e1:QG xs k=qF xs k:=by unfold QG;rw[if_pos hi]
  have aO:qF xs k<xs.length:=zO;rw[vH aO,decide_eq_true_eq]at hi;have:xs[QG xs k]=xs[qF xs k]:=by congr 1
  rw[this,hi];exact Gx k;have e1:QG xs k=qF xs k-1:=by unfold QG;rw[if_neg hi]
  exact Kc ((hp _ hlt).2 zO)
 exact Th hl hk;intro y hy;obtain⟨j,hj,hy⟩:=qma hy;rw[List.length_drop]at hj;rw[List.getElem_drop]at hy;have hl:=one_low hs (j:=QG xs k+1+j) zO hy;refine Th ?_ hl;have hTX:∀i (hi:i<xs.length),QG xs k<i->Qg k (qw xs[i])=E:=λi hi mV=>by
  by_cases his:km xs k=E;have e1:QG xs k=qF xs k:=by unfold QG;rw[if_pos his]
  have aO:qF xs k<xs.length:=zO;rw[vH aO,decide_eq_true_eq]at his;have:=Tm ho (i:=qF xs k) (j:=i) zO hi
  rwa [his]at this
  have e1:QG xs k=qF xs k-1:=by unfold QG;rw[if_neg his]
  have aO:qF xs k<xs.length:=zO;have lg:Qg (qw xs[qF xs k]) k=false:=by rw[<-Bool.not_eq_true];intro e;have:=(hp _ aO).1 e;omega
  rw[vH aO,decide_eq_true_eq]at his;have hgk:Qg k (qw xs[qF xs k])=E:=by
   rcases hq:Qg k (qw xs[qF xs k])with _|_
   exact absurd (qjL hq lg) his;rfl
  by_cases hi3:i=qF xs k;subst hi3;exact hgk;exact qcP hgk (Tm ho zO hi)
 exact hTX _ zO zO
theorem refs_sub(A B C:List It)(b:Nat):(qA B).count b<=(qA (A++B++C)).count b:=by simp only[qA,List.map_append,List.count_append];omega
theorem qie(h:(qz S (H+1) [y]).isSome=E):∃ys,qo S y.r.toNat=I ((H:Int),ys)/\(qz S H ys).isSome=E/\qu S (H+1) [y]=qu S H ys:=by
 obtain⟨b,e1,-,-,ys,e4,e5⟩:=Qz (Qt h y zA3);have hn:qo S y.r.toNat=I ((H:Int),ys):=by rw[e1,Int.toNat_natCast];exact e4
 exact⟨ys,hn,e5,by simp only[qu,List.flatMap_cons,List.flatMap_nil,List.append_nil,hn]⟩
def ZW(S:Sto)(xs:List It)(i:Nat):List It:=match xs[i]? with
 |none=>[]
 |some y=>match qo S y.r.toNat with
  |none=>[]
  |some (_,ys)=>ys
def ZC(S:Sto)(xs:List It)(p:Nat)(l:List It):List It×Nat×Nat:=
 if p+1=xs.length then
  if p=0 then(l,p,1)else if 5<(ZW S xs (p-1)).length+l.length then(l,p,1) else(ZW S xs (p-1)++l,p-1,2)
 else if 5<(ZW S xs (p+1)).length+l.length then(l,p,1) else(l++ZW S xs (p+1),p,2)
def JZ(S:Sto)(s:Stp)(l hs:List It):Except Int (List It×List It×Sto):=
 if l=[]then .ok (ZE s.2.1 s.2.2 1 [],[],S) else
 match Qy S ((s.1:Int)-1) (ZC S s.2.1 s.2.2 l).1 hs with
 |.error e=>.error e
 |.ok (up,S')=>.ok (ZE s.2.1 (ZC S s.2.1 s.2.2 l).2.1 (ZC S s.2.1 s.2.2 l).2.2 up,up,S')
def jM:List Stp->List It->List It->Sto->Except Int (List It×List It×Sto)
 |[],l,hs,S=>.ok (l,hs,S)
 |s::r,l,hs,S=>match JZ S s l hs with
  |.error e=>.error e
  |.ok (l',rJ,S')=>jM r l' rJ S'
theorem vD:∀(ps qs:List Stp)(l hs:List It)(S:Sto),jM (ps++qs) l hs S=match jM ps l hs S with
  |.error e=>.error e
  |.ok (l',rJ,S')=>jM qs l' rJ S'
 |[],qs,l,hs,S=>rfl
 |s::ps,qs,l,hs,S=>by
  simp only[List.cons_append,jM];rcases JZ S s l hs with e|⟨l',rJ,S'⟩
  rfl;exact vD ps qs l' rJ S'
theorem qat(s:Stp)(l hs:List It)(S:Sto):jM [s] l hs S=JZ S s l hs:=by simp only[jM];rcases JZ S s l hs with e|⟨l',rJ,S'⟩<;>rfl
def qcE(l:List Stp):List It:=match l with
 |[]=>[]
 |s::_=>ZE s.2.1 s.2.2 1 []
def qco(k:K3)(l:List Stp)(S:Sto):Except Int (List It×List It×Sto):=jM l.tail (qcE l) [] S
def ZL:Nat->Sto->Nat->Except Int (Nat×Sto)
 |0,S,f=>.ok (f,S)
 |n+1,S,f=>match qo S f with
  |none=>.error 8
  |some (lvl,ys)=>match ys with
   |[y]=>if lvl=0 then .ok (f,S)else match ZR S.now y.r.toNat with
    |.error e=>.error e
    |.ok t=>match QK (qp S t) (-1) t f with
     |none=>.error 8
     |some t'=>ZL n (qp S t') y.r.toNat
   |_=>.ok (f,S)
def Ym(S:Sto)(L:Nat)(xs:List It)(k:K3):Except Int (Nat×Sto):=
 match qco k (jJ S k L xs).reverse S with
 |.error e=>.error e
 |.ok (l,hs,S1)=>match Qy S1 (if l=[]then 0 else(((jJ S k L xs).length-1:Nat):Int)) l hs with
  |.error e=>.error e
  |.ok (up,S2)=>ZL 7 S2 (ku up)
def delX(S:Sto)(L:Nat)(xs:List It)(root:Nat)(k:K3):Except Int (Nat×Sto):=
 match Ym S L xs k with
 |.error e=>.error e
 |.ok (g,S3)=>match QK S3 (-1) S3.now root with
  |none=>.error 8
  |some t=>.ok (g,qp S3 t)
def XT(S:Sto)(L:Nat)(xs:List It)(root:Nat)(k:K3):Except Int (Nat×Sto):=if(Vm S k L xs).isSome=E then delX S L xs root k else .error 6
def JS(k:K3)(l:List It):List It:=l.filter λy=>!decide (qw y=k)
theorem Vp(k:K3)(a b:List It):JS k (a++b)=JS k a++JS k b:=List.filter_append a b
theorem Tu(h:∀y∈l,Qg (qw y) k=E):JS k l=l:=List.filter_eq_self.2 λy hy=>by have:=h y hy;simp only[Bool.not_eq_true',decide_eq_false_iff_not];intro e;rw[e,qhS]at this;cases this
theorem Tv(h:∀y∈l,Qg k (qw y)=E):JS k l=l:=List.filter_eq_self.2 λy hy=>by have:=h y hy;simp only[Bool.not_eq_true',decide_eq_false_iff_not];intro e;rw[e,qhS]at this;cases this
theorem qgr(h:Ord l):Ord (JS k l):=List.Pairwise.sublist List.filter_sublist h
theorem leaf_rem(h:Ord xs)(hi:km xs k=E):ZE xs (qF xs k) 1 []=JS k xs:=by
 have hlt:qF xs k<xs.length:=by
  rcases Nat.lt_or_ge (qF xs k) xs.length with h1|h1
  exact h1;rw[KO zO]at hi;cases hi
 have hk:=hi;rw[vH hlt,decide_eq_true_eq]at hk;have e:xs=xs.take (qF xs k)++([xs[qF xs k]]++xs.drop (qF xs k+1)):=by rw[List.singleton_append,<-List.drop_eq_getElem_cons hlt,List.take_append_drop]
 have e1:JS k (xs.take (qF xs k))=xs.take (qF xs k):=Tu λy hy=>by obtain⟨i,fF,rfl⟩:=List.mem_iff_getElem.1 hy;rw[List.length_take]at fF;rw[List.getElem_take];exact(JQ h i zO).2 zO
 have e2:JS k (xs.drop (qF xs k+1))=xs.drop (qF xs k+1):=Tv λy hy=>by
  obtain⟨i,fF,rfl⟩:=List.mem_iff_getElem.1 hy;rw[List.length_drop]at fF;rw[List.getElem_drop];have h1:=Tm h (i:=qF xs k) (j:=qF xs k+1+i) zO zO
  rwa [hk]at h1
 have e3:JS k [xs[qF xs k]]=[]:=by simp[JS,hk]
 conv=>rhs;rw[e,Vp,Vp,e1,e2,e3]
 simp[ZE]
theorem qlj{A X C:List It}(hs:(qz S (h+1) (A++X++C)).isSome=E)(m:SM S S2)(hA:JS k (qu S (h+1) A)=qu S (h+1) A)(hC:JS k (qu S (h+1) C)=qu S (h+1) C)(hu:VZ S2 (h+1) up)(hi:qu S2 (h+1) up=JS k (qu S (h+1) X)):(qz S2 (h+1) (A++up++C)).isSome=E/\qu S2 (h+1) (A++up++C)=JS k (qu S (h+1) (A++X++C)):=by
 have hsA:(qz S (h+1) A).isSome=E:=YM (xs:=[]) (ys:=A) (zs:=X++C) (by rw[List.nil_append,<-List.append_assoc];exact hs);have hsC:(qz S (h+1) C).isSome=E:=YM (xs:=A++X) (ys:=C) (zs:=[]) (by rw[List.append_nil];exact hs);have e:qu S2 (h+1) (A++up++C)=JS k (qu S (h+1) (A++X++C)):=by rw[Ql,Ql,m.items _ _ hsA,m.items _ _ hsC,hi,Ql,Ql,Vp,Vp,hA,hC]
 refine⟨ZF.2 ⟨KK (KK (m.each (ZF.1 hsA).1) hu) (m.each (ZF.1 hsC).1),?_⟩,e⟩;rw[e];exact qgr (jI hs).1
theorem Ua(ho:Ord xs)(h0:0<xs.length)(hd:(Yw xs k).isSome=E):Yw xs k=I (xs[QG xs k]'(zy h0))/\(km xs k=E\/0<qF xs k):=by
 have hlt:=zy (k:=k) h0;by_cases hi:km xs k=E;have hp:qF xs k<xs.length:=by
  rcases Nat.lt_or_ge (qF xs k) xs.length with h1|h1
  exact h1;rw[KO zO]at hi;cases hi
 have hk:=hi;rw[vH hp,decide_eq_true_eq]at hk;refine⟨?_,.inl hi⟩;rw[qkO ho hp hk];congr 2;unfold QG;rw[if_pos hi];have hn:∀hp:qF xs k<xs.length,qw (xs[qF xs k]'hp)≠k:=λhp e=>hi (by rw[vH hp,e];simp);rcases Nat.eq_zero_or_pos (qF xs k)with h|h
 rw[qkP ho h hn]at hd;cases hd;refine⟨?_,.inr h⟩;rw[qbc ho h hn];congr 2;unfold QG;rw[if_neg hi]
theorem qkW(ho:Ord xs)(h:(qhQ xs k).isSome=E):km xs k=E:=by by_cases hi:km xs k=E;exact hi;rw[qkX ho λhp e=>hi (by rw[vH hp,e];simp)]at h;cases h
theorem TQ(h1:(Vm S k (h+1) xs).isSome=E):(Yw xs k).isSome=E:=by
 rcases hd:Yw xs k with _|y
 rw[qid hd]at h1;cases h1;rfl
theorem qhX(hs:(qz S (h+1) xs).isSome=E)(m:SM S S1)(hi:i<xs.length):(qz S1 h (ZW S1 xs i)).isSome=E/\qu S1 h (ZW S1 xs i)=qu S (h+1) [xs[i]]/\∀y∈ZW S1 xs i,Zb y/\itB y.r y.val.length=E:=by
 obtain⟨b,e1,-,-,zs,e4,e5⟩:=Qz (Qt hs _ (List.getElem_mem hi));have hn:qo S xs[i].r.toNat=I ((h:Int),zs):=by rw[e1,Int.toNat_natCast];exact e4
 have eY:=m.node _ _ hn;have e:ZW S1 xs i=zs:=by unfold ZW;rw[zL hi];simp only[eY]
 rw[e];refine⟨m.spanOk e5,?_,(qI e4).2.1⟩;rw[m.items _ _ e5];simp only[qu,List.flatMap_cons,List.flatMap_nil,List.append_nil,hn]
theorem qcC{p:Nat}(hs:(qz S (h+1) xs).isSome=E)(hp:p<xs.length)(m:SM S S1)(hsl:(qz S1 h l).isSome=E)(hi:qu S1 h l=JS k (qu S (h+1) [xs[p]]))(hA:∀y∈qu S (h+1) (xs.take p),Qg (qw y) k=E)(hC:∀y∈qu S (h+1) (xs.drop (p+1)),Qg k (qw y)=E)(hl:∀y∈l,Zb y/\itB y.r y.val.length=E)(hl5:l.length<=5):∃A X C,xs=A++X++C/\A=xs.take (ZC S1 xs p l).2.1/\C=xs.drop ((ZC S1 xs p l).2.1+(ZC S1 xs p l).2.2)/\JS k (qu S (h+1) A)=qu S (h+1) A/\JS k (qu S (h+1) C)=qu S (h+1) C/\(qz S1 h (ZC S1 xs p l).1).isSome=E/\qu S1 h (ZC S1 xs p l).1=JS k (qu S (h+1) X)/\(∀y∈(ZC S1 xs p l).1,Zb y/\itB y.r y.val.length=E)/\(∀b,(qA l).count b<=(qA (ZC S1 xs p l).1).count b)/\(ZC S1 xs p l).1.length<=5/\(l≠[]->(ZC S1 xs p l).1≠[])/\(ZC S1 xs p l).2.1+(ZC S1 xs p l).2.2<=xs.length/\0<(ZC S1 xs p l).2.2:=by
 have rA:=Tu hA;have rC:=Tv hC;have mG:xs=xs.take p++[xs[p]]++xs.drop (p+1):=by rw[List.append_assoc,List.singleton_append,List.getElem_cons_drop,List.take_append_drop]
 have sub:∀{X:List It}{A C:List It},xs=A++X++C->∀{j:List It},VZ S1 h j->qu S1 h j=JS k (qu S (h+1) X)->(qz S1 h j).isSome=E:=λ{X A C} e {j} he e2=>ZF.2 ⟨he,by have h1:(qz S (h+1) (A++X++C)).isSome=E:=e▸hs;rw[e2];exact qgr (jI (YM h1)).1⟩;have alone:∃A X C,xs=A++X++C/\A=xs.take p/\C=xs.drop (p+1)/\JS k (qu S (h+1) A)=qu S (h+1) A/\JS k (qu S (h+1) C)=qu S (h+1) C /\
   (qz S1 h l).isSome=E/\qu S1 h l=JS k (qu S (h+1) X)/\(∀y∈l,Zb y/\itB y.r y.val.length=E)/\(∀b,(qA l).count b<=(qA l).count b)/\l.length<=5/\(l≠[]->l≠[])/\p+1<=xs.length/\0<1:=
  ⟨_,_,_,mG,rfl,rfl,rA,rC,hsl,hi,hl,λ_=>zM _,hl5,λh=>h,hp,Nat.one_pos⟩
 unfold ZC;by_cases hlast:p+1=xs.length;rw[if_pos hlast];by_cases h0:p=0;rw[if_pos h0];exact alone;rw[if_neg h0];by_cases h5:5<(ZW S1 xs (p-1)).length+l.length;rw[if_pos h5];exact alone;rw[if_neg h5];have hq:p-1<xs.length:=zO;obtain⟨n1,n2,n3⟩:=qhX hs m hq;have e1:xs.take p=xs.take (p-1)++[xs[p-1]]:=by
  conv=>lhs;rw[show p=p-1+1 by omega]
  exact List.take_succ_eq_append_getElem hq
 have e2:xs=xs.take (p-1)++([xs[p-1]]++[xs[p]])++xs.drop (p+1):=by
  conv=>lhs;rw[mG,e1]
  simp only[List.append_assoc]
 have hA':=hA;rw[e1,Ql]at hA';have i2:qu S1 h (ZW S1 xs (p-1)++l)=JS k (qu S (h+1) ([xs[p-1]]++[xs[p]])):=by rw[Ql,Ql,Vp,n2,hi,Tu λy hy=>hA' y (List.mem_append_right _ hy)]
 refine⟨_,_,_,e2,rfl,by rw[show p-1+2=p+1 by omega],Tu λy hy=>hA' y (List.mem_append_left _ hy),rC,sub e2 (KK (ZF.1 n1).1 (ZF.1 hsl).1) i2,i2,λy hy=>(List.mem_append.1 hy).elim (n3 y) (hl y),λb=>?_,by simp only[List.length_append];omega,λaH e=>aH (List.append_eq_nil_iff.1 e).2,by show p-1+2<=_;omega,by show 0<2;omega⟩;simp only[qA,List.map_append,List.count_append];omega;rw[if_neg hlast];by_cases h5:5<(ZW S1 xs (p+1)).length+l.length;rw[if_pos h5];exact alone;rw[if_neg h5];have hq:p+1<xs.length:=zO;obtain⟨n1,n2,n3⟩:=qhX hs m hq;have e1:xs.drop (p+1)=[xs[p+1]]++xs.drop (p+2):=by rw[List.singleton_append];exact List.drop_eq_getElem_cons hq
 have e2:xs=xs.take p++([xs[p]]++[xs[p+1]])++xs.drop (p+2):=by
  conv=>lhs;rw[mG,e1]
  simp only[List.append_assoc]
 have hC':=hC;rw[e1,Ql]at hC';have i2:qu S1 h (l++ZW S1 xs (p+1))=JS k (qu S (h+1) ([xs[p]]++[xs[p+1]])):=by rw[Ql,Ql,Vp,n2,hi,Tv λy hy=>hC' y (List.mem_append_left _ hy)]
 refine⟨_,_,_,e2,rfl,rfl,rA,Tv λy hy=>hC' y (List.mem_append_right _ hy),sub e2 (KK (ZF.1 hsl).1 (ZF.1 n1).1) i2,i2,λy hy=>(List.mem_append.1 hy).elim (hl y) (n3 y),λb=>?_,by simp only[List.length_append];omega,λaH e=>aH (List.append_eq_nil_iff.1 e).1,by show p+2<=_;omega,by show 0<2;omega⟩;simp only[qA,List.map_append,List.count_append];omega
structure DelI(S:Sto)(h:Nat)(k:K3)(all:List It)(l hs:List It)(S':Sto):Prop where
 sm:SM S S'
 may:qj S'=E
 span:(qz S' h l).isSome=E
 items:qu S' h l=JS k all
 ok:∀y∈l,Zb y/\itB y.r y.val.length=E
 sub:∀b,b≠0->(qA hs).count b<=(qA l).count b
 len:l.length<=5
 held:∀y∈hs,itB y.r y.val.length=E
theorem Tx(h:q+m<=xs.length):(ZE xs q m up).length+m=xs.length+up.length:=by unfold ZE;simp only[List.length_append,List.length_take,List.length_drop];omega
theorem qhC{l' rJ:List It}(hn:qo S a=I (((h+1:Nat):Int),xs))(aK:(qz S (h+1) xs).isSome=E)(hp:QG xs k<xs.length)(hz:qo S (xs[QG xs k].r).toNat=I ((h:Int),zs))(hI:DelI S h k (qu S h zs) l hs S1)(e:JZ S1 (h+1,xs,QG xs k) l hs=.ok (l',rJ,S2)):DelI S (h+1) k (qu S (h+1) xs) l' rJ S2:=by
 obtain⟨hA,hC⟩:=qdv (k:=k) aK zO;have hmx:=(qI hn).2.1;have hx5:=(zY hn).2.2;have hB:qu S (h+1) [xs[QG xs k]]=qu S h zs:=by simp only[qu,List.flatMap_cons,List.flatMap_nil,List.append_nil,hz]
 generalize QG xs k=p at*;have hi:=hI.items;rw[<-hB]at hi;have mG:xs=xs.take p++[xs[p]]++xs.drop (p+1):=by rw[List.append_assoc,List.singleton_append,List.getElem_cons_drop,List.take_append_drop]
 unfold JZ at e;split at e;rename_i hl;cases e;rw[hl,Ja]at hi;obtain⟨r1,r2⟩:=qlj (A:=xs.take p) (X:=[xs[p]]) (C:=xs.drop (p+1)) (up:=[]) (h:=h) (by rw[<-mG];exact aK) hI.sm (Tu hA) (Tv hC) (λy hy=>by cases hy) (by rw[Ja];exact hi);rw[<-mG]at r2;exact⟨hI.sm,hI.may,r1,r2,λy hy=>by
  rcases List.mem_append.1 hy with hy|hy
  rcases List.mem_append.1 hy with hy|hy
  exact hmx y (List.mem_of_mem_take hy);cases hy
  ·exact hmx y (List.mem_of_mem_drop hy),λb _=>by simp[qA],by have:=Tx (xs:=xs) (up:=[]) (q:=p) (m:=1) zO;simp only[List.length_nil]at this;show(ZE xs p 1 []).length<=5;omega,λy hy=>by cases hy⟩
 rename_i hl;split at e;cases e;rename_i up S3 hb;simp only[Except.ok.injEq,Prod.mk.injEq]at e;obtain⟨e1,e2,e3⟩:=e;subst e1 e2 e3;obtain⟨A,X,C,j1,j2,j3,j4,j5,j6,j7,j8,j9,j10,j11,j12,j13⟩:=qcC (k:=k) aK hp hI.sm hI.span hi hA hC hI.ok hI.len;simp only at hb;rw[show(((h+1:Nat):Int)-1)=(h:Int)by omega]at hb;have hbt:=UH hI.may (λy hy=>(j8 y hy).1) hI.held (λb hb=>Nat.le_trans (hI.sub b hb) (j9 b)) (j11 hl) j6 hb;have hmay:=Km (λy hy=>(j8 y hy).1) hI.held hI.may hb;have iT:up.length=1:=by rw[hmay.2.1];unfold ZQ;rw[if_neg zO];rfl
 obtain⟨r1,r2⟩:=qlj (A:=A) (X:=X) (C:=C) (up:=up) (by rw[<-j1];exact aK) (hI.sm.trans hbt.1) j4 j5 (ZF.1 hbt.2.2.1).1 (hbt.2.2.2.1.trans j7);have er:ZE xs (ZC S1 xs p l).2.1 (ZC S1 xs p l).2.2 up=A++up++C:=by rw[j2,j3];rfl
 rw[<-j1]at r2;refine⟨hI.sm.trans hbt.1,hbt.2.1,by rw[er];exact r1,by rw[er];exact r2,λy hy=>?_,λb _=>by rw[er];exact refs_sub _ up _ b,?_,λy hy=>(hmay.2.2.1 y hy).2⟩;rcases List.mem_append.1 hy with hy|hy
 rcases List.mem_append.1 hy with hy|hy
 exact hmx y (List.mem_of_mem_take hy);exact hmay.2.2.1 y hy;exact hmx y (List.mem_of_mem_drop hy);have:=Tx (up:=up) j12;show(ZE xs _ _ up).length<=5;omega
theorem Kp{S:Sto}{k:K3}(hS:qj S=E):∀(h:Nat){a:Nat}{xs l hs:List It}{S':Sto},qo S a=I ((h:Int),xs)->(qz S h xs).isSome=E->(Vm S k h xs).isSome=E->qco k (jJ S k h xs).reverse S=.ok (l,hs,S')->DelI S h k (qu S h xs) l hs S'
 |0,a,xs,l,hs,S',hn,aK,h1,e=>by rw[YR,List.reverse_singleton]at e;simp only[qco,List.tail_cons,jM,qcE]at e;cases e;have ho:=(jI aK).2;have hx5:=(zY hn).2.2;rw[leaf_rem ho (qkW ho h1)];have hmx:=(qI hn).2.1;have hm:∀y∈JS k xs,y∈xs:=λy hy=>(List.mem_filter.1 hy).1;exact⟨⟨λ_ _ e=>e,λ_ e=>e⟩,hS,ZF.2 ⟨λy hy=>(ZF.1 aK).1 y (hm y hy),qgr ho⟩,rfl,λy hy=>hmx y (hm y hy),λb _=>by simp[qA],Nat.le_trans (List.length_filter_le _ _) hx5,λy hy=>by cases hy⟩
 |h+1,a,xs,l,hs,S',hn,aK,h1,e=>by
  have h0:=kF (qI hn).1 zO;have hlt:=zy (k:=k) h0;obtain⟨b,e1,-,-,zs,e4,e5⟩:=Qz (Qt aK _ (List.getElem_mem hlt));have iK:qo S (xs[QG xs k].r).toNat=I ((h:Int),zs):=by rw[e1,Int.toNat_natCast];exact e4
  have hd:=(Ua (jI aK).2 h0 (TQ h1)).1;rw[Tl hd iK]at h1;rw[vX (zL hlt) iK,List.reverse_cons]at e;obtain⟨s,r,hr⟩:∃s r,(jJ S k h zs).reverse=s::r:=by
   rcases hq:(jJ S k h zs).reverse with _|⟨s,r⟩
   have:=congrArg List.length hq;rw[List.length_reverse,Yb h (qI e4).1 e5]at this;cases this;exact⟨s,r,rfl⟩
  have e':qco k (jJ S k h zs).reverse S=jM r (qcE (s::r)) [] S:=by rw[hr];rfl
  rw[hr]at e;have e'':jM (r++[(h+1,xs,QG xs k)]) (qcE (s::r)) [] S=.ok (l,hs,S'):=e;rw[vD]at e'';split at e'';cases e'';rename_i l1 uG S1 hg;rw[qat]at e'';exact qhC hn aK hlt iK (Kp hS h e4 e5 h1 (e'.trans hg)) e''
def XG(S:Sto):Nat->List It->Prop
 |0,_=>True
 |h+1,ys=>∀y,ys=[y]->∃(r:Nat)(zs:List It),y.r=(r:Int)/\8<=r/\r<256/\qo S r=I ((h:Int),zs)/\XG S h zs
theorem qfW{S:Sto}:∀(h:Nat){ys:List It},(qz S h ys).isSome=E->XG S h ys
 |0,_,_=>trivial
 |h+1,ys,hs=>λy e=>by subst e;obtain⟨b,e1,h8,h256,zs,e4,e5⟩:=Qz (Qt hs y zA3);exact⟨b,zs,e1,h8,h256,e4,qfW h e5⟩
theorem GB{S S':Sto}:∀(h:Nat){ys:List It},(∀r (l:Int) nd,l<h->qo S r=I (l,nd)->qo S' r=I (l,nd))->XG S h ys->XG S' h ys
 |0,_,_,_=>trivial
 |h+1,ys,hk,hl=>λy e=>by obtain⟨r,zs,e1,h8,h256,e4,e5⟩:=hl y e;exact⟨r,zs,e1,h8,h256,hk _ _ _ zO e4,GB h (λr l nd hlt=>hk r l nd zO) e5⟩
def qhJ(hs:List It):Int:=match hs with
 |[]=>0
 |y::_=>y.r
theorem Vg(h5:l.length<=5):Qy S lvl l hs=match Zg S lvl l with
  |.error e=>.error e
  |.ok (f,S')=>match looseL (qA hs) S'.now with
   |.error e=>.error e
   |.ok t=>.ok ([jz (jy l) f],qp S' t):=by
 unfold Qy ZQ;rw[if_neg zO];simp only[makeL];rcases Zg S lvl l with e|⟨f,S'⟩<;>rfl
def TJ(D:Nat->Prop)(B lo b g:Nat)(k:Option Nat)(S:Sto)(lvl:Int)(its hs:List It)(w:Y)(e:Ending)(W:Y):Prop:=Qi lo b g k w W /\
 match Qy S lvl its hs with
 |.error er=>er≠0/\∃v:Int,e=M (.tuple #[v,er])
 |.ok (up,S')=>e=M (.tuple #[(ku up:Int),U .i64 0])/\∃k' D',Zs w k k'/\Yd w D D'/\Bch D' B lo b g k' S' W
theorem VJ{a:Act}(h4:a.tmps[8]?.getD undef=u)(h5:a.tmps[9]?.getD undef=v)(hd:a.defers=[])(hR:R (M (.tuple #[u,v])) W):bodyPost prog Tryz.f118 R .ret a W:=by refine bodyPost_ret (v:=.tuple #[u,v]) ?_ hd hR;simp[results,results118,go_sem,h4,h5]
set_option maxRecDepth 100000 in
theorem qbd(D:Nat->Prop)(B lo b g:Nat)(k:Option Nat)(S:Sto)(lvl:Int)(A n c)(its:List It)(gu:∀x∈its,Zb x)(h5:its.length<=5)(uV:S.ws.length<=4096)(hs:List It)(yE:hs=[]\/∃y,hs=[y]/\8<=y.r/\y.r<256)(w:Y)(h:Bch D B lo b g k S w)(hx:Kh (B3 b g k) w (Z A n c) its):Calls prog 118 #[.pointer b,lvl,Z A n c,U .i64 (qhJ hs)] w (TJ D B lo b g k S lvl its hs w):=by
 have HM:=zH (qao D B lo b g k S lvl A n c its gu uV w h hx);have oL:=h.size.2.2.2.2.2.1;have hbf:=zH (Vg (S:=S) (lvl:=lvl) (hs:=hs) h5);clear h hx h5;rcases hm:Zg S lvl its with er|⟨f,S1⟩
 ·have aH:=YC hm;have hQ:Hid (∀W,Qi lo b g k w W->TJ D B lo b g k S lvl its hs w (M (.tuple #[U .i64 0,er])) W):=zH λW hk=>⟨hk,by rw[hbf.out,hm];exact⟨aH,0,rfl⟩⟩
  have z1:(er==0)=false:=by rw[beq_eq_false_iff_ne];exact aH
  have z2:decide (er=0)=false:=decide_eq_false aH;replace⟨hm,aH⟩:=zH2 hm aH;clear hbf yE;go_enter func118,ntmps118;go_wp2_with fail;refine HM.out.mono ?_;clear HM;intro e W hQ2;obtain⟨hk,hq⟩:=hQ2;rw[hm.out]at hq;obtain rfl:=hq;have hQW:=zH (hQ.out W hk);clear hQ hk;go_wp2_with fail;exact VJ rfl rfl rfl hQW.out
 rcases yE with rfl|⟨y,rfl,hy8,hy2⟩
 ·have hQ:Hid (∀W,Qi lo b g k w W->(∃k' D',Zs w k k'/\Yd w D D'/\Bch D' B lo b g k' S1 W)->TJ D B lo b g k S lvl its [] w (M (.tuple #[(f:Int),U .i64 0])) W):=zH λW hk hb=>⟨hk,by rw[hbf.out,hm];exact⟨rfl,hb⟩⟩
  replace hm:=zH hm;have hz:Hid (qhJ []=0):=zH rfl;clear hbf;go_enter func118,ntmps118;rw[hz.out];go_wp2_with fail;refine HM.out.mono ?_;clear HM;intro e W hQ2;obtain⟨hk,hq⟩:=hQ2;rw[hm.out]at hq;obtain⟨rfl,hq⟩:=hq;have hQW:=zH (hQ.out W hk hq);clear hQ hk hq;go_wp2_with fail;exact VJ rfl rfl rfl hQW.out
 obtain⟨r,hr⟩:=Int.eq_ofNat_of_zero_le (show 0<=y.r by omega);have uU:qA [y]=[r]:=by simp[qA,hr]
 have iw:8<=r:=zO;have sH:r<256:=zO;have hbf2:Hid (Qy S lvl its [y]=if qL S1.now r=0 then .error 6 else .ok ([jz (jy its) f],qp S1 (jf S1.now r))):=zH (by
  rw[hbf.out,hm,uU];simp only;by_cases h0:qL S1.now r=0;rw[jR zO h0,if_pos h0]
  ·rw[jj zO h0,if_neg h0];rfl)
 have hz:Hid (qhJ [y]=(r:Int)):=zH hr;have hrp:(0:Int)<(r:Int):=zO;have hrp2:decide (0<r)=E:=decide_eq_true zO;replace⟨hm,iw⟩:=zH2 hm iw;clear hbf hy8 hy2 hr uU;go_enter func118,ntmps118;rw[hz.out];go_wp2_with fail;refine HM.out.mono ?_;clear HM;intro e W hQ2;obtain⟨hk,hq⟩:=hQ2;rw[hm.out]at hq;obtain⟨rfl,k',D',ug,hND,bg⟩:=hq;have HL:=zH (XS D' B lo b g k' S1 r sH W bg);have hsz:=hk.below.size;clear bg;go_wp2_with fail;refine HL.out.mono ?_;clear HL;rintro e V ⟨yx,aI⟩;have hkk:=hk.trans yx ug;have hQ:TJ D B lo b g k S lvl its [y] w (if qL S1.now r=0 then M (.tuple #[(f:Int),U .i64 6])else M (.tuple #[(f:Int),U .i64 0])) V:=by
  refine⟨hkk,?_⟩;rw[hbf2.out];rcases aI with⟨h0,-⟩|⟨h0,-,hb⟩
  rw[if_pos h0,if_pos h0];exact⟨zA1,_,rfl⟩;rw[if_neg h0,if_neg h0];exact⟨rfl,k',D',ug,hND,hb⟩
 have hLT:(qL S1.now r=0/\e=M (U .i64 6))\/(qL S1.now r≠0/\e=M (U .i64 0)):=aI.imp id λh=>⟨h.1,h.2.1⟩
 replace hQ:=zH hQ;clear aI hkk hk yx ug hND hbf2 hm;rcases hLT with⟨h0,rfl⟩|⟨h0,rfl⟩
 ·rw[if_pos h0]at hQ;replace h0:=zH h0;go_wp2_with fail;exact VJ rfl rfl rfl hQ.out
 rw[if_neg h0]at hQ;replace h0:=zH h0;go_wp2_with fail;exact VJ rfl rfl rfl hQ.out
def kz:List UInt8->Nat
 |[]=>0
 |x::r=>x.toNat+kz r
theorem qdx:∀(t:List UInt8)(a:Nat)(x:UInt8),a<t.length->kz (t.set a x)+qL t a=kz t+x.toNat
 |[],a,x,h=>by simp at h
 |y::r,0,x,h=>by simp[kz,qL];omega
 |y::r,a+1,x,h=>by
  have:=qdx r a x (by simpa using h);simp only[zC,kz];have e:qL (y::r) (a+1)=qL r a:=by simp[qL]
  rw[e];omega
theorem Yu{t:List UInt8}(h:t.length<=a):qL t a=0:=by unfold qL;rw[List.getElem?_eq_none h];rfl
theorem Vw{t:List UInt8}(h:a<t.length)(x:UInt8):qL (t.set a x) a=x.toNat:=by unfold qL;rw[List.getElem?_set_self h];rfl
theorem Jm{t:List UInt8}(h:j≠a)(x:UInt8):qL (t.set a x) j=qL t j:=by unfold qL;rw[List.getElem?_set_ne zO]
theorem TL(t:List UInt8)(a:Nat):qL t a<256:=(t[a]?.getD 0).toNat_lt
theorem qcr{t:List UInt8}(h:qL t a≠0):kz (jf t a)+1=kz t:=by
 have hl:a<t.length:=by by_cases h1:a<t.length;exact h1;exact absurd (Yu zO) h
 have e:=qdx t a (UInt8.ofNat (qL t a-1)) hl;have h2:=TL t a;have h3:(UInt8.ofNat (qL t a-1)).toNat=qL t a-1:=by rw[UInt8.toNat_ofNat'];omega
 unfold jf;omega
theorem qfP(t:List UInt8)(a j:Nat):qL (jf t a) j<=qL t j:=by unfold jf;by_cases hj:j=a;subst hj;by_cases hl:j<t.length;rw[Vw hl];have h2:=TL t j;rw[UInt8.toNat_ofNat'];omega;rw[Yu (by simpa using hl)];omega;rw[Jm hj];omega
theorem qak{t:List UInt8}(h:qL t a=1):kz (t.set a 0)+1=kz t:=by
 have hl:a<t.length:=by by_cases h1:a<t.length;exact h1;rw[Yu zO]at h;cases h
 have e:=qdx t a 0 hl;rw[h]at e;simpa using e
theorem zero_le(t:List UInt8)(a j:Nat):qL (t.set a 0) j<=qL t j:=by by_cases hj:j=a;subst hj;by_cases hl:j<t.length;rw[Vw hl];simp;rw[Yu (by simpa using hl)];omega;rw[Jm hj];omega
theorem Kd:∀{l:List Nat}{t t':List UInt8},looseL l t=.ok t'->kz t'<=kz t/\∀j,qL t' j<=qL t j
 |[],t,t',e=>by cases e;exact⟨zM _,λ_=>zM _⟩
 |a::l,t,t',e=>by by_cases ha:a=0;subst ha;rw[jk]at e;exact Kd e;by_cases h0:qL t a=0;rw[jR ha h0]at e;cases e;rw[jj ha h0]at e;obtain⟨h1,h2⟩:=Kd e;have:=qcr h0;exact⟨zO,λj=>Nat.le_trans (h2 j) (qfP t a j)⟩
theorem Xo{t:List UInt8}(h:qL t a≠0)(hle:qL t a<=qL S.now a):qo (qp S t) a=qo S a:=by
 have e1:qo (qp S t) a=if qL t a=0 then O else QL (Ji S a):=rfl
 have e2:qo S a=if qL S.now a=0 then O else QL (Ji S a):=rfl
 rw[e1,e2,if_neg h,if_neg zO]
theorem qcV(h:qo S a=I (lvl,xs))(hl:0<lvl):∀r∈qA xs,8<=r/\r<256:=λr hr=>by
 have h1:=YH h r hr;obtain⟨x,hx,rfl⟩:=List.mem_map.1 hr;have hm:=(qI h).1;have gu:=((qI h).2.1 x hx).1.2.2.2.1.1;unfold Qj at hm;simp only[Bool.and_eq_true]at hm;obtain⟨i,hi,e⟩:=List.mem_iff_getElem.1 hx;have h2:=List.all_eq_true.1 hm.2 i (List.mem_range.2 hi);unfold qba at h2;rw[zL hi]at h2;simp only[Bool.and_eq_true]at h2;have h3:=h2.2;rw[e,decide_eq_true hl]at h3;have h4:x.r≠0:=by intro h5;rw[h5]at h3;simp at h3
 omega
structure LvI(S:Sto)(a:Nat)(st:List (Nat×Int))(t:List UInt8):Prop where
 eq:QK S (-1) S.now a=JK S st.reverse t
 may:QX t=E
 le:∀j,qL t j<=qL S.now j
 few:st.length+5*kz t<=5*kz S.now+1
 at_:∀p∈st,8<=p.1/\p.1<256/\-1<=p.2/\p.2<6
theorem qjM(S:Sto)(x:Nat×Int)(t:List UInt8):JK S [x] t=QK S x.2 t x.1:=by unfold JK;cases QK S x.2 t x.1<;>rfl
theorem LvI.start(hS:qj S=E)(ha:8<=a)(bC:a<256):LvI S a [(a,-1)] S.now:=by
 refine⟨(qjM S (a,-1) S.now).symm,(Qd.1 hS).2.1,λ_=>zM _,zA2,λp hp=>?_⟩;obtain rfl:p=(a,-1):=by simpa using hp
 exact⟨ha,bC,zA3,zA3⟩
theorem LvI.done{t:List UInt8}(h:LvI S a [] t):QK S (-1) S.now a=t:=h.eq
section
variable {S:Sto} {a:Nat} {s:List (Nat×Int)} {x:Nat×Int} {t:List UInt8}
theorem LvI.eq'(h:LvI S a (s++[x]) t):QK S (-1) S.now a=match QK S x.2 t x.1 with
  |none=>O
  |some t'=>JK S s.reverse t':=by
 rw[h.eq,List.reverse_append];rfl
theorem LvI.top(h:LvI S a (s++[x]) t):8<=x.1/\x.1<256/\-1<=x.2/\x.2<6:=h.at_ x zA3
theorem LvI.bad0(h:LvI S a (s++[x]) t)(h0:qL t x.1=0):QK S (-1) S.now a=O:=by rw[h.eq',VM,if_pos h0]
theorem LvI.more(h:LvI S a (s++[x]) t)(h1:1<qL t x.1):LvI S a s (jf t x.1):=by have hd:=qcr (t:=t) (a:=x.1) zO;have hf:=h.few;simp only[List.length_append,List.length_cons,List.length_nil]at hf;refine⟨?_,jU h.may h.top.1 _,λj=>Nat.le_trans (qfP t x.1 j) (h.le j),zO,λp hp=>h.at_ p (by simp[hp])⟩;rw[h.eq',VM,if_neg zO,if_pos h1]
theorem LvI.one(h:LvI S a (s++[x]) t)(h1:qL t x.1=1):QK S (-1) S.now a=match(match qo S x.1 with
  |none=>O
  |some (l,xs)=>if 0<=x.2/\l≠x.2 then O else if 0<l then JK S ((qA xs).map λr=>(r,l-1)) (t.set x.1 0) else
   match looseL (qA xs) (t.set x.1 0) with
   |.error _=>O
   |.ok t'=>I t') with
  |none=>O
  |some t'=>JK S s.reverse t':=by
 rw[h.eq',VM,if_neg zO,if_neg zO]<;>rfl
theorem LvI.none_(h:LvI S a (s++[x]) t)(h1:qL t x.1=1)(hn:qo S x.1=O):QK S (-1) S.now a=O:=by rw[h.one h1,hn]
theorem LvI.level(h:LvI S a (s++[x]) t)(h1:qL t x.1=1){l:Int}{xs:List It}(hn:qo S x.1=I (l,xs))(h0:0<=x.2)(hl:l≠x.2):QK S (-1) S.now a=O:=by rw[h.one h1,hn];simp only;rw[if_pos ⟨h0,hl⟩]
theorem LvI.push(h:LvI S a (s++[x]) t)(h1:qL t x.1=1){l:Int}{xs:List It}(hn:qo S x.1=I (l,xs))(h0:¬(0<=x.2/\l≠x.2))(hl:0<l):LvI S a (s++((qA xs).map λr=>(r,l-1)).reverse) (t.set x.1 0):=by
 have hd:=qak h1;have hf:=h.few;have h6:=zY hn;have hlen:(qA xs).length=xs.length:=by unfold qA;simp
 simp only[List.length_append,List.length_cons,List.length_nil]at hf;refine⟨?_,jU h.may h.top.1 _,λj=>Nat.le_trans (zero_le t x.1 j) (h.le j),by simp only[List.length_append,List.length_reverse,List.length_map];omega,λp hp=>?_⟩;rw[h.one h1,hn,List.reverse_append,List.reverse_reverse,Up];simp only;rw[if_neg h0,if_pos hl]<;>rfl;rcases List.mem_append.1 hp with hp|hp
 exact h.at_ p (by simp[hp]);obtain⟨r,hr,rfl⟩:=List.mem_map.1 (List.mem_reverse.1 hp);have:=qcV hn hl r hr;exact⟨this.1,this.2,by simp only;omega,by simp only;omega⟩
theorem LvI.leafBad(h:LvI S a (s++[x]) t)(h1:qL t x.1=1){l:Int}{xs:List It}(hn:qo S x.1=I (l,xs))(h0:¬(0<=x.2/\l≠x.2))(hl:¬0<l){e:Int}(he:looseL (qA xs) (t.set x.1 0)=.error e):QK S (-1) S.now a=O:=by rw[h.one h1,hn];simp only;rw[if_neg h0,if_neg hl,he]
theorem LvI.leaf(h:LvI S a (s++[x]) t)(h1:qL t x.1=1){l:Int}{xs:List It}(hn:qo S x.1=I (l,xs))(h0:¬(0<=x.2/\l≠x.2))(hl:¬0<l){t':List UInt8}(he:looseL (qA xs) (t.set x.1 0)=.ok t'):LvI S a s t':=by have hd:=qak h1;obtain⟨hs,hj⟩:=Kd he;have hf:=h.few;simp only[List.length_append,List.length_cons,List.length_nil]at hf;refine⟨?_,vd (λb hb=>(YH hn b hb).1) (jU h.may h.top.1 _) he,λj=>Nat.le_trans (hj j) (Nat.le_trans (zero_le t x.1 j) (h.le j)),zO,λp hp=>h.at_ p (by simp[hp])⟩;rw[h.one h1,hn];simp only;rw[if_neg h0,if_neg hl,he]
end
def mixL:List Bool->Nat->List Oa->(Nat->Oa)->List Oa
 |[],_,l,_=>l
 |_::_,_,[],_=>[]
 |b::m,i,x::r,g=>(bif b then g i else x)::mixL m (i+1) r g
def qcR(D:Nat):Deferred:={target:=.collected D,args:=#[]}
theorem qgH(mask:List Bool)(n₀:Nat)(rel:Nat->(Nat->Oa)->List Nat->Y->Prop)(h₀:rel n₀ (λi=>tm.getD i undef) [] w)(hmix:mixL mask 0 tm (λi=>tm.getD i undef)=tm)(round:∀(n:Nat)(g:Nat->Oa)(Ds:List Nat)(wr:Y)(K:Act->Y->Prop),rel n g Ds wr->(∀(n':Nat)(g':Nat->Oa)(Ds':List Nat)(w':Y),n'<n->rel n' g' Ds' w'->K {tmps:=(mixL mask 0 tm g').toArray,defers:=Ds'.map qcR} w')->c.wp P (Exit.then K Q) {tmps:=(mixL mask 0 tm g).toArray,defers:=Ds.map qcR} wr):(Code.loop c).wp P Q {tmps:=tm.toArray,defers:=[]} w:=by refine wp_loop_ghost (λn a w=>∃g Ds,a={tmps:=(mixL mask 0 tm g).toArray,defers:=Ds.map qcR}/\rel n g Ds w) n₀ ⟨_,[],by rw[hmix];rfl,h₀⟩ ?_;rintro n a wr ⟨g,Ds,rfl,h⟩;exact round n g Ds wr _ h λn' g' Ds' w' hlt hr=>⟨n',hlt,g',Ds',rfl,hr⟩
theorem qcU(hK:∀(n':Nat)(g':Nat->Oa)(Ds':List Nat)(w':Y),n'<n->rel n' g' Ds' w'->K {tmps:=(mixL mask 0 tm g').toArray,defers:=Ds'.map qcR} w'){l:List Oa}(n':Nat)(hlt:n'<n)(Ds':List Nat)(hdf:df=Ds'.map qcR)(nK:l=mixL mask 0 tm (λi=>l.getD i undef))(hr:rel n' (λi=>l.getD i undef) Ds' w'):K {tmps:=l.toArray,defers:=df} w':=by
 have:=hK n' _ Ds' w' hlt hr;rw[<-nK]at this
 rwa [hdf]
structure Jg(lo:Nat)(Ds:List Nat)(w:Y):Prop where
 nodup:Ds.Nodup
 at_:∀D∈Ds,lo<=D/\w.heap[D]?=I (.deferred (I []))
theorem Jg.nil(lo:Nat)(w:Y):Jg lo [] w:=⟨List.nodup_nil,λ_ h=>by cases h⟩
theorem Jg.keep(h:Jg lo Ds w)(hk:∀(q:Nat)(o:Obj),w.heap[q]?=o->o.isCells=false->W.heap[q]?=o):Jg lo Ds W:=⟨h.nodup,λD hD=>⟨(h.at_ D hD).1,hk D _ (h.at_ D hD).2 rfl⟩⟩
theorem Jg.cons(h:Jg lo Ds w)(hk:∀(q:Nat)(o:Obj),w.heap[q]?=o->o.isCells=false->W.heap[q]?=o)(hD:w.heap.size<=D)(hl:lo<=D)(hr:W.heap[D]?=I (.deferred (I []))):Jg lo (D::Ds) W:=by
 have h1:=h.keep hk;refine⟨List.nodup_cons.2 ⟨λhm=>?_,h1.nodup⟩,λq hq=>?_⟩;have:=(zG.1 (h.at_ D hm).2).1;omega;rcases List.mem_cons.1 hq with rfl|hq
 exact⟨hl,hr⟩;exact h1.at_ q hq
theorem Gy{F:Fence}{n:Nat}{P:Program}{fn:Func}{tmps:Array Oa}{R:Ending->Y->Prop}{lo:Nat}:∀(Ds:List Nat)(W:Y),Jg lo Ds W -> (∀W',(∀q,q∉Ds->W'.heap[q]?=W.heap[q]?)->W'.heap.size=W.heap.size->W'.os=W.os->W'.tape=W.tape->W'.output=W.output->LeavesIn F n P fn tmps R [] .returning W')->LeavesInM F n P fn tmps R (Ds.map qcR) .returning W
 |[],W,_,h=>h W (λ_ _=>rfl) rfl rfl rfl rfl
 |D::Ds,W,hm,h=>by refine⟨zA3,.inl ⟨D,_,rfl,run_takeDeferred (hm.at_ D List.mem_cons_self).2,?_⟩⟩;have hnd:=List.nodup_cons.1 hm.nodup;refine Gy (lo:=lo) Ds (W.putObj D (.deferred O)) ⟨hnd.2,λq hq=>⟨(hm.at_ q (List.mem_cons_of_mem _ hq)).1,(World.putObj_heap_other (o:=.deferred O) (λe=>by subst e;exact hnd.1 hq)).trans (hm.at_ q (List.mem_cons_of_mem _ hq)).2⟩⟩ ?_;intro W' h1 h2 h3 h4 h5;refine h W' (λq hq=>?_) ?_ ?_ ?_ ?_;exact(h1 q λhx=>hq (List.mem_cons_of_mem _ hx)).trans (World.putObj_heap_other (o:=.deferred O) λe=>hq (by rw[e];exact List.mem_cons_self));rw[h2];simp;rw[h3];rfl;rw[h4];rfl;rw[h5];rfl
end Go.Proofs.YtmeadnlmepcmbaaGreat
namespace Go.Proofs.YtmeadnlmepcmbaaGreat
open Go.RowKit Go.Shelf
attribute [local go_sem] Oper.semAt_some
variable {W W':World}{v:Value}
abbrev Ui:Type:=It×Sl
abbrev uiz:Ui:=((⟨0,0,0,0,[]⟩:It),(O,0,0))
set_option maxRecDepth 100000 in
theorem backi_in(n:Nat)(hn:1<=n)(l Bs b off len cap:Nat)(us:List Ui)(bT:len<1099511627776)(J Jx:List Nat->Y->Prop)(hY:∀pre (x:Nat) W,J pre W->pre.length<len->YieldAt Fence.wide (n-1) prog l #[(x:Int),.agg #[U .u8 (us[x]?.getD uiz).1.k,U .u32 (us[x]?.getD uiz).1.i,U .u32 (us[x]?.getD uiz).1.o,U .i64 (us[x]?.getD uiz).1.r,sv (us[x]?.getD uiz).2]] W λe W'=>
   (e=M (.bool E)/\J (pre++[x]) W'/\Qw Bs b W W')\/(e=M (.bool false)/\Jx (pre++[x]) W'))
  (W:Y) (ik:W.cell? Bs=I (Z (b,off) len cap)) (hc:∀i,i<len->W.cell? ⟨b,off+i*5,O⟩=I (U .u8 (us[i]?.getD uiz).1.k)/\W.cell? ⟨b,off+i*5+1,O⟩=I (U .u32 (us[i]?.getD uiz).1.i)/\W.cell? ⟨b,off+i*5+2,O⟩=I (U .u32 (us[i]?.getD uiz).1.o)/\W.cell? ⟨b,off+i*5+3,O⟩=I (U .i64 (us[i]?.getD uiz).1.r)/\W.cell? ⟨b,off+i*5+4,O⟩=I (sv (us[i]?.getD uiz).2)) (h0:J [] W) :
  CallsIn Fence.wide n prog 197 #[.func (.yield l) #[] #[],.pointer Bs] W λe W'=>(∃v,e=M v) /\
   ((∃ys,ys=jb (λj=>len-1-j) len/\J ys W')\/(∃pre,(∃k,k<=len/\pre=jb (λj=>len-1-j) k)/\Jx pre W')):=by
 refine callsIn_of_wp func197 rfl trivial ?_ rfl;simp only[ntmps197,List.size_toArray,List.length_cons,List.length_nil,Nat.reduceAdd,Nat.reduceSub,Array.replicate_succ,Array.replicate_zero,List.push_toArray,List.append_toArray,List.nil_append,List.cons_append]
 gi_wp2
 gi_loopw [3] (λi wr=>∃k:Nat,k<=len/\i=U .i64 ((len:Int)-1-k)/\J (jb (λj=>len-1-j) k) wr/\Qw Bs b W wr)
  (λi _=>(intOf i+1).toNat)
 case atStart=>exact⟨0,Nat.zero_le _,zA3,h0,Qw.refl _ _ _⟩
 case round=>
  obtain⟨k,hk,rfl,iI,dR⟩:=hrel;have hBr:wr.cell? Bs=I (Z (b,off) len cap):=(World.cell?_of_block (w:=W) dR.1).trans ik;by_cases hlt:k<len
  ·obtain⟨fn,tmps,assign,body,hy,hR⟩:=hY _ (len-1-k) wr iI (by rw[ZG];exact hlt);have dX:=(World.cell?_of_block (w:=W) (a:=⟨b,off+(len-1-k)*5,O⟩) dR.2).trans (hc (len-1-k) zO).1;have dP:=(World.cell?_of_block (w:=W) (a:=⟨b,off+(len-1-k)*5+1,O⟩) dR.2).trans (hc (len-1-k) zO).2.1;have au:=(World.cell?_of_block (w:=W) (a:=⟨b,off+(len-1-k)*5+2,O⟩) dR.2).trans (hc (len-1-k) zO).2.2.1;have su:=(World.cell?_of_block (w:=W) (a:=⟨b,off+(len-1-k)*5+3,O⟩) dR.2).trans (hc (len-1-k) zO).2.2.2.1;have hc4:=(World.cell?_of_block (w:=W) (a:=⟨b,off+(len-1-k)*5+4,O⟩) dR.2).trans (hc (len-1-k) zO).2.2.2.2;try dsimp only at hy
   obtain⟨i,hi⟩:∃i:Nat,len-1-k=i:=⟨_,rfl⟩
   have dK:(len:Int)-1-k=(i:Int):=zO;have hil:i<len:=zO;have hik:k+i+1<=len/\len<=k+i+1:=zO;have HU:=zH (Vu (λj=>len-1-j) k);obtain⟨u,hu⟩:∃u,us[i]?.getD uiz=u:=⟨_,rfl⟩
   rw[hi]at dX dP au su hc4 hy hR;rw[hu]at dX dP au su hc4 hy;rw[dK];clear dK;clear hu;have HI:=zH hi;clear hi
   gi_wp2
   refine hR.mono ?_;rintro e W3 (⟨rfl,hJ3,gy⟩|⟨rfl,lY⟩)
   ·gi_wp2
    go_roundw
    case rel=>exact⟨k+1,zO,by go_num,by rw[HU.out,HI.out];exact hJ3,dR.t gy⟩
    case measure=>simp[intOf]
   gi_wp2
   refine bodyPost_ret (results_none rfl _ _ _) rfl ?_;exact⟨⟨_,rfl⟩,.inr ⟨_,⟨k+1,zO,by rw[HU.out,HI.out]⟩,lY⟩⟩
  obtain rfl:k=len:=zO
  gi_wp2
  go_end0;exact⟨⟨_,rfl⟩,.inl ⟨_,rfl,iI⟩⟩
set_option maxRecDepth 100000 in
theorem qfH(n l Bs c:Nat)(A:OA)(J:List Nat->Y->Prop)(W:Y)(ik:W.cell? Bs=I (Z A 0 c))(h0:J [] W):CallsIn Fence.wide n prog 197 #[.func (.yield l) #[] #[],.pointer Bs] W λe W'=>(∃v,e=M v)/\J [] W':=by
 refine callsIn_of_wp func197 rfl trivial ?_ rfl;simp only[ntmps197,List.size_toArray,List.length_cons,List.length_nil,Nat.reduceAdd,Nat.reduceSub,Array.replicate_succ,Array.replicate_zero,List.push_toArray,List.append_toArray,List.nil_append,List.cons_append]
 gi_wp2
 gi_loopw [3] (λi wr=>i=U .i64 (-1)/\J [] wr) (λ_ _=>0)
 case atStart=>exact⟨rfl,h0⟩
 case round=>
  obtain⟨rfl,iI⟩:=hrel
  gi_wp2
  go_end0;exact⟨⟨_,rfl⟩,iI⟩
def SWi(W:Y)(Bs b:Nat)(v:Oa)(us:List Ui):Prop:=
 W.cell? Bs=v/\((us=[]/\∃A c,v=Z A 0 c)\/∃off cap,v=Z (I ⟨b,off,O⟩) us.length cap/\∀i,i<us.length->W.cell? ⟨b,off+i*5,O⟩=I (U .u8 (us[i]?.getD uiz).1.k)/\W.cell? ⟨b,off+i*5+1,O⟩=I (U .u32 (us[i]?.getD uiz).1.i)/\W.cell? ⟨b,off+i*5+2,O⟩=I (U .u32 (us[i]?.getD uiz).1.o)/\W.cell? ⟨b,off+i*5+3,O⟩=I (U .i64 (us[i]?.getD uiz).1.r)/\W.cell? ⟨b,off+i*5+4,O⟩=I (sv (us[i]?.getD uiz).2))
theorem SWi.keep{Bs b:Nat}{us:List Ui}(h:SWi W Bs b v us)(hk:Qw Bs b W W'):SWi W' Bs b v us:=by
 refine⟨(World.cell?_of_block (w:=W) hk.1).trans h.1,?_⟩;rcases h.2 with h|⟨off,cap,e,hc⟩
 exact .inl h;exact .inr ⟨off,cap,e,λi hi=>⟨(World.cell?_of_block (w:=W) hk.2).trans (hc i hi).1,(World.cell?_of_block (w:=W) hk.2).trans (hc i hi).2.1,(World.cell?_of_block (w:=W) hk.2).trans (hc i hi).2.2.1,(World.cell?_of_block (w:=W) hk.2).trans (hc i hi).2.2.2.1,(World.cell?_of_block (w:=W) hk.2).trans (hc i hi).2.2.2.2⟩⟩
theorem qhd(n:Nat)(hn:1<=n)(Bs b:Nat)(v:Oa)(us:List Ui)(bT:us.length<1099511627776)(w:Y)(ik:Bs<w)(hb:b<w)(hS:SWi w Bs b v us):SeqStopsK Fence.wide n prog 197 #[.pointer Bs] (λx:Nat=>#[(x:Int),.agg #[U .u8 (us[x]?.getD uiz).1.k,U .u32 (us[x]?.getD uiz).1.i,U .u32 (us[x]?.getD uiz).1.o,U .i64 (us[x]?.getD uiz).1.r,sv (us[x]?.getD uiz).2]]) (Qw Bs b) (λys=>ys=jb (λj=>us.length-1-j) us.length)
   (λpre=>∃k,k<=us.length/\pre=jb (λj=>us.length-1-j) k) us.length w:=λl J Jx W hW _ _ hY h0=>by
 obtain⟨hc,h⟩:=hS.keep (Qw.below hW ik hb);rcases h with⟨rfl,A,c,rfl⟩|⟨off,cap,rfl,ay⟩
 exact(qfH n l Bs c A J W hc h0).mono λe W' ⟨he,hj⟩=>⟨he,.inl ⟨_,rfl,hj⟩⟩
 exact backi_in n hn l Bs b off us.length cap us bT J Jx hY W hc ay h0
theorem qdP(A m c)(w:Y):Calls prog 172 #[Z A m c] w (λe w'=>e=M (.func (.func 197) #[] #[.pointer w])/\w'=w.alloc (.cells #[Z A m c] 55)):=by go_enter func172,ntmps172;go_wp2;go_ret;exact⟨rfl,rfl⟩
end Go.Proofs.YtmeadnlmepcmbaaGreat
