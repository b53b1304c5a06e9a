/- Lemmas of the proof. -/
import Derived.Lib.Overlaps
import Derived.Defers
import Derived.Test.YtmeadnlmepcmbaaGreatZT12
set_option linter.all false
set_option maxHeartbeats 8000000
open Go.Proofs.Tryz
open Go.Value renaming slice→E,int→Q
open Option renaming some→F,none→Oa
open Go renaming Value→I,World→U
open Bool renaming true→J
open Go.Obj renaming cells→O
open Go.IntKind renaming i64→Z
open Go.Ending renaming returned→Jx
namespace Go.Proofs.YtmeadnlmepcmbaaGreat
open Go.RowKit
variable {X Y D:Nat->Prop}{w C W w' W' w0:World}{v v' u:Value}{ips:List (It×Value)}{ty ty2 ty3:TypeId}{lo lo' B B' h g n o dLen dCap sLen sCap m q a j f bp be ba:Nat}{xs zs up l p held:List It}{S S':Sto}{y:It}{P:Program}{A cs vs:List Value}{cur:Array Value}{k:Option Nat}{fr:Nat×Nat}{e lvl er:Int}{ps:List (List It)}{R:Ending->World->Prop}
theorem Tryz.info_step:(Tryz.prog.info? 187).map (λi=>(i.zero,i.size,i.bytes))=F (F (.agg #[Q Z 0,E Oa 0 0,Q Z 0]),3,40):=zQ
theorem Tryz.info_dstep:(Tryz.prog.info? 163).map (λi=>(i.zero,i.size,i.bytes))=F (F (.agg #[Q Z 0,E Oa 0 0,Q Z 0]),3,40):=zQ
abbrev Stp:=Nat×List It×Nat
def ZU:List (Stp×I)->List I
 |[]=>[]
 |p::r=>Q Z (p.1.1:Int)::p.2::Q Z (p.1.2.2:Int)::ZU r
theorem qhk(ps:List (Stp×I))(p:Stp×I):ZU (ps++[p])=ZU ps++[Q Z (p.1.1:Int),p.2,Q Z (p.1.2.2:Int)]:=by
 induction ps with
 |nil=>rfl
 |cons a r ih=>simp[ZU,ih]
theorem kX(ps:List (Stp×I)):∀i (h:i<ps.length),(ZU ps)[i*3]?=F (Q Z (ps[i].1.1:Int))/\(ZU ps)[i*3+1]?=F ps[i].2/\(ZU ps)[i*3+2]?=F (Q Z (ps[i].1.2.2:Int)):=by
 induction ps with
 |nil=>intro i h;simp at h
 |cons p r ih=>
  intro i h;rcases i with _|i
  simp[ZU];have:=ih i (by simpa using h);rw[show(i+1)*3=i*3+1+1+1 by omega];simpa [ZU,Nat.add_assoc]using this
def OwnX(v:I)(q:Nat):Prop:=v.ownBlock=q
def OwnL(lo:Nat)(v:I)(q:Nat):Prop:=v.ownBlock=q\/q<lo
def jD(X:Nat->Prop)(w:U)(v:I)(ips:List (It×I)):Prop:=(∃A c,v=E A ips.length c/\ips.length<=c/\c<=maxLen/\∀C,qU X w C->Rd C C.heap.size 5 A ips.length (qD ips)) /\
 ∀p∈ips,(∃A c,p.2=E A p.1.val.length c)/\∀C,qU X w C->Bys C C.heap.size p.2 p.1.val
theorem jD.its(h:jD X w v ips)(hC:qU X w C):Its C C v (ips.map (·.1)):=by obtain⟨⟨A,c,e,h1,h2,hr⟩,hp⟩:=h;exact⟨ips,rfl,⟨A,c,by rw[List.length_map];exact e,by rw[List.length_map];exact h1,h2,by rw[List.length_map];exact hr C hC⟩,λp ag=>⟨(hp p ag).1,(hp p ag).2 C hC⟩⟩
theorem jD.trans(h:jD X w v ips)(hk:qU X w W)(hY:∀k,k<w.heap.size->Y k->X k):jD Y W v ips:=by obtain⟨⟨A,c,e,h1,h2,hr⟩,hp⟩:=h;exact⟨⟨A,c,e,h1,h2,λC hC=>hr C (hk.trans hC hY)⟩,λp ag=>⟨(hp p ag).1,λC hC=>(hp p ag).2 C (hk.trans hC hY)⟩⟩
def jE(ty:TypeId)(lo:Nat)(w:U)(v:I)(l:List Stp):Prop:=∃ps:List (Stp×I),ps.map (·.1)=l/\w.ownsRow lo ty 3 v l.length (ZU ps)/\∀p∈ps,∃ips,ips.map (·.1)=p.1.2.1/\jD (OwnL lo v) w p.2 ips
def XQ(lo:Nat)(w:U)(v:I)(l:List Stp):Prop:=∃ps:List (Stp×I),ps.map (·.1)=l/\(∃A c,v=E A l.length c/\l.length<=c/\c<=maxLen/\∀C,qU (λq=>q<lo) w C->Rd C C.heap.size 3 A l.length (ZU ps))/\∀p∈ps,∃ips,ips.map (·.1)=p.1.2.1/\jD (λq=>q<lo) w p.2 ips
def Yf(B:Nat)(w:U)(v:I)(l:List Stp):Prop:=∃ps:List (Stp×I),ps.map (·.1)=l/\(∃A c,v=E A l.length c/\l.length<=c/\c<=maxLen/\Rd w B 3 A l.length (ZU ps))/\∀p∈ps,(∃A c,p.2=E A p.1.2.1.length c)/\Its w B p.2 p.1.2.1
theorem Rd.keepFrom{B size n lo:Nat}{A:OA}{xs:List I}(h:Rd w B size A n xs)(hs:0<size)(hf:∀a,A=F a->lo<=a.block)(hk:qU X w C)(hX:∀q,lo<=q->¬X q):Rd C C size A n xs:=⟨h.1,λhn=>by
 obtain⟨b,off,e,hb,hc⟩:=h.2 hn;have h1:lo<=b:=hf _ e;have hl:0<xs.length:=by rw[h.1];exact Nat.mul_pos hn hs
 exact⟨b,off,e,World.block_lt_of_cell? C ⟨b,off+0,Oa⟩ (hk _ _ (hX b h1) (hc 0 _ (zL hl))),λj u hu=>hk _ _ (hX b h1) (hc j u hu)⟩⟩
theorem jE.toE{l:List Stp}(h:jE ty lo w v l):XQ lo w v l:=by obtain⟨ps,e,ho,hp⟩:=h;obtain⟨A,c,rfl,h1,h2⟩:=qC ho;have hf:=ZK.of_own ho;refine⟨ps,e,⟨A,c,rfl,h1,h2,λC hC=>(Rd.of_own ho).keepFrom zO (λa ha=>hf a _ _ (by rw[ha])) hC λq hq hx=>zO⟩,λp ag=>?_⟩;obtain⟨ips,e1,hi⟩:=hp p ag;exact⟨ips,e1,hi.trans (qU.refl _ _) λk _ hk=>.inr hk⟩
theorem XQ.mono{l:List Stp}(h:XQ lo w v l)(hl:lo'<=lo):XQ lo' w v l:=by obtain⟨ps,e,⟨A,c,rfl,h1,h2,hr⟩,hp⟩:=h;have hm:∀{C},qU (λq=>q<lo') w C->qU (λq=>q<lo) w C:=λhC=>hC.mono λq _ hq=>zO;refine⟨ps,e,⟨A,c,rfl,h1,h2,λC hC=>hr C (hm hC)⟩,λp ag=>?_⟩;obtain⟨ips,e1,⟨A',c',f1,f2,f3,f4⟩,f5⟩:=hp p ag;exact⟨ips,e1,⟨A',c',f1,f2,f3,λC hC=>f4 C (hm hC)⟩,λq hq=>⟨(f5 q hq).1,λC hC=>(f5 q hq).2 C (hm hC)⟩⟩
theorem jD.shape(h:jD X w v ips)(e:ips.map (·.1)=xs):∃A c,v=E A xs.length c:=by obtain⟨⟨A,c,e1,_⟩,_⟩:=h;exact⟨A,c,by rw[e1,<-e,List.length_map]⟩
theorem XQ.read{l:List Stp}(h:XQ lo w v l)(hC:qU (λq=>q<lo) w C):Yf C C v l:=by obtain⟨ps,e,⟨A,c,rfl,h1,h2,hr⟩,hp⟩:=h;refine⟨ps,e,⟨A,c,rfl,h1,h2,hr C hC⟩,λp ag=>?_⟩;obtain⟨ips,e1,hi⟩:=hp p ag;exact⟨hi.shape e1,by rw[<-e1];exact hi.its hC⟩
theorem Yf.below{l:List Stp}(h:Yf B w v l)(hb:Below B w w'):Yf B w' v l:=by obtain⟨ps,e,⟨A,c,e1,e2,e3,hr⟩,hp⟩:=h;exact⟨ps,e,⟨A,c,e1,e2,e3,hr.below hb⟩,λp h=>⟨(hp p h).1,(hp p h).2.below hb⟩⟩
theorem Yf.more{l:List Stp}(h:Yf B w v l)(hb:B<=B'):Yf B' w v l:=by obtain⟨ps,e,⟨A,c,e1,e2,e3,hr⟩,hp⟩:=h;exact⟨ps,e,⟨A,c,e1,e2,e3,hr.more hb⟩,λp h=>⟨(hp p h).1,(hp p h).2.more hb⟩⟩
theorem jE.nil(ty:TypeId)(lo:Nat)(w:U):jE ty lo w (E Oa 0 0) []:=⟨[],rfl,World.ownsRow_nil _ _ _ _,λp h=>by cases h⟩
theorem jE.ext{l:List Stp}(h:jE ty lo w v l)(hx:Ext w w'):jE ty lo w' v l:=by obtain⟨ps,e,ho,hp⟩:=h;refine⟨ps,e,QQ ho λq hq=>Below.block hx q (Qn ho q hq).2,λp ag=>?_⟩;obtain⟨ips,e1,hi⟩:=hp p ag;exact⟨ips,e1,hi.trans (qU.of_ext hx) λ_ _ h=>h⟩
theorem jE.push{l:List Stp}{s:Stp}{ps:List (Stp×I)}(aQ:lo<=w)(e:ps.map (·.1)=l)(hp:∀p∈ps,∃ips,ips.map (·.1)=p.1.2.1/\jD (OwnL lo v) w p.2 ips)(hu:ips.map (·.1)=s.2.1)(hs:jD (OwnL lo v) w u ips)(ho:w'.ownsRow lo ty 3 v' (l.length+1) (ZU ps++[Q Z (s.1:Int),u,Q Z (s.2.2:Int)]))(hg:w.grownBy w' v.ownBlock)(dO:v'.ownBlock=v.ownBlock\/∃g,v'.ownBlock=F g/\w.heap.size<=g):jE ty lo w' v' (l++[s]):=by
 have hk:qU (OwnL lo v) w w':=qU.of_heap λq hq hX=>hg.block q hq λe=>hX (.inl e.symm);have hy:∀q,q<w.heap.size->OwnL lo v' q->OwnL lo v q:=λq hq hx=>by
  rcases hx with hx|hx
  rcases dO with e1|⟨g,e1,e2⟩
  left;rw[<-e1];exact hx;rw[e1]at hx;cases hx;omega;exact .inr hx
 refine⟨ps++[(s,u)],by simp[e],?_,λp ag=>?_⟩;rw[List.length_append,List.length_singleton,qhk];exact ho;rcases List.mem_append.1 ag with ag|ag
 obtain⟨ips',e1,hi⟩:=hp p ag;exact⟨ips',e1,hi.trans hk hy⟩;obtain rfl:p=(s,u):=by simpa using ag
 exact⟨ips,hu,hs.trans hk hy⟩
theorem ZO.toE(h:ZO lo w v xs)(hX:∀q,lo<=q->¬X q):∃ips,ips.map (·.1)=xs/\jD X w v ips:=by
 obtain⟨ps,e1,⟨A,c,e2,e3,e4,hr⟩,hp,hf,hg⟩:=h;have el:xs.length=ps.length:=by rw[<-e1,List.length_map]
 rw[el]at e2 e3 hr;refine⟨ps,e1,⟨A,c,e2,e3,e4,λC hC=>hr.keepFrom zO (λa ha=>hf a _ _ (by rw[e2,ha])) hC hX⟩,λp ag=>⟨(hp p ag).1,λC hC=>?_⟩⟩;obtain⟨A',c',f1,f2,f3,f4⟩:=(hp p ag).2;exact⟨A',c',f1,f2,f3,f4.keepFrom zO (λa ha=>hg p ag a _ _ (by rw[f1,ha])) hC hX⟩
theorem ZO.keepX(h:ZO lo w v xs)(hk:qU X w C)(hX:∀q,lo<=q->¬X q):Its C C v xs:=by obtain⟨ips,rfl,hi⟩:=h.toE hX;exact hi.its hk
def QG(xs:List It)(k:K3):Nat:=if km xs k=J then qF xs k else qF xs k-1
theorem YR(S:Sto)(k:K3)(xs:List It):jJ S k 0 xs=[(0,xs,qF xs k)]:=rfl
theorem vX{k:K3}{l:Int}(hy:xs[QG xs k]?=y)(hn:qo S y.r.toNat=F (l,zs)):jJ S k (h+1) xs=(h+1,xs,QG xs k)::jJ S k h zs:=by
 show(h+1,xs,QG xs k)::(match xs[QG xs k]? with
  |none=>[]
  |some y=>match qo S y.r.toNat with
   |none=>[]
   |some (_,ys)=>jJ S k h ys)=_
 rw[hy];simp only;rw[hn]
theorem zy{k:K3}(h:0<xs.length):QG xs k<xs.length:=by unfold QG;have:=JR xs k;split;rename_i hi;by_cases hl:qF xs k<xs.length;exact hl;rw[KO hl]at hi;cases hi;omega
theorem kF(hm:Qj (h:Int) xs=J)(h1:0<h):0<xs.length:=by
 rcases Nat.eq_zero_or_pos xs.length with h0|h0
 exfalso;have hhd:ZV (h:Int) xs.length=J:=by unfold Qj at hm;simp only[Bool.and_eq_true]at hm;exact hm.1
 unfold ZV at hhd;simp only[decide_eq_true_eq]at hhd;exact hhd.2.2.2 zO h0;exact h0
theorem Yb{S:Sto}{k:K3}:∀(h:Nat){xs:List It},Qj (h:Int) xs=J->(qz S h xs).isSome=J->(jJ S k h xs).length=h+1
 |0,xs,_,_=>rfl
 |h+1,xs,hm,hs=>by have hx:=kF hm zO;obtain⟨b,e1,-,-,zs,e4,e5⟩:=Qz (Qt hs _ (List.getElem_mem (zy (k:=k) hx)));rw[vX (zL (zy hx)) (by rw[e1,Int.toNat_natCast];exact e4),List.length_cons,Yb h (qI e4).1 e5]
theorem qee(w:U)(dT sT ty elem:TypeId)(g o dLen dCap:Nat)(a:Addr)(sLen sCap:Nat)(cur:Array I)(t:TypeId)(cs:List I)(k:Nat)(hu:P.underlying dT=F (.slice elem))(hs:(P.info? elem).map (·.size)=k)(hg:w.heap[g]?=F (O cur t))(hn:cs.length=Nat.min sLen dLen*k)(fC:∀j v,cs[j]?=F v->w.cell? (a.add j)=F v)(lF:o+cs.length<=cur.size)(h1:∀v∈cs,v.oneCell'=J):(Builtin.copy_ #[dT,sT] ty #[E (g,o) dLen dCap,E (F a) sLen sCap]).run P w =
   .ok (Q Z (Nat.min sLen dLen:Nat)) (w.setRow g (cur.toList.take o++cs++cur.toList.drop (o+cs.length)).toArray):=by
 have hl:=run_loadCells_list (P:=P) w a cs fC;have aJ:=run_storeCells_at P g o t cs 0 cur w hg (by simpa using lF) h1;cases hq:P.info? elem with
 |none=>simp[hq]at hs
 |some i=>
  have hi:i.size=k:=by simpa [hq]using hs
  have tu:min sLen dLen*k=cs.length:=hn.symm;simp[Builtin.copy_,run_underlying hu,Builtin.lenOf,Builtin.firstCells,sizeOf,typeInfo,hq,hi,tu,hl,aJ];rfl
theorem take_mid{V R:List I}{a b:Nat}(h:A.length+V.length=a+b):(A++V++R).take (a+b)=A++V:=by rw[<-h,<-List.length_append];exact List.take_left
structure RowI(g cap n:Nat)(xs:List I)(w:U):Prop where
 ex:∃cur:Array I,w.heap[g]?=F (O cur 51)/\cur.size=cap*5/\cur.toList.take (n*5)=xs
theorem RowI.own{cap:Nat}{xs:List I}(h:RowI g cap n xs w)(hl:xs.length=n*5)(aQ:lo<=g)(hn:n<=cap)(hc:cap<=maxLen):w.ownsRow lo 51 5 (E g n cap) n xs:=by obtain⟨cur,h1,h2,h3⟩:=h.ex;exact⟨hl,.inr ⟨g,cap,cur,rfl,aQ,h1,hn,hc,h2,h3⟩⟩
def spl(cur:Array I)(o:Nat)(cs:List I):Array I:=(cur.toList.take (o*5)++cs++cur.toList.drop (o*5+cs.length)).toArray
theorem QE{k:Nat}(hl:cs.length=k*5)(h:(o+k)*5<=cur.size):(spl cur o cs).size=cur.size:=by unfold spl;simp only[List.size_toArray,List.length_append,List.length_take,List.length_drop,Array.length_toList];omega
theorem jV{k:Nat}{dT sT:TypeId}{a:Addr}(hg:W.heap[g]?=F (O cur 51))(hl:cs.length=k*5)(h:(o+k)*5<=cur.size)(hu:P.underlying dT=F (.slice 51))(hs:(P.info? 51).map (·.size)=F 5)(hk:Nat.min sLen dLen=k)(fC:∀j v,cs[j]?=F v->W.cell? (a.add j)=F v)(h1:∀v∈cs,v.oneCell'=J):(Builtin.copy_ #[dT,sT] ty #[E (g,o*5) dLen dCap,E (F a) sLen sCap]).run P W=.ok (Q Z (k:Nat)) (W.setRow g (spl cur o cs)):=by have:=qee (P:=P) W dT sT ty 51 g (o*5) dLen dCap a sLen sCap cur 51 cs 5 hu hs hg (by rw[hk,hl]) fC zO h1;rw[hk]at this;exact this
theorem KY{k:Nat}(hA:cur.toList.take (o*5)=A)(hl:cs.length=k*5)(h:(o+k)*5<=cur.size):(spl cur o cs).toList.take ((o+k)*5)=A++cs:=by
 unfold spl;rw[List.toList_toArray,hA,Nat.add_mul];have:A.length=o*5:=by rw[<-hA,List.length_take,Array.length_toList];omega
 exact take_mid zO
theorem qmK{i:Nat}{xs:List I}(hc:cur.toList.take (n*5)=xs)(hx:xs.length=n*5)(hv:vs.length=m*5)(hi:i<=n)(h:(n+m)*5<=cur.size):(spl (spl cur (i+m) (xs.drop (i*5))) i vs).toList.take ((n+m)*5)=xs.take (i*5)++vs++xs.drop (i*5):=by
 have hd:(xs.drop (i*5)).length=(n-i)*5:=by rw[List.length_drop];omega
 have e1:(spl cur (i+m) (xs.drop (i*5))).toList=cur.toList.take ((i+m)*5)++xs.drop (i*5)++cur.toList.drop ((i+m)*5+(xs.drop (i*5)).length):=by unfold spl;rw[List.toList_toArray]
 have lq:(cur.toList.take ((i+m)*5)).length=(i+m)*5:=by rw[List.length_take,Array.length_toList];omega
 have e2:(spl cur (i+m) (xs.drop (i*5))).toList.take (i*5)=xs.take (i*5):=by rw[e1,List.append_assoc,List.take_append_of_le_length zO,List.take_take,Nat.min_eq_left zO,<-hc,List.take_take,Nat.min_eq_left zO]
 have e3:(spl cur (i+m) (xs.drop (i*5))).toList.drop (i*5+vs.length)=xs.drop (i*5)++cur.toList.drop ((i+m)*5+(xs.drop (i*5)).length):=by rw[e1,List.append_assoc];have:i*5+vs.length=(cur.toList.take ((i+m)*5)).length:=zO;rw[this];exact List.drop_left
 generalize hY:spl cur (i+m) (xs.drop (i*5))=Y at*;unfold spl;rw[List.toList_toArray,e2,e3,<-List.append_assoc];have ht:(xs.take (i*5)).length=i*5:=by rw[List.length_take];omega
 have:(n+m)*5=(xs.take (i*5)++vs++xs.drop (i*5)).length:=by simp only[List.length_append];omega
 rw[this];exact List.take_left
set_option maxRecDepth 100000 in
theorem KQ(A n c)(us:List I)(hn:n<1073741824)(h1:∀u∈us,u.oneCell'=J)(w:U)(hr:Rd w w 5 A n us):Calls prog 115 #[E A n c] w (zZ (λu w'=>w'.ownsRow w 51 5 u n us) w):=by
 obtain⟨i0,hi,aZ,aT,aX⟩:=info_parts Tryz.info_item;have qn:∀(w:U)(a:OA)(n c n' c':Nat),(binOp .eql 55 (E a n c) (E Oa n' c')).run prog w=.ok (.bool a.isNone) w:=λw a n c n' c'=>Lib.run_eql_slice_nil w _ _ a n c n' c' underlying55;rcases A with _|⟨b,off,p⟩
 ·have h0:n=0:=by
   rcases Nat.eq_zero_or_pos n with h|h
   exact h;obtain⟨b,off,h,_⟩:=hr.2 h;cases h
  subst h0;obtain rfl:us=[]:=List.eq_nil_of_length_eq_zero (by simpa using hr.1);go_enter func115,ntmps115;go_wp2;go_ret;exact⟨_,rfl,World.ownsRow_nil _ _ _ _,Below.refl _ _⟩
 go_enter func115,ntmps115;go_wp2_with (at_builtin;refine qV ?_);refine Qm.go (QB _ rfl (.tmp 5) (.tmp 6) 55 rfl w.heap.size 51 i0 _ 5 48 underlying55 hi aZ aT aX rfl zA1 _ 0 [] rfl ?_ w.heap.size _ n c us zE ?_ h1 zO zA1 zA3 ?_);exact World.ownsRow_lit w #[] 0 (zM _) (by simp[maxLen]) rfl;exact hr.keep λp hp=>World.cell?_alloc_lt w _ p hp;intro v' w' aB _ hb _;simp only[Nat.zero_add,List.nil_append]at aB;go_wp2;go_ret;exact⟨_,rfl,aB,Below.trans ((Below.refl _ _).alloc (zM _) _) hb⟩
def vY(lo:Nat)(s:I)(k:Nat)(ys:List I)(w:U)(e:Ending)(W:U):Prop:=∃v',e=Jx v'/\W.ownsRow lo 51 5 v' k ys/\Below lo w W/\∀q,q<w.heap.size->s.ownBlock≠F q->W.heap[q]?=w.heap[q]?
theorem Qv(h:Below lo w W)(aQ:lo<=w)(hg:lo<=g)(cur:Array I):Below lo w (W.setRow g cur):=
 h.grown (qab W g cur) (by have:=h.size;omega) (λk hk=>by cases hk;exact hg)
theorem Gg{c:Nat}{e:TypeId}(h:w.ownsRow lo e 5 (E g m c) m vs):∀j u,vs[j]?=F u->w.cell? ((g:Addr).add j)=F u:=λj u hu=>by
 rcases h.2 with⟨h0,_⟩|⟨g',cap,cur,hv,hb,hg,fQ,_,hsz,mM⟩
 cases h0;cases hv;rw[Addr.add_lit,Nat.zero_add,qa hg,<-Array.getElem?_toList];rw[<-mM,List.getElem?_take]at hu;split at hu;exact hu;cases hu
theorem VH(ps:List (It×I)):∀k,qD (ps.drop k)=(qD ps).drop (k*5):=by
 induction ps with
 |nil=>intro k;simp[qD]
 |cons p r ih=>
  intro k;rcases k with _|k
  simp[qD];rw[List.drop_succ_cons,show(k+1)*5=k*5+1+1+1+1+1 by omega];simp only[qD,List.drop_succ_cons,ih k]
theorem Kn(ps:List (It×I))(h:∀p∈ps,p.2.oneCell'=J):∀u∈qD ps,u.oneCell'=J:=by
 induction ps with
 |nil=>intro u hu;cases hu
 |cons p r ih=>
  intro u hu;simp only[qD,List.mem_cons]at hu;rcases hu with rfl|rfl|rfl|rfl|rfl|hu
  rfl;rfl;rfl;rfl;exact h p List.mem_cons_self;exact ih (λq hq=>h q (List.mem_cons_of_mem _ hq)) u hu
theorem Its.take{B b off n c:Nat}(h:Its w B (E (b,off) n c) xs){k:Nat}(hk:k<=xs.length):Its w B (E (b,off) k c) (xs.take k):=by
 obtain⟨ps,rfl,⟨A,c',e,h1,h2,hr⟩,hp⟩:=h;cases e;have hk':k<=ps.length:=by simpa using hk
 refine⟨ps.take k,by rw[List.map_take],⟨_,c,by rw[List.length_take,Nat.min_eq_left hk],by rw[List.length_take];omega,h2,?_⟩,λp ag=>hp p (List.mem_of_mem_take ag)⟩;rw[List.length_take,Nat.min_eq_left hk];rw[<-VI];refine⟨by rw[List.length_take,hr.1,List.length_map];omega,λhn=>?_⟩;obtain⟨b',off',e,hb,hc⟩:=hr.2 zO;exact⟨b',off',e,hb,λj u hu=>hc j u (by rw[List.getElem?_take]at hu;split at hu;exact hu;cases hu)⟩
theorem Its.drop{B b off n c:Nat}(h:Its w B (E (b,off) n c) xs){k:Nat}(hk:k<xs.length):Its w B (E (b,off+k*5) (n-k) (c-k)) (xs.drop k):=by
 obtain⟨ps,rfl,⟨A,c',e,h1,h2,hr⟩,hp⟩:=h;cases e;have hk':k<ps.length:=by simpa using hk
 refine⟨ps.drop k,by rw[List.map_drop],⟨_,c-k,by rw[List.length_drop],by rw[List.length_drop];omega,zO,?_⟩,λp ag=>hp p (List.mem_of_mem_drop ag)⟩;rw[List.length_drop,VH];refine⟨by rw[List.length_drop,hr.1,List.length_map];omega,λhn=>?_⟩;obtain⟨b',off',e,hb,hc⟩:=hr.2 zO;cases e;exact⟨b,off+k*5,rfl,hb,λj u hu=>by rw[List.getElem?_drop]at hu;rw[Nat.add_assoc];exact hc _ _ hu⟩
theorem Kh.take{b off n c:Nat}(h:Kh X w (E (b,off) n c) xs){k:Nat}(hk:k<=xs.length):Kh X w (E (b,off) k c) (xs.take k):=λC hC=>(h C hC).take hk
theorem Kh.drop{b off n c:Nat}(h:Kh X w (E (b,off) n c) xs){k:Nat}(hk:k<xs.length):Kh X w (E (b,off+k*5) (n-k) (c-k)) (xs.drop k):=λC hC=>(h C hC).drop hk
theorem Bch.notB3{B lo b g:Nat}(h:Bch D B lo b g k S w){cs:Array I}(hr:w.heap[q]?=F (O cs ty fr))(h1:ty≠223)(h2:ty≠5)(h3:ty≠142):¬B3 b g k q:=λhx=>by
 obtain⟨A1,n1,c1,v2,c3,A4,c4,oQ,ho,⟨ps,_,hw,_⟩,_,_⟩:=h.ex;rcases hx with e|e|e
 subst e;rw[hr]at oQ;simp only[Option.some.injEq,Obj.cells.injEq]at oQ;exact h1 oQ.2.1;subst e;obtain⟨cur,hg⟩:=ZD ho (q:=q) rfl;rw[hr]at hg;simp only[Option.some.injEq,Obj.cells.injEq]at hg;exact h2 hg.2.1;rcases hw with⟨e1,_⟩|⟨q',e1,e2,how⟩
 rw[e1]at e;cases e;rw[e1]at e;cases e;obtain⟨cur,hg⟩:=ZD how e2;rw[hr]at hg;simp only[Option.some.injEq,Obj.cells.injEq]at hg;exact h3 hg.2.1
def upV(ups:List It):List (It×I):=ups.map λx=>(x,E Oa 0 0)
theorem upV_item(ups:List It)(x:It):qD (upV (ups++[x]))=qD (upV ups)++[Q .u8 x.k,Q .u32 x.i,Q .u32 x.o,Q Z x.r,E Oa 0 0]:=by unfold upV;rw[List.map_append,Zt];rfl
theorem qdq{t:List UInt8}(h:ZR t a=.error e):e≠0:=by unfold ZR at h;split at h;cases h;split at h;cases h;decide;split at h;cases h;decide;cases h
theorem qdr:∀{l:List Nat}{t:List UInt8}{e:Int},ja l t=.error e->e≠0
 |[],t,e,h=>by cases h
 |a::l,t,e,h=>by simp only[ja]at h;split at h;rename_i e' h';cases h;exact qdq h';exact qdr h
theorem YC{its:List It}(h:Zg S lvl its=.error e):e≠0:=by unfold Zg at h;split at h;split at h;rename_i e' h';cases h;exact qdr h';split at h;cases h;decide;cases h;cases h;decide
theorem Xk(lvl:Int):∀(ps qs:List (List It))(S:Sto),makeL lvl (ps++qs) S=match makeL lvl ps S with
  |.error e=>.error e
  |.ok (up,S')=>match makeL lvl qs S' with
   |.error e=>.error e
   |.ok (up',S'')=>.ok (up++up',S'')
 |[],qs,S=>by simp only[List.nil_append,makeL];rcases makeL lvl qs S with e|⟨up,S'⟩<;>rfl
 |p::ps,qs,S=>by
  simp only[List.cons_append,makeL];rcases Zg S lvl p with e|⟨f,S'⟩
  rfl;simp only;rw[Xk lvl ps qs S'];rcases makeL lvl ps S' with e|⟨up,S''⟩
  rfl;simp only;rcases makeL lvl qs S'' with e|⟨up',S3⟩<;>rfl
theorem qmf(lvl:Int)(p:List It)(S:Sto):makeL lvl [p] S=match Zg S lvl p with
  |.error e=>.error e
  |.ok (f,S')=>.ok ([jz (jy p) f],S'):=by
 simp only[makeL]<;>(rcases Zg S lvl p with e|⟨f,S'⟩<;>rfl)
theorem qme(hj:j<ps.length)(h:makeL lvl (ps.take j) S=.ok (up,S'))(h1:Zg S' lvl ps[j]=.error e):makeL lvl ps S=.error e:=by
 have:ps=ps.take j++(ps[j]::ps.drop (j+1)):=by rw[<-List.drop_eq_getElem_cons hj,List.take_append_drop]
 rw[this,Xk,h];simp only[makeL];rw[h1]
theorem qjO(hj:j<ps.length){S'':Sto}(h:makeL lvl (ps.take j) S=.ok (up,S'))(h1:Zg S' lvl ps[j]=.ok (f,S'')):makeL lvl (ps.take (j+1)) S=.ok (up++[jz (jy ps[j]) f],S''):=by rw[List.take_succ_eq_append_getElem hj,Xk,h];simp only;rw[qmf,h1]
theorem qjN{its:List It}(k:Nat):qA its=qA (its.take k)++qA (its.drop k):=by unfold qA;rw[<-List.map_append,List.take_append_drop]
theorem qcK{its:List It}{k:Nat}(hk:k<its.length){t t':List UInt8}(h:looseL (qA (its.take k)) t=.ok t')(h0:its[k].r.toNat≠0)(h1:qL t' its[k].r.toNat=0):looseL (qA its) t=.error 6:=by rw[qjN (its:=its) k,JO,h];simp only;rw[List.drop_eq_getElem_cons hk];exact jR h0 h1 _
theorem qbq{its:List It}{k:Nat}(hk:k<its.length){t t':List UInt8}(h:looseL (qA (its.take k)) t=.ok t')(h0:its[k].r.toNat≠0)(h1:qL t' its[k].r.toNat≠0):looseL (qA (its.take (k+1))) t=.ok (jf t' its[k].r.toNat):=by rw[KX hk,JO,h];simp only;rw[jj h0 h1];rfl
theorem qbr{its:List It}{k:Nat}(hk:k<its.length){t t':List UInt8}(h:looseL (qA (its.take k)) t=.ok t')(h0:its[k].r.toNat=0):looseL (qA (its.take (k+1))) t=.ok t':=by rw[KX hk,JO,h];simp only;rw[h0,jk];rfl
structure SM(S S':Sto):Prop where
 node:∀r nd,qo S r=F nd->qo S' r=F nd
 pos:∀r:Nat,0<(S.now[r]?.getD 0).toNat->0<(S'.now[r]?.getD 0).toNat
theorem UL{one one':It->Option (K3×K3)}(h:∀y p,one y=F p->one' y=F p):∀(xs:List It)(a:Option (Option (K3×K3)))(q:Option (K3×K3)),xs.foldl (jP one) a=F q->xs.foldl (jP one') a=F q
 |[],_,_,e=>e
 |x::r,a,q,e=>by
  simp only[List.foldl_cons]at e⊢;have hs:=(qaw one r (jP one a x) (by rw[e];rfl)).1;have e2:jP one' a x=jP one a x:=by
   unfold jP at hs⊢;rcases a with _|a
   rfl;rcases hx:one x with _|p
   rw[hx]at hs;cases hs;rw[h x p hx]
  rw[e2];exact UL h r _ q e
section
variable {S S':Sto}
theorem SM.one(hm:SM S S'):∀(h:Nat)(y:It)(p:K3×K3),jA S h y=F p->jA S' h y=F p
 |0,y,p,e=>by unfold jA at e⊢;split at e;rename_i hc;rw[if_pos (hc.imp id (hm.pos _))];exact e;cases e
 |h+1,y,p,e=>by
  rw[Jc]at e⊢;unfold vI at e⊢;split at e;rename_i hr;rw[if_pos hr];rcases hn:qo S y.r.toNat with _|⟨lvl,xs⟩
  rw[hn]at e;cases e;rw[hn]at e;rw[hm.node _ _ hn];simp only at e⊢;split at e;rename_i hl;rw[if_pos hl];rcases hs:qz S h xs with _|q
  rw[hs]at e;cases e;rw[hs]at e;have h2:qz S' h xs=F q:=UL (SM.one hm h) xs _ q hs;rw[h2];exact e;cases e;cases e
theorem SM.span(hm:SM S S'){h:Nat}{xs:List It}{q:Option (K3×K3)}(e:qz S h xs=F q):qz S' h xs=F q:=UL (hm.one h) xs _ q e
theorem SM.spanOk(hm:SM S S'){h:Nat}{xs:List It}(e:(qz S h xs).isSome=J):(qz S' h xs).isSome=J:=by obtain⟨q,hq⟩:=Option.isSome_iff_exists.1 e;rw[hm.span hq];rfl
theorem SM.okL(hm:SM S S'){L r:Int}(e:okL S L r=J):okL S' L r=J:=by
 unfold Go.Proofs.YtmeadnlmepcmbaaGreat.okL at e⊢;split at e;rename_i hr;rw[if_pos hr];rcases hn:qo S r.toNat with _|⟨lvl,xs⟩
 rw[hn]at e;cases e;rw[hn]at e;rw[hm.node _ _ hn];simp only[Bool.and_eq_true]at e⊢;exact⟨hm.spanOk e.1,e.2⟩;cases e
theorem SM.items(hm:SM S S'):∀(h:Nat)(xs:List It),(qz S h xs).isSome=J->qu S' h xs=qu S h xs
 |0,_,_=>rfl
 |h+1,xs,e=>by unfold qu;rw[List.flatMap_def,List.flatMap_def];congr 1;refine List.map_congr_left λy hy=>?_;obtain⟨b,hb,_,_,ys,hn,hs⟩:=Qz (Qt e y hy);rw[hb,Int.toNat_natCast,hm.node _ _ hn,hn];exact SM.items hm h ys hs
theorem QH.trees{root next:Int}{dead:List Int}{vs:List Vol}(h:QH S root next dead vs):∀a,a∈Qp root dead vs->ZN S a:=λa ha=>by obtain⟨r,hr,rfl⟩:=List.mem_map.1 ha;obtain⟨n,rfl,hn⟩:=Zl (h.ok r hr);exact hn
end
def Vc(S:Sto):Int:=if qj S=J/\16<=(jd S).length then 0 else 9
structure Two(bp be:Nat)(W W':U):Prop where
 os:W'.os=W.os
 tape:W'.tape=W.tape
 output:W'.output=W.output
 size:W.heap.size<=W'
 same:∀k,k<W.heap.size->k≠bp->k≠be->W'.heap[k]?=W.heap[k]?
theorem Two.of_ext(h:Ext W W'):Two bp be W W':=⟨h.os,h.tape,h.output,h.size,λk hk _ _=>h.block k hk⟩
abbrev qdJ:Array I:=qR (E Oa 0 0) (E Oa 0 0) (E Oa 0 0) (E Oa 0 0) 0 0 0 (E Oa 0 0)
theorem Two.trans{A B:U}(h:Two bp be A B)(k:Two bp be B C):Two bp be A C:=⟨k.os.trans h.os,k.tape.trans h.tape,k.output.trans h.output,Nat.le_trans h.size k.size,λi hi h1 h2=>(k.same i (Nat.lt_of_lt_of_le hi h.size) h1 h2).trans (h.same i hi h1 h2)⟩
theorem Two.setP(A:U)(j:Nat)(v:I):Two bp be A (A.setCell (bp,j) v):=⟨rfl,rfl,rfl,zA3,λk _ hk _=>zJ _ _ _ _ hk⟩
theorem Two.setE(A:U)(j:Nat)(v:I):Two bp be A (A.setCell (be,j) v):=⟨rfl,rfl,rfl,zA3,λk _ _ hk=>zJ _ _ _ _ hk⟩
theorem Two.set8(w:U)(x0 x1 x2 x3 x4 x5 x6 x7:I):Two bp be w ((((((((w.setCell bp x0).setCell (bp,1) x1).setCell (bp,2) x2).setCell (bp,3) x3).setCell (bp,4) x4).setCell (bp,5) x5).setCell (bp,6) x6).setCell (bp,7) x7):=
 (Two.setP _ _ _).trans ((Two.setP _ _ _).trans ((Two.setP _ _ _).trans ((Two.setP _ _ _).trans ((Two.setP _ _ _).trans ((Two.setP _ _ _).trans ((Two.setP _ _ _).trans (Two.setP _ _ _)))))))
def RoomyQ(bp be:Nat)(cs:Array I)(e:Int)(S:Sto)(W W':U):Prop:=Two bp be W W' /\
 ((e=0/\Vc S=0/\W'.heap[bp]?=F (O cs 32)/\W'.heap[be]?=F (O #[Q Z 0] 37)) \/
  ∃e',e'≠0/\((e=0/\e'=Vc S)\/(e≠0/\e'=e))/\W'.heap[bp]?=F (O qdJ 32)/\W'.heap[be]?=F (O #[Q Z e'] 37))
set_option maxRecDepth 100000 in
theorem qmA(bp be:Nat)(aH:bp≠be)(A1 n1 c1 A2 n2 c2 A3 n3 c3 A4 n4 c4)(gen root next:Int)(v5:I)(e:Int)(S:Sto)(w:U)(hp:w.heap[bp]?=F (O (qR (E A1 n1 c1) (E A2 n2 c2) (E A3 n3 c3) (E A4 n4 c4) gen root next v5) 32 (0,0)))(he:w.heap[be]?=F (O #[e] 37))(h:e=0->Qh w w (E A1 n1 c1) (E A2 n2 c2) (E A3 n3 c3) (E A4 n4 c4) S):Calls prog 89 #[.pointer bp,.pointer be] w (λx w'=>x=Jx (.tuple #[])/\RoomyQ bp be (qR (E A1 n1 c1) (E A2 n2 c2) (E A3 n3 c3) (E A4 n4 c4) gen root next v5) e S w w'):=by
 have kp:=qa hp;have ke:=qa he;have fp:=qe hp;have fe:=qe he;by_cases h0:e=0
 ·subst h0;have HF:=qmy A1 n1 c1 A2 n2 c2 A3 n3 c3 A4 n4 c4 S w (h rfl);clear h;go_enter func89,ntmps89;go_wp2_with fail;refine HF.mono ?_;rintro x w2 ⟨hB,hQ⟩;have x2:Ext w w2:=hB;have fG:=qb hp x2;have iW:=qb he x2;have kp2:=qa fG;have ke2:=qa iW;have fp2:=qe fG;have fe2:=qe iW;clear kp ke fp fe hB HF hp he;rcases hQ with⟨hm,rfl⟩|⟨hm,v,rfl,aB⟩
  ·have hE:Vc S=9:=by unfold Vc;rw[hm];rfl
   replace⟨hE,hm⟩:=zH2 hE hm;have hEQ:¬be=bp:=λe=>aH e.symm;go_wp2_with fail;go_end0;exact⟨rfl,(Two.of_ext x2).trans ((Two.setE _ _ _).trans (Two.set8 _ _ _ _ _ _ _ _ _)),.inr ⟨9,zA1,.inl ⟨rfl,hE.out.symm⟩,kI ((zJ _ _ _ _ aH).trans fG) _ _ _ _ _ _ _ _,(ve hEQ _ _ _ _ _ _ _ _).trans (qi iW 0 _)⟩⟩
  obtain⟨A,c,rfl,-,-⟩:=qC aB;clear aB;by_cases hl:(jd S).length<16
  ·have hE:Vc S=9:=by unfold Vc;rw[if_neg zO]
   replace hE:=zH hE;have d1:decide (((jd S).length:Int)<16)=J:=decide_eq_true zO;replace⟨hl,hm⟩:=zH2 hl hm;have hEQ:¬be=bp:=λe=>aH e.symm;go_wp2_with fail;go_end0;exact⟨rfl,(Two.of_ext x2).trans ((Two.setE _ _ _).trans (Two.set8 _ _ _ _ _ _ _ _ _)),.inr ⟨9,zA1,.inl ⟨rfl,hE.out.symm⟩,kI ((zJ _ _ _ _ aH).trans fG) _ _ _ _ _ _ _ _,(ve hEQ _ _ _ _ _ _ _ _).trans (qi iW 0 _)⟩⟩
  have hE:Vc S=0:=by unfold Vc;rw[if_pos ⟨hm,zO⟩]
  replace hE:=zH hE;have d1:decide (((jd S).length:Int)<16)=false:=decide_eq_false zO;replace⟨hl,hm⟩:=zH2 hl hm;go_wp2_with fail;go_end0;exact⟨rfl,Two.of_ext x2,.inl ⟨rfl,hE.out,fG,iW⟩⟩
 have b0:(e==0)=false:=by rw[beq_eq_false_iff_ne];exact h0
 have b1:(e != 0)=J:=by rw[bne_iff_ne];exact h0
 replace⟨h0,aH⟩:=zH2 h0 aH;clear h;go_enter func89,ntmps89;go_wp2_with fail;go_end0;exact⟨rfl,Two.set8 _ _ _ _ _ _ _ _ _,.inr ⟨e,h0.out,.inr ⟨h0.out,rfl⟩,kI hp _ _ _ _ _ _ _ _,(ve (λx=>aH.out x.symm) _ _ _ _ _ _ _ _).trans he⟩⟩
structure XE(bp be ba:Nat)(W W':U):Prop where
 os:W'.os=W.os
 tape:W'.tape=W.tape
 output:W'.output=W.output
 size:W.heap.size<=W'
 same:∀k,k<W.heap.size->k≠bp->k≠be->k≠ba->W'.heap[k]?=W.heap[k]?
theorem XE.of_two(h:Two bp be W W'):XE bp be ba W W':=⟨h.os,h.tape,h.output,h.size,λk hk h1 h2 _=>h.same k hk h1 h2⟩
theorem XE.set(h:XE bp be ba W W')(v:I):XE bp be ba W (W'.setCell ba v):=⟨h.os,h.tape,h.output,by simpa using h.size,λk hk h1 h2 h3=>(zJ _ _ _ _ h3).trans (h.same k hk h1 h2 h3)⟩
theorem XE.below(h:XE bp be ba W W')(hb:Below B w0 W)(h1:B<=bp)(h2:B<=be)(h3:B<=ba)(hB:B<=W):Below B w0 W':=hb.trans ⟨h.os,h.tape,h.output,h.size,λk hk=>h.same k zO zO zO zO⟩
theorem Gw{b:Nat}{x0 x1 x2 x3 x4 x5 x6 x7 y z u0 u1 u2 u3 u4 u5 u6 u7 p q:I}{ty1:TypeId}(r4:W.heap[b+1]?=F (O #[u0,u1,u2,u3,u4,u5,u6,u7] ty1))(r5:W.heap[b+2]?=F (O #[p] ty2))(r6:W.heap[b+3]?=F (O #[q] ty3))(hC:C=((((((((((W.setCell (b+1,0) x0).setCell (b+1,1) x1).setCell (b+1,2) x2).setCell (b+1,3) x3).setCell (b+1,4) x4).setCell (b+1,5) x5).setCell (b+1,6) x6).setCell (b+1,7) x7).setCell (b+1+1,0) y).setCell (b+1+1+1,0) z)):C.heap[b+1]?=F (O #[x0,x1,x2,x3,x4,x5,x6,x7] ty1)/\C.heap[b+2]?=F (O #[y] ty2)/\C.heap[b+3]?=F (O #[z] ty3)/\(∀{B:Nat}{w0:U},B<=b+1->Below B w0 W->Below B w0 C)/\C.heap.size=W/\(∀k,k≠b+1->k≠b+2->k≠b+3->C.heap[k]?=W.heap[k]?):=by subst hC;have hs:=λ(A:U)(b j:Nat)(v:I)(k:Nat)(hk:k≠b)=>zJ A ⟨b,j,Oa⟩ v k hk;refine⟨?_,?_,?_,λhB h=>?_,zA3,λk h1 h2 h3=>?_⟩;rw[hs _ _ _ _ _ zO,hs _ _ _ _ _ zO];exact kI r4 x0 x1 x2 x3 x4 x5 x6 x7;rw[hs _ _ _ _ _ zO];refine qi (t:=ty2) (cs:=#[p]) ?_ 0 y;rw[ve zO];exact r5;refine qi (t:=ty3) (cs:=#[q]) ?_ 0 z;rw[hs _ _ _ _ _ zO,ve zO];exact r6;exact Below.setCell (Below.setCell (je h (b:=b+1) zO x0 x1 x2 x3 x4 x5 x6 x7) (p:=⟨b+1+1,0,Oa⟩) zA2 _) (p:=⟨b+1+1+1,0,Oa⟩) zA2 _;rw[hs _ _ _ _ _ zO,hs _ _ _ _ _ zO,ve zO]
theorem two_rows{b:Nat}{p q p0 q0:I}(r5:W.heap[b+2]?=F (O #[p0] ty2))(r6:W.heap[b+3]?=F (O #[q0] ty3))(hC:(W.setCell (b+1+1,0) p).setCell (b+1+1+1,0) q=C):C.heap[b+2]?=F (O #[p] ty2)/\C.heap[b+3]?=F (O #[q] ty3)/\(∀{B:Nat}{w0:U},B<=b+1->Below B w0 W->Below B w0 C)/\C.heap.size=W/\(∀k,k≠b+2->k≠b+3->C.heap[k]?=W.heap[k]?):=by subst hC;have hs:=λ(A:U)(b j:Nat)(v:I)(k:Nat)(hk:k≠b)=>zJ A ⟨b,j,Oa⟩ v k hk;refine⟨?_,?_,λhB h=>?_,zA3,λk h2 h3=>?_⟩;rw[hs _ _ _ _ _ zO];exact qi (t:=ty2) (cs:=#[p0]) r5 0 p;refine qi (t:=ty3) (cs:=#[q0]) ?_ 0 q;rw[hs _ _ _ _ _ zO];exact r6;exact Below.setCell (Below.setCell h (p:=⟨b+1+1,0,Oa⟩) zA2 _) (p:=⟨b+1+1+1,0,Oa⟩) zA2 _;rw[hs _ _ _ _ _ zO,hs _ _ _ _ _ zO]
theorem qhO(ws:List (Int×List UInt8))(a r:Int)(l:List UInt8)(h:a≠r):jQ (ws++[(a,l)]) r=jQ ws r:=by
 unfold jQ;rw[List.reverse_append,List.reverse_singleton,List.singleton_append,List.find?_cons];have:(a==r)=false:=by rw[beq_eq_false_iff_ne];exact h
 simp only[this]
theorem seen_put(S:Sto){a r:Nat}(l:List UInt8)(h:r≠a):Ji (vz S a l) r=Ji S r:=by unfold Ji vz;simp only;rw[qhO _ _ _ _ (show(a:Int)≠(r:Int)by omega)]
theorem qkZ(t:List UInt8){a r:Nat}(v:UInt8)(h:r≠a):(t.set a v)[r]?.getD 0=t[r]?.getD 0:=by rw[List.getElem?_set_ne (Ne.symm h)]
theorem qjS(t:List UInt8)(v:UInt8)(h:a<t.length):(t.set a v)[a]?.getD 0=v:=by rw[List.getElem?_set_self h];rfl
theorem sm_put(l:List UInt8)(h0:js S a=0)(hl:a<S.now.length):SM S (vz S a l) where
 node r nd e:=by by_cases hr:r=a;subst hr;unfold qo at e;rw[if_pos (show(S.now[r]?.getD 0).toNat=0 from h0)]at e;cases e;unfold qo at e⊢;rw[seen_put S l hr,show(vz S a l).now[r]?.getD 0=S.now[r]?.getD 0 from qkZ _ _ hr];exact e
 pos r h:=by by_cases hr:r=a;subst hr;rw[show(vz S r l).now[r]?.getD 0=1 from qjS _ _ hl];decide;rw[show(vz S a l).now[r]?.getD 0=S.now[r]?.getD 0 from qkZ _ _ hr];exact h
theorem qko{t:List UInt8}(h:∀r:Nat,0<(S.now[r]?.getD 0).toNat->0<(t[r]?.getD 0).toNat):SM S (qp S t) where
 node r nd e:=by unfold qo at e⊢;split at e;cases e;rename_i h1;rw[if_neg (by have:=h r zO;simp only;omega)];exact e
 pos:=h
theorem jU{t:List UInt8}(h:QX t=J)(ha:8<=a)(v:UInt8):QX (t.set a v)=J:=by unfold QX at*;simp only[Bool.and_eq_true,decide_eq_true_eq]at*;refine⟨by rw[List.length_set];exact h.1,?_⟩;rw[List.take_set_of_le ha];exact h.2
theorem Qd:qj S=J↔Jh S.bs S.ws=J/\QX S.now=J/\QX S.last=J:=by unfold qj;simp[Bool.and_eq_true]
theorem may_now(h:qj S=J)(ha:8<=a)(v:UInt8):qj (qp S (S.now.set a v))=J:=by obtain⟨h1,h2,h3⟩:=Qd.1 h;exact Qd.2 ⟨h1,jU h2 ha v,h3⟩
theorem may_put(h:qj S=J)(ha:8<=a)(bC:a<256){l:List UInt8}(hl:l.length=128)(hw:S.ws.length≠4096):qj (vz S a l)=J:=by obtain⟨h1,h2,h3⟩:=Qd.1 h;refine Qd.2 ⟨?_,jU h2 ha 1,h3⟩;unfold Jh headD at*;simp only[Bool.and_eq_true,decide_eq_true_eq,vz,List.length_append,List.length_singleton,List.all_append,List.all_cons,List.all_nil,Bool.and_true]at*;obtain⟨⟨g1,g2⟩,g3,g4⟩:=h1;refine⟨⟨g1,zO⟩,g3,g4,?_⟩;unfold wrOk;exact decide_eq_true ⟨zA3,zA2,hl⟩
theorem qdV(h:¬jd S=[]):Za S<256:=by
 have hMX:Za S∈JJ S 256:=by
  show Za S∈jd S;unfold Za;rcases hf:jd S with _|⟨x,r⟩
  exact absurd hf h;simp
 simpa using(List.mem_filter.1 hMX).1
theorem Xx{t:List UInt8}(h:QX t=J):t.length=256:=by unfold QX at h;simp only[Bool.and_eq_true,decide_eq_true_eq]at h;exact h.1
theorem qbD{t:List UInt8}(h:QX t=J):qL t 0=0:=by
 have hl:=Xx h;unfold QX at h;simp only[Bool.and_eq_true]at h;rcases t with _|⟨x,r⟩
 simp at hl;have:=h.2;simp[KE]at this;simp[qL,this.1]
theorem UY{t t':List UInt8}(ha:a=0\/8<=a)(h:QX t=J)(e:ZR t a=.ok t'):QX t'=J:=by unfold ZR at e;split at e;cases e;exact h;split at e;cases e;split at e;cases e;cases e;exact jU h zO _
theorem qds:∀{l:List Nat}{t t':List UInt8},(∀a∈l,a=0\/8<=a)->QX t=J->ja l t=.ok t'->QX t'=J
 |[],t,t',_,h,e=>by cases e;exact h
 |a::l,t,t',hl,h,e=>by simp only[ja]at e;split at e;cases e;rename_i t1 e1;exact qds (λb hb=>hl b (List.mem_cons_of_mem _ hb)) (UY (hl a List.mem_cons_self) h e1) e
theorem vd:∀{l:List Nat}{t t':List UInt8},(∀a∈l,a=0\/8<=a)->QX t=J->looseL l t=.ok t'->QX t'=J
 |[],t,t',_,h,e=>by cases e;exact h
 |a::l,t,t',hl,h,e=>by by_cases ha:a=0;subst ha;rw[jk]at e;exact vd (λb hb=>hl b (List.mem_cons_of_mem _ hb)) h e;by_cases h0:qL t a=0;rw[jR ha h0]at e;cases e;rw[jj ha h0]at e;exact vd (λb hb=>hl b (List.mem_cons_of_mem _ hb)) (jU h (by have:=hl a List.mem_cons_self;omega) _) e
theorem qgq{its:List It}(h:∀x∈its,itB x.r x.val.length=J):∀a∈qA its,(a=0\/8<=a)/\a<256:=λa ha=>by obtain⟨x,hx,rfl⟩:=List.mem_map.1 ha;have:=h x hx;unfold itB at this;simp only[decide_eq_true_eq]at this;omega
theorem YH(h:qo S a=F (lvl,xs)):∀r∈qA xs,(r=0\/8<=r)/\r<256:=qgq λx hx=>((qI h).2.1 x hx).2
theorem GD{its:List It}(hS:qj S=J)(h:Zg S lvl its=.ok (f,S')):∃t,Qj lvl its=J/\ja (qA its) S.now=.ok t/\S.ws.length≠4096/\8<=f/\f<256/\jx (qp S t) f=J/\S'=vz (qp S t) f (Zo (QA lvl its))/\QX t=J:=by
 unfold Zg at h;split at h;rename_i hm;split at h;cases h;rename_i t ht;split at h;cases h;rename_i hn;cases h;have h1:jd (qp S t)≠[]:=λe=>hn (.inl e);have hMX:Za (qp S t)∈jd (qp S t):=by
  unfold Za;cases e:jd (qp S t) with
  |nil=>exact absurd e h1
  |cons a l=>exact List.mem_cons_self
 have uw:jx (qp S t) (Za (qp S t))=J:=by have:=List.mem_filter.1 (show Za (qp S t)∈(List.range 256).filter (jx (qp S t))from hMX);exact this.2
 have h8:8<=Za (qp S t):=by unfold jx at uw;simp only[Bool.and_eq_true,decide_eq_true_eq]at uw;exact uw.1
 exact⟨t,hm,ht,λe=>hn (.inr e),h8,qdV h1,uw,rfl,qds (λa ha=>(qgq (Jb hm).2.2.2 a ha).1) (Qd.1 hS).2.1 ht⟩;cases h
theorem YD{its:List It}(gu:∀x∈its,Zb x)(hS:qj S=J)(h:Zg S lvl its=.ok (f,S')):qj S'=J/\8<=f/\f<256/\S'.ws.length<=4096:=by obtain⟨t,hm,ht,hw,h8,hf,uw,rfl,htm⟩:=GD hS h;have hl:(Zo (QA lvl its)).length=128:=Vr (by have:=XA lvl its.length its.length gu (Jb hm).2.2.1;rw[Xz]at this;omega);have h1:=may_put (S:=qp S t) (Qd.2 ⟨(Qd.1 hS).1,htm,(Qd.1 hS).2.2⟩) h8 hf hl hw;exact⟨h1,h8,hf,(qZ h1).2.1⟩
theorem vL(hS:qj S=J){t:List UInt8}(ht:QX t=J):qj (qp S t)=J:=Qd.2 ⟨(Qd.1 hS).1,ht,(Qd.1 hS).2.2⟩
theorem qcG{S:Sto}:∀(h:Nat){lvl:Int}{t t':List UInt8}{a:Nat},(8<=a\/qL t a=0)->QX t=J->leaveF S h lvl t a=t'->QX t'=J
 |0,lvl,t,t',a,_,_,e=>by cases e
 |h+1,lvl,t,t',a,ha,ht,e=>by
  rw[vw]at e;split at e;cases e;rename_i h0;have ha8:8<=a:=zO;split at e;cases e;exact jU ht ha8 _;split at e;cases e;rename_i l xs hn;have hr:=YH hn;have ht0:=jU ht ha8 0;split at e;cases e;split at e;have key:∀(rs:List Nat),(∀r∈rs,(r=0\/8<=r)/\r<256)->∀(o:Option (List UInt8)),(∀u,o=F u->QX u=J)->rs.foldl (λacc r=>acc.bind λt=>leaveF S h (l-1) t r) o=t'->QX t'=J:=by
   intro rs;induction rs with
   |nil=>intro _ o ho e;exact ho _ e
   |cons r rs ih=>
    intro hrs o ho e;rw[List.foldl_cons]at e;refine ih (λq hq=>hrs q (List.mem_cons_of_mem _ hq)) _ (λu hu=>?_) e;cases o with
    |none=>cases hu
    |some t1=>
     have h1:=ho t1 rfl;refine qcG h (a:=r) ?_ h1 hu;rcases(hrs r List.mem_cons_self).1 with rfl|h8
     right;exact qbD h1;exact .inl h8
  exact key _ hr _ (λu hu=>by cases hu;exact ht0) e;split at e;cases e;rename_i t1 e1;cases e;exact vd (λa ha=>(hr a ha).1) ht0 e1
theorem Vk{t t':List UInt8}(ha:8<=a)(ht:QX t=J)(e:QK S lvl t a=t'):QX t'=J:=qcG 7 (.inl ha) ht e
theorem qaC{lvl:Int}:∀{ps:List (List It)}{S S':Sto}{up:List It},(∀p∈ps,∀x∈p,Zb x)->qj S=J->makeL lvl ps S=.ok (up,S')->qj S'=J/\up.length=ps.length/\∀y∈up,(∃f:Nat,y.r=(f:Int)/\8<=f/\f<256)/\y.val=[]/\∃p∈ps,qw y=jy p
 |[],S,S',up,_,hS,e=>by cases e;exact⟨hS,rfl,λy hy=>by cases hy⟩
 |p::ps,S,S',up,hp,hS,e=>by
  simp only[makeL]at e;split at e;cases e;rename_i f S1 e1;obtain⟨h1,h8,hf,_⟩:=YD (hp p List.mem_cons_self) hS e1;split at e;cases e;rename_i up1 S2 e2;cases e;obtain⟨g1,g2,g3⟩:=qaC (λq hq=>hp q (List.mem_cons_of_mem _ hq)) h1 e2;refine⟨g1,by simp[g2],λy hy=>?_⟩;rcases List.mem_cons.1 hy with rfl|hy
  exact⟨⟨f,rfl,h8,hf⟩,rfl,p,List.mem_cons_self,rfl⟩;obtain⟨k1,k2,q,hq,k3⟩:=g3 y hy;exact⟨k1,k2,q,List.mem_cons_of_mem _ hq,k3⟩
theorem Tq(h:∀x∈l,Zb x):∀p∈ZQ l,∀x∈p,Zb x:=λp hp x hx=>by
 unfold ZQ at hp;split at hp;simp only[List.mem_cons,List.not_mem_nil,or_false]at hp;rcases hp with rfl|rfl
 exact h x (List.mem_of_mem_take hx);exact h x (List.mem_of_mem_drop hx);simp only[List.mem_cons,List.not_mem_nil,or_false]at hp;subst hp;exact h x hx
theorem qfU(h:∀x∈p,Zb x):(0<=(jy p).1/\(jy p).1<256)/\(0<=(jy p).2.1/\(jy p).2.1<4294967296)/\(0<=(jy p).2.2/\(jy p).2.2<4294967296):=by
 cases p with
 |nil=>exact⟨⟨zA1,zA1⟩,⟨zA1,zA1⟩,zA1,zA1⟩
 |cons x r=>
  obtain⟨h1,h2,h3,_⟩:=h x List.mem_cons_self;exact⟨h1,h2,h3⟩
theorem Km(hl:∀x∈l,Zb x)(hh:∀x∈held,itB x.r x.val.length=J)(hS:qj S=J)(e:Qy S lvl l held=.ok (up,S')):qj S'=J/\up.length=(ZQ l).length/\(∀y∈up,Zb y/\itB y.r y.val.length=J)/\∀y∈up,8<=y.r/\y.r<256:=by unfold Qy at e;split at e;cases e;rename_i up1 S1 e1;split at e;cases e;rename_i t e2;cases e;obtain⟨h1,h2,h3⟩:=qaC (Tq hl) hS e1;refine⟨vL h1 (vd (λa ha=>(qgq hh a ha).1) (Qd.1 h1).2.1 e2),h2,λy hy=>?_,λy hy=>?_⟩;obtain⟨⟨f,k1,k8,k9⟩,k2,p,hp,k3⟩:=h3 y hy;have:=qfU (Tq hl p hp);rw[<-k3]at this;obtain⟨a1,a2,a3⟩:=this;exact⟨⟨a1,a2,a3,by rw[k1];omega,by rw[k2];simp⟩,by unfold itB;rw[k1,k2];simp;omega⟩;obtain⟨⟨f,k1,k8,k9⟩,_⟩:=h3 y hy;omega
def XN(D:Nat->Prop)(B lo b g:Nat)(k:Option Nat)(S:Sto)(lvl:Int)(l held:List It)(w:U)(e:Ending)(W:U):Prop:=Qi lo b g k w W /\
 match Qy S lvl l held with
 |.error er=>e=Jx (.tuple #[E Oa 0 0,er])
 |.ok (up,S')=>∃k' D' A c,e=Jx (.tuple #[E A up.length c,Q Z 0])/\Zs w k k'/\Yd w D D'/\Bch D' B lo b g k' S' W/\qj S'=J/\W.ownsRow w 51 5 (E A up.length c) up.length (qD (upV up))/\∀q,(Value.slice A up.length c).ownBlock=F q->¬D' q
theorem XN.bad{B lo b g:Nat}(h:Qy S lvl l held=.error er)(hB:Qi lo b g k w W):XN D B lo b g k S lvl l held w (Jx (.tuple #[E Oa 0 0,er])) W:=by refine⟨hB,?_⟩;rw[h]
structure BdI(D:Nat->Prop)(B lo b g:Nat)(k:Option Nat)(S:Sto)(lvl:Int)(ps:List (List It))(P:Nat)(pv:List I)(w:U)(v i:I)(wr:U):Prop where
 ex:∃(j:Nat)(ups:List It)(S':Sto)(k':Option Nat)(D':Nat->Prop)(Av:OA)(cv:Nat),j<=ps.length/\i=Q Z (j:Int)/\v=E Av j cv/\ups.length=j/\makeL lvl (ps.take j) S=.ok (ups,S')/\qj S'=J/\Zs w k k'/\Yd w D D'/\Bch D' B lo b g k' S' wr/\Qi lo b g k w wr /\
  wr.ownsRow w 51 5 (E Av j cv) j (qD (upV ups))/\(∀q,(Value.slice Av j cv).ownBlock=F q->¬D' q/\P<q)/\wr.heap[P]?=F (O pv.toArray 55)/\P<wr
structure HdI(D:Nat->Prop)(B lo b g:Nat)(k:Option Nat)(S:Sto)(held:List It)(vu:I)(wm:U)(v i:I)(wr:U):Prop where
 ex:∃(j:Nat)(t:List UInt8),v=vu/\j<=held.length/\i=Q Z (j:Int)/\looseL (qA (held.take j)) S.now=.ok t/\Bch D B lo b g k (qp S t) wr/\Qi lo b g k wm wr
theorem qap{a:Act}(h8:a.tmps[8]?.getD undef=u)(h9:a.tmps[9]?.getD undef=v)(hd:a.defers=[])(hR:R (Jx (.tuple #[u,v])) W):bodyPost prog Tryz.f130 R .ret a W:=by refine bodyPost_ret (v:=.tuple #[u,v]) ?_ hd hR;simp[results,results130,go_sem,h8,h9]
set_option maxRecDepth 100000 in
theorem qey(D:Nat->Prop)(B lo b g:Nat)(k:Option Nat)(S:Sto)(hS:qj S=J)(lvl:Int)(A n c)(its:List It)(gu:∀x∈its,Zb x)(hn0:0<its.length)(eY:its.length<=100)(loh:Nat)(vh:I)(bM:List (It×I))(held:List It)(uQ:bM.map (·.1)=held)(hh1:∀p∈bM,∃A c,p.2=E A p.1.val.length c)(hhr:∀x∈held,(x.r=0\/8<=x.r)/\x.r<256)(hhl:held.length<=100)(w:U)(h:Bch D B lo b g k S w)(hx:Kh (B3 b g k) w (E A n c) its)(hho:w.ownsRow loh 51 5 vh held.length (qD bM)):Calls prog 130 #[.pointer b,lvl,E A n c,vh] w (XN D B lo b g k S lvl its held w):=by
 obtain⟨fZ,hzb,yK,xC,uP,oL,yz⟩:=h.size;obtain⟨nX,fQ,eP,hA⟩:=hx.now.at_;subst nX;obtain⟨bi,off,rfl,hbi⟩:=hA zO;obtain⟨Ah,ch,rfl,hcc1,hcc2⟩:=qC hho;clear hA yz;replace⟨h,hx,gu,eP,hcc2,hho⟩:=zH6 h hx gu eP hcc2 hho;rcases Nat.lt_or_ge 5 its.length with h5|h5
 case' inl=>
  have hpo:=zH (show ZQ its=[its.take 3,its.drop 3]by unfold ZQ;exact if_pos h5);have e5:decide ((5:Int)<(its.length:Int))=J:=decide_eq_true zO;go_enter func130,ntmps130;go_upto_region 3 with fail;generalize hw0:World.alloc _ _=w0;have x0:Ext w w0:=hw0▸zN _ _;have z0:w.heap.size<w0:=by rw[<-hw0];simp
  clear hw0;refine qt zQ ?_;refine qY (w:=w0) qm (qP []) (List.replicate 4 J) 2 zQ zQ zQ zQ zQ zQ zQ ?st (Rel.drew _ _) ?walk
  case' st=>exact qk (λ_ h=>by cases h)
  case' walk=>
   intro K hK;dsimp only[qv,List.replicate];refine zC5 ?_;refine qd (E (F ⟨bi,off,Oa⟩) 3 c) zA0 zA0 (λW hW _=>⟨W,?_,Rel.refl _ W⟩) ?_
   ·go_simp;intro su;exfalso;omega
   refine zC5 ?_;refine qd (E (F ⟨bi,off+3*5,Oa⟩) (its.length-3) (c-3)) zA0 zA0 (λW hW _=>⟨W,?_,Rel.refl _ W⟩) ?_
   ·go_simp;rw[if_pos zO,if_neg zO]
   refine zC5 ?_;refine qB (hK _ _ λW hW hF=>?_);clear hF hK;have hW:Ext w0 W:=hW;refine zC4 ?_;go_wp2;refine Qq ?_;go_wp2_with fail;have x1:Ext w (W.alloc (O #[E (bi,off) 3 c,E (bi,off+15) (its.length-3) (c-3)] 55)):=(x0.trans hW).trans (zN _ _);have zP0:w.heap.size<=W:=(x0.trans hW).size;obtain⟨ps,wO⟩:∃ps,ps=[its.take 3,its.drop 3]:=⟨_,rfl⟩
   obtain⟨pv,wS⟩:∃pv:List I,pv=[E (bi,off) 3 c,E (bi,off+15) (its.length-3) (c-3)]:=⟨_,rfl⟩
   have bz:ps.length=2:=by rw[wO];rfl
   have hel:Hid (∀j (hj:j<ps.length),∃bj oj cj,pv[j]?=F (E (F ⟨bj,oj,Oa⟩) ps[j].length cj)/\Kh (B3 b g k) w (E (F ⟨bj,oj,Oa⟩) ps[j].length cj) ps[j]/\0<ps[j].length/\∀x∈ps[j],Zb x):=zH λj hj=>by
    have e3:(its.take 3).length=3:=by rw[List.length_take];omega
    rcases j with _|_|j
    subst wO wS;refine⟨bi,off,c,?_,?_,?_,λx hxm=>gu.out x (List.mem_of_mem_take hxm)⟩;simp only[List.getElem_cons_zero,e3];rfl;simp only[List.getElem_cons_zero,e3];exact hx.out.take zO;simp only[List.getElem_cons_zero,e3];omega;subst wO wS;refine⟨bi,off+15,c-3,?_,?_,?_,λx hxm=>gu.out x (List.mem_of_mem_drop hxm)⟩;simp only[List.getElem_cons_succ,List.getElem_cons_zero,List.length_drop];rfl;simp only[List.getElem_cons_succ,List.getElem_cons_zero,List.length_drop];exact hx.out.drop (k:=3) zO;simp only[List.getElem_cons_succ,List.getElem_cons_zero,List.length_drop];omega;omega
   have hPr:(W.alloc (O #[E (bi,off) 3 c,E (bi,off+15) (its.length-3) (c-3)] 55)).heap[W.heap.size]?=F (O pv.toArray 55):=by rw[wS];exact zI _ _ _ rfl
   have hNJ:=zH (hpo.out.trans wO.symm);clear wO wS hpo h5 e5 x0 z0 hW;generalize World.alloc W _=w1 at*;generalize W.heap.size=P at*;generalize Value.slice (F ⟨bi,off+15,Oa⟩) (its.length-3) (c-3)=v26;generalize Value.slice (F ⟨bi,off,Oa⟩) 3 c=v24;generalize Value.slice (F ⟨w.heap.size,0,Oa⟩) 1 1=v19
 case' inr=>
  have hpo:=zH (show ZQ its=[its]by unfold ZQ;exact if_neg zO);have e5:decide ((5:Int)<(its.length:Int))=false:=decide_eq_false zO;go_enter func130,ntmps130;go_wp2_with fail;have x1:Ext w (w.alloc (O #[E (bi,off) its.length c] 55)):=zN _ _;obtain⟨ps,wO⟩:∃ps,ps=[its]:=⟨_,rfl⟩
  obtain⟨pv,wS⟩:∃pv:List I,pv=[E (bi,off) its.length c]:=⟨_,rfl⟩
  have bz:ps.length=1:=by rw[wO];rfl
  have hel:Hid (∀j (hj:j<ps.length),∃bj oj cj,pv[j]?=F (E (F ⟨bj,oj,Oa⟩) ps[j].length cj)/\Kh (B3 b g k) w (E (F ⟨bj,oj,Oa⟩) ps[j].length cj) ps[j]/\0<ps[j].length/\∀x∈ps[j],Zb x):=zH λj hj=>by
   rcases j with _|j
   subst wO wS;exact⟨bi,off,c,rfl,hx.out,hn0,gu.out⟩;omega
  have hPr:(w.alloc (O #[E (bi,off) its.length c] 55)).heap[w.heap.size]?=F (O pv.toArray 55):=by rw[wS];exact zI _ _ _ rfl
  have hNJ:=zH (hpo.out.trans wO.symm);obtain⟨P,hPP⟩:∃P,P=w.heap.size:=⟨_,rfl⟩
  rw[<-hPP]at hPr;clear wO wS hpo h5 e5;generalize World.alloc w _=w1 at*;have zP0:w.heap.size<=P:=zO;simp only[<-hPP];clear hPP
 all_goals
  clear hx gu hbi fQ eP;go_loopw [8,30] (λv i wr=>BdI D B lo b g k S lvl ps P pv w v i wr) (λ_ i _=>ps.length-(intOf i).toNat)
  case atStart=>exact⟨0,[],S,k,D,Oa,0,Nat.zero_le _,rfl,rfl,rfl,rfl,hS,Zs.refl _ _,Yd.refl _ _,h.out.ext x1,Qi.of_ext x1 oL,World.ownsRow_nil _ _ _ _,(λq hq=>by cases hq),hPr,(zG.1 hPr).1⟩
  case round=>
   obtain⟨j,ups,S',k',D',Av,cv,hj,rfl,rfl,iT,yN,fO,ug,hND,bn,nG,aB,hoD,hPw,hPz⟩:=hrel.ex;clear hrel hPr;have uV:=(qZ fO).2.1;by_cases hlt:j<ps.length
   ·obtain⟨bj,oj,cj,hpvj,hxj,dA,hMG⟩:=hel.out j hlt;have kP:wr.cell? (P,j)=F (E (bj,oj) ps[j].length cj):=by rw[qa hPw];simpa using hpvj
    have pG:=hxj.trans nG.keepX (B3.of_new ug);have HM:=zH (qao D' B lo b g k' S' lvl (F ⟨bj,oj,Oa⟩) ps[j].length cj ps[j] hMG uV wr bn pG);have bQ:=zH (λe h1=>qme hlt (e:=e) yN h1);have bG:=zH (λf S'' h1=>qjO hlt (f:=f) (S'':=S'') yN h1);have hmay:=zH (λf S'' (h1:Zg S' lvl ps[j]=.ok (f,S''))=>(YD hMG fO h1).1);have pG:=zH pG;have d1:∀M:Int,M=(ps.length:Int)->decide ((j:Int)<M)=J:=λM hM=>decide_eq_true zO;have d3:∀M:Nat,M=ps.length->j<M:=λM hM=>zO
    first
     |(have d2:=d1 2 (by rw[bz];rfl);have hjn:=d3 2 bz.symm)
     |(have d2:=d1 1 (by rw[bz];rfl);have hjn:=d3 1 bz.symm)
    have hj1:=zH (IntWalk.wrap64_in ((j:Int)+1) zO);replace bz:=zH bz;generalize ps[j]=p at*;generalize hnj:p.length=nj at*;replace hnj:=zH hnj;clear hpvj hMG hxj d1 d3 yN fO uV;go_wp2_with fail;refine HM.out.mono ?_;clear HM;rintro e wM ⟨hkM,aI⟩;have zwr:=nG.below.size;have zM:=hkM.below.size;have nB:∀{q cs ty fr},wr.heap[q]?=F (O cs ty fr)->ty≠223->ty≠5->ty≠142->¬B3 b g k' q:=λhr h1 h2 h3=>bn.notB3 hr h1 h2 h3;have hAF:=hkM.own aB (λq hq=>by obtain⟨cur,hc⟩:=ZD aB hq;exact nB hc zA1 zA1 zA1);have hPM:=hkM.row hPw (nB hPw zA1 zA1 zA1);have rZ:=nG.trans hkM ug;rcases hmx:Zg S' lvl p with er|⟨f,S''⟩
    ·rw[hmx]at aI;have hq:=zH (show Qy S lvl its held=.error er by unfold Qy;rw[hNJ.out,bQ.out er hmx]);have aH:(er != 0)=J:=by rw[bne_iff_ne];exact YC hmx
     have aI:e=Jx (.tuple #[Q Z 0,er]):=aI;subst aI;clear bG hmay bQ hmx hAF hPM aB hPw hoD nB bn hkM hel kP;replace rZ:=zH rZ;go_wp2_with fail;exact qap rfl rfl rfl (XN.bad hq.out rZ.out)
    rw[hmx]at aI;obtain⟨rfl,k'',D'',hN2,hD2,bP⟩:e=Jx (.tuple #[(f:Int),Q Z 0])/\∃k'' D'',Zs wr k' k''/\Yd wr D' D''/\Bch D'' B lo b g k'' S'' wM:=aI;have hml2:=bG.out f S'' hmx;have uO:=hmay.out f S'' hmx;obtain⟨A',c',g0,g1,g2,-,-,-⟩:=((pG.out.trans hkM.keepX (B3.of_new hN2)).now).item 0 (by rw[hnj.out];exact dA);have tY:jy p=((p[0]'(by rw[hnj.out];exact dA)).k,(p[0]'(by rw[hnj.out];exact dA)).i,(p[0]'(by rw[hnj.out];exact dA)).o):=by
     have h0:0<p.length:=by rw[hnj.out];exact dA
     rcases p with _|⟨y,r⟩
     simp at h0;rfl
    generalize p[0]'(by rw[hnj.out];exact dA)=y at*;simp only[Nat.zero_mul,Nat.add_zero]at g0 g1 g2;have hN':Zs w k k'':=ug.trans hN2 zO;have hDn':Yd w D D'':=hND.trans hD2 zO;have hoq:∀q,(Value.slice Av j cv).ownBlock=F q->w.heap.size<=q/\q<wr.heap.size:=λq hq=>Qn aB q hq;have aN:∀(v':I)(W:U),W.ownsRow w.heap.size 51 5 v' (j+1) (qD (upV ups)++[Q .u8 y.k,Q .u32 y.i,Q .u32 y.o,Q Z (f:Int),E Oa 0 0])->wM.grownBy W (Value.slice Av j cv).ownBlock->Below w.heap.size wM W->(v'.ownBlock=(Value.slice Av j cv).ownBlock\/∃g,v'.ownBlock=F g/\wM.heap.size<=g) ->
      BdI D B lo b g k S lvl ps P pv w v' (Q Z ((j:Int)+1)) W:=λv' W aU hg hB dO=>by
     obtain⟨A7,c7,rfl,-,-⟩:=qC aU;have aC:∀q,q<wM.heap.size->¬OwnX (E Av j cv) q->W.heap[q]?=wM.heap[q]?:=λq hq hX=>hg.block q hq λe=>hX e.symm;have cZ:=bP.blo;have hzW:=hg.size;have hDq:∀q,(Value.slice Av j cv).ownBlock=F q->¬D'' q:=λq hq hd=>(hD2 q hd).elim (λh1=>(hoD q hq).1 h1) λh1=>by have:=(hoq q hq).2;omega
     refine⟨j+1,ups++[jz (jy p) f],S'',k'',D'',A7,c7,zO,rfl,rfl,by simp[iT],hml2,uO,hN',hDn',?_,?_,?_,?_,?_,zO⟩;refine bP.keepX (X:=OwnX (E Av j cv)) (Below.mono hB zO) aC (λq hq hX=>?_);rcases hq with hq|hq
     obtain⟨cur,hc⟩:=ZD hAF (show _=F q from hX);exact bP.notB3 hc zA1 zA1 zA1 hq;exact hDq q hX hq;refine⟨rZ.below.trans (Below.mono hB oL),λq hq hn=>(aC q zO λhX=>?_).trans (rZ.rows q hq hn)⟩;have:=(hoq q hX).1;omega;rw[upV_item];have:jz (jy p) f=⟨y.k,y.i,y.o,(f:Int),[]⟩:=by rw[tY];rfl
     rw[this];exact aU;intro q hq;rcases dO with e1|⟨g',e1,e2⟩
     rw[e1]at hq;exact⟨hDq q hq,(hoD q hq).2⟩;rw[e1]at hq;obtain rfl:g'=q:=by simpa using hq
     exact⟨λhd=>by have:=(bP.dB g' hd).2.1;omega,zO⟩;refine(aC P zO λhX=>?_).trans hPM;have:=(hoD P hX).2;omega
    replace aN:=zH aN;obtain⟨i0,hi,aZ,aT,aX⟩:=info_parts Tryz.info_item;have hzz:w.heap.size<=wM:=zO;clear bG hmay bQ hmx hPM aB hPw hoD nB bn hkM hel kP hoq bP hN2 hD2 hml2 uO rZ hN' hDn' tY;go_wp2_with (at_builtin;refine qV ?_);refine Qm.go (Zh wM rfl (.tmp 45) (.tmp 52) 55 rfl w.heap.size 51 i0 _ 5 48 underlying55 hi aZ aT aX rfl zA1 (E Av j cv) j (qD (upV ups)) zE hAF #[Q .u8 y.k,Q .u32 y.i,Q .u32 y.o,Q Z (f:Int),E Oa 0 0] zE rfl zA8 zO zA1 hzz ?_);intro v' W aU hg hB dO;have hF:=zH (aN.out v' W aU hg hB dO);clear aN aU hg hB dO hAF hi;go_wp2_with fail;try rw[hj1.out]
    refine⟨hF.out,?_⟩;simp[intOf];omega
   obtain rfl:j=ps.length:=zO;rw[List.take_length]at yN;have d1:∀M:Int,M=(ps.length:Int)->decide (((ps.length:Nat):Int)<M)=false:=λM hM=>decide_eq_false zO
   first
    |have d2:=d1 2 (by rw[bz];rfl)
    |have d2:=d1 1 (by rw[bz];rfl)
   replace bz:=zH bz;have hbX:Hid (Qy S lvl its held=match looseL (qA held) S'.now with
    |.error e=>.error e
    |.ok t=>.ok (ups,qp S' t)):=zH (by unfold Qy;simp only[hNJ.out,yN]<;>rfl)
   have hhm':=hho.out;have hHK:=nG.own hho.out (λq hq=>by obtain⟨cur,hc⟩:=ZD hho.out hq;exact h.out.notB3 hc zA1 zA1 zA1);clear hPw hPz hel yN d1 hhm';replace⟨nG,aB,hoD,bn⟩:=zH4 nG aB hoD bn;generalize hwm:wr=wm at*;clear hwm;go_wp2_with fail;go_loopw [8,57] (λv i wr=>HdI D' B lo b g k' S' held (E Av ps.length cv) wm v i wr) (λ_ i _=>held.length-(intOf i).toNat)
   case atStart=>exact⟨0,S'.now,rfl,Nat.zero_le _,rfl,rfl,bn.out,Qi.refl _ _ _ _ _⟩
   case round=>
    obtain⟨j,t,rfl,hj,rfl,aQ,hbt,nS⟩:=hrel.ex;clear hrel;have hkA:=zH (nG.out.trans nS ug);by_cases hlt:j<held.length
    ·have hlp:j<bM.length:=by rw[<-uQ,List.length_map]at hlt;exact hlt
     have hor:=nS.own hHK (λq hq=>by obtain⟨cur,hc⟩:=ZD hHK hq;exact bn.out.notB3 hc zA1 zA1 zA1);obtain⟨bh,offh,rfl,hbh,hch⟩:=(Rd.of_own hor).2 zO;obtain⟨g0,g1,g2,g3,g4⟩:=vt bM j hlp;replace g0:=hch _ _ g0;replace g1:=hch _ _ g1;replace g2:=hch _ _ g2;replace g3:=hch _ _ g3;replace g4:=hch _ _ g4;rw[<-Nat.add_assoc]at g1 g2 g3 g4;obtain⟨Ax,cx,hx2⟩:=hh1 bM[j] (List.getElem_mem hlp);have hxe:bM[j].1=held[j]:=by simp only[<-uQ,List.getElem_map]
     rw[hx2]at g4;rw[hxe]at g0 g1 g2 g3 g4;have hrr:=hhr held[j] (List.getElem_mem hlt);have bQ:=zH (λh0 h1=>qcK hlt aQ h0 h1);have bG:=zH (λh0 h1=>qbq hlt aQ h0 h1);have iE:=zH (λh0=>qbr hlt aQ h0);generalize held[j]=x at*;have hj1:=zH (IntWalk.wrap64_in ((j:Int)+1) zO);obtain⟨a,hra⟩:∃a:Nat,x.r=(a:Int):=⟨x.r.toNat,zO⟩
     have ha9:a<256:=zO;have hsa:(x.r).toNat=a:=zO;rw[hra]at g3;rw[hsa]at bQ bG iE;have hz:=hbt.size.2.2.2.2.2.1;have HL:=zH (λW (hW:Ext wr W)=>XS D' B lo b g k' (qp S' t) a ha9 W (hbt.ext hW));replace⟨hbt,nS⟩:=zH2 hbt nS;clear hch hx2 hxe hor hra hsa hrr aQ hHK hlp;rcases Nat.eq_zero_or_pos a with xy|xy
     ·subst xy;have hF:HdI D' B lo b g k' S' held (E Av ps.length cv) wm (E Av ps.length cv) (Q Z ((j:Int)+1)) (wr.alloc (O #[Q .u8 x.k,Q .u32 x.i,Q .u32 x.o,Q Z 0,E Ax x.val.length cx] 51)):=⟨j+1,t,rfl,zO,rfl,iE.out rfl,hbt.out.ext (zN _ _),nS.out.trans (Qi.of_ext (zN _ _) hz) (Zs.refl _ _)⟩
      replace hF:=zH hF;clear bQ bG iE HL;go_wp2_with fail;try rw[hj1.out]
      refine⟨hF.out,?_⟩;simp[intOf];omega
     have hza:((a:Int)==0)=false:=by rw[beq_eq_false_iff_ne];omega
     replace xy:=zH xy;go_wp2_with fail;generalize iO:World.alloc _ _=wa;have xa:Ext wr wa:=iO▸zN _ _;clear iO g0 g1 g2 g3 g4;refine(HL.out wa xa).mono ?_;clear HL;rintro e wl ⟨hkl,aI⟩;have tZ:=nS.out.trans ((Qi.of_ext xa hz).trans hkl (Zs.refl _ _)) (Zs.refl _ _);rcases aI with⟨dX,rfl⟩|⟨dX,rfl,cZ⟩
     ·have hq:=zH (show Qy S lvl its held=.error 6 by rw[hbX.out,bQ.out (by have:=xy.out;omega) dX]);have hkB:=zH (nG.out.trans tZ ug);clear hbX bQ bG iE hkl tZ dX hkA;go_wp2_with fail;exact qap rfl rfl rfl (XN.bad hq.out hkB.out)
     have hF:HdI D' B lo b g k' S' held (E Av ps.length cv) wm (E Av ps.length cv) (Q Z ((j:Int)+1)) wl:=⟨j+1,_,rfl,zO,rfl,bG.out (by have:=xy.out;omega) dX,cZ,tZ⟩
     replace hF:=zH hF;clear hbX bQ bG iE hkl tZ dX cZ hkA;go_wp2_with fail;try rw[hj1.out]
     refine⟨hF.out,?_⟩;simp[intOf];omega
    obtain rfl:j=held.length:=zO;rw[List.take_length]at aQ;have hq:Qy S lvl its held=.ok (ups,qp S' t):=by rw[hbX.out,aQ]
    have sF:=vL fO (vd (λa ha=>by obtain⟨x,hxm,rfl⟩:=List.mem_map.1 ha;have:=hhr x hxm;omega) (Qd.1 fO).2.1 aQ);have hor:=nS.own aB.out (λq hq=>by obtain⟨cur,hc⟩:=ZD aB.out hq;exact bn.out.notB3 hc zA1 zA1 zA1);have hR:XN D B lo b g k S lvl its held w (Jx (.tuple #[E Av ps.length cv,Q Z 0])) wr:=by refine⟨hkA.out,?_⟩;rw[hq];refine⟨k',D',Av,cv,by rw[iT],ug,hND,hbt,sF,?_,?_⟩;rw[iT];exact hor;rw[iT];exact λq hq=>(hoD.out q hq).1
    replace hR:=zH hR;clear hor sF hq hbt nS aQ hbX hkA hHK;go_wp2_with fail;exact qap rfl rfl rfl hR.out
def JH(D:Nat->Prop)(B lo b g:Nat)(k:Option Nat)(S:Sto)(a:Nat)(w:U)(e:Ending)(W:U):Prop:=Qi lo b g k w W /\
 match QK S (-1) S.now a with
 |none=>e=Jx (Q Z 8)
 |some t=>e=Jx (Q Z 0)/\Bch D B lo b g k (qp S t) W
theorem JH.bad{B lo b g:Nat}(h:QK S (-1) S.now a=Oa)(hB:Qi lo b g k w W):JH D B lo b g k S a w (Jx (Q Z 8)) W:=by refine⟨hB,?_⟩;rw[h]
theorem JH.good{B lo b g:Nat}{t:List UInt8}(h:QK S (-1) S.now a=t)(hB:Qi lo b g k w W)(hb:Bch D B lo b g k (qp S t) W):JH D B lo b g k S a w (Jx (Q Z 0)) W:=by refine⟨hB,?_⟩;rw[h];exact⟨rfl,hb⟩
structure L0I(D:Nat->Prop)(B lo b g:Nat)(k:Option Nat)(S:Sto)(t0:List UInt8)(xs:List It)(wB:U)(v i:I)(wr:U):Prop where
 ex:∃(j:Nat)(t:List UInt8),v=Q Z 0/\j<=xs.length/\i=Q Z (j:Int)/\looseL (qA (xs.take j)) t0=.ok t/\Bch D B lo b g k (qp S t) wr/\Qi lo b g k wB wr
theorem Bch.fresh{B lo b g:Nat}(h0:Bch D B lo b g k S w0)(h:Bch D B lo b g k S' w)(hx:Below w0 w W):Bch D B lo b g k S' W:=by have h6:=h0.size.2.2.2.2.2.1;have h1:=h0.blo;exact h.keep (Below.mono hx zO) λq hq=>hx.block q (hq.elim (λh2=>(h0.b3 q h2).2) λh2=>(h0.dB q h2).2.1)
end Go.Proofs.YtmeadnlmepcmbaaGreat
