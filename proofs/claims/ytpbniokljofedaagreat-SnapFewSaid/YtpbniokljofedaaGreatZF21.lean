/- Texts ItRep, BuildW, Mono, Has, PoolW, Data, VolS, Roomy, Lay1, Lay, PutS, MayE, joined. -/
import Derived.Lib.AppendZerosOnto
import Derived.Lib.Overlaps
import Derived.WalkMore
import Derived.Defers
import Derived.Test.YtpbniokljofedaaGreatZF03
import Derived.Test.YtpbniokljofedaaGreatZF10
import Derived.Test.YtpbniokljofedaaGreatZF12
import Derived.Test.YtpbniokljofedaaGreatZF13
import Derived.Test.YtpbniokljofedaaGreatZF15
import Derived.Test.YtpbniokljofedaaGreatZF18
import Derived.Test.YtpbniokljofedaaGreatZF19
import Derived.Test.YtpbniokljofedaaGreatZF20
set_option linter.unusedSimpArgs false
set_option linter.unusedVariables false
set_option maxHeartbeats 8000000
namespace Go.Proofs.YtpbniokljofedaaGreat
open Go.RowKit
theorem take_mid {A V R:List Value} {a b:Nat} (h:A.length+V.length=a+b):(A++V++R).take (a+b)=A++V:=by
 rw[←h,←List.length_append]
 exact List.take_left
structure RowI (g cap n:Nat) (xs:List Value) (w:World):Prop where
 ex:∃ cur:Array Value,w.heap[g]?=some (.cells cur 68 (0,0))∧cur.size=cap*5∧cur.toList.take (n*5)=xs
theorem RowI.own {lo g cap n:Nat} {xs:List Value} {w:World} (h:RowI g cap n xs w) (hl:xs.length=n*5) (hlo:lo≤g) (hn:n≤cap) (hc:cap≤maxLen):w.ownsRow lo 68 5 (.slice (some ⟨g,0,none⟩) n cap) n xs:=by
 obtain⟨cur,h1,h2,h3⟩:=h.ex
 exact⟨hl,.inr ⟨g,cap,cur,rfl,hlo,h1,hn,hc,h2,h3⟩⟩
def spl (cur:Array Value) (o:Nat) (cs:List Value):Array Value:=(cur.toList.take (o*5)++cs++cur.toList.drop (o*5+cs.length)).toArray
theorem QO {cur:Array Value} {o k:Nat} {cs:List Value} (hl:cs.length=k*5) (h:(o+k)*5≤cur.size):(spl cur o cs).size=cur.size:=by
 unfold spl
 simp only[List.size_toArray,List.length_append,List.length_take,List.length_drop,Array.length_toList]
 omega
theorem jF {P:Program} {W:World} {g o k:Nat} {cur:Array Value} {cs:List Value} {dT sT ty:TypeId} {dLen dCap:Nat} {a:Addr} {sLen sCap:Nat} (hg:W.heap[g]?=some (.cells cur 68 (0,0))) (hl:cs.length=k*5) (h:(o+k)*5≤cur.size)
  (hu:P.underlying dT=some (.slice 68)) (hs:(P.info? 68).map (·.size)=some 5) (hk:Nat.min sLen dLen=k) (hsrc:∀ j v,cs[j]?=some v→W.cell? (a.add j)=some v) (h1:∀ v∈cs,v.oneCell'=true) :
  (Builtin.copy_ #[dT,sT] ty #[.slice (some ⟨g,o*5,none⟩) dLen dCap,.slice (some a) sLen sCap]).run P W=.ok (.int .i64 (k:Nat)) (W.setRow g (spl cur o cs)):=by
 have:=qaO (P:=P) W dT sT ty 68 g (o*5) dLen dCap a sLen sCap cur 68 cs 5 hu hs hg (by rw[hk,hl]) hsrc (by omega) h1
 rw[hk] at this
 exact this
theorem Yw {cur:Array Value} {o k:Nat} {A cs:List Value} (hA:cur.toList.take (o*5)=A) (hl:cs.length=k*5) (h:(o+k)*5≤cur.size):(spl cur o cs).toList.take ((o+k)*5)=A++cs:=by
 unfold spl
 rw[List.toList_toArray,hA,Nat.add_mul]
 have:A.length=o*5:=by rw[←hA,List.length_take,Array.length_toList];omega
 exact take_mid (by omega)
theorem qis {cur:Array Value} {n i m:Nat} {xs vs:List Value} (hc:cur.toList.take (n*5)=xs) (hx:xs.length=n*5) (hv:vs.length=m*5) (hi:i≤n) (h:(n+m)*5≤cur.size) :
  (spl (spl cur (i+m) (xs.drop (i*5))) i vs).toList.take ((n+m)*5)=xs.take (i*5)++vs++xs.drop (i*5):=by
 have hd:(xs.drop (i*5)).length=(n-i)*5:=by rw[List.length_drop];omega
 have e1:(spl cur (i+m) (xs.drop (i*5))).toList=cur.toList.take ((i+m)*5)++xs.drop (i*5)++cur.toList.drop ((i+m)*5+(xs.drop (i*5)).length):=by unfold spl;rw[List.toList_toArray]
 have hl1:(cur.toList.take ((i+m)*5)).length=(i+m)*5:=by rw[List.length_take,Array.length_toList];omega
 have e2:(spl cur (i+m) (xs.drop (i*5))).toList.take (i*5)=xs.take (i*5):=by
  rw[e1,List.append_assoc,List.take_append_of_le_length (by omega),List.take_take,Nat.min_eq_left (by omega),←hc,List.take_take,Nat.min_eq_left (by omega)]
 have e3:(spl cur (i+m) (xs.drop (i*5))).toList.drop (i*5+vs.length)=xs.drop (i*5)++cur.toList.drop ((i+m)*5+(xs.drop (i*5)).length):=by
  rw[e1,List.append_assoc]
  have:i*5+vs.length=(cur.toList.take ((i+m)*5)).length:=by omega
  rw[this]
  exact List.drop_left
 generalize hY:spl cur (i+m) (xs.drop (i*5))=Y at *
 unfold spl
 rw[List.toList_toArray,e2,e3,←List.append_assoc]
 have ht:(xs.take (i*5)).length=i*5:=by rw[List.length_take];omega
 have:(n+m)*5=(xs.take (i*5)++vs++xs.drop (i*5)).length:=by simp only[List.length_append];omega
 rw[this]
 exact List.take_left
set_option maxRecDepth 100000 in
theorem qdN (A:Option Addr) (n c:Nat) (us:List Value) (hn:n<1073741824) (h1:∀ u∈us,u.oneCell'=true) (w:World) (hr:Rd w w.heap.size 5 A n us) :
  Calls Tryz.prog 102 #[.slice A n c] w (zo (fun u w'=>w'.ownsRow w.heap.size 68 5 u n us) w):=by
 obtain⟨i0,hi,hz0,hz1,hz2⟩:=info_parts Tryz.info_item
 have qn:∀ (w:World) (a:Option Addr) (n c n' c':Nat),(binOp .eql 47 (.slice a n c) (.slice none n' c')).run Tryz.prog w=.ok (.bool a.isNone) w:=fun w a n c n' c'=>Lib.run_eql_slice_nil w _ _ a n c n' c' Tryz.underlying47
 rcases A with _|⟨b,off,p⟩
 ·have h0:n=0:=by
   rcases Nat.eq_zero_or_pos n with h|h
   ·exact h
   ·obtain⟨b,off,h,_⟩:=hr.2 h
    cases h
  subst h0
  obtain rfl:us=[]:=List.eq_nil_of_length_eq_zero (by simpa using hr.1)
  go_enter Tryz.func102,Tryz.ntmps102
  go_wp2
  go_ret
  exact⟨_,rfl,World.ownsRow_nil _ _ _ _,Below.refl _ _⟩
 ·go_enter Tryz.func102,Tryz.ntmps102
  go_wp2_with (at_builtin;refine qZ ?_)
  refine Qy.go (Qq _ rfl (.tmp 5) (.tmp 6) 47 rfl w.heap.size 68 i0 _ 5 48 Tryz.underlying47 hi hz0 hz1 hz2 rfl (by decide) _ 0 [] rfl ?_ w.heap.size _ n c us (by exact rfl) ?_ h1 (by omega) (by decide) (by simp) ?_)
  ·exact World.ownsRow_lit w #[] 0 (zM _) (by simp[maxLen]) rfl
  ·exact hr.keep fun p hp=>World.cell?_alloc_lt w _ p hp
  ·intro v' w' hown _ hb _
   simp only[Nat.zero_add,List.nil_append] at hown
   go_wp2
   go_ret
   exact⟨_,rfl,hown,Below.trans ((Below.refl _ _).alloc (zM _) _) hb⟩
def KD (lo:Nat) (s:Value) (k:Nat) (ys:List Value) (w:World) (e:Ending) (W:World):Prop:=∃ v',e=.returned v'∧W.ownsRow lo 68 5 v' k ys∧Below lo w W∧∀ q,q<w.heap.size→s.ownBlock≠some q→W.heap[q]?=w.heap[q]?
theorem zt {lo g:Nat} {w W:World} (h:Below lo w W) (hlo:lo≤w.heap.size) (hg:lo≤g) (cur:Array Value):Below lo w (W.setRow g cur):=
 h.grown (Tn W g cur) (by have:=h.size;omega) (fun k hk=>by cases hk;exact hg)
theorem qdd {w:World} {lo m c g:Nat} {e:TypeId} {vs:List Value} (h:w.ownsRow lo e 5 (.slice (some ⟨g,0,none⟩) m c) m vs):∀ j u,vs[j]?=some u→w.cell? ((⟨g,0,none⟩:Addr).add j)=some u:=fun j u hu=>by
 rcases h.2 with ⟨h0,_⟩|⟨g',cap,cur,hv,hb,hg,hnc,_,hsz,htk⟩
 ·cases h0
 ·cases hv
  rw[Addr.add_lit,Nat.zero_add,qa hg,←Array.getElem?_toList]
  rw[←htk,List.getElem?_take] at hu
  split at hu
  ·exact hu
  ·cases hu
theorem TZ (ps:List (It×Value)):∀ k,qQ (ps.drop k)=(qQ ps).drop (k*5):=by
 induction ps with
 |nil=>intro k;simp[qQ]
 |cons p r ih =>
  intro k
  rcases k with _|k
  ·simp[qQ]
  ·rw[List.drop_succ_cons,show (k+1)*5=k*5+1+1+1+1+1 by omega]
   simp only[qQ,List.drop_succ_cons,ih k]
theorem Gj (ps:List (It×Value)) (h:∀ p∈ps,p.2.oneCell'=true):∀ u∈qQ ps,u.oneCell'=true:=by
 induction ps with
 |nil=>intro u hu;cases hu
 |cons p r ih =>
  intro u hu
  simp only[qQ,List.mem_cons] at hu
  rcases hu with rfl|rfl|rfl|rfl|rfl|hu
  ·rfl
  ·rfl
  ·rfl
  ·rfl
  ·exact h p List.mem_cons_self
  ·exact ih (fun q hq=>h q (List.mem_cons_of_mem _ hq)) u hu
theorem Its.take {w:World} {B b off n c:Nat} {xs:List It} (h:Its w B (.slice (some ⟨b,off,none⟩) n c) xs) {k:Nat} (hk:k≤xs.length):Its w B (.slice (some ⟨b,off,none⟩) k c) (xs.take k):=by
 obtain⟨ps,rfl,⟨A,c',e,h1,h2,hr⟩,hp⟩:=h
 cases e
 have hk':k≤ps.length:=by simpa using hk
 refine⟨ps.take k,by rw[List.map_take],⟨_,c,by rw[List.length_take,Nat.min_eq_left hk],by rw[List.length_take];omega,h2,?_⟩,fun p hpm=>hp p (List.mem_of_mem_take hpm)⟩
 rw[List.length_take,Nat.min_eq_left hk]
 rw[←Ua]
 refine⟨by rw[List.length_take,hr.1,List.length_map];omega,fun hn=>?_⟩
 obtain⟨b',off',e,hb,hc⟩:=hr.2 (by omega)
 exact⟨b',off',e,hb,fun j u hu=>hc j u (by rw[List.getElem?_take] at hu;split at hu;exact hu;cases hu)⟩
theorem Its.drop {w:World} {B b off n c:Nat} {xs:List It} (h:Its w B (.slice (some ⟨b,off,none⟩) n c) xs) {k:Nat} (hk:k<xs.length):Its w B (.slice (some ⟨b,off+k*5,none⟩) (n-k) (c-k)) (xs.drop k):=by
 obtain⟨ps,rfl,⟨A,c',e,h1,h2,hr⟩,hp⟩:=h
 cases e
 have hk':k<ps.length:=by simpa using hk
 refine⟨ps.drop k,by rw[List.map_drop],⟨_,c-k,by rw[List.length_drop],by rw[List.length_drop];omega,by omega,?_⟩,fun p hpm=>hp p (List.mem_of_mem_drop hpm)⟩
 rw[List.length_drop,TZ]
 refine⟨by rw[List.length_drop,hr.1,List.length_map];omega,fun hn=>?_⟩
 obtain⟨b',off',e,hb,hc⟩:=hr.2 (by omega)
 cases e
 exact⟨b,off+k*5,rfl,hb,fun j u hu=>by
  rw[List.getElem?_drop] at hu
  rw[Nat.add_assoc]
  exact hc _ _ hu⟩
theorem Vk.take {X:Nat→Prop} {w:World} {b off n c:Nat} {xs:List It} (h:Vk X w (.slice (some ⟨b,off,none⟩) n c) xs) {k:Nat} (hk:k≤xs.length):Vk X w (.slice (some ⟨b,off,none⟩) k c) (xs.take k):=fun C hC=>(h C hC).take hk
theorem Vk.drop {X:Nat→Prop} {w:World} {b off n c:Nat} {xs:List It} (h:Vk X w (.slice (some ⟨b,off,none⟩) n c) xs) {k:Nat} (hk:k<xs.length):Vk X w (.slice (some ⟨b,off+k*5,none⟩) (n-k) (c-k)) (xs.drop k):=fun C hC=>(h C hC).drop hk
theorem Bch.notB3 {D:Nat→Prop} {B lo b g:Nat} {k:Option Nat} {S:Sto} {w:World} (h:Bch D B lo b g k S w) {q:Nat} {cs:Array Value} {ty:TypeId} {fr:Nat×Nat} (hr:w.heap[q]?=some (.cells cs ty fr)) (h1:ty≠191) (h2:ty≠5) (h3:ty≠130):¬B3 b g k q:=fun hx=>by
 obtain⟨A1,n1,c1,v2,c3,A4,c4,hro,ho,⟨ps,_,hw,_⟩,_,_⟩:=h.ex
 rcases hx with e|e|e
 ·subst e
  rw[hr] at hro
  simp only[Option.some.injEq,Obj.cells.injEq] at hro
  exact h1 hro.2.1
 ·subst e
  obtain⟨cur,hg⟩:=ZF ho (q:=q) rfl
  rw[hr] at hg
  simp only[Option.some.injEq,Obj.cells.injEq] at hg
  exact h2 hg.2.1
 ·rcases hw with ⟨e1,_⟩|⟨q',e1,e2,how⟩
  ·rw[e1] at e;cases e
  ·rw[e1] at e
   cases e
   obtain⟨cur,hg⟩:=ZF how e2
   rw[hr] at hg
   simp only[Option.some.injEq,Obj.cells.injEq] at hg
   exact h3 hg.2.1
def upV (ups:List It):List (It×Value):=ups.map fun x=>(x,.slice none 0 0)
theorem upV_item (ups:List It) (x:It):qQ (upV (ups++[x]))=qQ (upV ups)++[.int .u8 x.k,.int .u32 x.i,.int .u32 x.o,.int .i64 x.r,.slice none 0 0]:=by
 unfold upV
 rw[List.map_append,JC]
 rfl
theorem qgj {t:List UInt8} {a:Nat} {e:Int} (h:Jy t a=.error e):e≠0:=by
 unfold Jy at h
 split at h
 ·cases h
 ·split at h
  ·cases h;decide
  ·split at h
   ·cases h;decide
   ·cases h
theorem qae:∀ {l:List Nat} {t:List UInt8} {e:Int},ZG l t=.error e→e≠0
 | [],t,e,h=>by cases h
 |a :: l,t,e,h=>by
  simp only[ZG] at h
  split at h
  ·rename_i e' h'
   cases h
   exact qgj h'
  ·exact qae h
theorem Yp {S:Sto} {lvl:Int} {its:List It} {e:Int} (h:zX S lvl its=.error e):e≠0:=by
 unfold zX at h
 split at h
 ·split at h
  ·rename_i e' h'
   cases h
   exact qae h'
  ·split at h
   ·cases h;decide
   ·cases h
 ·cases h;decide
theorem Ka (lvl:Int):∀ (ps qs:List (List It)) (S:Sto),ZT lvl (ps++qs) S=match ZT lvl ps S with
  | .error e=>.error e
  | .ok (up,S')=>match ZT lvl qs S' with
   | .error e=>.error e
   | .ok (up',S'')=>.ok (up++up',S'')
 | [],qs,S=>by
  simp only[List.nil_append,ZT]
  rcases ZT lvl qs S with e|⟨up,S'⟩ <;> rfl
 |p :: ps,qs,S=>by
  simp only[List.cons_append,ZT]
  rcases zX S lvl p with e|⟨f,S'⟩
  ·rfl
  ·simp only
   rw[Ka lvl ps qs S']
   rcases ZT lvl ps S' with e|⟨up,S''⟩
   ·rfl
   ·simp only
    rcases ZT lvl qs S'' with e|⟨up',S3⟩ <;> rfl
theorem qhW (lvl:Int) (p:List It) (S:Sto):ZT lvl [p] S=match zX S lvl p with
  | .error e=>.error e
  | .ok (f,S')=>.ok ([mkIt (TE p) f],S'):=by
 simp only[ZT] <;> (rcases zX S lvl p with e|⟨f,S'⟩ <;> rfl)
theorem qhV {lvl:Int} {ps:List (List It)} {j:Nat} (hj:j<ps.length) {S S':Sto} {up:List It} {e:Int} (h:ZT lvl (ps.take j) S=.ok (up,S')) (h1:zX S' lvl ps[j]=.error e):ZT lvl ps S=.error e:=by
 have:ps=ps.take j++(ps[j] :: ps.drop (j+1)):=by rw[←List.drop_eq_getElem_cons hj,List.take_append_drop]
 rw[this,Ka,h]
 simp only[ZT]
 rw[h1]
theorem qfP {lvl:Int} {ps:List (List It)} {j:Nat} (hj:j<ps.length) {S S' S'':Sto} {up:List It} {f:Nat} (h:ZT lvl (ps.take j) S=.ok (up,S')) (h1:zX S' lvl ps[j]=.ok (f,S'')):ZT lvl (ps.take (j+1)) S=.ok (up++[mkIt (TE ps[j]) f],S''):=by
 rw[List.take_succ_eq_append_getElem hj,Ka,h]
 simp only
 rw[qhW,h1]
theorem qfO {its:List It} (k:Nat):qV its=qV (its.take k)++qV (its.drop k):=by
 unfold qV
 rw[←List.map_append,List.take_append_drop]
theorem GC {its:List It} {k:Nat} (hk:k<its.length) {t t':List UInt8} (h:QI (qV (its.take k)) t=.ok t') (h0:its[k].r.toNat≠0) (h1:Qh t' its[k].r.toNat=0):QI (qV its) t=.error 6:=by
 rw[qfO (its:=its) k,jG,h]
 simp only
 rw[List.drop_eq_getElem_cons hk]
 exact Ju h0 h1 _
theorem Up {its:List It} {k:Nat} (hk:k<its.length) {t t':List UInt8} (h:QI (qV (its.take k)) t=.ok t') (h0:its[k].r.toNat≠0) (h1:Qh t' its[k].r.toNat≠0):QI (qV (its.take (k+1))) t=.ok (VQ t' its[k].r.toNat):=by
 rw[Vx hk,jG,h]
 simp only
 rw[jZ h0 h1]
 rfl
theorem Uq {its:List It} {k:Nat} (hk:k<its.length) {t t':List UInt8} (h:QI (qV (its.take k)) t=.ok t') (h0:its[k].r.toNat=0):QI (qV (its.take (k+1))) t=.ok t':=by
 rw[Vx hk,jG,h]
 simp only
 rw[h0,Ja]
 rfl
structure SM (S S':Sto):Prop where
 node:∀ r nd,qu S r=some nd→qu S' r=some nd
 pos:∀ r:Nat,0<(S.now[r]?.getD 0).toNat→0<(S'.now[r]?.getD 0).toNat
theorem Xi {one one':It→Option (K3×K3)} (h:∀ y p,one y=some p→one' y=some p):∀ (xs:List It) (a:Option (Option (K3×K3))) (q:Option (K3×K3)),xs.foldl (JW one) a=some q→xs.foldl (JW one') a=some q
 | [],_,_,e=>e
 |x :: r,a,q,e=>by
  simp only[List.foldl_cons] at e ⊢
  have hs:=(TC one r (JW one a x) (by rw[e];rfl)).1
  have e2:JW one' a x=JW one a x:=by
   unfold JW at hs ⊢
   rcases a with _|a
   ·rfl
   ·rcases hx:one x with _|p
    ·rw[hx] at hs;cases hs
    ·rw[h x p hx]
  rw[e2]
  exact Xi h r _ q e
section
variable {S S':Sto}
theorem SM.one (hm:SM S S'):∀ (h:Nat) (y:It) (p:K3×K3),vw S h y=some p→vw S' h y=some p
 |0,y,p,e=>by
  unfold vw at e ⊢
  split at e
  ·rename_i hc
   rw[if_pos (hc.imp id (hm.pos _))]
   exact e
  ·cases e
 |h+1,y,p,e=>by
  rw[VY] at e ⊢
  unfold vR at e ⊢
  split at e
  ·rename_i hr
   rw[if_pos hr]
   rcases hn:qu S y.r.toNat with _|⟨lvl,xs⟩
   ·rw[hn] at e;cases e
   ·rw[hn] at e
    rw[hm.node _ _ hn]
    simp only at e ⊢
    split at e
    ·rename_i hl
     rw[if_pos hl]
     rcases hs:Qd S h xs with _|q
     ·rw[hs] at e;cases e
     ·rw[hs] at e
      have h2:Qd S' h xs=some q:=Xi (SM.one hm h) xs _ q hs
      rw[h2]
      exact e
    ·cases e
  ·cases e
theorem SM.span (hm:SM S S') {h:Nat} {xs:List It} {q:Option (K3×K3)} (e:Qd S h xs=some q):Qd S' h xs=some q:=Xi (hm.one h) xs _ q e
theorem SM.spanOk (hm:SM S S') {h:Nat} {xs:List It} (e:(Qd S h xs).isSome=true):(Qd S' h xs).isSome=true:=by
 obtain⟨q,hq⟩:=Option.isSome_iff_exists.1 e
 rw[hm.span hq]
 rfl
theorem SM.okL (hm:SM S S') {L r:Int} (e:okL S L r=true):okL S' L r=true:=by
 unfold Go.Proofs.YtpbniokljofedaaGreat.okL at e ⊢
 split at e
 ·rename_i hr
  rw[if_pos hr]
  rcases hn:qu S r.toNat with _|⟨lvl,xs⟩
  ·rw[hn] at e;cases e
  ·rw[hn] at e
   rw[hm.node _ _ hn]
   simp only[Bool.and_eq_true] at e ⊢
   exact⟨hm.spanOk e.1,e.2⟩
 ·cases e
end
theorem ints_at (l:List Nat) {k:Nat} (hk:k<l.length):(jA l)[k]?=some (.int .i64 (l[k]:Int)):=by unfold jA;rw[List.getElem?_map,zL hk];rfl
def IxP (l:List Nat) (x:Nat) (u:Value):Prop:=(x∈l∧∃ j:Nat,j<l.length∧u=.int .i64 (j:Int))∨(x∉l∧u=.int .i64 (-1))
theorem ix_ret {R:Ending→World→Prop} {a:Act} {W:World} {u:Value} (h4:a.tmps[4]?.getD undef=u) (hd:a.defers=[]) (hR:R (.returned u) W):bodyPost Tryz.prog Tryz.f164 R .ret a W:=by
 refine bodyPost_ret (v:=u) ?_ hd hR
 simp[results,Tryz.results164,go_sem,h4]
set_option maxRecDepth 100000 in
theorem qhP (A:Option Addr) (c:Nat) (l:List Nat) (hl:l.length≤1000000) (x:Nat) (w:World) (h:Rd w w.heap.size 1 A l.length (jA l)) :
  Calls Tryz.prog 164 #[.slice A l.length c,.int .i64 (x:Int)] w (fun e W=>∃ u,e=.returned u∧IxP l x u∧W=w):=by
 replace h:=zH h
 go_enter Tryz.func164,Tryz.ntmps164
 go_wp2_with fail
 go_loopw [8] (fun i wr=>∃ k:Nat,k≤l.length∧i=.int .i64 (k:Int)∧wr=w∧∀ j (hj:j<l.length),j<k→l[j]≠x) (fun i _=>l.length-(intOf i).toNat)
 case atStart=>exact⟨0,Nat.zero_le _,rfl,rfl,fun j _ hj=>absurd hj (Nat.not_lt_zero _)⟩
 case round =>
  obtain⟨k,hk,rfl,rfl,hno⟩:=hrel
  replace hno:=zH hno
  by_cases hlt:k<l.length
  ·obtain⟨b,o,rfl,hb,hcell⟩:=h.out.2 (by omega)
   have hc:=hcell k _ (ints_at l hlt)
   have HNO:=zH (fun (he:l[k]≠x) j (hj:j<l.length) (hjk:j<k+1)=>by
    rcases Nat.lt_or_ge j k with h1|h1
    ·exact hno.out j hj h1
    ·obtain rfl:j=k:=by omega
     exact he)
   have HY:=zH (fun (he:l[k]=x)=>(⟨he ▸ List.getElem_mem hlt,k,hlt,rfl⟩:x∈l∧∃ j:Nat,j<l.length∧(Value.int .i64 (k:Int))=.int .i64 (j:Int)))
   have hw:=zH (IntWalk.wrap64_in ((k:Int)+1) (by omega))
   have hd1:decide (k<l.length)=true:=decide_eq_true hlt
   generalize l[k]=y at *
   clear hcell
   by_cases he:y=x
   ·have z1:((x:Int) == (y:Int))=true:=by rw[beq_iff_eq];omega
    have z2:decide (x=y)=true:=decide_eq_true he.symm
    have hQ:=zH (HY.out he)
    clear HNO HY
    replace he:=zH he
    go_wp2_with fail
    exact ix_ret rfl rfl ⟨_,rfl,.inl hQ.out,rfl⟩
   ·have z1:((x:Int) == (y:Int))=false:=by rw[beq_eq_false_iff_ne];omega
    have z2:decide (x=y)=false:=decide_eq_false (fun h=>he h.symm)
    have hQ:=zH (HNO.out he)
    clear HNO HY
    replace he:=zH he
    have hw':=hw.out
    go_wp2_with fail
    refine⟨⟨k+1,hlt,rfl,trivial,fun j hj hjk=>hQ.out j hj hjk⟩,?_⟩
    simp[intOf]
    omega
  ·obtain rfl:k=l.length:=by omega
   have hQ:x∉l:=fun hx=>by
    obtain⟨j,hj,e⟩:=List.mem_iff_getElem.1 hx
    exact hno.out j hj hj e
   replace hQ:=zH hQ
   go_wp2_with fail
   exact ix_ret rfl rfl ⟨_,rfl,.inr ⟨hQ.out,rfl⟩,rfl⟩
set_option maxRecDepth 100000 in
theorem has_any (A:Option Addr) (c:Nat) (l:List Nat) (hl:l.length≤1000000) (x:Nat) (w:World) (h:Rd w w.heap.size 1 A l.length (jA l)) :
  Calls Tryz.prog 128 #[.slice A l.length c,.int .i64 (x:Int)] w (fun e W=>e=.returned (.bool (decide (x∈l)))∧W=w):=by
 have HI:=zH (qhP A c l hl x w h)
 clear h
 go_enter Tryz.func128,Tryz.ntmps128
 go_wp2_with fail
 refine HI.out.mono ?_
 clear HI
 rintro e W ⟨u,rfl,hu,rfl⟩
 rcases hu with ⟨h1,j,hj,rfl⟩|⟨h1,rfl⟩
 ·have z1:decide ((j:Int)≥0)=true:=decide_eq_true (by omega)
  replace h1:=zH h1
  go_wp2_with fail
  go_ret
  exact⟨by rw[decide_eq_true h1.out];rfl,rfl⟩
 ·replace h1:=zH h1
  go_wp2_with fail
  go_ret
  exact⟨by rw[decide_eq_false h1.out];rfl,rfl⟩
def qce (S:Sto) (refs:Nat→Nat):Bool:=(List.range 256).all fun a=>decide (refs a≤(S.now[a]?.getD 0).toNat)
theorem qdG (S:Sto) (refs:Nat→Nat):qce S refs=true↔QD S refs:=by
 unfold qce QD
 rw[List.all_eq_true]
 exact⟨fun h a ha=>of_decide_eq_true (h a (List.mem_range.2 ha)),fun h a ha=>decide_eq_true (h a (List.mem_range.1 ha))⟩
theorem Ql.same {S:Sto} {root next:Int} {dead:List Int} {vs vs':List Vol} (h:Ql S root next dead vs) (h':Ql S root next dead vs'):vs=vs':=by
 have:=h.vols
 rw[h'.vols] at this
 cases this
 rfl
def jy (S:Sto) (refs nodes:Nat→Nat) (a:Int) (held:Bool):Int:=if 8≤a∧a<256 then (if zE S a.toNat=0∨0<nodes a.toNat∨(held=true∧zE S a.toNat≤refs a.toNat) then 6 else 0) else 2
theorem qhD {S:Sto} {refs nodes:Nat→Nat} {a:Int} (h:¬(8≤a∧a<256)) (held:Bool):jy S refs nodes a held=2:=by unfold jy;rw[if_neg h]
theorem dataE_in (S:Sto) (refs nodes:Nat→Nat) {a:Nat} (h8:8≤a) (h:a<256) (held:Bool):jy S refs nodes (a:Int) held=if zE S a=0∨0<nodes a∨(held=true∧zE S a≤refs a) then 6 else 0:=by
 unfold jy
 rw[if_pos (by omega),Int.toNat_natCast]
theorem mem_met {nodes:Nat→Nat} {a:Nat} (h:a<256):a∈vV nodes 256↔0<nodes a:=by
 unfold vV
 simp[h]
def DataQ (S:Sto) (root next:Int) (dead:List Int) (a:Int) (held:Bool) (w:World) (e:Ending) (w':World):Prop:=Below w.heap.size w w' ∧
 ((e=.returned (.int .i64 8)∧∀ vs,Ql S root next dead vs→∃ refs nodes,qR S (Qw root dead vs) refs nodes∧¬QD S refs) ∨
  ∃ vs refs nodes,Ql S root next dead vs∧qR S (Qw root dead vs) refs nodes∧QD S refs∧e=.returned (.int .i64 (jy S refs nodes a held)))
theorem JJ {R:Ending→World→Prop} {a:Act} {W:World} {u:Value} (h6:a.tmps[6]?.getD undef=u) (hd:a.defers=[]) (hR:R (.returned u) W):bodyPost Tryz.prog Tryz.f73 R .ret a W:=by
 refine bodyPost_ret (v:=u) ?_ hd hR
 simp[results,Tryz.results73,go_sem,h6]
theorem Ud {S:Sto} {R:List Nat} {refs refs' nodes nodes':Nat→Nat} (h:qR S R refs nodes) (h':qR S R refs' nodes'):refs=refs':=(jl.same h.mkd h'.mkd).2
set_option maxRecDepth 100000 in
theorem data_any (A1:Option Addr) (n1 c1:Nat) (A2:Option Addr) (n2 c2:Nat) (A3:Option Addr) (n3 c3:Nat) (A4:Option Addr) (n4 c4:Nat) (gen root next:Int) (A5:Option Addr) (c5:Nat) (S:Sto) (dead:List Int) (a:Int) (held:Bool) (w:World)
  (h:qP w w.heap.size (.slice A1 n1 c1) (.slice A2 n2 c2) (.slice A3 n3 c3) (.slice A4 n4 c4) S) (hd:Zn w w.heap.size (.slice A5 dead.length c5) dead) :
  Calls Tryz.prog 73 #[.agg (qC (.slice A1 n1 c1) (.slice A2 n2 c2) (.slice A3 n3 c3) (.slice A4 n4 c4) gen root next (.slice A5 dead.length c5)),.int .i64 a,.bool held] w (DataQ S root next dead a held w):=by
 have HI:=fun W (hx:Ext w W)=>(show Zn W W.heap.size (.slice A5 dead.length c5) dead by
  obtain⟨A,c,e,q1,q2,q3⟩:=hd
  exact⟨A,c,e,q1,q2,(q3.below hx).more hx.size⟩)
 have HR:=zH (fun W (hx:Ext w W)=>refs_any A1 n1 c1 A2 n2 c2 A3 n3 c3 A4 n4 c4 gen root next A5 c5 S dead W (h.ext hx) (HI W hx))
 have HN:=zH (fun W (hx:Ext w W)=>qia A1 n1 c1 A2 n2 c2 A3 n3 c3 A4 n4 c4 gen root next A5 c5 S dead W (h.ext hx) (HI W hx))
 replace h:=zH h
 clear hd HI
 go_enter Tryz.func73,Tryz.ntmps73
 go_wp2_with fail
 generalize hw1:(World.alloc w _)=w1
 have x1:Ext w w1:=by rw[←hw1];exact zN _ _
 have rp1:w1.heap[w.heap.size]?=some (.cells (qC (.slice A1 n1 c1) (.slice A2 n2 c2) (.slice A3 n3 c3) (.slice A4 n4 c4) gen root next (.slice A5 dead.length c5)) 32 (0,0)):=by rw[←hw1];exact zI _ _ _ rfl
 clear hw1
 refine(HR.out w1 x1).mono ?_
 clear HR
 rintro e w2 ⟨hB,hQ⟩
 have x2:Ext w w2:=Ext.trans x1 hB
 have rp2:=qb rp1 hB
 clear hB rp1 x1
 rcases hQ with ⟨rfl,hno⟩|⟨vs,refs,nodes,cb,ca,vv,lo,rfl,hlo,hT⟩
 ·replace hno:=zH hno
  go_wp2_with fail
  exact JJ rfl rfl ⟨x2,.inl ⟨rfl,hno.out⟩⟩
 ·have kp2:=qa rp2
  replace hT:=zH hT
  go_wp2_with fail
  refine(HN.out w2 x2).mono ?_
  clear HN
  rintro e w3 ⟨hB,hQ⟩
  have x3:Ext w w3:=Ext.trans x2 hB
  have rp3:=qb rp2 hB
  have rc3:=qb hT.out.row hB
  clear hB rp2 x2 kp2
  rcases hQ with ⟨rfl,hno⟩|⟨vs',refs',nodes',v,lo',rfl,hlo',hp',hc',he',hown⟩
  ·obtain⟨refs',nodes',hc',hn'⟩:=hno vs hT.out.pool
   exact absurd (Ud hT.out.cnt hc' ▸ hT.out.enough) hn'
  ·obtain rfl:=Ql.same hT.out.pool hp'
   obtain rfl:=Ud hT.out.cnt hc'
   obtain⟨An,cn,rfl,-,-⟩:=qv hown
   by_cases hr:8≤a∧a<256
   ·obtain⟨m,hma⟩:=Int.eq_ofNat_of_zero_le (show 0≤a by omega)
    subst hma
    have hm8:8≤m:=by omega
    have hm256:m<256:=by omega
    have hE:=dataE_in S refs nodes' hm8 hm256 held
    obtain⟨b,o,c,e3,hb,hcell⟩:=TG hp'.may h.out.now
    have hcn:=Ext.cell x3 (hcell m hm256)
    have hrf:=(qa rc3 (6+m)).trans (hT.out.ar.ref m hm256)
    have hmem:=mem_met (nodes:=nodes') hm256
    have HH:=has_any An cn (vV nodes' 256) (Nat.le_trans (qbu _ _) (by omega)) m w3 (Rd.of_own hown)
    cases e3
    have kp3:=qa rp3
    have d1:decide ((m:Int)<8)=false:=decide_eq_false (by omega)
    have d2:decide ((m:Int)≥256)=false:=decide_eq_false (by omega)
    have hQ:=fun E (hh:jy S refs nodes' (m:Int) held=E)=>(⟨x3,.inr ⟨vs,refs,nodes',hp',hc',he',by rw[hh]⟩⟩:DataQ S root next dead (m:Int) held w (.returned (.int .i64 E)) w3)
    replace hQ:=zH hQ
    have hwn:=zH (IntWalk.wrap64_in (zE S m:Int) (by have:=(S.now[m]?.getD 0).toNat_lt;unfold zE;omega))
    generalize zE S m=nw at *
    generalize refs m=rf at *
    clear hT hp' hc' he' hown hcell hr rc3
    by_cases h0:nw=0
    ·have z1:((nw:Int) == 0)=true:=by rw[beq_iff_eq];omega
     have z2:decide (nw=0)=true:=decide_eq_true h0
     rw[if_pos (.inl h0)] at hE
     replace hE:=zH hE
     replace h0:=zH h0
     replace hmem:=zH hmem
     have hw':=hwn.out
     go_wp2_with fail
     exact JJ rfl rfl (hQ.out _ hE.out)
    ·have z1:((nw:Int) == 0)=false:=by rw[beq_eq_false_iff_ne];omega
     have z2:decide (nw=0)=false:=decide_eq_false h0
     by_cases hm:m∈vV nodes' 256
     ·rw[decide_eq_true hm] at HH
      rw[if_pos (.inr (.inl (hmem.1 hm)))] at hE
      replace hE:=zH hE
      replace h0:=zH h0
      replace hmem:=zH hmem
      replace hm:=zH hm
      have hw':=hwn.out
      go_wp2_with fail
      refine HH.mono ?_
      rintro e w4 ⟨rfl,rfl⟩
      have hw':=hwn.out
      go_wp2_with fail
      exact JJ rfl rfl (hQ.out _ hE.out)
     ·rw[decide_eq_false hm] at HH
      have hm':¬0<nodes' m:=fun h=>hm (hmem.2 h)
      replace hmem:=zH hmem
      replace hm:=zH hm
      cases held
      ·rw[if_neg (fun h=>by rcases h with h|h|⟨h,h'⟩;exact h0 h;exact hm' h;cases h)] at hE
       replace hE:=zH hE
       replace h0:=zH h0
       replace hm':=zH hm'
       have hw':=hwn.out
       go_wp2_with fail
       refine HH.mono ?_
       rintro e w4 ⟨rfl,rfl⟩
       have hw':=hwn.out
       go_wp2_with fail
       exact JJ rfl rfl (hQ.out _ hE.out)
      ·by_cases hle:nw≤rf
       ·have z3:decide ((nw:Int)≤(rf:Int))=true:=decide_eq_true (by omega)
        have z4:decide (nw≤rf)=true:=decide_eq_true hle
        rw[if_pos (.inr (.inr ⟨rfl,hle⟩))] at hE
        replace hE:=zH hE
        replace h0:=zH h0
        replace hm':=zH hm'
        replace hle:=zH hle
        have hw':=hwn.out
        go_wp2_with fail
        refine HH.mono ?_
        rintro e w4 ⟨rfl,rfl⟩
        have hw':=hwn.out
        go_wp2_with fail
        exact JJ rfl rfl (hQ.out _ hE.out)
       ·have z3:decide ((nw:Int)≤(rf:Int))=false:=decide_eq_false (by omega)
        have z4:decide (nw≤rf)=false:=decide_eq_false hle
        rw[if_neg (fun h=>by rcases h with h|h|⟨h',h⟩;exact h0 h;exact hm' h;exact hle h)] at hE
        replace hE:=zH hE
        replace h0:=zH h0
        replace hm':=zH hm'
        replace hle:=zH hle
        have hw':=hwn.out
        go_wp2_with fail
        refine HH.mono ?_
        rintro e w4 ⟨rfl,rfl⟩
        go_wp2_with fail
        exact JJ rfl rfl (hQ.out _ hE.out)
   ·have hE:=zH (qhD (S:=S) (refs:=refs) (nodes:=nodes') hr held)
    have hQ:=fun E (hh:jy S refs nodes' a held=E)=>(⟨x3,.inr ⟨vs,refs,nodes',hp',hc',he',by rw[hh]⟩⟩:DataQ S root next dead a held w (.returned (.int .i64 E)) w3)
    replace hQ:=zH hQ
    clear hT hp' hc' he' hown rc3
    by_cases h8:a<8
    ·have d1:decide (a<8)=true:=decide_eq_true h8
     replace hr:=zH hr
     go_wp2_with fail
     exact JJ rfl rfl (hQ.out _ hE.out)
    ·have d1:decide (a<8)=false:=decide_eq_false h8
     have d2:decide (a≥256)=true:=decide_eq_true (by omega)
     replace hr:=zH hr
     go_wp2_with fail
     exact JJ rfl rfl (hQ.out _ hE.out)
abbrev Jb:Value:=.agg (qC (.slice none 0 0) (.slice none 0 0) (.slice none 0 0) (.slice none 0 0) 0 0 0 (.slice none 0 0))
def jE (lo:Nat) (S:Sto) (gen root next:Int) (dead:List Int) (u:Value) (W:World):Prop:=∃ A1 c1 A2 c2 A3 c3 A4 c4 A5 c5,u=.agg (qC (.slice A1 S.bs.length c1) (.slice A2 S.ws.length c2) (.slice A3 S.now.length c3) (.slice A4 S.last.length c4) gen root next (.slice A5 dead.length c5)) ∧
 ∀ C:World,PosZ lo W C→qP C W.heap.size (.slice A1 S.bs.length c1) (.slice A2 S.ws.length c2) (.slice A3 S.now.length c3) (.slice A4 S.last.length c4) S∧Zn C W.heap.size (.slice A5 dead.length c5) dead
theorem Rd.pos {w C:World} {B size lo n c:Nat} {A:Option Addr} {xs:List Value} (h:Rd w B size A n xs) (hf:Zm lo (.slice A n c)) (hk:∀ (q:Addr) (v:Value),lo≤q.block→q.block<B→w.cell? q=some v→C.cell? q=some v):Rd C B size A n xs:=
 ⟨h.1,fun hn=>by
  obtain⟨b,off,rfl,hb,hc⟩:=h.2 hn
  exact⟨b,off,rfl,hb,fun j u hu=>hk _ _ (hf ⟨b,off,none⟩ n c rfl) hb (hc j u hu)⟩⟩
theorem Zn.pos {w C:World} {B lo:Nat} {v:Value} {l:List Int} (h:Zn w B v l) (hf:Zm lo v) (hk:∀ (q:Addr) (v:Value),lo≤q.block→q.block<B→w.cell? q=some v→C.cell? q=some v):Zn C B v l:=by
 obtain⟨A,c,e,hc,hm,hr⟩:=h
 subst e
 exact⟨A,c,rfl,hc,hm,Rd.pos hr hf hk⟩
theorem QC.newSto {lo:Nat} {S:Sto} {u:Value} {W:World} (h:QC lo S u W) (hS:Xx S):NewSto lo S u W:=by
 obtain⟨BB,WW,g,A3,c3,A4,c4,e,h1,h2,h3⟩:=h
 refine⟨_,_,_,_,A3,c3,A4,c4,e,qie (W:=thaw W) (Φ:=fun C=>qP C W.heap.size _ _ _ _ S) (fun A C hAC hA=>hA.some_ hAC) fun W2 hk=>?_⟩
 obtain⟨k1,k2⟩:=h1.readsT hS.bs hS.ws hS.be hS.we W2 hk
 exact⟨k1,k2,(Bys.of_ownT h2).keepN (Zm.of_own h2) hk,(Bys.of_ownT h3).keepN (Zm.of_own h3) hk⟩
theorem Zn.of_ownT {w:World} {base:Nat} {v:Value} {l:List Int} (h:w.ownsRow base 3 1 v l.length (TN l)):Zn (thaw w) w.heap.size v l:=by
 obtain⟨A,c,e,hc,hm,hr⟩:=Zn.of_own h
 refine⟨A,c,e,hc,hm,hr.1,fun hn=>?_⟩
 obtain⟨b,off,e2,hb,hcs⟩:=hr.2 hn
 obtain⟨cs,t,hrow⟩:=Thaw.of_own h ⟨b,off,none⟩ l.length c (by rw[e,e2]) hn
 exact⟨b,off,e2,hb,fun j u hu=>(kj hrow _).trans (hcs j u hu)⟩
def outN (lo n:Nat) (l:List Int):qS:=⟨Option Addr×Nat,fun p=>.slice p.1 n p.2,fun p W=>Zn (thaw W) W.heap.size (.slice p.1 n p.2) l∧Zm lo (.slice p.1 n p.2)⟩
theorem jb (lo n:Nat) (l:List Int) (A:Option Addr) (c:Nat):(outN lo n l).f (A,c)=.slice A n c:=rfl
theorem qek (lo n:Nat) (l:List Int):∀ p,QL ((outN lo n l).φ p):=fun p W W' he h=>⟨by
 have h1:=h.1
 rw[←km W] at h1
 have h2:=h1.ext_ (Ext.thaw he)
 rw[km] at h2
 exact h2,h.2⟩
def za (S:Sto):Int:=if qm S=true∧16≤(QQ S).length then 0 else 9
structure Two (bp be:Nat) (W W':World):Prop where
 os:W'.os=W.os
 tape:W'.tape=W.tape
 output:W'.output=W.output
 size:W.heap.size≤W'.heap.size
 same:∀ k,k<W.heap.size→k≠bp→k≠be→W'.heap[k]?=W.heap[k]?
theorem Two.of_ext {bp be:Nat} {W W':World} (h:Ext W W'):Two bp be W W':=⟨h.os,h.tape,h.output,h.size,fun k hk _ _=>h.block k hk⟩
theorem Two.below {bp be B:Nat} {w0 W W':World} (h:Two bp be W W') (hb:Below B w0 W) (h1:B≤bp) (h2:B≤be) (hB:B≤W.heap.size):Below B w0 W':=hb.trans ⟨h.os,h.tape,h.output,h.size,fun k hk=>h.same k (by omega) (by omega) (by omega)⟩
abbrev VK:Array Value:=qC (.slice none 0 0) (.slice none 0 0) (.slice none 0 0) (.slice none 0 0) 0 0 0 (.slice none 0 0)
theorem Two.trans {bp be:Nat} {A B C:World} (h:Two bp be A B) (k:Two bp be B C):Two bp be A C:=⟨k.os.trans h.os,k.tape.trans h.tape,k.output.trans h.output,Nat.le_trans h.size k.size,fun i hi h1 h2=>(k.same i (Nat.lt_of_lt_of_le hi h.size) h1 h2).trans (h.same i hi h1 h2)⟩
theorem Two.setP {bp be:Nat} (A:World) (j:Nat) (v:Value):Two bp be A (A.setCell ⟨bp,j,none⟩ v):=⟨rfl,rfl,rfl,by simp,fun k _ hk _=>zJ _ _ _ _ hk⟩
theorem Two.setE {bp be:Nat} (A:World) (j:Nat) (v:Value):Two bp be A (A.setCell ⟨be,j,none⟩ v):=⟨rfl,rfl,rfl,by simp,fun k _ _ hk=>zJ _ _ _ _ hk⟩
theorem Two.set8 {bp be:Nat} (w:World) (x0 x1 x2 x3 x4 x5 x6 x7:Value):Two bp be w ((((((((w.setCell ⟨bp,0,none⟩ x0).setCell ⟨bp,1,none⟩ x1).setCell ⟨bp,2,none⟩ x2).setCell ⟨bp,3,none⟩ x3).setCell ⟨bp,4,none⟩ x4).setCell ⟨bp,5,none⟩ x5).setCell ⟨bp,6,none⟩ x6).setCell ⟨bp,7,none⟩ x7):=
 (Two.setP _ _ _).trans ((Two.setP _ _ _).trans ((Two.setP _ _ _).trans ((Two.setP _ _ _).trans ((Two.setP _ _ _).trans ((Two.setP _ _ _).trans ((Two.setP _ _ _).trans (Two.setP _ _ _)))))))
def RoomyQ (bp be:Nat) (cs:Array Value) (e:Int) (S:Sto) (W W':World):Prop:=Two bp be W W' ∧
 ((e=0∧za S=0∧W'.heap[bp]?=some (.cells cs 32 (0,0))∧W'.heap[be]?=some (.cells #[.int .i64 0] 36 (0,0))) ∨
  ∃ e',e'≠0∧((e=0∧e'=za S)∨(e≠0∧e'=e))∧W'.heap[bp]?=some (.cells VK 32 (0,0))∧W'.heap[be]?=some (.cells #[.int .i64 e'] 36 (0,0)))
set_option maxRecDepth 100000 in
theorem qij (bp be:Nat) (hne:bp≠be) (A1:Option Addr) (n1 c1:Nat) (A2:Option Addr) (n2 c2:Nat) (A3:Option Addr) (n3 c3:Nat) (A4:Option Addr) (n4 c4:Nat) (gen root next:Int) (v5:Value) (e:Int) (S:Sto) (w:World)
  (hp:w.heap[bp]?=some (.cells (qC (.slice A1 n1 c1) (.slice A2 n2 c2) (.slice A3 n3 c3) (.slice A4 n4 c4) gen root next v5) 32 (0,0))) (he:w.heap[be]?=some (.cells #[.int .i64 e] 36 (0,0)))
  (h:e=0→qP w w.heap.size (.slice A1 n1 c1) (.slice A2 n2 c2) (.slice A3 n3 c3) (.slice A4 n4 c4) S) :
  Calls Tryz.prog 127 #[.pointer (some ⟨bp,0,none⟩),.pointer (some ⟨be,0,none⟩)] w (fun x w'=>x=.returned (.tuple #[])∧RoomyQ bp be (qC (.slice A1 n1 c1) (.slice A2 n2 c2) (.slice A3 n3 c3) (.slice A4 n4 c4) gen root next v5) e S w w'):=by
 have kp:=qa hp
 have ke:=qa he
 have fp:=qd hp
 have fe:=qd he
 have zp:bp<w.heap.size:=(zG.1 hp).1
 have ze:be<w.heap.size:=(zG.1 he).1
 by_cases h0:e=0
 ·subst h0
  have HF:=TL A1 n1 c1 A2 n2 c2 A3 n3 c3 A4 n4 c4 S w (h rfl)
  clear h
  go_enter Tryz.func127,Tryz.ntmps127
  go_wp2_with fail
  refine HF.mono ?_
  rintro x w2 ⟨hB,hQ⟩
  have x2:Ext w w2:=hB
  have hp2:=qb hp x2
  have he2:=qb he x2
  have kp2:=qa hp2
  have ke2:=qa he2
  have fp2:=qd hp2
  have fe2:=qd he2
  clear kp ke fp fe hB HF hp he
  rcases hQ with ⟨hm,rfl⟩|⟨hm,v,rfl,hown⟩
  ·have hE:za S=9:=by unfold za;rw[hm];rfl
   replace hE:=zH hE
   replace hm:=zH hm
   have hne':¬be=bp:=fun e=>hne e.symm
   go_wp2_with fail
   go_end0
   exact⟨rfl,(Two.of_ext x2).trans ((Two.setE _ _ _).trans (Two.set8 _ _ _ _ _ _ _ _ _)),.inr ⟨9,by decide,.inl ⟨rfl,hE.out.symm⟩,jj ((zJ _ _ _ _ hne).trans hp2) _ _ _ _ _ _ _ _,(ja hne' _ _ _ _ _ _ _ _).trans (qi he2 0 _)⟩⟩
  ·obtain⟨A,c,rfl,-,-⟩:=qv hown
   clear hown
   by_cases hl:(QQ S).length<16
   ·have hE:za S=9:=by unfold za;rw[if_neg (by omega)]
    replace hE:=zH hE
    have d1:decide (((QQ S).length:Int)<16)=true:=decide_eq_true (by omega)
    have d2:decide ((QQ S).length<16)=true:=decide_eq_true hl
    replace hl:=zH hl
    replace hm:=zH hm
    have hne':¬be=bp:=fun e=>hne e.symm
    go_wp2_with fail
    go_end0
    exact⟨rfl,(Two.of_ext x2).trans ((Two.setE _ _ _).trans (Two.set8 _ _ _ _ _ _ _ _ _)),.inr ⟨9,by decide,.inl ⟨rfl,hE.out.symm⟩,jj ((zJ _ _ _ _ hne).trans hp2) _ _ _ _ _ _ _ _,(ja hne' _ _ _ _ _ _ _ _).trans (qi he2 0 _)⟩⟩
   ·have hE:za S=0:=by unfold za;rw[if_pos ⟨hm,by omega⟩]
    replace hE:=zH hE
    have d1:decide (((QQ S).length:Int)<16)=false:=decide_eq_false (by omega)
    have d2:decide ((QQ S).length<16)=false:=decide_eq_false hl
    replace hl:=zH hl
    replace hm:=zH hm
    have hne':¬be=bp:=fun e=>hne e.symm
    go_wp2_with fail
    go_end0
    exact⟨rfl,Two.of_ext x2,.inl ⟨rfl,hE.out,hp2,he2⟩⟩
 ·have b0:(e == 0)=false:=by rw[beq_eq_false_iff_ne];exact h0
  have b1:(e != 0)=true:=by rw[bne_iff_ne];exact h0
  have b2:decide (e=0)=false:=decide_eq_false h0
  replace h0:=zH h0
  replace hne:=zH hne
  clear h
  go_enter Tryz.func127,Tryz.ntmps127
  go_wp2_with fail
  go_end0
  exact⟨rfl,Two.set8 _ _ _ _ _ _ _ _ _,.inr ⟨e,h0.out,.inr ⟨h0.out,rfl⟩,jj hp _ _ _ _ _ _ _ _,(ja (fun x=>hne.out x.symm) _ _ _ _ _ _ _ _).trans he⟩⟩
structure Kl (bp be ba:Nat) (W W':World):Prop where
 os:W'.os=W.os
 tape:W'.tape=W.tape
 output:W'.output=W.output
 size:W.heap.size≤W'.heap.size
 same:∀ k,k<W.heap.size→k≠bp→k≠be→k≠ba→W'.heap[k]?=W.heap[k]?
theorem Kl.of_two {bp be ba:Nat} {W W':World} (h:Two bp be W W'):Kl bp be ba W W':=⟨h.os,h.tape,h.output,h.size,fun k hk h1 h2 _=>h.same k hk h1 h2⟩
theorem Kl.set {bp be ba:Nat} {W W':World} (h:Kl bp be ba W W') (v:Value):Kl bp be ba W (W'.setCell ⟨ba,0,none⟩ v):=⟨h.os,h.tape,h.output,by simpa using h.size,fun k hk h1 h2 h3=>(zJ _ _ _ _ h3).trans (h.same k hk h1 h2 h3)⟩
theorem Kl.below {bp be ba B:Nat} {w0 W W':World} (h:Kl bp be ba W W') (hb:Below B w0 W) (h1:B≤bp) (h2:B≤be) (h3:B≤ba) (hB:B≤W.heap.size):Below B w0 W':=hb.trans ⟨h.os,h.tape,h.output,h.size,fun k hk=>h.same k (by omega) (by omega) (by omega) (by omega)⟩
theorem XQ {W:World} {b:Nat} {x0 x1 x2 x3 x4 x5 x6 x7 y z u0 u1 u2 u3 u4 u5 u6 u7 p q:Value} {ty1 ty2 ty3:TypeId} (r4:W.heap[b+1]?=some (.cells #[u0,u1,u2,u3,u4,u5,u6,u7] ty1 (0,0))) (r5:W.heap[b+2]?=some (.cells #[p] ty2 (0,0))) (r6:W.heap[b+3]?=some (.cells #[q] ty3 (0,0))) {C:World}
  (hC:C=((((((((((W.setCell ⟨b+1,0,none⟩ x0).setCell ⟨b+1,1,none⟩ x1).setCell ⟨b+1,2,none⟩ x2).setCell ⟨b+1,3,none⟩ x3).setCell ⟨b+1,4,none⟩ x4).setCell ⟨b+1,5,none⟩ x5).setCell ⟨b+1,6,none⟩ x6).setCell ⟨b+1,7,none⟩ x7).setCell ⟨b+1+1,0,none⟩ y).setCell ⟨b+1+1+1,0,none⟩ z)) :
  C.heap[b+1]?=some (.cells #[x0,x1,x2,x3,x4,x5,x6,x7] ty1 (0,0))∧C.heap[b+2]?=some (.cells #[y] ty2 (0,0))∧C.heap[b+3]?=some (.cells #[z] ty3 (0,0))∧(∀ {B:Nat} {w0:World},B≤b+1→Below B w0 W→Below B w0 C)∧C.heap.size=W.heap.size∧(∀ k,k≠b+1→k≠b+2→k≠b+3→C.heap[k]?=W.heap[k]?):=by
 subst hC
 have hs:=fun (A:World) (b j:Nat) (v:Value) (k:Nat) (hk:k≠b)=>zJ A ⟨b,j,none⟩ v k hk
 refine⟨?_,?_,?_,fun hB h=>?_,by simp,fun k h1 h2 h3=>?_⟩
 ·rw[hs _ _ _ _ _ (by omega),hs _ _ _ _ _ (by omega)]
  exact jj r4 x0 x1 x2 x3 x4 x5 x6 x7
 ·rw[hs _ _ _ _ _ (by omega)]
  refine qi (t:=ty2) (cs:=#[p]) ?_ 0 y
  rw[ja (by omega)]
  exact r5
 ·refine qi (t:=ty3) (cs:=#[q]) ?_ 0 z
  rw[hs _ _ _ _ _ (by omega),ja (by omega)]
  exact r6
 ·exact Below.setCell (Below.setCell (QV h (b:=b+1) (by omega) x0 x1 x2 x3 x4 x5 x6 x7) (p:=⟨b+1+1,0,none⟩) (by simp;omega) _) (p:=⟨b+1+1+1,0,none⟩) (by simp;omega) _
 ·rw[hs _ _ _ _ _ (by omega),hs _ _ _ _ _ (by omega),ja (by omega)]
theorem two_rows {W:World} {b:Nat} {p q p0 q0:Value} {ty2 ty3:TypeId} (r5:W.heap[b+2]?=some (.cells #[p0] ty2 (0,0))) (r6:W.heap[b+3]?=some (.cells #[q0] ty3 (0,0))) {C:World} (hC:(W.setCell ⟨b+1+1,0,none⟩ p).setCell ⟨b+1+1+1,0,none⟩ q=C) :
  C.heap[b+2]?=some (.cells #[p] ty2 (0,0))∧C.heap[b+3]?=some (.cells #[q] ty3 (0,0))∧(∀ {B:Nat} {w0:World},B≤b+1→Below B w0 W→Below B w0 C)∧C.heap.size=W.heap.size∧(∀ k,k≠b+2→k≠b+3→C.heap[k]?=W.heap[k]?):=by
 subst hC
 have hs:=fun (A:World) (b j:Nat) (v:Value) (k:Nat) (hk:k≠b)=>zJ A ⟨b,j,none⟩ v k hk
 refine⟨?_,?_,fun hB h=>?_,by simp,fun k h2 h3=>?_⟩
 ·rw[hs _ _ _ _ _ (by omega)]
  exact qi (t:=ty2) (cs:=#[p0]) r5 0 p
 ·refine qi (t:=ty3) (cs:=#[q0]) ?_ 0 q
  rw[hs _ _ _ _ _ (by omega)]
  exact r6
 ·exact Below.setCell (Below.setCell h (p:=⟨b+1+1,0,none⟩) (by simp;omega) _) (p:=⟨b+1+1+1,0,none⟩) (by simp;omega) _
 ·rw[hs _ _ _ _ _ (by omega),hs _ _ _ _ _ (by omega)]
theorem sm_now {S:Sto} {t:List UInt8} (h:∀ r:Nat,0<(S.now[r]?.getD 0).toNat→0<(t[r]?.getD 0).toNat):SM S (qw S t) where
 node r nd e:=by
  unfold qu at e ⊢
  split at e
  ·cases e
  ·rename_i h1
   rw[if_neg (by have:=h r (by omega);simp only;omega)]
   exact e
 pos:=h
theorem ZA {t:List UInt8} {a:Nat} (h:Qj t=true) (ha:8≤a) (v:UInt8):Qj (t.set a v)=true:=by
 unfold Qj at *
 simp only[Bool.and_eq_true,decide_eq_true_eq] at *
 refine⟨by rw[List.length_set];exact h.1,?_⟩
 rw[List.take_set_of_le ha]
 exact h.2
theorem qz {S:Sto}:qm S=true↔je S.bs S.ws=true∧Qj S.now=true∧Qj S.last=true:=by unfold qm;simp[Bool.and_eq_true]
theorem may_put {S:Sto} (h:qm S=true) {a:Nat} (ha:8≤a) (ha2:a<256) {l:List UInt8} (hl:l.length=128) (hw:S.ws.length≠4096):qm (Kp S a l)=true:=by
 obtain⟨h1,h2,h3⟩:=qz.1 h
 refine qz.2 ⟨?_,ZA h2 ha 1,h3⟩
 unfold je headD at *
 simp only[Bool.and_eq_true,decide_eq_true_eq,Kp,List.length_append,List.length_singleton,List.all_append,List.all_cons,List.all_nil,Bool.and_true] at *
 obtain⟨⟨g1,g2⟩,g3,g4⟩:=h1
 refine⟨⟨g1,by omega⟩,g3,g4,?_⟩
 unfold wrOk
 exact decide_eq_true ⟨by simp,by simp;omega,hl⟩
theorem qaB {S:Sto} (h:¬QQ S=[]):QS S<256:=by
 have hmem:QS S∈jB S 256:=by
  show QS S∈QQ S
  unfold QS
  rcases hf:QQ S with _|⟨x,r⟩
  ·exact absurd hf h
  ·simp
 simpa using (List.mem_filter.1 hmem).1
theorem qal {t:List UInt8} (h:Qj t=true):t.length=256:=by
 unfold Qj at h
 simp only[Bool.and_eq_true,decide_eq_true_eq] at h
 exact h.1
theorem qeG {t:List UInt8} (h:Qj t=true):Qh t 0=0:=by
 have hl:=qal h
 unfold Qj at h
 simp only[Bool.and_eq_true] at h
 rcases t with _|⟨x,r⟩
 ·simp at hl
 ·have:=h.2
  simp[kE] at this
  simp[Qh,this.1]
theorem qgk {t t':List UInt8} {a:Nat} (ha:a=0∨8≤a) (h:Qj t=true) (e:Jy t a=.ok t'):Qj t'=true:=by
 unfold Jy at e
 split at e
 ·cases e;exact h
 ·split at e
  ·cases e
  ·split at e
   ·cases e
   ·cases e
    exact ZA h (by omega) _
theorem qaf:∀ {l:List Nat} {t t':List UInt8},(∀ a∈l,a=0∨8≤a)→Qj t=true→ZG l t=.ok t'→Qj t'=true
 | [],t,t',_,h,e=>by cases e;exact h
 |a :: l,t,t',hl,h,e=>by
  simp only[ZG] at e
  split at e
  ·cases e
  ·rename_i t1 e1
   exact qaf (fun b hb=>hl b (List.mem_cons_of_mem _ hb)) (qgk (hl a List.mem_cons_self) h e1) e
theorem Jv:∀ {l:List Nat} {t t':List UInt8},(∀ a∈l,a=0∨8≤a)→Qj t=true→QI l t=.ok t'→Qj t'=true
 | [],t,t',_,h,e=>by cases e;exact h
 |a :: l,t,t',hl,h,e=>by
  by_cases ha:a=0
  ·subst ha
   rw[Ja] at e
   exact Jv (fun b hb=>hl b (List.mem_cons_of_mem _ hb)) h e
  ·by_cases h0:Qh t a=0
   ·rw[Ju ha h0] at e;cases e
   ·rw[jZ ha h0] at e
    exact Jv (fun b hb=>hl b (List.mem_cons_of_mem _ hb)) (ZA h (by have:=hl a List.mem_cons_self;omega) _) e
theorem qhg {its:List It} (h:∀ x∈its,itB x.r x.val.length=true):∀ a∈qV its,(a=0∨8≤a)∧a<256:=fun a ha=>by
 obtain⟨x,hx,rfl⟩:=List.mem_map.1 ha
 have:=h x hx
 unfold itB at this
 simp only[decide_eq_true_eq] at this
 omega
theorem Yr {S:Sto} {a:Nat} {lvl:Int} {xs:List It} (h:qu S a=some (lvl,xs)):∀ r∈qV xs,(r=0∨8≤r)∧r<256:=qhg fun x hx=>((Qa h).2.1 x hx).2
theorem qdX {S S':Sto} {lvl:Int} {its:List It} {f:Nat} (hS:qm S=true) (h:zX S lvl its=.ok (f,S')):∃ t,Qe lvl its=true∧ZG (qV its) S.now=.ok t∧S.ws.length≠4096∧8≤f∧f<256∧ZL (qw S t) f=true∧S'=Kp (qw S t) f (jh (zP lvl its))∧Qj t=true:=by
 unfold zX at h
 split at h
 ·rename_i hm
  split at h
  ·cases h
  ·rename_i t ht
   split at h
   ·cases h
   ·rename_i hn
    cases h
    have h1:QQ (qw S t)≠[]:=fun e=>hn (.inl e)
    have hmem:QS (qw S t)∈QQ (qw S t):=by
     unfold QS
     cases e:QQ (qw S t) with
     |nil=>exact absurd e h1
     |cons a l=>exact List.mem_cons_self
    have hfb:ZL (qw S t) (QS (qw S t))=true:=by
     have:=List.mem_filter.1 (show QS (qw S t)∈(List.range 256).filter (ZL (qw S t)) from hmem)
     exact this.2
    have h8:8≤QS (qw S t):=by
     unfold ZL at hfb
     simp only[Bool.and_eq_true,decide_eq_true_eq] at hfb
     exact hfb.1
    exact⟨t,hm,ht,fun e=>hn (.inr e),h8,qaB h1,hfb,rfl,qaf (fun a ha=>(qhg (jH hm).2.2.2 a ha).1) (qz.1 hS).2.1 ht⟩
 ·cases h
theorem Yq {S S':Sto} {lvl:Int} {its:List It} {f:Nat} (hio:∀ x∈its,ZY x) (hS:qm S=true) (h:zX S lvl its=.ok (f,S')):qm S'=true∧8≤f∧f<256∧S'.ws.length≤4096:=by
 obtain⟨t,hm,ht,hw,h8,hf,hfb,rfl,htm⟩:=qdX hS h
 have hl:(jh (zP lvl its)).length=128:=vK (by
  have:=Kj lvl its.length its.length hio (jH hm).2.2.1
  rw[Ki] at this
  omega)
 have h1:=may_put (S:=qw S t) (qz.2 ⟨(qz.1 hS).1,htm,(qz.1 hS).2.2⟩) h8 hf hl hw
 exact⟨h1,h8,hf,(qU h1).2.1⟩
theorem UT {S:Sto} (hS:qm S=true) {t:List UInt8} (ht:Qj t=true):qm (qw S t)=true:=qz.2 ⟨(qz.1 hS).1,ht,(qz.1 hS).2.2⟩
theorem GB {S:Sto}:∀ (h:Nat) {lvl:Int} {t t':List UInt8} {a:Nat},(8≤a∨Qh t a=0)→Qj t=true→vS S h lvl t a=some t'→Qj t'=true
 |0,lvl,t,t',a,_,_,e=>by cases e
 |h+1,lvl,t,t',a,ha,ht,e=>by
  rw[Vu] at e
  split at e
  ·cases e
  ·rename_i h0
   have ha8:8≤a:=by omega
   split at e
   ·cases e
    exact ZA ht ha8 _
   ·split at e
    ·cases e
    ·rename_i l xs hn
     have hr:=Yr hn
     have ht0:=ZA ht ha8 0
     split at e
     ·cases e
     ·split at e
      ·have key:∀ (rs:List Nat),(∀ r∈rs,(r=0∨8≤r)∧r<256)→∀ (o:Option (List UInt8)),(∀ u,o=some u→Qj u=true)→rs.foldl (fun acc r=>acc.bind fun t=>vS S h (l-1) t r) o=some t'→Qj t'=true:=by
        intro rs
        induction rs with
        |nil=>intro _ o ho e;exact ho _ e
        |cons r rs ih =>
         intro hrs o ho e
         rw[List.foldl_cons] at e
         refine ih (fun q hq=>hrs q (List.mem_cons_of_mem _ hq)) _ (fun u hu=>?_) e
         cases o with
         |none=>cases hu
         |some t1 =>
          have h1:=ho t1 rfl
          refine GB h (a:=r) ?_ h1 hu
          rcases(hrs r List.mem_cons_self).1 with rfl|h8
          ·right
           exact qeG h1
          ·exact .inl h8
       exact key _ hr _ (fun u hu=>by cases hu;exact ht0) e
      ·split at e
       ·cases e
       ·rename_i t1 e1
        cases e
        exact Jv (fun a ha=>(hr a ha).1) ht0 e1
theorem kZ {S:Sto} {lvl:Int} {t t':List UInt8} {a:Nat} (ha:8≤a) (ht:Qj t=true) (e:QH S lvl t a=some t'):Qj t'=true:=GB 7 (.inl ha) ht e
theorem qbt {lvl:Int}:∀ {ps:List (List It)} {S S':Sto} {up:List It},(∀ p∈ps,∀ x∈p,ZY x)→qm S=true→ZT lvl ps S=.ok (up,S')→qm S'=true∧up.length=ps.length∧∀ y∈up,(∃ f:Nat,y.r=(f:Int)∧8≤f∧f<256)∧y.val=[]∧∃ p∈ps,qE y=TE p
 | [],S,S',up,_,hS,e=>by
  cases e
  exact⟨hS,rfl,fun y hy=>by cases hy⟩
 |p :: ps,S,S',up,hp,hS,e=>by
  simp only[ZT] at e
  split at e
  ·cases e
  ·rename_i f S1 e1
   obtain⟨h1,h8,hf,_⟩:=Yq (hp p List.mem_cons_self) hS e1
   split at e
   ·cases e
   ·rename_i up1 S2 e2
    cases e
    obtain⟨g1,g2,g3⟩:=qbt (fun q hq=>hp q (List.mem_cons_of_mem _ hq)) h1 e2
    refine⟨g1,by simp[g2],fun y hy=>?_⟩
    rcases List.mem_cons.1 hy with rfl|hy
    ·exact⟨⟨f,rfl,h8,hf⟩,rfl,p,List.mem_cons_self,rfl⟩
    ·obtain⟨k1,k2,q,hq,k3⟩:=g3 y hy
     exact⟨k1,k2,q,List.mem_cons_of_mem _ hq,k3⟩
theorem qem {l:List It} (h:∀ x∈l,ZY x):∀ p∈vy l,∀ x∈p,ZY x:=fun p hp x hx=>by
 unfold vy at hp
 split at hp
 ·simp only[List.mem_cons,List.not_mem_nil,or_false] at hp
  rcases hp with rfl|rfl
  ·exact h x (List.mem_of_mem_take hx)
  ·exact h x (List.mem_of_mem_drop hx)
 ·simp only[List.mem_cons,List.not_mem_nil,or_false] at hp
  subst hp
  exact h x hx
theorem key0_ok {p:List It} (h:∀ x∈p,ZY x):(0≤(TE p).1∧(TE p).1<256)∧(0≤(TE p).2.1∧(TE p).2.1<4294967296)∧(0≤(TE p).2.2∧(TE p).2.2<4294967296):=by
 cases p with
 |nil=>exact⟨⟨by decide,by decide⟩,⟨by decide,by decide⟩,by decide,by decide⟩
 |cons x r =>
  obtain⟨h1,h2,h3,_⟩:=h x List.mem_cons_self
  exact⟨h1,h2,h3⟩
end Go.Proofs.YtpbniokljofedaaGreat
