/- Texts StepsW, CopyK, ItRep, BuildW, Mono, PCheck, Has, PoolW, Data, VolS, Roomy, Lay1, Lay, PutS, MayE, joined. -/
import Derived.Lib.AppendZerosOnto
import Derived.Lib.Overlaps
import Derived.WalkMore
import Derived.Defers
import Derived.Test.YtpbniokljofedaaGreatZA01
import Derived.Test.YtpbniokljofedaaGreatZA03
import Derived.Test.YtpbniokljofedaaGreatZA08
import Derived.Test.YtpbniokljofedaaGreatZA10
import Derived.Test.YtpbniokljofedaaGreatZA14
import Derived.Test.YtpbniokljofedaaGreatZA16
import Derived.Test.YtpbniokljofedaaGreatZA17
import Derived.Test.YtpbniokljofedaaGreatZA18
import Derived.Test.YtpbniokljofedaaGreatZA19
set_option linter.unusedSimpArgs false
set_option linter.unusedVariables false
namespace Go.Proofs.YtpbniokljofedaaGreat
open Go.RowKit
theorem Tryz.info_step:(Tryz.prog.info? 160).map (fun i=>(i.zero,i.size,i.bytes))=some (some (.agg #[.int .i64 0,.slice none 0 0,.int .i64 0]),3,40):=by kernel_rfl
abbrev Stp:=Nat×List It×Nat
def Zv:List (Stp×Value)→List Value
 | []=>[]
 |p :: r=>.int .i64 (p.1.1:Int) :: p.2 :: .int .i64 (p.1.2.2:Int) :: Zv r
theorem qbl (ps:List (Stp×Value)) (p:Stp×Value):Zv (ps++[p])=Zv ps++[.int .i64 (p.1.1:Int),p.2,.int .i64 (p.1.2.2:Int)]:=by
 induction ps with
 |nil=>rfl
 |cons a r ih=>simp[Zv,ih]
theorem Kc (ps:List (Stp×Value)):∀ i (h:i<ps.length),(Zv ps)[i*3]?=some (.int .i64 (ps[i].1.1:Int))∧(Zv ps)[i*3+1]?=some ps[i].2∧(Zv ps)[i*3+2]?=some (.int .i64 (ps[i].1.2.2:Int)):=by
 induction ps with
 |nil=>intro i h;simp at h
 |cons p r ih =>
  intro i h
  rcases i with _|i
  ·simp[Zv]
  ·have:=ih i (by simpa using h)
   rw[show (i+1)*3=i*3+1+1+1 by omega]
   simpa [Zv,Nat.add_assoc] using this
def OwnX (v:Value) (q:Nat):Prop:=v.ownBlock=some q
def OwnL (lo:Nat) (v:Value) (q:Nat):Prop:=v.ownBlock=some q∨q<lo
def Xa (X:Nat→Prop) (w:World) (v:Value) (ips:List (It×Value)):Prop:=(∃ A c,v=.slice A ips.length c∧ips.length≤c∧c≤maxLen∧∀ C,qP X w C→Rd C C.heap.size 5 A ips.length (qI ips)) ∧
 ∀ p∈ips,(∃ A c,p.2=.slice A p.1.val.length c)∧∀ C,qP X w C→Bys C C.heap.size p.2 p.1.val
theorem Xa.its {X:Nat→Prop} {w:World} {v:Value} {ips:List (It×Value)} (h:Xa X w v ips) {C:World} (hC:qP X w C):Its C C.heap.size v (ips.map (·.1)):=by
 obtain⟨⟨A,c,e,h1,h2,hr⟩,hp⟩:=h
 exact⟨ips,rfl,⟨A,c,by rw[List.length_map];exact e,by rw[List.length_map];exact h1,h2,by rw[List.length_map];exact hr C hC⟩,fun p hpm=>⟨(hp p hpm).1,(hp p hpm).2 C hC⟩⟩
theorem Xa.trans {X Y:Nat→Prop} {w W:World} {v:Value} {ips:List (It×Value)} (h:Xa X w v ips) (hk:qP X w W) (hY:∀ k,k<w.heap.size→Y k→X k):Xa Y W v ips:=by
 obtain⟨⟨A,c,e,h1,h2,hr⟩,hp⟩:=h
 exact⟨⟨A,c,e,h1,h2,fun C hC=>hr C (hk.trans hC hY)⟩,fun p hpm=>⟨(hp p hpm).1,fun C hC=>(hp p hpm).2 C (hk.trans hC hY)⟩⟩
def jd (lo:Nat) (w:World) (v:Value) (l:List Stp):Prop:=∃ ps:List (Stp×Value),ps.map (·.1)=l∧w.ownsRow lo 160 3 v l.length (Zv ps)∧∀ p∈ps,∃ ips,ips.map (·.1)=p.1.2.1∧Xa (OwnL lo v) w p.2 ips
def KC (lo:Nat) (w:World) (v:Value) (l:List Stp):Prop:=∃ ps:List (Stp×Value),ps.map (·.1)=l∧(∃ A c,v=.slice A l.length c∧l.length≤c∧c≤maxLen∧∀ C,qP (fun q=>q<lo) w C→Rd C C.heap.size 3 A l.length (Zv ps))∧∀ p∈ps,∃ ips,ips.map (·.1)=p.1.2.1∧Xa (fun q=>q<lo) w p.2 ips
def vJ (B:Nat) (w:World) (v:Value) (l:List Stp):Prop:=∃ ps:List (Stp×Value),ps.map (·.1)=l∧(∃ A c,v=.slice A l.length c∧l.length≤c∧c≤maxLen∧Rd w B 3 A l.length (Zv ps))∧∀ p∈ps,(∃ A c,p.2=.slice A p.1.2.1.length c)∧Its w B p.2 p.1.2.1
theorem Rd.keepFrom {X:Nat→Prop} {w C:World} {B size n lo:Nat} {A:Option Addr} {xs:List Value} (h:Rd w B size A n xs) (hs:0<size) (hf:∀ a,A=some a→lo≤a.block) (hk:qP X w C) (hX:∀ q,lo≤q→¬X q):Rd C C.heap.size size A n xs:=⟨h.1,fun hn=>by
 obtain⟨b,off,e,hb,hc⟩:=h.2 hn
 have h1:lo≤b:=hf _ e
 have hl:0<xs.length:=by rw[h.1];exact Nat.mul_pos hn hs
 exact⟨b,off,e,World.block_lt_of_cell? C ⟨b,off+0,none⟩ (hk _ _ (hX b h1) (hc 0 _ (List.getElem?_eq_getElem hl))),fun j u hu=>hk _ _ (hX b h1) (hc j u hu)⟩⟩
theorem jd.toE {lo:Nat} {w:World} {v:Value} {l:List Stp} (h:jd lo w v l):KC lo w v l:=by
 obtain⟨ps,e,ho,hp⟩:=h
 obtain⟨A,c,rfl,h1,h2⟩:=qJ ho
 have hf:=zm.of_own ho
 refine⟨ps,e,⟨A,c,rfl,h1,h2,fun C hC=>(Rd.of_own ho).keepFrom (by omega) (fun a ha=>hf a _ _ (by rw[ha])) hC fun q hq hx=>by omega⟩,fun p hpm=>?_⟩
 obtain⟨ips,e1,hi⟩:=hp p hpm
 exact⟨ips,e1,hi.trans (qP.refl _ _) fun k _ hk=>.inr hk⟩
theorem KC.mono {lo lo':Nat} {w:World} {v:Value} {l:List Stp} (h:KC lo w v l) (hl:lo'≤lo):KC lo' w v l:=by
 obtain⟨ps,e,⟨A,c,rfl,h1,h2,hr⟩,hp⟩:=h
 have hm:∀ {C},qP (fun q=>q<lo') w C→qP (fun q=>q<lo) w C:=fun hC=>hC.mono fun q _ hq=>by omega
 refine⟨ps,e,⟨A,c,rfl,h1,h2,fun C hC=>hr C (hm hC)⟩,fun p hpm=>?_⟩
 obtain⟨ips,e1,⟨A',c',f1,f2,f3,f4⟩,f5⟩:=hp p hpm
 exact⟨ips,e1,⟨A',c',f1,f2,f3,fun C hC=>f4 C (hm hC)⟩,fun q hq=>⟨(f5 q hq).1,fun C hC=>(f5 q hq).2 C (hm hC)⟩⟩
theorem Xa.shape {X:Nat→Prop} {w:World} {v:Value} {ips:List (It×Value)} {xs:List It} (h:Xa X w v ips) (e:ips.map (·.1)=xs):∃ A c,v=.slice A xs.length c:=by
 obtain⟨⟨A,c,e1,_⟩,_⟩:=h
 exact⟨A,c,by rw[e1,←e,List.length_map]⟩
theorem KC.read {lo:Nat} {w C:World} {v:Value} {l:List Stp} (h:KC lo w v l) (hC:qP (fun q=>q<lo) w C):vJ C.heap.size C v l:=by
 obtain⟨ps,e,⟨A,c,rfl,h1,h2,hr⟩,hp⟩:=h
 refine⟨ps,e,⟨A,c,rfl,h1,h2,hr C hC⟩,fun p hpm=>?_⟩
 obtain⟨ips,e1,hi⟩:=hp p hpm
 exact⟨hi.shape e1,by rw[←e1];exact hi.its hC⟩
theorem vJ.below {B:Nat} {w w':World} {v:Value} {l:List Stp} (h:vJ B w v l) (hb:Below B w w'):vJ B w' v l:=by
 obtain⟨ps,e,⟨A,c,e1,e2,e3,hr⟩,hp⟩:=h
 exact⟨ps,e,⟨A,c,e1,e2,e3,hr.below hb⟩,fun p h=>⟨(hp p h).1,(hp p h).2.below hb⟩⟩
theorem vJ.more {B B':Nat} {w:World} {v:Value} {l:List Stp} (h:vJ B w v l) (hb:B≤B'):vJ B' w v l:=by
 obtain⟨ps,e,⟨A,c,e1,e2,e3,hr⟩,hp⟩:=h
 exact⟨ps,e,⟨A,c,e1,e2,e3,hr.more hb⟩,fun p h=>⟨(hp p h).1,(hp p h).2.more hb⟩⟩
theorem jd.nil (lo:Nat) (w:World):jd lo w (.slice none 0 0) []:=⟨[],rfl,World.ownsRow_nil _ _ _ _,fun p h=>by cases h⟩
theorem jd.ext {lo:Nat} {w w':World} {v:Value} {l:List Stp} (h:jd lo w v l) (hx:Ext w w'):jd lo w' v l:=by
 obtain⟨ps,e,ho,hp⟩:=h
 refine⟨ps,e,Zl ho fun q hq=>Below.block hx q (QM ho q hq).2,fun p hpm=>?_⟩
 obtain⟨ips,e1,hi⟩:=hp p hpm
 exact⟨ips,e1,hi.trans (qP.of_ext hx) fun _ _ h=>h⟩
theorem jd.push {lo:Nat} {w w':World} {v v':Value} {l:List Stp} {s:Stp} {u:Value} {ps:List (Stp×Value)} {ips:List (It×Value)} (hlo:lo≤w.heap.size) (e:ps.map (·.1)=l) (hp:∀ p∈ps,∃ ips,ips.map (·.1)=p.1.2.1∧Xa (OwnL lo v) w p.2 ips) (hu:ips.map (·.1)=s.2.1) (hs:Xa (OwnL lo v) w u ips)
  (ho:w'.ownsRow lo 160 3 v' (l.length+1) (Zv ps++[.int .i64 (s.1:Int),u,.int .i64 (s.2.2:Int)])) (hg:w.grownBy w' v.ownBlock) (hat:v'.ownBlock=v.ownBlock∨∃ g,v'.ownBlock=some g∧w.heap.size≤g):jd lo w' v' (l++[s]):=by
 have hk:qP (OwnL lo v) w w':=qP.of_heap fun q hq hX=>hg.block q hq fun e=>hX (.inl e.symm)
 have hy:∀ q,q<w.heap.size→OwnL lo v' q→OwnL lo v q:=fun q hq hx=>by
  rcases hx with hx|hx
  ·rcases hat with e1|⟨g,e1,e2⟩
   ·left;rw[←e1];exact hx
   ·rw[e1] at hx;cases hx;omega
  ·exact .inr hx
 refine⟨ps++[(s,u)],by simp[e],?_,fun p hpm=>?_⟩
 ·rw[List.length_append,List.length_singleton,qbl]
  exact ho
 ·rcases List.mem_append.1 hpm with hpm|hpm
  ·obtain⟨ips',e1,hi⟩:=hp p hpm
   exact⟨ips',e1,hi.trans hk hy⟩
  ·obtain rfl:p=(s,u):=by simpa using hpm
   exact⟨ips,hu,hs.trans hk hy⟩
theorem Zp.toE {lo:Nat} {w:World} {v:Value} {xs:List It} (h:Zp lo w v xs) {X:Nat→Prop} (hX:∀ q,lo≤q→¬X q):∃ ips,ips.map (·.1)=xs∧Xa X w v ips:=by
 obtain⟨ps,e1,⟨A,c,e2,e3,e4,hr⟩,hp,hf,hg⟩:=h
 have el:xs.length=ps.length:=by rw[←e1,List.length_map]
 rw[el] at e2 e3 hr
 refine⟨ps,e1,⟨A,c,e2,e3,e4,fun C hC=>hr.keepFrom (by omega) (fun a ha=>hf a _ _ (by rw[e2,ha])) hC hX⟩,fun p hpm=>⟨(hp p hpm).1,fun C hC=>?_⟩⟩
 obtain⟨A',c',f1,f2,f3,f4⟩:=(hp p hpm).2
 exact⟨A',c',f1,f2,f3,f4.keepFrom (by omega) (fun a ha=>hg p hpm a _ _ (by rw[f1,ha])) hC hX⟩
theorem Zp.keepX {X:Nat→Prop} {w C:World} {lo:Nat} {v:Value} {xs:List It} (h:Zp lo w v xs) (hk:qP X w C) (hX:∀ q,lo≤q→¬X q):Its C C.heap.size v xs:=by
 obtain⟨ips,rfl,hi⟩:=h.toE hX
 exact hi.its hk
def kJ (xs:List It) (k:K3):Nat:=if Ke xs k=true then Qv xs k else Qv xs k-1
theorem qaw (S:Sto) (k:K3) (xs:List It):vK S k 0 xs=[(0,xs,Qv xs k)]:=rfl
theorem TE {S:Sto} {k:K3} {h:Nat} {xs zs:List It} {y:It} {l:Int} (hy:xs[kJ xs k]?=some y) (hn:qu S y.r.toNat=some (l,zs)):vK S k (h+1) xs=(h+1,xs,kJ xs k) :: vK S k h zs:=by
 show (h+1,xs,kJ xs k) :: (match xs[kJ xs k]? with
  |none=>[]
  |some y=>match qu S y.r.toNat with
   |none=>[]
   |some (_,ys)=>vK S k h ys)=_
 rw[hy]
 simp only
 rw[hn]
theorem jF {xs:List It} {k:K3} (h:0<xs.length):kJ xs k<xs.length:=by
 unfold kJ
 have:=kj xs k
 split
 ·rename_i hi
  by_cases hl:Qv xs k<xs.length
  ·exact hl
  ·rw[XW hl] at hi;cases hi
 ·omega
theorem qaa {h:Nat} {xs:List It} (hm:qX (h:Int) xs=true) (h1:0<h):0<xs.length:=by
 rcases Nat.eq_zero_or_pos xs.length with h0|h0
 ·exfalso
  have hhd:jj (h:Int) xs.length=true:=by unfold qX at hm;simp only[Bool.and_eq_true] at hm;exact hm.1
  unfold jj at hhd
  simp only[decide_eq_true_eq] at hhd
  exact hhd.2.2.2 (by omega) h0
 ·exact h0
theorem GM {S:Sto} {k:K3}:∀ (h:Nat) {xs:List It},qX (h:Int) xs=true→(qT S h xs).isSome=true→(vK S k h xs).length=h+1
 |0,xs,_,_=>rfl
 |h+1,xs,hm,hs=>by
  have hx:=qaa hm (by omega)
  obtain⟨b,e1,-,-,zs,e4,e5⟩:=jq (Jd hs _ (List.getElem_mem (jF (k:=k) hx)))
  rw[TE (List.getElem?_eq_getElem (jF hx)) (by rw[e1,Int.toNat_natCast];exact e4),List.length_cons,GM h (Qa e4).1 e5]
theorem Uy {P:Program} (w:World) (dT sT ty elem:TypeId) (g o dLen dCap:Nat) (a:Addr) (sLen sCap:Nat) (cur:Array Value) (t:TypeId) (cs:List Value) (k:Nat)
  (hu:P.underlying dT=some (.slice elem)) (hs:(P.info? elem).map (·.size)=some k) (hg:w.heap[g]?=some (.cells cur t (0,0))) (hn:cs.length=Nat.min sLen dLen*k)
  (hsrc:∀ j v,cs[j]?=some v→w.cell? (a.add j)=some v) (hfit:o+cs.length≤cur.size) (h1:∀ v∈cs,v.oneCell'=true) :
  (Builtin.copy_ #[dT,sT] ty #[.slice (some ⟨g,o,none⟩) dLen dCap,.slice (some a) sLen sCap]).run P w =
   .ok (.int .i64 (Nat.min sLen dLen:Nat)) (w.setRow g (cur.toList.take o++cs++cur.toList.drop (o+cs.length)).toArray):=by
 have hl:=run_loadCells_list (P:=P) w a cs hsrc
 have hst:=run_storeCells_at P g o t cs 0 cur w hg (by simpa using hfit) h1
 cases hq:P.info? elem with
 |none=>simp[hq] at hs
 |some i =>
  have hi:i.size=k:=by simpa [hq] using hs
  have hn':min sLen dLen*k=cs.length:=hn.symm
  simp[Builtin.copy_,run_underlying hu,Builtin.lenOf,Builtin.firstCells,sizeOf,typeInfo,hq,hi,hn',hl,hst]
  rfl
theorem take_mid {A V R:List Value} {a b:Nat} (h:A.length+V.length=a+b):(A++V++R).take (a+b)=A++V:=by
 rw[←h,←List.length_append]
 exact List.take_left
structure Gn (g cap n:Nat) (xs:List Value) (w:World):Prop where
 ex:∃ cur:Array Value,w.heap[g]?=some (.cells cur 68 (0,0))∧cur.size=cap*5∧cur.toList.take (n*5)=xs
theorem Gn.own {lo g cap n:Nat} {xs:List Value} {w:World} (h:Gn g cap n xs w) (hl:xs.length=n*5) (hlo:lo≤g) (hn:n≤cap) (hc:cap≤maxLen):w.ownsRow lo 68 5 (.slice (some ⟨g,0,none⟩) n cap) n xs:=by
 obtain⟨cur,h1,h2,h3⟩:=h.ex
 exact⟨hl,.inr ⟨g,cap,cur,rfl,hlo,h1,hn,hc,h2,h3⟩⟩
theorem Gn.cell {g cap n:Nat} {xs:List Value} {w:World} (h:Gn g cap n xs w) {j:Nat} {u:Value} (hu:xs[j]?=some u):w.cell? ⟨g,j,none⟩=some u:=by
 obtain⟨cur,h1,h2,h3⟩:=h.ex
 rw[qa h1,←Array.getElem?_toList]
 rw[←h3,List.getElem?_take] at hu
 split at hu
 ·exact hu
 ·cases hu
def spl (cur:Array Value) (o:Nat) (cs:List Value):Array Value:=(cur.toList.take (o*5)++cs++cur.toList.drop (o*5+cs.length)).toArray
theorem Qy {cur:Array Value} {o k:Nat} {cs:List Value} (hl:cs.length=k*5) (h:(o+k)*5≤cur.size):(spl cur o cs).size=cur.size:=by
 unfold spl
 simp only[List.size_toArray,List.length_append,List.length_take,List.length_drop,Array.length_toList]
 omega
theorem ZX {P:Program} {W:World} {g o k:Nat} {cur:Array Value} {cs:List Value} {dT sT ty:TypeId} {dLen dCap:Nat} {a:Addr} {sLen sCap:Nat} (hg:W.heap[g]?=some (.cells cur 68 (0,0))) (hl:cs.length=k*5) (h:(o+k)*5≤cur.size)
  (hu:P.underlying dT=some (.slice 68)) (hs:(P.info? 68).map (·.size)=some 5) (hk:Nat.min sLen dLen=k) (hsrc:∀ j v,cs[j]?=some v→W.cell? (a.add j)=some v) (h1:∀ v∈cs,v.oneCell'=true) :
  (Builtin.copy_ #[dT,sT] ty #[.slice (some ⟨g,o*5,none⟩) dLen dCap,.slice (some a) sLen sCap]).run P W=.ok (.int .i64 (k:Nat)) (W.setRow g (spl cur o cs)):=by
 have:=Uy (P:=P) W dT sT ty 68 g (o*5) dLen dCap a sLen sCap cur 68 cs 5 hu hs hg (by rw[hk,hl]) hsrc (by omega) h1
 rw[hk] at this
 exact this
theorem kO {cur:Array Value} {o k:Nat} {A cs:List Value} (hA:cur.toList.take (o*5)=A) (hl:cs.length=k*5) (h:(o+k)*5≤cur.size):(spl cur o cs).toList.take ((o+k)*5)=A++cs:=by
 unfold spl
 rw[List.toList_toArray,hA,Nat.add_mul]
 have:A.length=o*5:=by rw[←hA,List.length_take,Array.length_toList];omega
 exact take_mid (by omega)
theorem qeq {cur:Array Value} {n i m:Nat} {xs vs:List Value} (hc:cur.toList.take (n*5)=xs) (hx:xs.length=n*5) (hv:vs.length=m*5) (hi:i≤n) (h:(n+m)*5≤cur.size) :
  (spl (spl cur (i+m) (xs.drop (i*5))) i vs).toList.take ((n+m)*5)=xs.take (i*5)++vs++xs.drop (i*5):=by
 have hd:(xs.drop (i*5)).length=(n-i)*5:=by rw[List.length_drop];omega
 have e1:(spl cur (i+m) (xs.drop (i*5))).toList=cur.toList.take ((i+m)*5)++xs.drop (i*5)++cur.toList.drop ((i+m)*5+(xs.drop (i*5)).length):=by unfold spl;rw[List.toList_toArray]
 have hl1:(cur.toList.take ((i+m)*5)).length=(i+m)*5:=by rw[List.length_take,Array.length_toList];omega
 have e2:(spl cur (i+m) (xs.drop (i*5))).toList.take (i*5)=xs.take (i*5):=by
  rw[e1,List.append_assoc,List.take_append_of_le_length (by omega),List.take_take,Nat.min_eq_left (by omega),←hc,List.take_take,Nat.min_eq_left (by omega)]
 have e3:(spl cur (i+m) (xs.drop (i*5))).toList.drop (i*5+vs.length)=xs.drop (i*5)++cur.toList.drop ((i+m)*5+(xs.drop (i*5)).length):=by
  rw[e1,List.append_assoc]
  have:i*5+vs.length=(cur.toList.take ((i+m)*5)).length:=by omega
  rw[this]
  exact List.drop_left
 generalize hY:spl cur (i+m) (xs.drop (i*5))=Y at *
 unfold spl
 rw[List.toList_toArray,e2,e3,←List.append_assoc]
 have ht:(xs.take (i*5)).length=i*5:=by rw[List.length_take];omega
 have:(n+m)*5=(xs.take (i*5)++vs++xs.drop (i*5)).length:=by simp only[List.length_append];omega
 rw[this]
 exact List.take_left
set_option maxHeartbeats 1000000 in
set_option maxRecDepth 100000 in
theorem qbq (A:Option Addr) (n c:Nat) (us:List Value) (hn:n<1073741824) (h1:∀ u∈us,u.oneCell'=true) (w:World) (hr:Rd w w.heap.size 5 A n us) :
  Calls Tryz.prog 102 #[.slice A n c] w (zD (fun u w'=>w'.ownsRow w.heap.size 68 5 u n us) w):=by
 obtain⟨i0,hi,hz0,hz1,hz2⟩:=info_parts Tryz.info_item
 have qn:∀ (w:World) (a:Option Addr) (n c n' c':Nat),(binOp .eql 47 (.slice a n c) (.slice none n' c')).run Tryz.prog w=.ok (.bool a.isNone) w:=fun w a n c n' c'=>Lib.run_eql_slice_nil w _ _ a n c n' c' Tryz.underlying47
 rcases A with _|⟨b,off,p⟩
 ·have h0:n=0:=by
   rcases Nat.eq_zero_or_pos n with h|h
   ·exact h
   ·obtain⟨b,off,h,_⟩:=hr.2 h
    cases h
  subst h0
  obtain rfl:us=[]:=List.eq_nil_of_length_eq_zero (by simpa using hr.1)
  go_enter Tryz.func102,Tryz.ntmps102
  go_wp2
  go_ret
  exact⟨_,rfl,World.ownsRow_nil _ _ _ _,Below.refl _ _⟩
 ·go_enter Tryz.func102,Tryz.ntmps102
  go_wp2_with (at_builtin;refine qQ ?_)
  refine Qt.go (Qi _ rfl (.tmp 5) (.tmp 6) 47 rfl w.heap.size 68 i0 _ 5 48 Tryz.underlying47 hi hz0 hz1 hz2 rfl (by decide) _ 0 [] rfl ?_ w.heap.size _ n c us (by exact rfl) ?_ h1 (by omega) (by decide) (by simp) ?_)
  ·exact World.ownsRow_lit w #[] 0 (Nat.le_refl _) (by simp[maxLen]) rfl
  ·exact hr.keep fun p hp=>World.cell?_alloc_lt w _ p hp
  ·intro v' w' hown _ hb _
   simp only[Nat.zero_add,List.nil_append] at hown
   go_wp2
   go_ret
   exact⟨_,rfl,hown,Below.trans ((Below.refl _ _).alloc (Nat.le_refl _) _) hb⟩
def kt (lo:Nat) (s:Value) (k:Nat) (ys:List Value) (w:World) (e:Ending) (W:World):Prop:=∃ v',e=.returned v'∧W.ownsRow lo 68 5 v' k ys∧Below lo w W∧∀ q,q<w.heap.size→s.ownBlock≠some q→W.heap[q]?=w.heap[q]?
theorem QQ {lo g:Nat} {w W:World} (h:Below lo w W) (hlo:lo≤w.heap.size) (hg:lo≤g) (cur:Array Value):Below lo w (W.setRow g cur):=
 h.grown (Yh W g cur) (by have:=h.size;omega) (fun k hk=>by cases hk;exact hg)
theorem qar {w:World} {lo m c g:Nat} {e:TypeId} {vs:List Value} (h:w.ownsRow lo e 5 (.slice (some ⟨g,0,none⟩) m c) m vs):∀ j u,vs[j]?=some u→w.cell? ((⟨g,0,none⟩:Addr).add j)=some u:=fun j u hu=>by
 rcases h.2 with ⟨h0,_⟩|⟨g',cap,cur,hv,hb,hg,hnc,_,hsz,htk⟩
 ·cases h0
 ·cases hv
  rw[Addr.add_lit,Nat.zero_add,qa hg,←Array.getElem?_toList]
  rw[←htk,List.getElem?_take] at hu
  split at hu
  ·exact hu
  ·cases hu
theorem Xp (ps:List (It×Value)):∀ k,qI (ps.drop k)=(qI ps).drop (k*5):=by
 induction ps with
 |nil=>intro k;simp[qI]
 |cons p r ih =>
  intro k
  rcases k with _|k
  ·simp[qI]
  ·rw[List.drop_succ_cons,show (k+1)*5=k*5+1+1+1+1+1 by omega]
   simp only[qI,List.drop_succ_cons,ih k]
theorem Tb (ps:List (It×Value)) (h:∀ p∈ps,p.2.oneCell'=true):∀ u∈qI ps,u.oneCell'=true:=by
 induction ps with
 |nil=>intro u hu;cases hu
 |cons p r ih =>
  intro u hu
  simp only[qI,List.mem_cons] at hu
  rcases hu with rfl|rfl|rfl|rfl|rfl|hu
  ·rfl
  ·rfl
  ·rfl
  ·rfl
  ·exact h p List.mem_cons_self
  ·exact ih (fun q hq=>h q (List.mem_cons_of_mem _ hq)) u hu
theorem Its.take {w:World} {B b off n c:Nat} {xs:List It} (h:Its w B (.slice (some ⟨b,off,none⟩) n c) xs) {k:Nat} (hk:k≤xs.length):Its w B (.slice (some ⟨b,off,none⟩) k c) (xs.take k):=by
 obtain⟨ps,rfl,⟨A,c',e,h1,h2,hr⟩,hp⟩:=h
 cases e
 have hk':k≤ps.length:=by simpa using hk
 refine⟨ps.take k,by rw[List.map_take],⟨_,c,by rw[List.length_take,Nat.min_eq_left hk],by rw[List.length_take];omega,h2,?_⟩,fun p hpm=>hp p (List.mem_of_mem_take hpm)⟩
 rw[List.length_take,Nat.min_eq_left hk]
 rw[←Xw]
 refine⟨by rw[List.length_take,hr.1,List.length_map];omega,fun hn=>?_⟩
 obtain⟨b',off',e,hb,hc⟩:=hr.2 (by omega)
 exact⟨b',off',e,hb,fun j u hu=>hc j u (by rw[List.getElem?_take] at hu;split at hu;exact hu;cases hu)⟩
theorem Its.drop {w:World} {B b off n c:Nat} {xs:List It} (h:Its w B (.slice (some ⟨b,off,none⟩) n c) xs) {k:Nat} (hk:k<xs.length):Its w B (.slice (some ⟨b,off+k*5,none⟩) (n-k) (c-k)) (xs.drop k):=by
 obtain⟨ps,rfl,⟨A,c',e,h1,h2,hr⟩,hp⟩:=h
 cases e
 have hk':k<ps.length:=by simpa using hk
 refine⟨ps.drop k,by rw[List.map_drop],⟨_,c-k,by rw[List.length_drop],by rw[List.length_drop];omega,by omega,?_⟩,fun p hpm=>hp p (List.mem_of_mem_drop hpm)⟩
 rw[List.length_drop,Xp]
 refine⟨by rw[List.length_drop,hr.1,List.length_map];omega,fun hn=>?_⟩
 obtain⟨b',off',e,hb,hc⟩:=hr.2 (by omega)
 cases e
 exact⟨b,off+k*5,rfl,hb,fun j u hu=>by
  rw[List.getElem?_drop] at hu
  rw[Nat.add_assoc]
  exact hc _ _ hu⟩
theorem vk.take {X:Nat→Prop} {w:World} {b off n c:Nat} {xs:List It} (h:vk X w (.slice (some ⟨b,off,none⟩) n c) xs) {k:Nat} (hk:k≤xs.length):vk X w (.slice (some ⟨b,off,none⟩) k c) (xs.take k):=fun C hC=>(h C hC).take hk
theorem vk.drop {X:Nat→Prop} {w:World} {b off n c:Nat} {xs:List It} (h:vk X w (.slice (some ⟨b,off,none⟩) n c) xs) {k:Nat} (hk:k<xs.length):vk X w (.slice (some ⟨b,off+k*5,none⟩) (n-k) (c-k)) (xs.drop k):=fun C hC=>(h C hC).drop hk
theorem Bch.notB3 {D:Nat→Prop} {B lo b g:Nat} {k:Option Nat} {S:Sto} {w:World} (h:Bch D B lo b g k S w) {q:Nat} {cs:Array Value} {ty:TypeId} {fr:Nat×Nat} (hr:w.heap[q]?=some (.cells cs ty fr)) (h1:ty≠191) (h2:ty≠5) (h3:ty≠130):¬B3 b g k q:=fun hx=>by
 obtain⟨A1,n1,c1,v2,c3,A4,c4,hro,ho,⟨ps,_,hw,_⟩,_,_⟩:=h.ex
 rcases hx with e|e|e
 ·subst e
  rw[hr] at hro
  simp only[Option.some.injEq,Obj.cells.injEq] at hro
  exact h1 hro.2.1
 ·subst e
  obtain⟨cur,hg⟩:=jf ho (q:=q) rfl
  rw[hr] at hg
  simp only[Option.some.injEq,Obj.cells.injEq] at hg
  exact h2 hg.2.1
 ·rcases hw with ⟨e1,_⟩|⟨q',e1,e2,how⟩
  ·rw[e1] at e;cases e
  ·rw[e1] at e
   cases e
   obtain⟨cur,hg⟩:=jf how e2
   rw[hr] at hg
   simp only[Option.some.injEq,Obj.cells.injEq] at hg
   exact h3 hg.2.1
def upV (ups:List It):List (It×Value):=ups.map fun x=>(x,.slice none 0 0)
theorem upV_item (ups:List It) (x:It):qI (upV (ups++[x]))=qI (upV ups)++[.int .u8 x.k,.int .u32 x.i,.int .u32 x.o,.int .i64 x.r,.slice none 0 0]:=by
 unfold upV
 rw[List.map_append,jM]
 rfl
theorem qck {t:List UInt8} {a:Nat} {e:Int} (h:jH t a=.error e):e≠0:=by
 unfold jH at h
 split at h
 ·cases h
 ·split at h
  ·cases h;decide
  ·split at h
   ·cases h;decide
   ·cases h
theorem Ti:∀ {l:List Nat} {t:List UInt8} {e:Int},Zg l t=.error e→e≠0
 | [],t,e,h=>by cases h
 |a :: l,t,e,h=>by
  simp only[Zg] at h
  split at h
  ·rename_i e' h'
   cases h
   exact qck h'
  ·exact Ti h
theorem YL {S:Sto} {lvl:Int} {its:List It} {e:Int} (h:zu S lvl its=.error e):e≠0:=by
 unfold zu at h
 split at h
 ·split at h
  ·rename_i e' h'
   cases h
   exact Ti h'
  ·split at h
   ·cases h;decide
   ·cases h
 ·cases h;decide
theorem Vz (lvl:Int):∀ (ps qs:List (List It)) (S:Sto),ZR lvl (ps++qs) S=match ZR lvl ps S with
  | .error e=>.error e
  | .ok (up,S')=>match ZR lvl qs S' with
   | .error e=>.error e
   | .ok (up',S'')=>.ok (up++up',S'')
 | [],qs,S=>by
  simp only[List.nil_append,ZR]
  rcases ZR lvl qs S with e|⟨up,S'⟩ <;> rfl
 |p :: ps,qs,S=>by
  simp only[List.cons_append,ZR]
  rcases zu S lvl p with e|⟨f,S'⟩
  ·rfl
  ·simp only
   rw[Vz lvl ps qs S']
   rcases ZR lvl ps S' with e|⟨up,S''⟩
   ·rfl
   ·simp only
    rcases ZR lvl qs S'' with e|⟨up',S3⟩ <;> rfl
theorem qej (lvl:Int) (p:List It) (S:Sto):ZR lvl [p] S=match zu S lvl p with
  | .error e=>.error e
  | .ok (f,S')=>.ok ([mkIt (YS p) f],S'):=by
 simp only[ZR]
 rcases zu S lvl p with e|⟨f,S'⟩ <;> rfl
theorem qeb {lvl:Int} {ps:List (List It)} {j:Nat} (hj:j<ps.length) {S S':Sto} {up:List It} {e:Int} (h:ZR lvl (ps.take j) S=.ok (up,S')) (h1:zu S' lvl ps[j]=.error e):ZR lvl ps S=.error e:=by
 have:ps=ps.take j++(ps[j] :: ps.drop (j+1)):=by rw[←List.drop_eq_getElem_cons hj,List.take_append_drop]
 rw[this,Vz,h]
 simp only[ZR]
 rw[h1]
theorem qcu {lvl:Int} {ps:List (List It)} {j:Nat} (hj:j<ps.length) {S S' S'':Sto} {up:List It} {f:Nat} (h:ZR lvl (ps.take j) S=.ok (up,S')) (h1:zu S' lvl ps[j]=.ok (f,S'')):ZR lvl (ps.take (j+1)) S=.ok (up++[mkIt (YS ps[j]) f],S''):=by
 rw[List.take_succ_eq_append_getElem hj,Vz,h]
 simp only
 rw[qej,h1]
theorem qcH {its:List It} (k:Nat):Qb its=Qb (its.take k)++Qb (its.drop k):=by
 unfold Qb
 rw[←List.map_append,List.take_append_drop]
theorem Tr {its:List It} {k:Nat} (hk:k<its.length) {t t':List UInt8} (h:QD (Qb (its.take k)) t=.ok t') (h0:its[k].r.toNat≠0) (h1:zL t' its[k].r.toNat=0):QD (Qb its) t=.error 6:=by
 rw[qcH (its:=its) k,ja,h]
 simp only
 rw[List.drop_eq_getElem_cons hk]
 exact JF h0 h1 _
theorem Xh {its:List It} {k:Nat} (hk:k<its.length) {t t':List UInt8} (h:QD (Qb (its.take k)) t=.ok t') (h0:its[k].r.toNat≠0) (h1:zL t' its[k].r.toNat≠0):QD (Qb (its.take (k+1))) t=.ok (YR t' its[k].r.toNat):=by
 rw[vG hk,ja,h]
 simp only
 rw[Jj h0 h1]
 rfl
theorem Xg {its:List It} {k:Nat} (hk:k<its.length) {t t':List UInt8} (h:QD (Qb (its.take k)) t=.ok t') (h0:its[k].r.toNat=0):QD (Qb (its.take (k+1))) t=.ok t':=by
 rw[vG hk,ja,h]
 simp only
 rw[h0,jZ]
 rfl
structure SM (S S':Sto):Prop where
 node:∀ r nd,qu S r=some nd→qu S' r=some nd
 pos:∀ r:Nat,0<(S.now[r]?.getD 0).toNat→0<(S'.now[r]?.getD 0).toNat
theorem KR {one one':It→Option (K3×K3)} (h:∀ y p,one y=some p→one' y=some p):∀ (xs:List It) (a:Option (Option (K3×K3))) (q:Option (K3×K3)),xs.foldl (jT one) a=some q→xs.foldl (jT one') a=some q
 | [],_,_,e=>e
 |x :: r,a,q,e=>by
  simp only[List.foldl_cons] at e ⊢
  have hs:=(YT one r (jT one a x) (by rw[e];rfl)).1
  have e2:jT one' a x=jT one a x:=by
   unfold jT at hs ⊢
   rcases a with _|a
   ·rfl
   ·rcases hx:one x with _|p
    ·rw[hx] at hs;cases hs
    ·rw[h x p hx]
  rw[e2]
  exact KR h r _ q e
section
variable {S S':Sto}
theorem SM.one (hm:SM S S'):∀ (h:Nat) (y:It) (p:K3×K3),Jz S h y=some p→Jz S' h y=some p
 |0,y,p,e=>by
  unfold Jz at e ⊢
  split at e
  ·rename_i hc
   rw[if_pos (hc.imp id (hm.pos _))]
   exact e
  ·cases e
 |h+1,y,p,e=>by
  rw[vX] at e ⊢
  unfold JY at e ⊢
  split at e
  ·rename_i hr
   rw[if_pos hr]
   rcases hn:qu S y.r.toNat with _|⟨lvl,xs⟩
   ·rw[hn] at e;cases e
   ·rw[hn] at e
    rw[hm.node _ _ hn]
    simp only at e ⊢
    split at e
    ·rename_i hl
     rw[if_pos hl]
     rcases hs:qT S h xs with _|q
     ·rw[hs] at e;cases e
     ·rw[hs] at e
      have h2:qT S' h xs=some q:=KR (SM.one hm h) xs _ q hs
      rw[h2]
      exact e
    ·cases e
  ·cases e
theorem SM.span (hm:SM S S') {h:Nat} {xs:List It} {q:Option (K3×K3)} (e:qT S h xs=some q):qT S' h xs=some q:=KR (hm.one h) xs _ q e
theorem SM.spanOk (hm:SM S S') {h:Nat} {xs:List It} (e:(qT S h xs).isSome=true):(qT S' h xs).isSome=true:=by
 obtain⟨q,hq⟩:=Option.isSome_iff_exists.1 e
 rw[hm.span hq]
 rfl
theorem SM.okL (hm:SM S S') {L r:Int} (e:okL S L r=true):okL S' L r=true:=by
 unfold Go.Proofs.YtpbniokljofedaaGreat.okL at e ⊢
 split at e
 ·rename_i hr
  rw[if_pos hr]
  rcases hn:qu S r.toNat with _|⟨lvl,xs⟩
  ·rw[hn] at e;cases e
  ·rw[hn] at e
   rw[hm.node _ _ hn]
   simp only[Bool.and_eq_true] at e ⊢
   exact⟨hm.spanOk e.1,e.2⟩
 ·cases e
theorem SM.items (hm:SM S S'):∀ (h:Nat) (xs:List It),(qT S h xs).isSome=true→qZ S' h xs=qZ S h xs
 |0,_,_=>rfl
 |h+1,xs,e=>by
  unfold qZ
  rw[List.flatMap_def,List.flatMap_def]
  congr 1
  refine List.map_congr_left fun y hy=>?_
  obtain⟨b,hb,_,_,ys,hn,hs⟩:=jq (Jd e y hy)
  rw[hb,Int.toNat_natCast,hm.node _ _ hn,hn]
  exact SM.items hm h ys hs
theorem SM.vols (hm:SM S S') {root next:Int} {vs:List Vol} (ht:Go.Proofs.YtpbniokljofedaaGreat.okL S (-1) root=true) (e:JL S root next=some vs):JL S' root next=some vs:=by
 unfold JL at e ⊢
 unfold Go.Proofs.YtpbniokljofedaaGreat.okL at ht
 split at ht
 ·rcases hn:qu S root.toNat with _|⟨lvl,xs⟩
  ·rw[hn] at e;cases e
  ·rw[hn] at e ht
   rw[hm.node _ _ hn]
   simp only[Bool.and_eq_true] at e ht ⊢
   rw[hm.items _ _ ht.1]
   exact e
 ·cases ht
theorem SM.pool (hm:SM S S') (hS:qo S'=true) {root next:Int} {dead:List Int} {vs:List Vol} (h:QT S root next dead vs):QT S' root next dead vs:=
 ⟨hS,h.few,hm.okL h.top,hm.vols h.top h.vols,fun r hr=>hm.okL (h.ok r hr)⟩
theorem SM.refs (hm:SM S S') {a:Nat} (h:Za S a):ZV S' a=ZV S a:=by
 obtain⟨-,-,lvl,xs,hn,-⟩:=h
 unfold ZV
 rw[hn,hm.node _ _ hn]
theorem SM.kids (hm:SM S S') {a:Nat} (h:Za S a):ZC S' a=ZC S a:=by
 have hr:=hm.refs h
 obtain⟨-,-,lvl,xs,hn,-⟩:=h
 unfold ZC
 rw[hn,hm.node _ _ hn]
 simp only[hr]
theorem SM.rch (hm:SM S S') {R:Nat→Prop} (hR:∀ a,R a→Za S a) {a:Nat} (x:Rch (ZC S) R a):Rch (ZC S') R a:=by
 induction x with
 |base r=>exact .base r
 |step hx hb ih=>exact .step ih (by rw[hm.kids (KS hR hx)];exact hb)
theorem qdi {rs rs':Nat→List Nat} {M:Nat→Bool} {b:Nat}:∀ n,(∀ a,M a=true→rs a=rs' a)→vY rs M b n=vY rs' M b n
 |0,_=>rfl
 |n+1,h=>by
  unfold vY
  rw[qdi n h]
  by_cases hm:M n=true
  ·rw[if_pos hm,if_pos hm,h n hm]
  ·rw[if_neg hm,if_neg hm]
theorem SM.counted (hm:SM S S') {R:List Nat} {refs nodes:Nat→Nat} (hR:∀ a,a∈R→Za S a) (h:qU S R refs nodes):qU S' R refs nodes:=by
 have htr:∀ a,Jv nodes a=true→Za S a:=fun a ha=>KS (R:=(· ∈ R)) hR (h.mkd.reach a ha)
 refine⟨⟨fun a ha=>hm.rch hR (h.mkd.reach a ha),h.mkd.root,fun a ha b hb=>?_,fun b=>?_⟩,h.few⟩
 ·rw[hm.kids (htr a ha)] at hb
  exact h.mkd.kids a ha b hb
 ·rw[h.mkd.sum b,qdi 256 fun a ha=>(hm.refs (htr a ha)).symm]
theorem qU.node {R:List Nat} {refs nodes:Nat→Nat} (hR:∀ a,a∈R→Za S a) (h:qU S R refs nodes) {a:Nat} (ha:Jv nodes a=true):(qu S a).isSome=true:=by
 obtain⟨-,-,lvl,xs,hn,-⟩:=KS (R:=(· ∈ R)) hR (h.mkd.reach a ha)
 rw[hn]
 rfl
end
def GS (S:Sto) (root next:Int) (dead:List Int) (w:World) (e:Ending) (w':World):Prop:=Below w.heap.size w w' ∧
 ((e=.returned (.int .i64 8)∧∀ vs,QT S root next dead vs→∃ refs nodes,qU S (QI root dead vs) refs nodes∧¬zQ S refs) ∨
  (e=.returned (.int .i64 0)∧∃ vs refs nodes,QT S root next dead vs∧qU S (QI root dead vs) refs nodes∧zQ S refs))
theorem Tp {R:Ending→World→Prop} {a:Act} {W:World} {u:Value} (h2:a.tmps[2]?.getD undef=u) (hd:a.defers=[]) (hR:R (.returned u) W):bodyPost Tryz.prog Tryz.f20 R .ret a W:=by
 refine bodyPost_ret (v:=u) ?_ hd hR
 simp[results,Tryz.results20,go_sem,h2]
set_option maxHeartbeats 2000000 in
set_option maxRecDepth 100000 in
theorem qcq (A1:Option Addr) (n1 c1:Nat) (A2:Option Addr) (n2 c2:Nat) (A3:Option Addr) (n3 c3:Nat) (A4:Option Addr) (n4 c4:Nat) (gen root next:Int) (A5:Option Addr) (c5:Nat) (S:Sto) (dead:List Int) (w:World)
  (h:Qc w w.heap.size (.slice A1 n1 c1) (.slice A2 n2 c2) (.slice A3 n3 c3) (.slice A4 n4 c4) S) (hd:Zu w w.heap.size (.slice A5 dead.length c5) dead) :
  Calls Tryz.prog 20 #[.agg (Qo (.slice A1 n1 c1) (.slice A2 n2 c2) (.slice A3 n3 c3) (.slice A4 n4 c4) gen root next (.slice A5 dead.length c5))] w (GS S root next dead w):=by
 have HT:=zH (fun W (hx:Ext w W)=>vV A1 n1 c1 A2 n2 c2 A3 n3 c3 A4 n4 c4 gen root next A5 c5 S dead W (h.ext hx) (by
  obtain⟨A,c,e,q1,q2,q3⟩:=hd
  exact⟨A,c,e,q1,q2,(q3.below hx).more hx.size⟩))
 clear h hd
 go_enter Tryz.func20,Tryz.ntmps20
 go_wp2_with fail
 generalize hw1:World.alloc w _=w1
 have x1:Ext w w1:=by rw[←hw1];exact Ext.alloc _ _
 clear hw1
 refine(HT.out w1 x1).mono ?_
 rintro e w2 ⟨hB,hQ⟩
 have x2:Below w.heap.size w w2:=Ext.trans x1 hB
 rcases hQ with ⟨rfl,hno⟩|⟨vs,refs,nodes,cb,ca,vv,rfl,hT⟩
 ·have HB:GS S root next dead w (.returned (.int .i64 8)) w2:=⟨x2,.inl ⟨rfl,hno⟩⟩
  replace HB:=zH HB
  clear hno hB
  go_wp2_with fail
  exact Tp rfl rfl HB.out
 ·have HB:GS S root next dead w (.returned (.int .i64 0)) w2:=⟨x2,.inr ⟨rfl,vs,refs,nodes,hT.pool,hT.cnt,hT.enough⟩⟩
  replace HB:=zH HB
  clear hT hB
  go_wp2_with fail
  exact Tp rfl rfl HB.out
theorem rowI_one (l:List Int):∀ u∈YN l,u.oneCell'=true:=by
 intro u hu
 obtain⟨a,_,rfl⟩:=List.mem_map.1 hu
 rfl
theorem Zu.of_own {w:World} {base:Nat} {v:Value} {l:List Int} (h:w.ownsRow base 3 1 v l.length (YN l)):Zu w w.heap.size v l:=by
 obtain⟨A,c,rfl,hc,hm⟩:=qJ h
 refine⟨A,c,rfl,hc,hm,by simp,fun hn=>?_⟩
 rcases h.2 with ⟨_,h0⟩|⟨g,cap,cur,e,_,hr,_⟩
 ·omega
 ·simp only[Value.slice.injEq] at e
  obtain⟨rfl,-,rfl⟩:=e
  exact⟨g,0,rfl,(zG.1 hr).1,fun j u hu=>by have h5:=h.cells (g:=g) rfl j u hu;rw[Nat.zero_add];unfold Addr.add at h5;split at h5 <;> simp_all⟩
theorem Zu.keepN {w W:World} {B lo:Nat} {v:Value} {l:List Int} (h:Zu w B v l) (hf:zm lo v) (hk:∀ q:Addr,lo≤q.block→q.block<B→W.cell? q=w.cell? q):Zu W B v l:=by
 obtain⟨A,c,e,hc,hm,hr⟩:=h
 subst e
 exact⟨A,c,rfl,hc,hm,Rd.keepN hr hf hk⟩
theorem Zu.more {w:World} {B B':Nat} {v:Value} {l:List Int} (h:Zu w B v l) (hb:B≤B'):Zu w B' v l:=by
 obtain⟨A,c,e,hc,hm,hr⟩:=h
 exact⟨A,c,e,hc,hm,hr.more hb⟩
theorem Zu.ext_ {w W:World} {v:Value} {l:List Int} (h:Zu w w.heap.size v l) (hx:Ext w W):Zu W W.heap.size v l:=by
 obtain⟨A,c,e,hc,hm,hr⟩:=h
 exact⟨A,c,e,hc,hm,(hr.below hx).more hx.size⟩
set_option maxHeartbeats 1000000 in
set_option maxRecDepth 100000 in
theorem qcp (v:Value) (l:List Int) (hl:l.length<1073741824) (w:World) (h:Zu w w.heap.size v l) :
  Calls Tryz.prog 56 #[v] w (zD (fun u w'=>w'.ownsRow w.heap.size 3 1 u l.length (YN l)) w):=by
 obtain⟨i0,hi,hz0,hz1,hz2⟩:=info_parts Tryz.info_int
 obtain⟨A,c,rfl,hc,hm,hr⟩:=h
 have qn:∀ (w:World) (a:Option Addr) (n c n' c':Nat),(binOp .eql 30 (.slice a n c) (.slice none n' c')).run Tryz.prog w=.ok (.bool a.isNone) w:=fun w a n c n' c'=>Lib.run_eql_slice_nil w _ _ a n c n' c' Tryz.underlying30
 rcases A with _|⟨b,off,p⟩
 ·have h0:l=[]:=by
   rcases l with _|⟨x,r⟩
   ·rfl
   ·obtain⟨b,off,h,_⟩:=hr.2 (by simp)
    cases h
  subst h0
  go_enter Tryz.func56,Tryz.ntmps56
  go_wp2
  go_ret
  exact⟨_,rfl,World.ownsRow_nil _ _ _ _,Below.refl _ _⟩
 ·go_enter Tryz.func56,Tryz.ntmps56
  go_wp2_with (at_builtin;refine qQ ?_)
  refine Qt.go (Qi _ rfl (.tmp 5) (.tmp 6) 30 rfl w.heap.size 3 i0 (.int .i64 0) 1 8 Tryz.underlying30 hi hz0 hz1 hz2 rfl (by decide) _ 0 [] rfl ?_ w.heap.size _ l.length c (YN l) (by exact rfl) ?_ (rowI_one l) (by omega) (by decide) (by simp) ?_)
  ·exact World.ownsRow_lit w #[] 0 (Nat.le_refl _) (by simp[maxLen]) rfl
  ·exact hr.keep fun p hp=>World.cell?_alloc_lt w _ p hp
  ·intro v' w' hown _ hb _
   simp only[Nat.zero_add,List.nil_append] at hown
   go_wp2
   go_ret
   exact⟨_,rfl,hown,Below.trans ((Below.refl _ _).alloc (Nat.le_refl _) _) hb⟩

def qag (S:Sto) (refs:Nat→Nat):Bool:=(List.range 256).all fun a=>decide (refs a≤(S.now[a]?.getD 0).toNat)
theorem qbs (S:Sto) (refs:Nat→Nat):qag S refs=true↔zQ S refs:=by
 unfold qag zQ
 rw[List.all_eq_true]
 exact⟨fun h a ha=>of_decide_eq_true (h a (List.mem_range.2 ha)),fun h a ha=>decide_eq_true (h a (List.mem_range.1 ha))⟩
theorem QT.same {S:Sto} {root next:Int} {dead:List Int} {vs vs':List Vol} (h:QT S root next dead vs) (h':QT S root next dead vs'):vs=vs':=by
 have:=h.vols
 rw[h'.vols] at this
 cases this
 rfl

abbrev pool0:Value:=.agg (Qo (.slice none 0 0) (.slice none 0 0) (.slice none 0 0) (.slice none 0 0) 0 0 0 (.slice none 0 0))
def Ym (lo:Nat) (S:Sto) (gen root next:Int) (dead:List Int) (u:Value) (W:World):Prop:=∃ A1 c1 A2 c2 A3 c3 A4 c4 A5 c5,u=.agg (Qo (.slice A1 S.bs.length c1) (.slice A2 S.ws.length c2) (.slice A3 S.now.length c3) (.slice A4 S.last.length c4) gen root next (.slice A5 dead.length c5)) ∧
 ∀ C:World,PosZ lo W C→Qc C W.heap.size (.slice A1 S.bs.length c1) (.slice A2 S.ws.length c2) (.slice A3 S.now.length c3) (.slice A4 S.last.length c4) S∧Zu C W.heap.size (.slice A5 dead.length c5) dead
theorem Rd.pos {w C:World} {B size lo n c:Nat} {A:Option Addr} {xs:List Value} (h:Rd w B size A n xs) (hf:zm lo (.slice A n c)) (hk:∀ (q:Addr) (v:Value),lo≤q.block→q.block<B→w.cell? q=some v→C.cell? q=some v):Rd C B size A n xs:=
 ⟨h.1,fun hn=>by
  obtain⟨b,off,rfl,hb,hc⟩:=h.2 hn
  exact⟨b,off,rfl,hb,fun j u hu=>hk _ _ (hf ⟨b,off,none⟩ n c rfl) hb (hc j u hu)⟩⟩
theorem Zu.pos {w C:World} {B lo:Nat} {v:Value} {l:List Int} (h:Zu w B v l) (hf:zm lo v) (hk:∀ (q:Addr) (v:Value),lo≤q.block→q.block<B→w.cell? q=some v→C.cell? q=some v):Zu C B v l:=by
 obtain⟨A,c,e,hc,hm,hr⟩:=h
 subst e
 exact⟨A,c,rfl,hc,hm,Rd.pos hr hf hk⟩
theorem QH.newSto {lo:Nat} {S:Sto} {u:Value} {W:World} (h:QH lo S u W) (hS:Xz S):TV lo S u W:=by
 obtain⟨BB,WW,g,A3,c3,A4,c4,e,h1,h2,h3⟩:=h
 refine⟨_,_,_,_,A3,c3,A4,c4,e,qdU (W:=thaw W) (Φ:=fun C=>Qc C W.heap.size _ _ _ _ S) (fun A C hAC hA=>hA.some_ hAC) fun W2 hk=>?_⟩
 obtain⟨k1,k2⟩:=h1.readsT hS.bs hS.ws hS.be hS.we W2 hk
 exact⟨k1,k2,(Bys.of_ownT h2).keepN (zm.of_own h2) hk,(Bys.of_ownT h3).keepN (zm.of_own h3) hk⟩
theorem Zu.of_ownT {w:World} {base:Nat} {v:Value} {l:List Int} (h:w.ownsRow base 3 1 v l.length (YN l)):Zu (thaw w) w.heap.size v l:=by
 obtain⟨A,c,e,hc,hm,hr⟩:=Zu.of_own h
 refine⟨A,c,e,hc,hm,hr.1,fun hn=>?_⟩
 obtain⟨b,off,e2,hb,hcs⟩:=hr.2 hn
 obtain⟨cs,t,hrow⟩:=Thaw.of_own h ⟨b,off,none⟩ l.length c (by rw[e,e2]) hn
 exact⟨b,off,e2,hb,fun j u hu=>(Vg hrow _).trans (hcs j u hu)⟩
def outN (lo n:Nat) (l:List Int):qO:=⟨Option Addr×Nat,fun p=>.slice p.1 n p.2,fun p W=>Zu (thaw W) W.heap.size (.slice p.1 n p.2) l∧zm lo (.slice p.1 n p.2)⟩
theorem Zw (lo n:Nat) (l:List Int) (A:Option Addr) (c:Nat):(outN lo n l).f (A,c)=.slice A n c:=rfl
theorem qaQ (lo n:Nat) (l:List Int):∀ p,Qx ((outN lo n l).φ p):=fun p W W' he h=>⟨by
 have h1:=h.1
 rw[←Vc W] at h1
 have h2:=h1.ext_ (Ext.thaw he)
 rw[Vc] at h2
 exact h2,h.2⟩
structure Two (bp be:Nat) (W W':World):Prop where
 os:W'.os=W.os
 tape:W'.tape=W.tape
 output:W'.output=W.output
 size:W.heap.size≤W'.heap.size
 same:∀ k,k<W.heap.size→k≠bp→k≠be→W'.heap[k]?=W.heap[k]?
theorem Two.of_ext {bp be:Nat} {W W':World} (h:Ext W W'):Two bp be W W':=⟨h.os,h.tape,h.output,h.size,fun k hk _ _=>h.block k hk⟩
theorem Two.below {bp be B:Nat} {w0 W W':World} (h:Two bp be W W') (hb:Below B w0 W) (h1:B≤bp) (h2:B≤be) (hB:B≤W.heap.size):Below B w0 W':=hb.trans ⟨h.os,h.tape,h.output,h.size,fun k hk=>h.same k (by omega) (by omega) (by omega)⟩
theorem Two.trans {bp be:Nat} {A B C:World} (h:Two bp be A B) (k:Two bp be B C):Two bp be A C:=⟨k.os.trans h.os,k.tape.trans h.tape,k.output.trans h.output,Nat.le_trans h.size k.size,fun i hi h1 h2=>(k.same i (Nat.lt_of_lt_of_le hi h.size) h1 h2).trans (h.same i hi h1 h2)⟩
theorem Two.setE {bp be:Nat} (A:World) (j:Nat) (v:Value):Two bp be A (A.setCell ⟨be,j,none⟩ v):=⟨rfl,rfl,rfl,by simp,fun k _ _ hk=>Below.heap_setCell _ _ _ _ hk⟩
structure qbJ (bp be ba:Nat) (W W':World):Prop where
 os:W'.os=W.os
 tape:W'.tape=W.tape
 output:W'.output=W.output
 size:W.heap.size≤W'.heap.size
 same:∀ k,k<W.heap.size→k≠bp→k≠be→k≠ba→W'.heap[k]?=W.heap[k]?
theorem qbJ.set {bp be ba:Nat} {W W':World} (h:qbJ bp be ba W W') (v:Value):qbJ bp be ba W (W'.setCell ⟨ba,0,none⟩ v):=⟨h.os,h.tape,h.output,by simpa using h.size,fun k hk h1 h2 h3=>(Below.heap_setCell _ _ _ _ h3).trans (h.same k hk h1 h2 h3)⟩
theorem qbJ.below {bp be ba B:Nat} {w0 W W':World} (h:qbJ bp be ba W W') (hb:Below B w0 W) (h1:B≤bp) (h2:B≤be) (h3:B≤ba) (hB:B≤W.heap.size):Below B w0 W':=hb.trans ⟨h.os,h.tape,h.output,h.size,fun k hk=>h.same k (by omega) (by omega) (by omega) (by omega)⟩

theorem JV {t:List UInt8} {a:Nat} (h:Qp t=true) (ha:8≤a) (v:UInt8):Qp (t.set a v)=true:=by
 unfold Qp at *
 simp only[Bool.and_eq_true,decide_eq_true_eq] at *
 refine⟨by rw[List.length_set];exact h.1,?_⟩
 rw[List.take_set_of_le ha]
 exact h.2
theorem Qr {S:Sto}:qo S=true↔Zz S.bs S.ws=true∧Qp S.now=true∧Qp S.last=true:=by unfold qo;simp[Bool.and_eq_true]
theorem may_put {S:Sto} (h:qo S=true) {a:Nat} (ha:8≤a) (ha2:a<256) {l:List UInt8} (hl:l.length=128) (hw:S.ws.length≠4096):qo (Th S a l)=true:=by
 obtain⟨h1,h2,h3⟩:=Qr.1 h
 refine Qr.2 ⟨?_,JV h2 ha 1,h3⟩
 unfold Zz headD at *
 simp only[Bool.and_eq_true,decide_eq_true_eq,Th,List.length_append,List.length_singleton,List.all_append,List.all_cons,List.all_nil,Bool.and_true] at *
 obtain⟨⟨g1,g2⟩,g3,g4⟩:=h1
 refine⟨⟨g1,by omega⟩,g3,g4,?_⟩
 unfold GC
 exact decide_eq_true ⟨by simp,by simp;omega,hl⟩
theorem Un {S:Sto} (h:¬JZ S=[]):QA S<256:=by
 have hmem:QA S∈JT S 256:=by
  show QA S∈JZ S
  unfold QA
  rcases hf:JZ S with _|⟨x,r⟩
  ·exact absurd hf h
  ·simp
 simpa using (List.mem_filter.1 hmem).1
theorem qcW {t:List UInt8} (h:Qp t=true):t.length=256:=by
 unfold Qp at h
 simp only[Bool.and_eq_true,decide_eq_true_eq] at h
 exact h.1
theorem qbN {t:List UInt8} (h:Qp t=true):zL t 0=0:=by
 have hl:=qcW h
 unfold Qp at h
 simp only[Bool.and_eq_true] at h
 rcases t with _|⟨x,r⟩
 ·simp at hl
 ·have:=h.2
  simp[Vd] at this
  simp[zL,this.1]
theorem qcQ {t t':List UInt8} {a:Nat} (ha:a=0∨8≤a) (h:Qp t=true) (e:jH t a=.ok t'):Qp t'=true:=by
 unfold jH at e
 split at e
 ·cases e;exact h
 ·split at e
  ·cases e
  ·split at e
   ·cases e
   ·cases e
    exact JV h (by omega) _
theorem TK:∀ {l:List Nat} {t t':List UInt8},(∀ a∈l,a=0∨8≤a)→Qp t=true→Zg l t=.ok t'→Qp t'=true
 | [],t,t',_,h,e=>by cases e;exact h
 |a :: l,t,t',hl,h,e=>by
  simp only[Zg] at e
  split at e
  ·cases e
  ·rename_i t1 e1
   exact TK (fun b hb=>hl b (List.mem_cons_of_mem _ hb)) (qcQ (hl a List.mem_cons_self) h e1) e
theorem JO:∀ {l:List Nat} {t t':List UInt8},(∀ a∈l,a=0∨8≤a)→Qp t=true→QD l t=.ok t'→Qp t'=true
 | [],t,t',_,h,e=>by cases e;exact h
 |a :: l,t,t',hl,h,e=>by
  by_cases ha:a=0
  ·subst ha
   rw[jZ] at e
   exact JO (fun b hb=>hl b (List.mem_cons_of_mem _ hb)) h e
  ·by_cases h0:zL t a=0
   ·rw[JF ha h0] at e;cases e
   ·rw[Jj ha h0] at e
    exact JO (fun b hb=>hl b (List.mem_cons_of_mem _ hb)) (JV h (by have:=hl a List.mem_cons_self;omega) _) e
theorem qdP {its:List It} (h:∀ x∈its,itB x.r x.val.length=true):∀ a∈Qb its,(a=0∨8≤a)∧a<256:=fun a ha=>by
 obtain⟨x,hx,rfl⟩:=List.mem_map.1 ha
 have:=h x hx
 unfold itB at this
 simp only[decide_eq_true_eq] at this
 omega
theorem UI {S:Sto} {a:Nat} {lvl:Int} {xs:List It} (h:qu S a=some (lvl,xs)):∀ r∈Qb xs,(r=0∨8≤r)∧r<256:=qdP fun x hx=>((Qa h).2.1 x hx).2
theorem makeX_ok {S S':Sto} {lvl:Int} {its:List It} {f:Nat} (hS:qo S=true) (h:zu S lvl its=.ok (f,S')):∃ t,qX lvl its=true∧Zg (Qb its) S.now=.ok t∧S.ws.length≠4096∧8≤f∧f<256∧ji (qF S t) f=true∧S'=Th (qF S t) f (ZF (zo lvl its))∧Qp t=true:=by
 unfold zu at h
 split at h
 ·rename_i hm
  split at h
  ·cases h
  ·rename_i t ht
   split at h
   ·cases h
   ·rename_i hn
    cases h
    have h1:JZ (qF S t)≠[]:=fun e=>hn (.inl e)
    have hmem:QA (qF S t)∈JZ (qF S t):=by
     unfold QA
     cases e:JZ (qF S t) with
     |nil=>exact absurd e h1
     |cons a l=>exact List.mem_cons_self
    have hfb:ji (qF S t) (QA (qF S t))=true:=by
     have:=List.mem_filter.1 (show QA (qF S t)∈(List.range 256).filter (ji (qF S t)) from hmem)
     exact this.2
    have h8:8≤QA (qF S t):=by
     unfold ji at hfb
     simp only[Bool.and_eq_true,decide_eq_true_eq] at hfb
     exact hfb.1
    exact⟨t,hm,ht,fun e=>hn (.inr e),h8,Un h1,hfb,rfl,TK (fun a ha=>(qdP (ZW hm).2.2.2 a ha).1) (Qr.1 hS).2.1 ht⟩
 ·cases h
theorem kQ {S S':Sto} {lvl:Int} {its:List It} {f:Nat} (hio:∀ x∈its,ZL x) (hS:qo S=true) (h:zu S lvl its=.ok (f,S')):qo S'=true∧8≤f∧f<256∧S'.ws.length≤4096:=by
 obtain⟨t,hm,ht,hw,h8,hf,hfb,rfl,htm⟩:=makeX_ok hS h
 have hl:(ZF (zo lvl its)).length=128:=JA (by
  have:=Vs lvl its.length its.length hio (ZW hm).2.2.1
  rw[Vr] at this
  omega)
 have h1:=may_put (S:=qF S t) (Qr.2 ⟨(Qr.1 hS).1,htm,(Qr.1 hS).2.2⟩) h8 hf hl hw
 exact⟨h1,h8,hf,(qV h1).2.1⟩
theorem XX {S:Sto} (hS:qo S=true) {t:List UInt8} (ht:Qp t=true):qo (qF S t)=true:=Qr.2 ⟨(Qr.1 hS).1,ht,(Qr.1 hS).2.2⟩
theorem Tc {S:Sto}:∀ (h:Nat) {lvl:Int} {t t':List UInt8} {a:Nat},(8≤a∨zL t a=0)→Qp t=true→JH S h lvl t a=some t'→Qp t'=true
 |0,lvl,t,t',a,_,_,e=>by cases e
 |h+1,lvl,t,t',a,ha,ht,e=>by
  rw[vq] at e
  split at e
  ·cases e
  ·rename_i h0
   have ha8:8≤a:=by omega
   split at e
   ·cases e
    exact JV ht ha8 _
   ·split at e
    ·cases e
    ·rename_i l xs hn
     have hr:=UI hn
     have ht0:=JV ht ha8 0
     split at e
     ·cases e
     ·split at e
      ·have key:∀ (rs:List Nat),(∀ r∈rs,(r=0∨8≤r)∧r<256)→∀ (o:Option (List UInt8)),(∀ u,o=some u→Qp u=true)→rs.foldl (fun acc r=>acc.bind fun t=>JH S h (l-1) t r) o=some t'→Qp t'=true:=by
        intro rs
        induction rs with
        |nil=>intro _ o ho e;exact ho _ e
        |cons r rs ih =>
         intro hrs o ho e
         rw[List.foldl_cons] at e
         refine ih (fun q hq=>hrs q (List.mem_cons_of_mem _ hq)) _ (fun u hu=>?_) e
         cases o with
         |none=>cases hu
         |some t1 =>
          have h1:=ho t1 rfl
          refine Tc h (a:=r) ?_ h1 hu
          rcases(hrs r List.mem_cons_self).1 with rfl|h8
          ·right
           exact qbN h1
          ·exact .inl h8
       exact key _ hr _ (fun u hu=>by cases hu;exact ht0) e
      ·split at e
       ·cases e
       ·rename_i t1 e1
        cases e
        exact JO (fun a ha=>(hr a ha).1) ht0 e1
theorem Tk {S:Sto} {lvl:Int} {t t':List UInt8} {a:Nat} (ha:8≤a) (ht:Qp t=true) (e:zy S lvl t a=some t'):Qp t'=true:=Tc 7 (.inl ha) ht e
theorem UZ {lvl:Int}:∀ {ps:List (List It)} {S S':Sto} {up:List It},(∀ p∈ps,∀ x∈p,ZL x)→qo S=true→ZR lvl ps S=.ok (up,S')→qo S'=true∧up.length=ps.length∧∀ y∈up,(∃ f:Nat,y.r=(f:Int)∧8≤f∧f<256)∧y.val=[]∧∃ p∈ps,qM y=YS p
 | [],S,S',up,_,hS,e=>by
  cases e
  exact⟨hS,rfl,fun y hy=>by cases hy⟩
 |p :: ps,S,S',up,hp,hS,e=>by
  simp only[ZR] at e
  split at e
  ·cases e
  ·rename_i f S1 e1
   obtain⟨h1,h8,hf,_⟩:=kQ (hp p List.mem_cons_self) hS e1
   split at e
   ·cases e
   ·rename_i up1 S2 e2
    cases e
    obtain⟨g1,g2,g3⟩:=UZ (fun q hq=>hp q (List.mem_cons_of_mem _ hq)) h1 e2
    refine⟨g1,by simp[g2],fun y hy=>?_⟩
    rcases List.mem_cons.1 hy with rfl|hy
    ·exact⟨⟨f,rfl,h8,hf⟩,rfl,p,List.mem_cons_self,rfl⟩
    ·obtain⟨k1,k2,q,hq,k3⟩:=g3 y hy
     exact⟨k1,k2,q,List.mem_cons_of_mem _ hq,k3⟩
theorem qbp {l:List It} (h:∀ x∈l,ZL x):∀ p∈vB l,∀ x∈p,ZL x:=fun p hp x hx=>by
 unfold vB at hp
 split at hp
 ·simp only[List.mem_cons,List.not_mem_nil,or_false] at hp
  rcases hp with rfl|rfl
  ·exact h x (List.mem_of_mem_take hx)
  ·exact h x (List.mem_of_mem_drop hx)
 ·simp only[List.mem_cons,List.not_mem_nil,or_false] at hp
  subst hp
  exact h x hx
theorem key0_ok {p:List It} (h:∀ x∈p,ZL x):(0≤(YS p).1∧(YS p).1<256)∧(0≤(YS p).2.1∧(YS p).2.1<4294967296)∧(0≤(YS p).2.2∧(YS p).2.2<4294967296):=by
 cases p with
 |nil=>exact⟨⟨by decide,by decide⟩,⟨by decide,by decide⟩,by decide,by decide⟩
 |cons x r =>
  obtain⟨h1,h2,h3,_⟩:=h x List.mem_cons_self
  exact⟨h1,h2,h3⟩
end Go.Proofs.YtpbniokljofedaaGreat
