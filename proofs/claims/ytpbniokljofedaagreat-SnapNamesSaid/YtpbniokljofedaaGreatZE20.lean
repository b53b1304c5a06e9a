/- Texts PutE, StepsW, CopyK, ItRep, BuildW, Mono, Has, PoolW, Data, VolS, joined. -/
import Derived.Lib.AppendZerosOnto
import Derived.Lib.Overlaps
import Derived.WalkMore
import Derived.Test.YtpbniokljofedaaGreatZE03
import Derived.Test.YtpbniokljofedaaGreatZE10
import Derived.Test.YtpbniokljofedaaGreatZE12
import Derived.Test.YtpbniokljofedaaGreatZE13
import Derived.Test.YtpbniokljofedaaGreatZE14
import Derived.Test.YtpbniokljofedaaGreatZE15
import Derived.Test.YtpbniokljofedaaGreatZE17
import Derived.Test.YtpbniokljofedaaGreatZE18
import Derived.Test.YtpbniokljofedaaGreatZE19
set_option linter.unusedSimpArgs false
set_option linter.unusedVariables false
set_option maxHeartbeats 8000000
namespace Go.Proofs.YtpbniokljofedaaGreat
open Go.RowKit
def QH:List Nat→List UInt8→Except Int (List UInt8)
 | [],t=>.ok t
 |a :: r,t=>if a=0 then QH r t else if Qj t a=0 then .error 6 else QH r (kh t a)
theorem Jf (r:List Nat) (t:List UInt8):QH (0 :: r) t=QH r t:=by simp[QH]
theorem JC {a:Nat} (ha:a≠0) {t:List UInt8} (h:Qj t a=0) (r:List Nat):QH (a :: r) t=.error 6:=by simp only[QH];rw[if_neg ha,if_pos h]
theorem Je {a:Nat} (ha:a≠0) {t:List UInt8} (h:Qj t a≠0) (r:List Nat):QH (a :: r) t=QH r (kh t a):=by simp only[QH];rw[if_neg ha,if_neg h]
theorem jP:∀ (l r:List Nat) (t:List UInt8),QH (l++r) t=match QH l t with
  | .error e=>.error e
  | .ok t'=>QH r t'
 | [],_,_=>rfl
 |a :: l,r,t=>by
  by_cases ha:a=0
  ·subst ha
   rw[List.cons_append,Jf,Jf]
   exact jP l r t
  ·by_cases h:Qj t a=0
   ·rw[List.cons_append,JC ha h,JC ha h]
   ·rw[List.cons_append,Je ha h,Je ha h]
    exact jP l r _
def vZ (S:Sto):Nat→Int→List UInt8→Nat→Option (List UInt8)
 |0,_,_,_=>none
 |h+1,lvl,t,a=>if Qj t a=0 then none else if 1<Qj t a then some (kh t a) else
  match qu S a with
  |none=>none
  |some (l,xs)=>if 0≤lvl∧l≠lvl then none else if 0<l then (qX xs).foldl (fun acc r=>acc.bind fun t=>vZ S h (l-1) t r) (some (t.set a 0)) else
   match QH (qX xs) (t.set a 0) with
   | .error _=>none
   | .ok t'=>some t'
theorem Vu (S:Sto) (h:Nat) (lvl:Int) (t:List UInt8) (a:Nat):vZ S (h+1) lvl t a=if Qj t a=0 then none else if 1<Qj t a then some (kh t a) else
  match qu S a with
  |none=>none
  |some (l,xs)=>if 0≤lvl∧l≠lvl then none else if 0<l then (qX xs).foldl (fun acc r=>acc.bind fun t=>vZ S h (l-1) t r) (some (t.set a 0)) else
   match QH (qX xs) (t.set a 0) with
   | .error _=>none
   | .ok t'=>some t':=rfl
theorem UK (S:Sto):∀ (h:Nat) (lvl:Int) (t:List UInt8) (a:Nat),0≤lvl→lvl<h→vZ S (h+1) lvl t a=vZ S h lvl t a
 |0,lvl,t,a,h0,h1=>by omega
 |h+1,lvl,t,a,h0,h1=>by
  rw[Vu,Vu]
  split
  ·rfl
  ·split
   ·rfl
   ·split
    ·rfl
    ·rename_i l xs _
     split
     ·rfl
     ·rename_i hl
      have e:l=lvl:=by
       by_cases h:l=lvl
       ·exact h
       ·exact absurd ⟨h0,h⟩ hl
      subst e
      split
      ·rename_i hp
       congr 1
       funext acc r
       congr 1
       funext t
       exact UK S h (l-1) t r (by omega) (by omega)
      ·rfl
theorem ZW {S:Sto} {a:Nat} {lvl:Int} {xs:List It} (h:qu S a=some (lvl,xs)):0≤lvl∧lvl<6∧xs.length≤5:=by
 have:=jR (Qb h).1
 exact⟨this.1,this.2.1,this.2.2.1⟩
def QI (S:Sto) (lvl:Int) (t:List UInt8) (a:Nat):Option (List UInt8):=vZ S 7 lvl t a
def jX (S:Sto):List (Nat×Int)→List UInt8→Option (List UInt8)
 | [],t=>some t
 |x :: r,t=>match QI S x.2 t x.1 with
  |none=>none
  |some t'=>jX S r t'
theorem YT (S:Sto):∀ (l r:List (Nat×Int)) (t:List UInt8),jX S (l++r) t=match jX S l t with
  |none=>none
  |some t'=>jX S r t'
 | [],_,_=>rfl
 |x :: l,r,t=>by
  simp only[List.cons_append,jX]
  cases QI S x.2 t x.1 with
  |none=>rfl
  |some t'=>exact YT S l r t'
theorem Un (S:Sto) (l:Int):∀ (rs:List Nat) (o:Option (List UInt8)),rs.foldl (fun acc r=>acc.bind fun t=>QI S l t r) o=o.bind fun t=>jX S (rs.map fun r=>(r,l)) t
 | [],o=>by cases o <;> rfl
 |a :: r,o=>by
  rw[List.foldl_cons,Un S l r]
  cases o with
  |none=>rfl
  |some t =>
   simp only[Option.bind_some,List.map_cons,jX]
   cases QI S l t a <;> rfl
theorem KV (S:Sto) (lvl:Int) (t:List UInt8) (a:Nat):QI S lvl t a=if Qj t a=0 then none else if 1<Qj t a then some (kh t a) else
  match qu S a with
  |none=>none
  |some (l,xs)=>if 0≤lvl∧l≠lvl then none else if 0<l then jX S ((qX xs).map fun r=>(r,l-1)) (t.set a 0) else
   match QH (qX xs) (t.set a 0) with
   | .error _=>none
   | .ok t'=>some t':=by
 obtain⟨h,hh⟩:∃ h,h=6:=⟨_,rfl⟩
 have L1:∀ lvl t a,QI S lvl t a=vZ S (h+1) lvl t a:=fun lvl t a=>by rw[hh];rfl
 rw[L1,Vu]
 have key:∀ l xs,qu S a=some (l,xs)→0<l→(qX xs).foldl (fun acc r=>acc.bind fun t=>vZ S h (l-1) t r) (some (t.set a 0))=jX S ((qX xs).map fun r=>(r,l-1)) (t.set a 0):=fun l xs hn h0=>by
  obtain⟨_,h6,_⟩:=ZW hn
  have e1:=Un S (l-1) (qX xs) (some (t.set a 0))
  rw[Option.bind_some] at e1
  rw[←e1]
  have e:(fun (acc:Option (List UInt8)) (r:Nat)=>acc.bind fun t=>vZ S h (l-1) t r)=fun acc r=>acc.bind fun t=>QI S (l-1) t r:=by
   funext acc r
   cases acc with
   |none=>rfl
   |some t =>
    simp only[Option.bind_some]
    rw[L1,UK S h (l-1) t r (by omega) (by omega)]
  rw[e]
 split
 ·rfl
 ·split
  ·rfl
  ·split
   ·rfl
   ·rename_i l xs hn
    split
    ·rfl
    ·split
     ·rename_i h0
      exact key l xs hn h0
     ·rfl
def mkIt (k:K3) (r:Nat):It:=⟨k.1,k.2.1,k.2.2,(r:Int),[]⟩
def TM (p:List It):K3:=match p with
 | []=>(0,0,0)
 |x :: _=>qF x
def jJ (lvl:Int):List (List It)→Sto→Except Int (List It×Sto)
 | [],S=>.ok ([],S)
 |p :: r,S=>match Zq S lvl p with
  | .error e=>.error e
  | .ok (f,S')=>match jJ lvl r S' with
   | .error e=>.error e
   | .ok (up,S'')=>.ok (mkIt (TM p) f :: up,S'')
def Vz (l:List It):List (List It):=if 5<l.length then [l.take 3,l.drop 3] else [l]
def zo (S:Sto) (lvl:Int) (l held:List It):Except Int (List It×Sto):=match jJ lvl (Vz l) S with
 | .error e=>.error e
 | .ok (up,S')=>match QH (qX held) S'.now with
  | .error e=>.error e
  | .ok t=>.ok (up,qy S' t)
def Ko (xs:List It) (p many:Nat) (up:List It):List It:=xs.take p++up++xs.drop (p+many)
def VD (S:Sto) (k:K3):Nat→List It→List (Nat×List It×Nat)
 |0,xs=>[(0,xs,qL xs k)]
 |h+1,xs=>(h+1,xs,if KS xs k=true then qL xs k else qL xs k-1) :: match xs[if KS xs k=true then qL xs k else qL xs k-1]? with
  |none=>[]
  |some y=>match qu S y.r.toNat with
   |none=>[]
   |some (_,ys)=>VD S k h ys
def VZ (k:K3) (lvl:Nat) (xs:List It):Nat:=if lvl=0∧KS xs k=false then 0 else 1
def jH (k:K3):List (Nat×List It×Nat)→List It→Sto→Except Int (List It×Sto)
 | [],up,S=>.ok (up,S)
 |(lvl,xs,p) :: r,up,S=>match zo S (lvl:Int) (Ko xs p (VZ k lvl xs) up) up with
  | .error e=>.error e
  | .ok (up',S')=>jH k r up' S'
def Ug (k:K3) (l:List (Nat×List It×Nat)):Bool:=decide (l.length=6) && (l.all fun s=>!decide (s.2.1.length<5)) && !(match l.getLast? with
 |none=>false
 |some s=>KS s.2.1 k)
def putX (S:Sto) (L:Nat) (xs:List It) (root:Nat) (x:It):Except Int (Nat×Sto):=
 if Ug (qF x) (VD S (qF x) L xs)=true then .error 120 else
 match jH (qF x) (VD S (qF x) L xs).reverse [x] S with
 | .error e=>.error e
 | .ok (up,S1)=>match (if 1<up.length then zo S1 ((VD S (qF x) L xs).length:Int) up up else .ok (up,S1)) with
  | .error e=>.error e
  | .ok (up',S2)=>match QI S2 (-1) S2.now root with
   |none=>.error 8
   |some t=>.ok (match up' with
    | []=>0
    |y :: _=>y.r.toNat,qy S2 t)
theorem Tryz.info_step:(Tryz.prog.info? 160).map (fun i=>(i.zero,i.size,i.bytes))=some (some (.agg #[.int .i64 0,.slice none 0 0,.int .i64 0]),3,40):=by kernel_rfl
abbrev Stp:=Nat×List It×Nat
def jk:List (Stp×Value)→List Value
 | []=>[]
 |p :: r=>.int .i64 (p.1.1:Int) :: p.2 :: .int .i64 (p.1.2.2:Int) :: jk r
theorem qcR (ps:List (Stp×Value)) (p:Stp×Value):jk (ps++[p])=jk ps++[.int .i64 (p.1.1:Int),p.2,.int .i64 (p.1.2.2:Int)]:=by
 induction ps with
 |nil=>rfl
 |cons a r ih=>simp[jk,ih]
theorem Yz (ps:List (Stp×Value)):∀ i (h:i<ps.length),(jk ps)[i*3]?=some (.int .i64 (ps[i].1.1:Int))∧(jk ps)[i*3+1]?=some ps[i].2∧(jk ps)[i*3+2]?=some (.int .i64 (ps[i].1.2.2:Int)):=by
 induction ps with
 |nil=>intro i h;simp at h
 |cons p r ih =>
  intro i h
  rcases i with _|i
  ·simp[jk]
  ·have:=ih i (by simpa using h)
   rw[show (i+1)*3=i*3+1+1+1 by omega]
   simpa [jk,Nat.add_assoc] using this
def OwnX (v:Value) (q:Nat):Prop:=v.ownBlock=some q
def OwnL (lo:Nat) (v:Value) (q:Nat):Prop:=v.ownBlock=some q∨q<lo
def TN (X:Nat→Prop) (w:World) (v:Value) (ips:List (It×Value)):Prop:=(∃ A c,v=.slice A ips.length c∧ips.length≤c∧c≤maxLen∧∀ C,Qd X w C→Rd C C.heap.size 5 A ips.length (qR ips)) ∧
 ∀ p∈ips,(∃ A c,p.2=.slice A p.1.val.length c)∧∀ C,Qd X w C→Bys C C.heap.size p.2 p.1.val
theorem TN.its {X:Nat→Prop} {w:World} {v:Value} {ips:List (It×Value)} (h:TN X w v ips) {C:World} (hC:Qd X w C):Its C C.heap.size v (ips.map (·.1)):=by
 obtain⟨⟨A,c,e,h1,h2,hr⟩,hp⟩:=h
 exact⟨ips,rfl,⟨A,c,by rw[List.length_map];exact e,by rw[List.length_map];exact h1,h2,by rw[List.length_map];exact hr C hC⟩,fun p hpm=>⟨(hp p hpm).1,(hp p hpm).2 C hC⟩⟩
theorem TN.trans {X Y:Nat→Prop} {w W:World} {v:Value} {ips:List (It×Value)} (h:TN X w v ips) (hk:Qd X w W) (hY:∀ k,k<w.heap.size→Y k→X k):TN Y W v ips:=by
 obtain⟨⟨A,c,e,h1,h2,hr⟩,hp⟩:=h
 exact⟨⟨A,c,e,h1,h2,fun C hC=>hr C (hk.trans hC hY)⟩,fun p hpm=>⟨(hp p hpm).1,fun C hC=>(hp p hpm).2 C (hk.trans hC hY)⟩⟩
def jW (lo:Nat) (w:World) (v:Value) (l:List Stp):Prop:=∃ ps:List (Stp×Value),ps.map (·.1)=l∧w.ownsRow lo 160 3 v l.length (jk ps)∧∀ p∈ps,∃ ips,ips.map (·.1)=p.1.2.1∧TN (OwnL lo v) w p.2 ips
def YY (lo:Nat) (w:World) (v:Value) (l:List Stp):Prop:=∃ ps:List (Stp×Value),ps.map (·.1)=l∧(∃ A c,v=.slice A l.length c∧l.length≤c∧c≤maxLen∧∀ C,Qd (fun q=>q<lo) w C→Rd C C.heap.size 3 A l.length (jk ps))∧∀ p∈ps,∃ ips,ips.map (·.1)=p.1.2.1∧TN (fun q=>q<lo) w p.2 ips
def VO (B:Nat) (w:World) (v:Value) (l:List Stp):Prop:=∃ ps:List (Stp×Value),ps.map (·.1)=l∧(∃ A c,v=.slice A l.length c∧l.length≤c∧c≤maxLen∧Rd w B 3 A l.length (jk ps))∧∀ p∈ps,(∃ A c,p.2=.slice A p.1.2.1.length c)∧Its w B p.2 p.1.2.1
theorem Rd.keepFrom {X:Nat→Prop} {w C:World} {B size n lo:Nat} {A:Option Addr} {xs:List Value} (h:Rd w B size A n xs) (hs:0<size) (hf:∀ a,A=some a→lo≤a.block) (hk:Qd X w C) (hX:∀ q,lo≤q→¬X q):Rd C C.heap.size size A n xs:=⟨h.1,fun hn=>by
 obtain⟨b,off,e,hb,hc⟩:=h.2 hn
 have h1:lo≤b:=hf _ e
 have hl:0<xs.length:=by rw[h.1];exact Nat.mul_pos hn hs
 exact⟨b,off,e,World.block_lt_of_cell? C ⟨b,off+0,none⟩ (hk _ _ (hX b h1) (hc 0 _ (zL hl))),fun j u hu=>hk _ _ (hX b h1) (hc j u hu)⟩⟩
theorem jW.toE {lo:Nat} {w:World} {v:Value} {l:List Stp} (h:jW lo w v l):YY lo w v l:=by
 obtain⟨ps,e,ho,hp⟩:=h
 obtain⟨A,c,rfl,h1,h2⟩:=qw ho
 have hf:=Zp.of_own ho
 refine⟨ps,e,⟨A,c,rfl,h1,h2,fun C hC=>(Rd.of_own ho).keepFrom (by omega) (fun a ha=>hf a _ _ (by rw[ha])) hC fun q hq hx=>by omega⟩,fun p hpm=>?_⟩
 obtain⟨ips,e1,hi⟩:=hp p hpm
 exact⟨ips,e1,hi.trans (Qd.refl _ _) fun k _ hk=>.inr hk⟩
theorem YY.mono {lo lo':Nat} {w:World} {v:Value} {l:List Stp} (h:YY lo w v l) (hl:lo'≤lo):YY lo' w v l:=by
 obtain⟨ps,e,⟨A,c,rfl,h1,h2,hr⟩,hp⟩:=h
 have hm:∀ {C},Qd (fun q=>q<lo') w C→Qd (fun q=>q<lo) w C:=fun hC=>hC.mono fun q _ hq=>by omega
 refine⟨ps,e,⟨A,c,rfl,h1,h2,fun C hC=>hr C (hm hC)⟩,fun p hpm=>?_⟩
 obtain⟨ips,e1,⟨A',c',f1,f2,f3,f4⟩,f5⟩:=hp p hpm
 exact⟨ips,e1,⟨A',c',f1,f2,f3,fun C hC=>f4 C (hm hC)⟩,fun q hq=>⟨(f5 q hq).1,fun C hC=>(f5 q hq).2 C (hm hC)⟩⟩
theorem TN.shape {X:Nat→Prop} {w:World} {v:Value} {ips:List (It×Value)} {xs:List It} (h:TN X w v ips) (e:ips.map (·.1)=xs):∃ A c,v=.slice A xs.length c:=by
 obtain⟨⟨A,c,e1,_⟩,_⟩:=h
 exact⟨A,c,by rw[e1,←e,List.length_map]⟩
theorem YY.read {lo:Nat} {w C:World} {v:Value} {l:List Stp} (h:YY lo w v l) (hC:Qd (fun q=>q<lo) w C):VO C.heap.size C v l:=by
 obtain⟨ps,e,⟨A,c,rfl,h1,h2,hr⟩,hp⟩:=h
 refine⟨ps,e,⟨A,c,rfl,h1,h2,hr C hC⟩,fun p hpm=>?_⟩
 obtain⟨ips,e1,hi⟩:=hp p hpm
 exact⟨hi.shape e1,by rw[←e1];exact hi.its hC⟩
theorem VO.below {B:Nat} {w w':World} {v:Value} {l:List Stp} (h:VO B w v l) (hb:Below B w w'):VO B w' v l:=by
 obtain⟨ps,e,⟨A,c,e1,e2,e3,hr⟩,hp⟩:=h
 exact⟨ps,e,⟨A,c,e1,e2,e3,hr.below hb⟩,fun p h=>⟨(hp p h).1,(hp p h).2.below hb⟩⟩
theorem VO.more {B B':Nat} {w:World} {v:Value} {l:List Stp} (h:VO B w v l) (hb:B≤B'):VO B' w v l:=by
 obtain⟨ps,e,⟨A,c,e1,e2,e3,hr⟩,hp⟩:=h
 exact⟨ps,e,⟨A,c,e1,e2,e3,hr.more hb⟩,fun p h=>⟨(hp p h).1,(hp p h).2.more hb⟩⟩
theorem jW.nil (lo:Nat) (w:World):jW lo w (.slice none 0 0) []:=⟨[],rfl,World.ownsRow_nil _ _ _ _,fun p h=>by cases h⟩
theorem jW.ext {lo:Nat} {w w':World} {v:Value} {l:List Stp} (h:jW lo w v l) (hx:Ext w w'):jW lo w' v l:=by
 obtain⟨ps,e,ho,hp⟩:=h
 refine⟨ps,e,Zb ho fun q hq=>Below.block hx q (QV ho q hq).2,fun p hpm=>?_⟩
 obtain⟨ips,e1,hi⟩:=hp p hpm
 exact⟨ips,e1,hi.trans (Qd.of_ext hx) fun _ _ h=>h⟩
theorem jW.push {lo:Nat} {w w':World} {v v':Value} {l:List Stp} {s:Stp} {u:Value} {ps:List (Stp×Value)} {ips:List (It×Value)} (hlo:lo≤w.heap.size) (e:ps.map (·.1)=l) (hp:∀ p∈ps,∃ ips,ips.map (·.1)=p.1.2.1∧TN (OwnL lo v) w p.2 ips) (hu:ips.map (·.1)=s.2.1) (hs:TN (OwnL lo v) w u ips)
  (ho:w'.ownsRow lo 160 3 v' (l.length+1) (jk ps++[.int .i64 (s.1:Int),u,.int .i64 (s.2.2:Int)])) (hg:w.grownBy w' v.ownBlock) (hat:v'.ownBlock=v.ownBlock∨∃ g,v'.ownBlock=some g∧w.heap.size≤g):jW lo w' v' (l++[s]):=by
 have hk:Qd (OwnL lo v) w w':=Qd.of_heap fun q hq hX=>hg.block q hq fun e=>hX (.inl e.symm)
 have hy:∀ q,q<w.heap.size→OwnL lo v' q→OwnL lo v q:=fun q hq hx=>by
  rcases hx with hx|hx
  ·rcases hat with e1|⟨g,e1,e2⟩
   ·left;rw[←e1];exact hx
   ·rw[e1] at hx;cases hx;omega
  ·exact .inr hx
 refine⟨ps++[(s,u)],by simp[e],?_,fun p hpm=>?_⟩
 ·rw[List.length_append,List.length_singleton,qcR]
  exact ho
 ·rcases List.mem_append.1 hpm with hpm|hpm
  ·obtain⟨ips',e1,hi⟩:=hp p hpm
   exact⟨ips',e1,hi.trans hk hy⟩
  ·obtain rfl:p=(s,u):=by simpa using hpm
   exact⟨ips,hu,hs.trans hk hy⟩
theorem Zz.toE {lo:Nat} {w:World} {v:Value} {xs:List It} (h:Zz lo w v xs) {X:Nat→Prop} (hX:∀ q,lo≤q→¬X q):∃ ips,ips.map (·.1)=xs∧TN X w v ips:=by
 obtain⟨ps,e1,⟨A,c,e2,e3,e4,hr⟩,hp,hf,hg⟩:=h
 have el:xs.length=ps.length:=by rw[←e1,List.length_map]
 rw[el] at e2 e3 hr
 refine⟨ps,e1,⟨A,c,e2,e3,e4,fun C hC=>hr.keepFrom (by omega) (fun a ha=>hf a _ _ (by rw[e2,ha])) hC hX⟩,fun p hpm=>⟨(hp p hpm).1,fun C hC=>?_⟩⟩
 obtain⟨A',c',f1,f2,f3,f4⟩:=(hp p hpm).2
 exact⟨A',c',f1,f2,f3,f4.keepFrom (by omega) (fun a ha=>hg p hpm a _ _ (by rw[f1,ha])) hC hX⟩
theorem Zz.keepX {X:Nat→Prop} {w C:World} {lo:Nat} {v:Value} {xs:List It} (h:Zz lo w v xs) (hk:Qd X w C) (hX:∀ q,lo≤q→¬X q):Its C C.heap.size v xs:=by
 obtain⟨ips,rfl,hi⟩:=h.toE hX
 exact hi.its hk
def Kx (xs:List It) (k:K3):Nat:=if KS xs k=true then qL xs k else qL xs k-1
theorem qeM (S:Sto) (k:K3) (xs:List It):VD S k 0 xs=[(0,xs,qL xs k)]:=rfl
theorem qax {S:Sto} {k:K3} {h:Nat} {xs zs:List It} {y:It} {l:Int} (hy:xs[Kx xs k]?=some y) (hn:qu S y.r.toNat=some (l,zs)):VD S k (h+1) xs=(h+1,xs,Kx xs k) :: VD S k h zs:=by
 show (h+1,xs,Kx xs k) :: (match xs[Kx xs k]? with
  |none=>[]
  |some y=>match qu S y.r.toNat with
   |none=>[]
   |some (_,ys)=>VD S k h ys)=_
 rw[hy]
 simp only
 rw[hn]
theorem JD {xs:List It} {k:K3} (h:0<xs.length):Kx xs k<xs.length:=by
 unfold Kx
 have:=JO xs k
 split
 ·rename_i hi
  by_cases hl:qL xs k<xs.length
  ·exact hl
  ·rw[Tl hl] at hi;cases hi
 ·omega
theorem qcs {h:Nat} {xs:List It} (hm:Qg (h:Int) xs=true) (h1:0<h):0<xs.length:=by
 rcases Nat.eq_zero_or_pos xs.length with h0|h0
 ·exfalso
  have hhd:jK (h:Int) xs.length=true:=by unfold Qg at hm;simp only[Bool.and_eq_true] at hm;exact hm.1
  unfold jK at hhd
  simp only[decide_eq_true_eq] at hhd
  exact hhd.2.2.2 (by omega) h0
 ·exact h0
theorem qca {S:Sto} {k:K3}:∀ (h:Nat) {xs:List It},Qg (h:Int) xs=true→(Qe S h xs).isSome=true→(VD S k h xs).length=h+1
 |0,xs,_,_=>rfl
 |h+1,xs,hm,hs=>by
  have hx:=qcs hm (by omega)
  obtain⟨b,e1,-,-,zs,e4,e5⟩:=Js (vc hs _ (List.getElem_mem (JD (k:=k) hx)))
  rw[qax (zL (JD hx)) (by rw[e1,Int.toNat_natCast];exact e4),List.length_cons,qca h (Qb e4).1 e5]
theorem qaB {P:Program} (w:World) (dT sT ty elem:TypeId) (g o dLen dCap:Nat) (a:Addr) (sLen sCap:Nat) (cur:Array Value) (t:TypeId) (cs:List Value) (k:Nat)
  (hu:P.underlying dT=some (.slice elem)) (hs:(P.info? elem).map (·.size)=some k) (hg:w.heap[g]?=some (.cells cur t (0,0))) (hn:cs.length=Nat.min sLen dLen*k)
  (hsrc:∀ j v,cs[j]?=some v→w.cell? (a.add j)=some v) (hfit:o+cs.length≤cur.size) (h1:∀ v∈cs,v.oneCell'=true) :
  (Builtin.copy_ #[dT,sT] ty #[.slice (some ⟨g,o,none⟩) dLen dCap,.slice (some a) sLen sCap]).run P w =
   .ok (.int .i64 (Nat.min sLen dLen:Nat)) (w.setRow g (cur.toList.take o++cs++cur.toList.drop (o+cs.length)).toArray):=by
 have hl:=run_loadCells_list (P:=P) w a cs hsrc
 have hst:=run_storeCells_at P g o t cs 0 cur w hg (by simpa using hfit) h1
 cases hq:P.info? elem with
 |none=>simp[hq] at hs
 |some i =>
  have hi:i.size=k:=by simpa [hq] using hs
  have hn':min sLen dLen*k=cs.length:=hn.symm
  simp[Builtin.copy_,run_underlying hu,Builtin.lenOf,Builtin.firstCells,sizeOf,typeInfo,hq,hi,hn',hl,hst]
  rfl
theorem take_mid {A V R:List Value} {a b:Nat} (h:A.length+V.length=a+b):(A++V++R).take (a+b)=A++V:=by
 rw[←h,←List.length_append]
 exact List.take_left
structure RowI (g cap n:Nat) (xs:List Value) (w:World):Prop where
 ex:∃ cur:Array Value,w.heap[g]?=some (.cells cur 68 (0,0))∧cur.size=cap*5∧cur.toList.take (n*5)=xs
theorem RowI.own {lo g cap n:Nat} {xs:List Value} {w:World} (h:RowI g cap n xs w) (hl:xs.length=n*5) (hlo:lo≤g) (hn:n≤cap) (hc:cap≤maxLen):w.ownsRow lo 68 5 (.slice (some ⟨g,0,none⟩) n cap) n xs:=by
 obtain⟨cur,h1,h2,h3⟩:=h.ex
 exact⟨hl,.inr ⟨g,cap,cur,rfl,hlo,h1,hn,hc,h2,h3⟩⟩
def spl (cur:Array Value) (o:Nat) (cs:List Value):Array Value:=(cur.toList.take (o*5)++cs++cur.toList.drop (o*5+cs.length)).toArray
theorem QR {cur:Array Value} {o k:Nat} {cs:List Value} (hl:cs.length=k*5) (h:(o+k)*5≤cur.size):(spl cur o cs).size=cur.size:=by
 unfold spl
 simp only[List.size_toArray,List.length_append,List.length_take,List.length_drop,Array.length_toList]
 omega
theorem jQ {P:Program} {W:World} {g o k:Nat} {cur:Array Value} {cs:List Value} {dT sT ty:TypeId} {dLen dCap:Nat} {a:Addr} {sLen sCap:Nat} (hg:W.heap[g]?=some (.cells cur 68 (0,0))) (hl:cs.length=k*5) (h:(o+k)*5≤cur.size)
  (hu:P.underlying dT=some (.slice 68)) (hs:(P.info? 68).map (·.size)=some 5) (hk:Nat.min sLen dLen=k) (hsrc:∀ j v,cs[j]?=some v→W.cell? (a.add j)=some v) (h1:∀ v∈cs,v.oneCell'=true) :
  (Builtin.copy_ #[dT,sT] ty #[.slice (some ⟨g,o*5,none⟩) dLen dCap,.slice (some a) sLen sCap]).run P W=.ok (.int .i64 (k:Nat)) (W.setRow g (spl cur o cs)):=by
 have:=qaB (P:=P) W dT sT ty 68 g (o*5) dLen dCap a sLen sCap cur 68 cs 5 hu hs hg (by rw[hk,hl]) hsrc (by omega) h1
 rw[hk] at this
 exact this
theorem Yl {cur:Array Value} {o k:Nat} {A cs:List Value} (hA:cur.toList.take (o*5)=A) (hl:cs.length=k*5) (h:(o+k)*5≤cur.size):(spl cur o cs).toList.take ((o+k)*5)=A++cs:=by
 unfold spl
 rw[List.toList_toArray,hA,Nat.add_mul]
 have:A.length=o*5:=by rw[←hA,List.length_take,Array.length_toList];omega
 exact take_mid (by omega)
theorem qhJ {cur:Array Value} {n i m:Nat} {xs vs:List Value} (hc:cur.toList.take (n*5)=xs) (hx:xs.length=n*5) (hv:vs.length=m*5) (hi:i≤n) (h:(n+m)*5≤cur.size) :
  (spl (spl cur (i+m) (xs.drop (i*5))) i vs).toList.take ((n+m)*5)=xs.take (i*5)++vs++xs.drop (i*5):=by
 have hd:(xs.drop (i*5)).length=(n-i)*5:=by rw[List.length_drop];omega
 have e1:(spl cur (i+m) (xs.drop (i*5))).toList=cur.toList.take ((i+m)*5)++xs.drop (i*5)++cur.toList.drop ((i+m)*5+(xs.drop (i*5)).length):=by unfold spl;rw[List.toList_toArray]
 have hl1:(cur.toList.take ((i+m)*5)).length=(i+m)*5:=by rw[List.length_take,Array.length_toList];omega
 have e2:(spl cur (i+m) (xs.drop (i*5))).toList.take (i*5)=xs.take (i*5):=by
  rw[e1,List.append_assoc,List.take_append_of_le_length (by omega),List.take_take,Nat.min_eq_left (by omega),←hc,List.take_take,Nat.min_eq_left (by omega)]
 have e3:(spl cur (i+m) (xs.drop (i*5))).toList.drop (i*5+vs.length)=xs.drop (i*5)++cur.toList.drop ((i+m)*5+(xs.drop (i*5)).length):=by
  rw[e1,List.append_assoc]
  have:i*5+vs.length=(cur.toList.take ((i+m)*5)).length:=by omega
  rw[this]
  exact List.drop_left
 generalize hY:spl cur (i+m) (xs.drop (i*5))=Y at *
 unfold spl
 rw[List.toList_toArray,e2,e3,←List.append_assoc]
 have ht:(xs.take (i*5)).length=i*5:=by rw[List.length_take];omega
 have:(n+m)*5=(xs.take (i*5)++vs++xs.drop (i*5)).length:=by simp only[List.length_append];omega
 rw[this]
 exact List.take_left
set_option maxRecDepth 100000 in
theorem qdC (A:Option Addr) (n c:Nat) (us:List Value) (hn:n<1073741824) (h1:∀ u∈us,u.oneCell'=true) (w:World) (hr:Rd w w.heap.size 5 A n us) :
  Calls Tryz.prog 102 #[.slice A n c] w (zE (fun u w'=>w'.ownsRow w.heap.size 68 5 u n us) w):=by
 obtain⟨i0,hi,hz0,hz1,hz2⟩:=info_parts Tryz.info_item
 have qn:∀ (w:World) (a:Option Addr) (n c n' c':Nat),(binOp .eql 47 (.slice a n c) (.slice none n' c')).run Tryz.prog w=.ok (.bool a.isNone) w:=fun w a n c n' c'=>Lib.run_eql_slice_nil w _ _ a n c n' c' Tryz.underlying47
 rcases A with _|⟨b,off,p⟩
 ·have h0:n=0:=by
   rcases Nat.eq_zero_or_pos n with h|h
   ·exact h
   ·obtain⟨b,off,h,_⟩:=hr.2 h
    cases h
  subst h0
  obtain rfl:us=[]:=List.eq_nil_of_length_eq_zero (by simpa using hr.1)
  go_enter Tryz.func102,Tryz.ntmps102
  go_wp2
  go_ret
  exact⟨_,rfl,World.ownsRow_nil _ _ _ _,Below.refl _ _⟩
 ·go_enter Tryz.func102,Tryz.ntmps102
  go_wp2_with (at_builtin;refine qZ ?_)
  refine QA.go (Qq _ rfl (.tmp 5) (.tmp 6) 47 rfl w.heap.size 68 i0 _ 5 48 Tryz.underlying47 hi hz0 hz1 hz2 rfl (by decide) _ 0 [] rfl ?_ w.heap.size _ n c us (by exact rfl) ?_ h1 (by omega) (by decide) (by simp) ?_)
  ·exact World.ownsRow_lit w #[] 0 (zM _) (by simp[maxLen]) rfl
  ·exact hr.keep fun p hp=>World.cell?_alloc_lt w _ p hp
  ·intro v' w' hown _ hb _
   simp only[Nat.zero_add,List.nil_append] at hown
   go_wp2
   go_ret
   exact⟨_,rfl,hown,Below.trans ((Below.refl _ _).alloc (zM _) _) hb⟩
def KX (lo:Nat) (s:Value) (k:Nat) (ys:List Value) (w:World) (e:Ending) (W:World):Prop:=∃ v',e=.returned v'∧W.ownsRow lo 68 5 v' k ys∧Below lo w W∧∀ q,q<w.heap.size→s.ownBlock≠some q→W.heap[q]?=w.heap[q]?
theorem zt {lo g:Nat} {w W:World} (h:Below lo w W) (hlo:lo≤w.heap.size) (hg:lo≤g) (cur:Array Value):Below lo w (W.setRow g cur):=
 h.grown (XI W g cur) (by have:=h.size;omega) (fun k hk=>by cases hk;exact hg)
theorem qdz {w:World} {lo m c g:Nat} {e:TypeId} {vs:List Value} (h:w.ownsRow lo e 5 (.slice (some ⟨g,0,none⟩) m c) m vs):∀ j u,vs[j]?=some u→w.cell? ((⟨g,0,none⟩:Addr).add j)=some u:=fun j u hu=>by
 rcases h.2 with ⟨h0,_⟩|⟨g',cap,cur,hv,hb,hg,hnc,_,hsz,htk⟩
 ·cases h0
 ·cases hv
  rw[Addr.add_lit,Nat.zero_add,qa hg,←Array.getElem?_toList]
  rw[←htk,List.getElem?_take] at hu
  split at hu
  ·exact hu
  ·cases hu
theorem UJ (ps:List (It×Value)):∀ k,qR (ps.drop k)=(qR ps).drop (k*5):=by
 induction ps with
 |nil=>intro k;simp[qR]
 |cons p r ih =>
  intro k
  rcases k with _|k
  ·simp[qR]
  ·rw[List.drop_succ_cons,show (k+1)*5=k*5+1+1+1+1+1 by omega]
   simp only[qR,List.drop_succ_cons,ih k]
theorem qaa (ps:List (It×Value)) (h:∀ p∈ps,p.2.oneCell'=true):∀ u∈qR ps,u.oneCell'=true:=by
 induction ps with
 |nil=>intro u hu;cases hu
 |cons p r ih =>
  intro u hu
  simp only[qR,List.mem_cons] at hu
  rcases hu with rfl|rfl|rfl|rfl|rfl|hu
  ·rfl
  ·rfl
  ·rfl
  ·rfl
  ·exact h p List.mem_cons_self
  ·exact ih (fun q hq=>h q (List.mem_cons_of_mem _ hq)) u hu
theorem Its.take {w:World} {B b off n c:Nat} {xs:List It} (h:Its w B (.slice (some ⟨b,off,none⟩) n c) xs) {k:Nat} (hk:k≤xs.length):Its w B (.slice (some ⟨b,off,none⟩) k c) (xs.take k):=by
 obtain⟨ps,rfl,⟨A,c',e,h1,h2,hr⟩,hp⟩:=h
 cases e
 have hk':k≤ps.length:=by simpa using hk
 refine⟨ps.take k,by rw[List.map_take],⟨_,c,by rw[List.length_take,Nat.min_eq_left hk],by rw[List.length_take];omega,h2,?_⟩,fun p hpm=>hp p (List.mem_of_mem_take hpm)⟩
 rw[List.length_take,Nat.min_eq_left hk]
 rw[←UL]
 refine⟨by rw[List.length_take,hr.1,List.length_map];omega,fun hn=>?_⟩
 obtain⟨b',off',e,hb,hc⟩:=hr.2 (by omega)
 exact⟨b',off',e,hb,fun j u hu=>hc j u (by rw[List.getElem?_take] at hu;split at hu;exact hu;cases hu)⟩
theorem Its.drop {w:World} {B b off n c:Nat} {xs:List It} (h:Its w B (.slice (some ⟨b,off,none⟩) n c) xs) {k:Nat} (hk:k<xs.length):Its w B (.slice (some ⟨b,off+k*5,none⟩) (n-k) (c-k)) (xs.drop k):=by
 obtain⟨ps,rfl,⟨A,c',e,h1,h2,hr⟩,hp⟩:=h
 cases e
 have hk':k<ps.length:=by simpa using hk
 refine⟨ps.drop k,by rw[List.map_drop],⟨_,c-k,by rw[List.length_drop],by rw[List.length_drop];omega,by omega,?_⟩,fun p hpm=>hp p (List.mem_of_mem_drop hpm)⟩
 rw[List.length_drop,UJ]
 refine⟨by rw[List.length_drop,hr.1,List.length_map];omega,fun hn=>?_⟩
 obtain⟨b',off',e,hb,hc⟩:=hr.2 (by omega)
 cases e
 exact⟨b,off+k*5,rfl,hb,fun j u hu=>by
  rw[List.getElem?_drop] at hu
  rw[Nat.add_assoc]
  exact hc _ _ hu⟩
theorem Vl.take {X:Nat→Prop} {w:World} {b off n c:Nat} {xs:List It} (h:Vl X w (.slice (some ⟨b,off,none⟩) n c) xs) {k:Nat} (hk:k≤xs.length):Vl X w (.slice (some ⟨b,off,none⟩) k c) (xs.take k):=fun C hC=>(h C hC).take hk
theorem Vl.drop {X:Nat→Prop} {w:World} {b off n c:Nat} {xs:List It} (h:Vl X w (.slice (some ⟨b,off,none⟩) n c) xs) {k:Nat} (hk:k<xs.length):Vl X w (.slice (some ⟨b,off+k*5,none⟩) (n-k) (c-k)) (xs.drop k):=fun C hC=>(h C hC).drop hk
theorem Bch.notB3 {D:Nat→Prop} {B lo b g:Nat} {k:Option Nat} {S:Sto} {w:World} (h:Bch D B lo b g k S w) {q:Nat} {cs:Array Value} {ty:TypeId} {fr:Nat×Nat} (hr:w.heap[q]?=some (.cells cs ty fr)) (h1:ty≠191) (h2:ty≠5) (h3:ty≠130):¬B3 b g k q:=fun hx=>by
 obtain⟨A1,n1,c1,v2,c3,A4,c4,hro,ho,⟨ps,_,hw,_⟩,_,_⟩:=h.ex
 rcases hx with e|e|e
 ·subst e
  rw[hr] at hro
  simp only[Option.some.injEq,Obj.cells.injEq] at hro
  exact h1 hro.2.1
 ·subst e
  obtain⟨cur,hg⟩:=ZK ho (q:=q) rfl
  rw[hr] at hg
  simp only[Option.some.injEq,Obj.cells.injEq] at hg
  exact h2 hg.2.1
 ·rcases hw with ⟨e1,_⟩|⟨q',e1,e2,how⟩
  ·rw[e1] at e;cases e
  ·rw[e1] at e
   cases e
   obtain⟨cur,hg⟩:=ZK how e2
   rw[hr] at hg
   simp only[Option.some.injEq,Obj.cells.injEq] at hg
   exact h3 hg.2.1
def upV (ups:List It):List (It×Value):=ups.map fun x=>(x,.slice none 0 0)
theorem upV_item (ups:List It) (x:It):qR (upV (ups++[x]))=qR (upV ups)++[.int .u8 x.k,.int .u32 x.i,.int .u32 x.o,.int .i64 x.r,.slice none 0 0]:=by
 unfold upV
 rw[List.map_append,JJ]
 rfl
theorem qff {t:List UInt8} {a:Nat} {e:Int} (h:JB t a=.error e):e≠0:=by
 unfold JB at h
 split at h
 ·cases h
 ·split at h
  ·cases h;decide
  ·split at h
   ·cases h;decide
   ·cases h
theorem GL:∀ {l:List Nat} {t:List UInt8} {e:Int},ZL l t=.error e→e≠0
 | [],t,e,h=>by cases h
 |a :: l,t,e,h=>by
  simp only[ZL] at h
  split at h
  ·rename_i e' h'
   cases h
   exact qff h'
  ·exact GL h
theorem Ys {S:Sto} {lvl:Int} {its:List It} {e:Int} (h:Zq S lvl its=.error e):e≠0:=by
 unfold Zq at h
 split at h
 ·split at h
  ·rename_i e' h'
   cases h
   exact GL h'
  ·split at h
   ·cases h;decide
   ·cases h
 ·cases h;decide
theorem Kg (lvl:Int):∀ (ps qs:List (List It)) (S:Sto),jJ lvl (ps++qs) S=match jJ lvl ps S with
  | .error e=>.error e
  | .ok (up,S')=>match jJ lvl qs S' with
   | .error e=>.error e
   | .ok (up',S'')=>.ok (up++up',S'')
 | [],qs,S=>by
  simp only[List.nil_append,jJ]
  rcases jJ lvl qs S with e|⟨up,S'⟩ <;> rfl
 |p :: ps,qs,S=>by
  simp only[List.cons_append,jJ]
  rcases Zq S lvl p with e|⟨f,S'⟩
  ·rfl
  ·simp only
   rw[Kg lvl ps qs S']
   rcases jJ lvl ps S' with e|⟨up,S''⟩
   ·rfl
   ·simp only
    rcases jJ lvl qs S'' with e|⟨up',S3⟩ <;> rfl
theorem qhR (lvl:Int) (p:List It) (S:Sto):jJ lvl [p] S=match Zq S lvl p with
  | .error e=>.error e
  | .ok (f,S')=>.ok ([mkIt (TM p) f],S'):=by
 simp only[jJ] <;> (rcases Zq S lvl p with e|⟨f,S'⟩ <;> rfl)
theorem qin {lvl:Int} {ps:List (List It)} {j:Nat} (hj:j<ps.length) {S S':Sto} {up:List It} {e:Int} (h:jJ lvl (ps.take j) S=.ok (up,S')) (h1:Zq S' lvl ps[j]=.error e):jJ lvl ps S=.error e:=by
 have:ps=ps.take j++(ps[j] :: ps.drop (j+1)):=by rw[←List.drop_eq_getElem_cons hj,List.take_append_drop]
 rw[this,Kg,h]
 simp only[jJ]
 rw[h1]
theorem qfF {lvl:Int} {ps:List (List It)} {j:Nat} (hj:j<ps.length) {S S' S'':Sto} {up:List It} {f:Nat} (h:jJ lvl (ps.take j) S=.ok (up,S')) (h1:Zq S' lvl ps[j]=.ok (f,S'')):jJ lvl (ps.take (j+1)) S=.ok (up++[mkIt (TM ps[j]) f],S''):=by
 rw[List.take_succ_eq_append_getElem hj,Kg,h]
 simp only
 rw[qhR,h1]
theorem qgp {its:List It} (k:Nat):qX its=qX (its.take k)++qX (its.drop k):=by
 unfold qX
 rw[←List.map_append,List.take_append_drop]
theorem GW {its:List It} {k:Nat} (hk:k<its.length) {t t':List UInt8} (h:QH (qX (its.take k)) t=.ok t') (h0:its[k].r.toNat≠0) (h1:Qj t' its[k].r.toNat=0):QH (qX its) t=.error 6:=by
 rw[qgp (its:=its) k,jP,h]
 simp only
 rw[List.drop_eq_getElem_cons hk]
 exact JC h0 h1 _
theorem Ux {its:List It} {k:Nat} (hk:k<its.length) {t t':List UInt8} (h:QH (qX (its.take k)) t=.ok t') (h0:its[k].r.toNat≠0) (h1:Qj t' its[k].r.toNat≠0):QH (qX (its.take (k+1))) t=.ok (kh t' its[k].r.toNat):=by
 rw[Vr hk,jP,h]
 simp only
 rw[Je h0 h1]
 rfl
theorem Uu {its:List It} {k:Nat} (hk:k<its.length) {t t':List UInt8} (h:QH (qX (its.take k)) t=.ok t') (h0:its[k].r.toNat=0):QH (qX (its.take (k+1))) t=.ok t':=by
 rw[Vr hk,jP,h]
 simp only
 rw[h0,Jf]
 rfl
structure SM (S S':Sto):Prop where
 node:∀ r nd,qu S r=some nd→qu S' r=some nd
 pos:∀ r:Nat,0<(S.now[r]?.getD 0).toNat→0<(S'.now[r]?.getD 0).toNat
theorem Xd {one one':It→Option (K3×K3)} (h:∀ y p,one y=some p→one' y=some p):∀ (xs:List It) (a:Option (Option (K3×K3))) (q:Option (K3×K3)),xs.foldl (vd one) a=some q→xs.foldl (vd one') a=some q
 | [],_,_,e=>e
 |x :: r,a,q,e=>by
  simp only[List.foldl_cons] at e ⊢
  have hs:=(TU one r (vd one a x) (by rw[e];rfl)).1
  have e2:vd one' a x=vd one a x:=by
   unfold vd at hs ⊢
   rcases a with _|a
   ·rfl
   ·rcases hx:one x with _|p
    ·rw[hx] at hs;cases hs
    ·rw[h x p hx]
  rw[e2]
  exact Xd h r _ q e
section
variable {S S':Sto}
theorem SM.one (hm:SM S S'):∀ (h:Nat) (y:It) (p:K3×K3),vA S h y=some p→vA S' h y=some p
 |0,y,p,e=>by
  unfold vA at e ⊢
  split at e
  ·rename_i hc
   rw[if_pos (hc.imp id (hm.pos _))]
   exact e
  ·cases e
 |h+1,y,p,e=>by
  rw[VV] at e ⊢
  unfold vP at e ⊢
  split at e
  ·rename_i hr
   rw[if_pos hr]
   rcases hn:qu S y.r.toNat with _|⟨lvl,xs⟩
   ·rw[hn] at e;cases e
   ·rw[hn] at e
    rw[hm.node _ _ hn]
    simp only at e ⊢
    split at e
    ·rename_i hl
     rw[if_pos hl]
     rcases hs:Qe S h xs with _|q
     ·rw[hs] at e;cases e
     ·rw[hs] at e
      have h2:Qe S' h xs=some q:=Xd (SM.one hm h) xs _ q hs
      rw[h2]
      exact e
    ·cases e
  ·cases e
theorem SM.span (hm:SM S S') {h:Nat} {xs:List It} {q:Option (K3×K3)} (e:Qe S h xs=some q):Qe S' h xs=some q:=Xd (hm.one h) xs _ q e
theorem SM.spanOk (hm:SM S S') {h:Nat} {xs:List It} (e:(Qe S h xs).isSome=true):(Qe S' h xs).isSome=true:=by
 obtain⟨q,hq⟩:=Option.isSome_iff_exists.1 e
 rw[hm.span hq]
 rfl
theorem SM.okL (hm:SM S S') {L r:Int} (e:okL S L r=true):okL S' L r=true:=by
 unfold Go.Proofs.YtpbniokljofedaaGreat.okL at e ⊢
 split at e
 ·rename_i hr
  rw[if_pos hr]
  rcases hn:qu S r.toNat with _|⟨lvl,xs⟩
  ·rw[hn] at e;cases e
  ·rw[hn] at e
   rw[hm.node _ _ hn]
   simp only[Bool.and_eq_true] at e ⊢
   exact⟨hm.spanOk e.1,e.2⟩
 ·cases e
end
theorem ints_at (l:List Nat) {k:Nat} (hk:k<l.length):(jG l)[k]?=some (.int .i64 (l[k]:Int)):=by unfold jG;rw[List.getElem?_map,zL hk];rfl
def IxP (l:List Nat) (x:Nat) (u:Value):Prop:=(x∈l∧∃ j:Nat,j<l.length∧u=.int .i64 (j:Int))∨(x∉l∧u=.int .i64 (-1))
theorem ix_ret {R:Ending→World→Prop} {a:Act} {W:World} {u:Value} (h4:a.tmps[4]?.getD undef=u) (hd:a.defers=[]) (hR:R (.returned u) W):bodyPost Tryz.prog Tryz.f164 R .ret a W:=by
 refine bodyPost_ret (v:=u) ?_ hd hR
 simp[results,Tryz.results164,go_sem,h4]
set_option maxRecDepth 100000 in
theorem qhO (A:Option Addr) (c:Nat) (l:List Nat) (hl:l.length≤1000000) (x:Nat) (w:World) (h:Rd w w.heap.size 1 A l.length (jG l)) :
  Calls Tryz.prog 164 #[.slice A l.length c,.int .i64 (x:Int)] w (fun e W=>∃ u,e=.returned u∧IxP l x u∧W=w):=by
 replace h:=zH h
 go_enter Tryz.func164,Tryz.ntmps164
 go_wp2_with fail
 go_loopw [8] (fun i wr=>∃ k:Nat,k≤l.length∧i=.int .i64 (k:Int)∧wr=w∧∀ j (hj:j<l.length),j<k→l[j]≠x) (fun i _=>l.length-(intOf i).toNat)
 case atStart=>exact⟨0,Nat.zero_le _,rfl,rfl,fun j _ hj=>absurd hj (Nat.not_lt_zero _)⟩
 case round =>
  obtain⟨k,hk,rfl,rfl,hno⟩:=hrel
  replace hno:=zH hno
  by_cases hlt:k<l.length
  ·obtain⟨b,o,rfl,hb,hcell⟩:=h.out.2 (by omega)
   have hc:=hcell k _ (ints_at l hlt)
   have HNO:=zH (fun (he:l[k]≠x) j (hj:j<l.length) (hjk:j<k+1)=>by
    rcases Nat.lt_or_ge j k with h1|h1
    ·exact hno.out j hj h1
    ·obtain rfl:j=k:=by omega
     exact he)
   have HY:=zH (fun (he:l[k]=x)=>(⟨he ▸ List.getElem_mem hlt,k,hlt,rfl⟩:x∈l∧∃ j:Nat,j<l.length∧(Value.int .i64 (k:Int))=.int .i64 (j:Int)))
   have hw:=zH (IntWalk.wrap64_in ((k:Int)+1) (by omega))
   have hd1:decide (k<l.length)=true:=decide_eq_true hlt
   generalize l[k]=y at *
   clear hcell
   by_cases he:y=x
   ·have z1:((x:Int) == (y:Int))=true:=by rw[beq_iff_eq];omega
    have z2:decide (x=y)=true:=decide_eq_true he.symm
    have hQ:=zH (HY.out he)
    clear HNO HY
    replace he:=zH he
    go_wp2_with fail
    exact ix_ret rfl rfl ⟨_,rfl,.inl hQ.out,rfl⟩
   ·have z1:((x:Int) == (y:Int))=false:=by rw[beq_eq_false_iff_ne];omega
    have z2:decide (x=y)=false:=decide_eq_false (fun h=>he h.symm)
    have hQ:=zH (HNO.out he)
    clear HNO HY
    replace he:=zH he
    have hw':=hw.out
    go_wp2_with fail
    refine⟨⟨k+1,hlt,rfl,trivial,fun j hj hjk=>hQ.out j hj hjk⟩,?_⟩
    simp[intOf]
    omega
  ·obtain rfl:k=l.length:=by omega
   have hQ:x∉l:=fun hx=>by
    obtain⟨j,hj,e⟩:=List.mem_iff_getElem.1 hx
    exact hno.out j hj hj e
   replace hQ:=zH hQ
   go_wp2_with fail
   exact ix_ret rfl rfl ⟨_,rfl,.inr ⟨hQ.out,rfl⟩,rfl⟩
set_option maxRecDepth 100000 in
theorem has_any (A:Option Addr) (c:Nat) (l:List Nat) (hl:l.length≤1000000) (x:Nat) (w:World) (h:Rd w w.heap.size 1 A l.length (jG l)) :
  Calls Tryz.prog 128 #[.slice A l.length c,.int .i64 (x:Int)] w (fun e W=>e=.returned (.bool (decide (x∈l)))∧W=w):=by
 have HI:=zH (qhO A c l hl x w h)
 clear h
 go_enter Tryz.func128,Tryz.ntmps128
 go_wp2_with fail
 refine HI.out.mono ?_
 clear HI
 rintro e W ⟨u,rfl,hu,rfl⟩
 rcases hu with ⟨h1,j,hj,rfl⟩|⟨h1,rfl⟩
 ·have z1:decide ((j:Int)≥0)=true:=decide_eq_true (by omega)
  replace h1:=zH h1
  go_wp2_with fail
  go_ret
  exact⟨by rw[decide_eq_true h1.out];rfl,rfl⟩
 ·replace h1:=zH h1
  go_wp2_with fail
  go_ret
  exact⟨by rw[decide_eq_false h1.out];rfl,rfl⟩
def qcy (S:Sto) (refs:Nat→Nat):Bool:=(List.range 256).all fun a=>decide (refs a≤(S.now[a]?.getD 0).toNat)
theorem qdA (S:Sto) (refs:Nat→Nat):qcy S refs=true↔Qz S refs:=by
 unfold qcy Qz
 rw[List.all_eq_true]
 exact⟨fun h a ha=>of_decide_eq_true (h a (List.mem_range.2 ha)),fun h a ha=>decide_eq_true (h a (List.mem_range.1 ha))⟩
theorem Qf.same {S:Sto} {root next:Int} {dead:List Int} {vs vs':List Vol} (h:Qf S root next dead vs) (h':Qf S root next dead vs'):vs=vs':=by
 have:=h.vols
 rw[h'.vols] at this
 cases this
 rfl
def jI (S:Sto) (refs nodes:Nat→Nat) (a:Int) (held:Bool):Int:=if 8≤a∧a<256 then (if zO S a.toNat=0∨0<nodes a.toNat∨(held=true∧zO S a.toNat≤refs a.toNat) then 6 else 0) else 2
theorem qhE {S:Sto} {refs nodes:Nat→Nat} {a:Int} (h:¬(8≤a∧a<256)) (held:Bool):jI S refs nodes a held=2:=by unfold jI;rw[if_neg h]
theorem dataE_in (S:Sto) (refs nodes:Nat→Nat) {a:Nat} (h8:8≤a) (h:a<256) (held:Bool):jI S refs nodes (a:Int) held=if zO S a=0∨0<nodes a∨(held=true∧zO S a≤refs a) then 6 else 0:=by
 unfold jI
 rw[if_pos (by omega),Int.toNat_natCast]
theorem mem_met {nodes:Nat→Nat} {a:Nat} (h:a<256):a∈Va nodes 256↔0<nodes a:=by
 unfold Va
 simp[h]
def DataQ (S:Sto) (root next:Int) (dead:List Int) (a:Int) (held:Bool) (w:World) (e:Ending) (w':World):Prop:=Below w.heap.size w w' ∧
 ((e=.returned (.int .i64 8)∧∀ vs,Qf S root next dead vs→∃ refs nodes,qQ S (Qt root dead vs) refs nodes∧¬Qz S refs) ∨
  ∃ vs refs nodes,Qf S root next dead vs∧qQ S (Qt root dead vs) refs nodes∧Qz S refs∧e=.returned (.int .i64 (jI S refs nodes a held)))
theorem JX {R:Ending→World→Prop} {a:Act} {W:World} {u:Value} (h6:a.tmps[6]?.getD undef=u) (hd:a.defers=[]) (hR:R (.returned u) W):bodyPost Tryz.prog Tryz.f73 R .ret a W:=by
 refine bodyPost_ret (v:=u) ?_ hd hR
 simp[results,Tryz.results73,go_sem,h6]
theorem Um {S:Sto} {R:List Nat} {refs refs' nodes nodes':Nat→Nat} (h:qQ S R refs nodes) (h':qQ S R refs' nodes'):refs=refs':=(jA.same h.mkd h'.mkd).2
set_option maxRecDepth 100000 in
theorem data_any (A1:Option Addr) (n1 c1:Nat) (A2:Option Addr) (n2 c2:Nat) (A3:Option Addr) (n3 c3:Nat) (A4:Option Addr) (n4 c4:Nat) (gen root next:Int) (A5:Option Addr) (c5:Nat) (S:Sto) (dead:List Int) (a:Int) (held:Bool) (w:World)
  (h:qT w w.heap.size (.slice A1 n1 c1) (.slice A2 n2 c2) (.slice A3 n3 c3) (.slice A4 n4 c4) S) (hd:ZE w w.heap.size (.slice A5 dead.length c5) dead) :
  Calls Tryz.prog 73 #[.agg (qB (.slice A1 n1 c1) (.slice A2 n2 c2) (.slice A3 n3 c3) (.slice A4 n4 c4) gen root next (.slice A5 dead.length c5)),.int .i64 a,.bool held] w (DataQ S root next dead a held w):=by
 have HI:=fun W (hx:Ext w W)=>(show ZE W W.heap.size (.slice A5 dead.length c5) dead by
  obtain⟨A,c,e,q1,q2,q3⟩:=hd
  exact⟨A,c,e,q1,q2,(q3.below hx).more hx.size⟩)
 have HR:=zH (fun W (hx:Ext w W)=>refs_any A1 n1 c1 A2 n2 c2 A3 n3 c3 A4 n4 c4 gen root next A5 c5 S dead W (h.ext hx) (HI W hx))
 have HN:=zH (fun W (hx:Ext w W)=>qhz A1 n1 c1 A2 n2 c2 A3 n3 c3 A4 n4 c4 gen root next A5 c5 S dead W (h.ext hx) (HI W hx))
 replace h:=zH h
 clear hd HI
 go_enter Tryz.func73,Tryz.ntmps73
 go_wp2_with fail
 generalize hw1:(World.alloc w _)=w1
 have x1:Ext w w1:=by rw[←hw1];exact zN _ _
 have rp1:w1.heap[w.heap.size]?=some (.cells (qB (.slice A1 n1 c1) (.slice A2 n2 c2) (.slice A3 n3 c3) (.slice A4 n4 c4) gen root next (.slice A5 dead.length c5)) 32 (0,0)):=by rw[←hw1];exact zI _ _ _ rfl
 clear hw1
 refine(HR.out w1 x1).mono ?_
 clear HR
 rintro e w2 ⟨hB,hQ⟩
 have x2:Ext w w2:=Ext.trans x1 hB
 have rp2:=qb rp1 hB
 clear hB rp1 x1
 rcases hQ with ⟨rfl,hno⟩|⟨vs,refs,nodes,cb,ca,vv,lo,rfl,hlo,hT⟩
 ·replace hno:=zH hno
  go_wp2_with fail
  exact JX rfl rfl ⟨x2,.inl ⟨rfl,hno.out⟩⟩
 ·have kp2:=qa rp2
  replace hT:=zH hT
  go_wp2_with fail
  refine(HN.out w2 x2).mono ?_
  clear HN
  rintro e w3 ⟨hB,hQ⟩
  have x3:Ext w w3:=Ext.trans x2 hB
  have rp3:=qb rp2 hB
  have rc3:=qb hT.out.row hB
  clear hB rp2 x2 kp2
  rcases hQ with ⟨rfl,hno⟩|⟨vs',refs',nodes',v,lo',rfl,hlo',hp',hc',he',hown⟩
  ·obtain⟨refs',nodes',hc',hn'⟩:=hno vs hT.out.pool
   exact absurd (Um hT.out.cnt hc' ▸ hT.out.enough) hn'
  ·obtain rfl:=Qf.same hT.out.pool hp'
   obtain rfl:=Um hT.out.cnt hc'
   obtain⟨An,cn,rfl,-,-⟩:=qw hown
   by_cases hr:8≤a∧a<256
   ·obtain⟨m,hma⟩:=Int.eq_ofNat_of_zero_le (show 0≤a by omega)
    subst hma
    have hm8:8≤m:=by omega
    have hm256:m<256:=by omega
    have hE:=dataE_in S refs nodes' hm8 hm256 held
    obtain⟨b,o,c,e3,hb,hcell⟩:=TE hp'.may h.out.now
    have hcn:=Ext.cell x3 (hcell m hm256)
    have hrf:=(qa rc3 (6+m)).trans (hT.out.ar.ref m hm256)
    have hmem:=mem_met (nodes:=nodes') hm256
    have HH:=has_any An cn (Va nodes' 256) (Nat.le_trans (qbl _ _) (by omega)) m w3 (Rd.of_own hown)
    cases e3
    have kp3:=qa rp3
    have d1:decide ((m:Int)<8)=false:=decide_eq_false (by omega)
    have d2:decide ((m:Int)≥256)=false:=decide_eq_false (by omega)
    have hQ:=fun E (hh:jI S refs nodes' (m:Int) held=E)=>(⟨x3,.inr ⟨vs,refs,nodes',hp',hc',he',by rw[hh]⟩⟩:DataQ S root next dead (m:Int) held w (.returned (.int .i64 E)) w3)
    replace hQ:=zH hQ
    have hwn:=zH (IntWalk.wrap64_in (zO S m:Int) (by have:=(S.now[m]?.getD 0).toNat_lt;unfold zO;omega))
    generalize zO S m=nw at *
    generalize refs m=rf at *
    clear hT hp' hc' he' hown hcell hr rc3
    by_cases h0:nw=0
    ·have z1:((nw:Int) == 0)=true:=by rw[beq_iff_eq];omega
     have z2:decide (nw=0)=true:=decide_eq_true h0
     rw[if_pos (.inl h0)] at hE
     replace hE:=zH hE
     replace h0:=zH h0
     replace hmem:=zH hmem
     have hw':=hwn.out
     go_wp2_with fail
     exact JX rfl rfl (hQ.out _ hE.out)
    ·have z1:((nw:Int) == 0)=false:=by rw[beq_eq_false_iff_ne];omega
     have z2:decide (nw=0)=false:=decide_eq_false h0
     by_cases hm:m∈Va nodes' 256
     ·rw[decide_eq_true hm] at HH
      rw[if_pos (.inr (.inl (hmem.1 hm)))] at hE
      replace hE:=zH hE
      replace h0:=zH h0
      replace hmem:=zH hmem
      replace hm:=zH hm
      have hw':=hwn.out
      go_wp2_with fail
      refine HH.mono ?_
      rintro e w4 ⟨rfl,rfl⟩
      have hw':=hwn.out
      go_wp2_with fail
      exact JX rfl rfl (hQ.out _ hE.out)
     ·rw[decide_eq_false hm] at HH
      have hm':¬0<nodes' m:=fun h=>hm (hmem.2 h)
      replace hmem:=zH hmem
      replace hm:=zH hm
      cases held
      ·rw[if_neg (fun h=>by rcases h with h|h|⟨h,h'⟩;exact h0 h;exact hm' h;cases h)] at hE
       replace hE:=zH hE
       replace h0:=zH h0
       replace hm':=zH hm'
       have hw':=hwn.out
       go_wp2_with fail
       refine HH.mono ?_
       rintro e w4 ⟨rfl,rfl⟩
       have hw':=hwn.out
       go_wp2_with fail
       exact JX rfl rfl (hQ.out _ hE.out)
      ·by_cases hle:nw≤rf
       ·have z3:decide ((nw:Int)≤(rf:Int))=true:=decide_eq_true (by omega)
        have z4:decide (nw≤rf)=true:=decide_eq_true hle
        rw[if_pos (.inr (.inr ⟨rfl,hle⟩))] at hE
        replace hE:=zH hE
        replace h0:=zH h0
        replace hm':=zH hm'
        replace hle:=zH hle
        have hw':=hwn.out
        go_wp2_with fail
        refine HH.mono ?_
        rintro e w4 ⟨rfl,rfl⟩
        have hw':=hwn.out
        go_wp2_with fail
        exact JX rfl rfl (hQ.out _ hE.out)
       ·have z3:decide ((nw:Int)≤(rf:Int))=false:=decide_eq_false (by omega)
        have z4:decide (nw≤rf)=false:=decide_eq_false hle
        rw[if_neg (fun h=>by rcases h with h|h|⟨h',h⟩;exact h0 h;exact hm' h;exact hle h)] at hE
        replace hE:=zH hE
        replace h0:=zH h0
        replace hm':=zH hm'
        replace hle:=zH hle
        have hw':=hwn.out
        go_wp2_with fail
        refine HH.mono ?_
        rintro e w4 ⟨rfl,rfl⟩
        go_wp2_with fail
        exact JX rfl rfl (hQ.out _ hE.out)
   ·have hE:=zH (qhE (S:=S) (refs:=refs) (nodes:=nodes') hr held)
    have hQ:=fun E (hh:jI S refs nodes' a held=E)=>(⟨x3,.inr ⟨vs,refs,nodes',hp',hc',he',by rw[hh]⟩⟩:DataQ S root next dead a held w (.returned (.int .i64 E)) w3)
    replace hQ:=zH hQ
    clear hT hp' hc' he' hown rc3
    by_cases h8:a<8
    ·have d1:decide (a<8)=true:=decide_eq_true h8
     replace hr:=zH hr
     go_wp2_with fail
     exact JX rfl rfl (hQ.out _ hE.out)
    ·have d1:decide (a<8)=false:=decide_eq_false h8
     have d2:decide (a≥256)=true:=decide_eq_true (by omega)
     replace hr:=zH hr
     go_wp2_with fail
     exact JX rfl rfl (hQ.out _ hE.out)
abbrev ZG:Value:=.agg (qB (.slice none 0 0) (.slice none 0 0) (.slice none 0 0) (.slice none 0 0) 0 0 0 (.slice none 0 0))
def jl (lo:Nat) (S:Sto) (gen root next:Int) (dead:List Int) (u:Value) (W:World):Prop:=∃ A1 c1 A2 c2 A3 c3 A4 c4 A5 c5,u=.agg (qB (.slice A1 S.bs.length c1) (.slice A2 S.ws.length c2) (.slice A3 S.now.length c3) (.slice A4 S.last.length c4) gen root next (.slice A5 dead.length c5)) ∧
 ∀ C:World,PosZ lo W C→qT C W.heap.size (.slice A1 S.bs.length c1) (.slice A2 S.ws.length c2) (.slice A3 S.now.length c3) (.slice A4 S.last.length c4) S∧ZE C W.heap.size (.slice A5 dead.length c5) dead
theorem Rd.pos {w C:World} {B size lo n c:Nat} {A:Option Addr} {xs:List Value} (h:Rd w B size A n xs) (hf:Zp lo (.slice A n c)) (hk:∀ (q:Addr) (v:Value),lo≤q.block→q.block<B→w.cell? q=some v→C.cell? q=some v):Rd C B size A n xs:=
 ⟨h.1,fun hn=>by
  obtain⟨b,off,rfl,hb,hc⟩:=h.2 hn
  exact⟨b,off,rfl,hb,fun j u hu=>hk _ _ (hf ⟨b,off,none⟩ n c rfl) hb (hc j u hu)⟩⟩
theorem ZE.pos {w C:World} {B lo:Nat} {v:Value} {l:List Int} (h:ZE w B v l) (hf:Zp lo v) (hk:∀ (q:Addr) (v:Value),lo≤q.block→q.block<B→w.cell? q=some v→C.cell? q=some v):ZE C B v l:=by
 obtain⟨A,c,e,hc,hm,hr⟩:=h
 subst e
 exact⟨A,c,rfl,hc,hm,Rd.pos hr hf hk⟩
theorem QD.newSto {lo:Nat} {S:Sto} {u:Value} {W:World} (h:QD lo S u W) (hS:Uo S):NewSto lo S u W:=by
 obtain⟨BB,WW,g,A3,c3,A4,c4,e,h1,h2,h3⟩:=h
 refine⟨_,_,_,_,A3,c3,A4,c4,e,qia (W:=thaw W) (Φ:=fun C=>qT C W.heap.size _ _ _ _ S) (fun A C hAC hA=>hA.some_ hAC) fun W2 hk=>?_⟩
 obtain⟨k1,k2⟩:=h1.readsT hS.bs hS.ws hS.be hS.we W2 hk
 exact⟨k1,k2,(Bys.of_ownT h2).keepN (Zp.of_own h2) hk,(Bys.of_ownT h3).keepN (Zp.of_own h3) hk⟩
theorem ZE.of_ownT {w:World} {base:Nat} {v:Value} {l:List Int} (h:w.ownsRow base 3 1 v l.length (TL l)):ZE (thaw w) w.heap.size v l:=by
 obtain⟨A,c,e,hc,hm,hr⟩:=ZE.of_own h
 refine⟨A,c,e,hc,hm,hr.1,fun hn=>?_⟩
 obtain⟨b,off,e2,hb,hcs⟩:=hr.2 hn
 obtain⟨cs,t,hrow⟩:=Thaw.of_own h ⟨b,off,none⟩ l.length c (by rw[e,e2]) hn
 exact⟨b,off,e2,hb,fun j u hu=>(kF hrow _).trans (hcs j u hu)⟩
def outN (lo n:Nat) (l:List Int):qS:=⟨Option Addr×Nat,fun p=>.slice p.1 n p.2,fun p W=>ZE (thaw W) W.heap.size (.slice p.1 n p.2) l∧Zp lo (.slice p.1 n p.2)⟩
theorem ji (lo n:Nat) (l:List Int) (A:Option Addr) (c:Nat):(outN lo n l).f (A,c)=.slice A n c:=rfl
theorem qdZ (lo n:Nat) (l:List Int):∀ p,QS ((outN lo n l).φ p):=fun p W W' he h=>⟨by
 have h1:=h.1
 rw[←kG W] at h1
 have h2:=h1.ext_ (Ext.thaw he)
 rw[kG] at h2
 exact h2,h.2⟩
end Go.Proofs.YtpbniokljofedaaGreat
