/- Lemmas of the proof. -/
import Derived.Test.YtmeadnlmepcmbaaGreatRows
import Derived.WalkKit
import Derived.ProofKit
import Derived.OpenShut
import Derived.BigQuiet
import Derived.BigGuardPart
import Derived.Deep.QuietTactic
import Derived.Deep.RegionHeld3
import Derived.Deep.DeepCutAuto
import Derived.Deep.Draws
import Derived.Maps.AppendAt
import Derived.Lib.Hide
import Derived.Deep.Light
import Derived.RangeFuncNested
import Derived.RangeFuncBox
import Derived.RangeFuncBound
import Derived.RangeFuncCalls
import Derived.RangeFuncLeaves
import Derived.Shelf.Abstract
import Derived.Shelf.RegionOpen
import Derived.OwnWalkIn
import Derived.TacticsInMore
import Derived.LoopNIn
import Derived.LoopIn
import Derived.Deep.Quiet
set_option linter.all false
set_option maxHeartbeats 8000000
open Go.Proofs.Tryz
namespace Go.Proofs.YtmeadnlmepcmbaaGreat
open Go.RowKit
theorem zA.{u}{α:Type u}(l:List α)(i:Nat)(a:α):l.toArray.setIfInBounds i a=(l.set i a).toArray:=List.setIfInBounds_toArray ..
theorem zB.{u}{α:Type u}{x:α}{xs:List α}{a:α}:(x::xs).set 0 a=a::xs:=List.set_cons_zero
theorem zC.{u}{α:Type u}{x:α}{xs:List α}{i:Nat}{a:α}:(x::xs).set (i+1) a=x::xs.set i a:=List.set_cons_succ
theorem zG.{u}{α:Type u}{i:Nat}{b:α}{xs:Array α}:xs[i]?=some b↔∃h:i<xs.size,xs[i]=b:=Array.getElem?_eq_some_iff
theorem zH{p:Prop}(h:p):Hid p:=Lib.hid h
theorem zH2 {p0 p1:Prop}(h0:p0)(h1:p1):Hid p0/\Hid p1:=⟨zH h0,zH h1⟩
theorem zH3 {p0 p1 p2:Prop}(h0:p0)(h1:p1)(h2:p2):Hid p0/\Hid p1/\Hid p2:=⟨zH h0,zH h1,zH h2⟩
theorem zH4 {p0 p1 p2 p3:Prop}(h0:p0)(h1:p1)(h2:p2)(h3:p3):Hid p0/\Hid p1/\Hid p2/\Hid p3:=⟨zH h0,zH h1,zH h2,zH h3⟩
theorem zH5 {p0 p1 p2 p3 p4:Prop}(h0:p0)(h1:p1)(h2:p2)(h3:p3)(h4:p4):Hid p0/\Hid p1/\Hid p2/\Hid p3/\Hid p4:=⟨zH h0,zH h1,zH h2,zH h3,zH h4⟩
theorem zH6 {p0 p1 p2 p3 p4 p5:Prop}(h0:p0)(h1:p1)(h2:p2)(h3:p3)(h4:p4)(h5:p5):Hid p0/\Hid p1/\Hid p2/\Hid p3/\Hid p4/\Hid p5:=⟨zH h0,zH h1,zH h2,zH h3,zH h4,zH h5⟩
theorem zJ(w:World)(a:Addr)(u:Value)(k:Nat)(h:k≠a.block):(w.setCell a u).heap[k]?=w.heap[k]?:=Below.heap_setCell w a u k h
theorem zK(w:World)(o:Obj)(k:Nat)(h:k<w.heap.size):(w.alloc o).heap[k]?=w.heap[k]?:=Below.heap_alloc w o k h
theorem zL.{u}{α:Type u}{l:List α}{i:Nat}(h:i<l.length):l[i]?=some l[i]:=List.getElem?_eq_getElem h
theorem zM(n:Nat):n≤n:=Nat.le_refl n
theorem zO{p:Prop}(h:p:=by omega):p:=h
theorem zA0{p:Prop}(h:p:=by rfl):p:=h
theorem zQ{p:Prop}(h:p:=by kernel_rfl):p:=h
theorem zA1{p:Prop}(h:p:=by decide):p:=h
theorem zA2{p:Prop}(h:p:=by simp;omega):p:=h
theorem zA3{p:Prop}(h:p:=by simp):p:=h
theorem zA4{p:Prop}(h:p:=by simp<;>omega):p:=h
theorem zE{p:Prop}(h:p:=by exact rfl):p:=h
theorem zA5{p:Prop}(h:p:=by repeat' (first|with_reducible exact Below.refl _ _|with_reducible assumption|with_reducible apply Below.drew|with_reducible apply qR|with_reducible refine Below.alloc ?_ ?_ _|with_reducible refine Below.setCell ?_ ?_ _|(simp;done)|(simp;omega)|omega)):p:=h
theorem zA6{p:Prop}(h:p:=by simp only[List.getElem?_toArray,List.getElem?_cons_succ,List.getElem?_cons_zero];exact rfl):p:=h
theorem zA7{p:Prop}(h:p:=by unfold maxLen;omega):p:=h
theorem zA8{p:Prop}(h:p:=by simp[Value.oneCell']):p:=h
theorem zA9{p:Prop}(h:p:=by simp only[Nat.min_def];split<;>omega):p:=h
theorem zB0{p q:Prop}(k:q)(h:Hid q→p:=by intro h;(try simp only[Act.put,ql,qe,qc,qf,Jk,zA,zB,zC]);(repeat ((first|(refine qU ?_ (by rfl) (by rfl) (λW hW _=>⟨W,?_,Ext.refl W⟩) ?_;rotate_left;(go_simp<;>with_reducible rfl))|(refine Qf (by rfl) ?_));try simp only[Act.put,ql,qe,qc,qf,Jk,zA,zB,zC]));exact h.out):p:=h (zH k)
theorem zB1{p q:Prop}(k:q)(h:Hid q→p:=by intro h;(try simp only[Act.put,ql,qe,qc,qf,zA,zB,zC]);(repeat ((first|(refine qU ?_ (by rfl) (by rfl) (λW hW _=>⟨W,?_,Ext.refl W⟩) ?_;rotate_left;(go_simp<;>with_reducible rfl))|(refine Qf (by rfl) ?_));try simp only[Act.put,ql,qe,qc,qf,zA,zB,zC]));exact h.out):p:=h (zH k)
theorem zB3{p q:Prop}(k:q)(h:Hid q→p:=by intro h;(try simp only[Act.put,ql,qe,qc,qf,qy,QL,zA,zB,zC]);(repeat ((first|(refine qd ?_ (by rfl) (by rfl) (λW hW _=>⟨W,?_,Rel.refl _ W⟩) ?_;rotate_left;(go_simp<;>with_reducible rfl))|(refine qh (by rfl) ?_));try simp only[Act.put,ql,qe,qc,qf,qy,QL,zA,zB,zC]));exact h.out):p:=h (zH k)
theorem zB4{p q:Prop}(k:q)(h:Hid q→p:=by intro h;(try simp only[Act.put,ql,qe,qc,qf,qy,Qv,QL,zA,zB,zC]);(repeat ((first|(refine qU ?_ (by rfl) (by rfl) (λW hW _=>⟨W,?_,Ext.refl W⟩) ?_;rotate_left;(go_simp<;>with_reducible rfl))|(refine Qf (by rfl) ?_));try simp only[Act.put,ql,qe,qc,qf,qy,Qv,QL,zA,zB,zC]));exact h.out):p:=h (zH k)
theorem zB5{p q:Prop}(k:q)(h:Hid q→p:=by intro h;(try simp only[Act.put,ql,qe,qc,qf,jM,zA,zB,zC]);(repeat ((first|(refine qd ?_ (by rfl) (by rfl) (λW hW _=>⟨W,?_,Rel.refl _ W⟩) ?_;rotate_left;(go_simp<;>with_reducible rfl))|(refine qh (by rfl) ?_));try simp only[Act.put,ql,qe,qc,qf,jM,zA,zB,zC]));exact h.out):p:=h (zH k)
theorem zB6{p q:Prop}(k:q)(h:Hid q→p:=by intro h;(dsimp only[List.drop,List.length_cons,List.length_nil]);exact h.out):p:=h (zH k)
theorem zB7{p q:Prop}(k:q)(h:Hid q→p:=by intro h;(try simp only[Act.put,ql,qe,qc,qf,zA,zB,zC]);(repeat ((first|(refine qd ?_ (by rfl) (by rfl) (λW hW _=>⟨W,?_,Rel.refl _ W⟩) ?_;rotate_left;(go_simp<;>with_reducible rfl))|(refine qh (by rfl) ?_));try simp only[Act.put,ql,qe,qc,qf,zA,zB,zC]));exact h.out):p:=h (zH k)
theorem zB8{p q:Prop}(k:q)(h:Hid q→p:=by intro h;(try simp only[Act.put,ql,qe,qc,qf,qy,JS,zA,zB,zC]);(repeat ((first|(refine qd ?_ (by rfl) (by rfl) (λW hW _=>⟨W,?_,Rel.refl _ W⟩) ?_;rotate_left;(go_simp<;>with_reducible rfl))|(refine qh (by rfl) ?_));try simp only[Act.put,ql,qe,qc,qf,qy,JS,zA,zB,zC]));exact h.out):p:=h (zH k)
theorem zB9{p q:Prop}(k:q)(h:Hid q→p:=by intro h;(try simp only[Act.put,ql,qe,qc,qf,zF,jc,zA,zB,zC]);(repeat ((first|(refine qd ?_ (by rfl) (by rfl) (λW hW _=>⟨W,?_,Rel.refl _ W⟩) ?_;rotate_left;(go_simp<;>with_reducible rfl))|(refine qh (by rfl) ?_));try simp only[Act.put,ql,qe,qc,qf,zF,jc,zA,zB,zC]));exact h.out):p:=h (zH k)
theorem zC0{p q:Prop}(k:q)(h:Hid q→p:=by intro h;(try simp only[Act.put,ql,qe,qc,qf,zF,jc,zA,zB,zC]);(repeat ((first|(refine Jb hle ?_ (by rfl) (by rfl) (λW hW _=>?_) ?_;rotate_left;(go_simp<;>with_reducible rfl))|(refine vY (by rfl) ?_));try simp only[Act.put,ql,qe,qc,qf,zF,jc,zA,zB,zC]));exact h.out):p:=h (zH k)
theorem zC1{p q:Prop}(k:q)(h:Hid q→p:=by intro h;(try simp only[Act.put,ql,qe,qc,qf,YR,Kg,zA,zB,zC]);(repeat ((first|(refine qd ?_ (by rfl) (by rfl) (λW hW _=>⟨W,?_,Rel.refl _ W⟩) ?_;rotate_left;(go_simp<;>with_reducible rfl))|(refine qh (by rfl) ?_));try simp only[Act.put,ql,qe,qc,qf,YR,Kg,zA,zB,zC]));exact h.out):p:=h (zH k)
theorem zC2{p q:Prop}(k:q)(h:Hid q→p:=by intro h;(try simp only[Act.put,ql,qe,qc,qf,qy,Qv,zA,zB,zC]);(repeat ((first|(refine qU ?_ (by rfl) (by rfl) (λW hW _=>⟨W,?_,Ext.refl W⟩) ?_;rotate_left;(go_simp<;>with_reducible rfl))|(refine Qf (by rfl) ?_));try simp only[Act.put,ql,qe,qc,qf,qy,Qv,zA,zB,zC]));exact h.out):p:=h (zH k)
theorem zC3{p q:Prop}(k:q)(h:Hid q→p:=by intro h;(try simp only[Act.put,ql,qe,qc,qf,zF,zA,zB,zC]);(repeat ((first|(refine qd ?_ (by rfl) (by rfl) (λW hW _=>⟨W,?_,Rel.refl _ W⟩) ?_;rotate_left;(go_simp<;>with_reducible rfl))|(refine qh (by rfl) ?_));try simp only[Act.put,ql,qe,qc,qf,zF,zA,zB,zC]));exact h.out):p:=h (zH k)
theorem zC4{p q:Prop}(k:q)(h:Hid q→p:=by intro h;(dsimp only[List.drop,List.length_cons,List.length_nil,Nat.reduceAdd,Nat.reduceSub]);exact h.out):p:=h (zH k)
theorem zC5{p q:Prop}(k:q)(h:Hid q→p:=by intro h;(try simp only[Act.put,ql,qe,qc,qf,qy,zA,zB,zC]);(repeat ((first|(refine qd ?_ (by rfl) (by rfl) (λW hW _=>⟨W,?_,Rel.refl _ W⟩) ?_;rotate_left;(go_simp<;>with_reducible rfl))|(refine qh (by rfl) ?_));try simp only[Act.put,ql,qe,qc,qf,qy,zA,zB,zC]));exact h.out):p:=h (zH k)
theorem zC6{p q:Prop}(k:q)(h:Hid q→p:=by intro h;(try simp only[Act.put,ql,qe,qc,qf,qE,Qa,qJ,qI,zA,zB,zC]);(repeat ((first|(refine qd ?_ (by rfl) (by rfl) (λW hW _=>⟨W,?_,Rel.refl _ W⟩) ?_;rotate_left;(go_simp<;>with_reducible rfl))|(refine qh (by rfl) ?_));try simp only[Act.put,ql,qe,qc,qf,qE,Qa,qJ,qI,zA,zB,zC]));exact h.out):p:=h (zH k)
theorem zC7{p q:Prop}(k:q)(h:Hid q→p:=by intro h;(try simp only[Act.put,ql,qe,qc,qf,ZQ,Ze,Zd,ZU,zA,zB,zC]);(repeat ((first|(refine qd ?_ (by rfl) (by rfl) (λW hW _=>⟨W,?_,Rel.refl _ W⟩) ?_;rotate_left;(go_simp<;>with_reducible rfl))|(refine qh (by rfl) ?_));try simp only[Act.put,ql,qe,qc,qf,ZQ,Ze,Zd,ZU,zA,zB,zC]));exact h.out):p:=h (zH k)
theorem zC8{p q:Prop}(k:q)(h:Hid q→p:=by intro h;(try simp only[Act.put,ql,qe,qc,qf,qE,qy,zA,zB,zC]);(repeat ((first|(refine qd ?_ (by rfl) (by rfl) (λW hW _=>⟨W,?_,Rel.refl _ W⟩) ?_;rotate_left;(go_simp<;>with_reducible rfl))|(refine qh (by rfl) ?_));try simp only[Act.put,ql,qe,qc,qf,qE,qy,zA,zB,zC]));exact h.out):p:=h (zH k)
theorem zC9{p q:Prop}(k:q)(h:Hid q→p:=by intro h;(try simp only[Act.put,ql,qe,qc,qf,qE,qy,Qa,qJ,qI,zA,zB,zC]);(repeat ((first|(refine Jc hle ?_ (by rfl) (by rfl) (λW hW=>?_) ?_;rotate_left;(go_simp<;>with_reducible rfl))|(refine Jd (by rfl) ?_));try simp only[Act.put,ql,qe,qc,qf,qE,qy,Qa,qJ,qI,zA,zB,zC]));exact h.out):p:=h (zH k)
theorem zD0{p q:Prop}(k:q)(h:Hid q→p:=by intro h;(try simp only[Act.put,ql,qe,qc,qf,qE,qy,Qa,qJ,qI,zA,zB,zC]);(repeat ((first|(refine qd ?_ (by rfl) (by rfl) (λW hW _=>⟨W,?_,Rel.refl _ W⟩) ?_;rotate_left;(go_simp<;>with_reducible rfl))|(refine qh (by rfl) ?_));try simp only[Act.put,ql,qe,qc,qf,qE,qy,Qa,qJ,qI,zA,zB,zC]));exact h.out):p:=h (zH k)
theorem zD1{p q:Prop}(k:q)(h:Hid q→p:=by intro h;(try simp only[Act.put,ql,qe,qc,qf,ZU,zA,zB,zC]);(repeat ((first|(refine qd ?_ (by rfl) (by rfl) (λW hW _=>⟨W,?_,Rel.refl _ W⟩) ?_;rotate_left;(go_simp<;>with_reducible rfl))|(refine qh (by rfl) ?_));try simp only[Act.put,ql,qe,qc,qf,ZU,zA,zB,zC]));exact h.out):p:=h (zH k)
theorem zD2{p q:Prop}(k:q)(h:Hid q→p:=by intro h;(try simp only[Act.put,ql,qe,qc,qf,Vn,zA,zB,zC]);(repeat ((first|(refine qd ?_ (by rfl) (by rfl) (λW hW _=>⟨W,?_,Rel.refl _ W⟩) ?_;rotate_left;(go_simp<;>with_reducible rfl))|(refine qh (by rfl) ?_));try simp only[Act.put,ql,qe,qc,qf,Vn,zA,zB,zC]));exact h.out):p:=h (zH k)
abbrev OA:=Option Addr
def Rd(w:World)(B size:Nat)(A:OA)(n:Nat)(xs:List Value):Prop:=
 xs.length=n*size/\(0<n->∃b off,A=some ⟨b,off,none⟩/\b<B/\∀j u,xs[j]?=some u->w.cell? ⟨b,off+j,none⟩=some u)
section
variable {w w':World} {B B' size n:Nat} {A:OA} {xs:List Value}
theorem Rd.none_:Rd w B size A 0 []:=⟨zA3,λh=>absurd h zO⟩
theorem Rd.len1(h:Rd w B 1 A n xs):xs.length=n:=by have:=h.1;omega
theorem Rd.keep(h:Rd w B size A n xs)(hk:∀p:Addr,p.block<B->w'.cell? p=w.cell? p):Rd w' B size A n xs:=
 ⟨h.1,λhn=>by obtain⟨b,off,e,hb,hc⟩:=h.2 hn;exact⟨b,off,e,hb,λj u hu=>(hk _ hb).trans (hc j u hu)⟩⟩
theorem Rd.more(h:Rd w B size A n xs)(hB:B<=B'):Rd w B' size A n xs:=
 ⟨h.1,λhn=>by obtain⟨b,off,e,hb,hc⟩:=h.2 hn;exact⟨b,off,e,zO,hc⟩⟩
theorem Rd.below(h:Rd w B size A n xs)(hb:Below B w w'):Rd w' B size A n xs:=h.keep λ_ hp=>hb.cell hp
theorem Rd.drew(h:Rd w B size A n xs):Rd w.drew B size A n xs:=h
theorem Rd.drewN(h:Rd w B size A n xs)(k:Nat):Rd (w.drewN k) B size A n xs:=h
theorem Rd.alloc(h:Rd w B size A n xs)(hB:B<=w.heap.size)(o:Obj):Rd (w.alloc o) B size A n xs:=h.keep λp hp=>World.cell?_alloc_lt w o p zO
theorem Rd.at_{k:Nat}{u:Value}(h:Rd w B size A n xs)(hn:0<n)(hu:xs[k]?=some u):∃b off,A=some ⟨b,off,none⟩/\b<B/\w.cell? ⟨b,off+k,none⟩=some u:=by obtain⟨b,off,e,hb,hc⟩:=h.2 hn;exact⟨b,off,e,hb,hc k u hu⟩
theorem Rd.take(h:Rd w B size A n xs){k:Nat}(hk:k<=n):Rd w B size A k (xs.take (k*size)):=by
 refine⟨by rw[List.length_take,h.1];exact Nat.min_eq_left (Nat.mul_le_mul_right _ hk),λhn=>?_⟩;obtain⟨b,off,rfl,hb,hAL⟩:=h.2 zO;refine⟨b,off,rfl,hb,λj u hu=>hAL j u ?_⟩;rw[List.getElem?_take]at hu;split at hu
 ·exact hu
 ·cases hu
theorem Rd.of_own{base:Nat}{e:TypeId}{c:Nat}(h:w.ownsRow base e size (.slice A n c) n xs):Rd w w.heap.size size A n xs:=by
 refine⟨h.1,λhn=>?_⟩;rcases h.2 with⟨h0,h1⟩|⟨g,cap,cur,hv,hb,hg,hnc,_,hsz,htk⟩
 ·omega
 ·injection hv with hA _ _
  subst hA;refine⟨g,0,rfl,?_,λj u hu=>?_⟩
  ·rcases Nat.lt_or_ge g w.heap.size with hlt|hge
   ·exact hlt
   ·rw[Array.getElem?_eq_none hge]at hg;cases hg
  ·have:=h.cells (g:=g) rfl j u hu;simpa [Addr.add] using(show w.cell? ⟨g,0+j,none⟩=some u by
    rw[<-this];unfold Addr.add;split
    ·subst_vars;rfl
    ·rfl)
theorem Rd.new(w:World)(cs:Array Value)(e:TypeId)(n:Nat)(hn:cs.size=n):Rd (w.alloc (.cells cs e)) (w.alloc (.cells cs e)).heap.size 1 (some ⟨w.heap.size,0,none⟩) n cs.toList:=
 ⟨by simp[hn],λ_=>⟨w.heap.size,0,rfl,zA3,λj u hu=>by rw[World.cell?_alloc_at _ _ _ _ rfl];simpa using hu⟩⟩
theorem Rd.adds{b off:Nat}(h:Rd w B size (some ⟨b,off,none⟩) n xs)(hn:0<n):∀j u,xs[j]?=some u->w.cell? ((⟨b,off,none⟩:Addr).add j)=some u:=by
 obtain⟨b',off',e,_,hc⟩:=h.2 hn;injection e with e;injection e with e1 e2
 subst e1;subst e2;intro j u hu;rw[<-hc j u hu];unfold Addr.add;split
 ·subst_vars;rfl
 ·rfl
end
abbrev bv(x:UInt8):Value:=.int .u8 (x.toNat:Int)
theorem Uz(l:List UInt8):∀u∈l.map bv,u.oneCell'=true:=by intro u hu;obtain⟨x,_,rfl⟩:=List.mem_map.1 hu;rfl
def Bys(w:World)(B:Nat)(v:Value)(l:List UInt8):Prop:=∃A c,v=.slice A l.length c/\l.length<=c/\c<=maxLen/\Rd w B 1 A l.length (l.map bv)
theorem Bys.below{w w':World}{B:Nat}{v:Value}{l:List UInt8}(h:Bys w B v l)(hb:Below B w w'):Bys w' B v l:=by obtain⟨A,c,e,hc,hm,hr⟩:=h;exact⟨A,c,e,hc,hm,hr.below hb⟩
theorem Bys.keep{w w':World}{B:Nat}{v:Value}{l:List UInt8}(h:Bys w B v l)(hk:∀p:Addr,p.block<B->w'.cell? p=w.cell? p):Bys w' B v l:=by obtain⟨A,c,e,hc,hm,hr⟩:=h;exact⟨A,c,e,hc,hm,hr.keep hk⟩
theorem Bys.more{w:World}{B B':Nat}{v:Value}{l:List UInt8}(h:Bys w B v l)(hb:B<=B'):Bys w B' v l:=by obtain⟨A,c,e,hc,hm,hr⟩:=h;exact⟨A,c,e,hc,hm,hr.more hb⟩
theorem Bys.nil(w:World)(B:Nat):Bys w B (.slice none 0 0) []:=⟨none,0,rfl,zM _,by simp[maxLen],Rd.none_⟩
theorem Bys.of_own{w:World}{base n:Nat}{e:TypeId}{v:Value}{l:List UInt8}(h:w.ownsRow base e 1 v n (l.map bv)):Bys w w.heap.size v l:=by
 have hn:l.length=n:=by have:=h.1;simpa using this
 subst hn;rcases h.2 with⟨rfl,h0⟩|⟨g,cap,cur,rfl,hb,hg,hnc,hcm,hsz,htk⟩
 ·obtain rfl:l=[]:=List.eq_nil_of_length_eq_zero h0;exact Bys.nil w _
 ·exact⟨_,cap,rfl,hnc,hcm,Rd.of_own h⟩
theorem Bys.new(w:World)(e:TypeId)(l:List UInt8)(hl:l.length<=maxLen:=by simp[maxLen]):Bys (w.alloc (.cells (l.map bv).toArray e)) (w.alloc (.cells (l.map bv).toArray e)).heap.size (.slice (some ⟨w.heap.size,0,none⟩) l.length l.length) l:=
 ⟨_,_,rfl,zM _,hl,zA3,λ_=>⟨w.heap.size,0,rfl,zA3,λj u hu=>by rw[World.cell?_alloc_at _ _ _ _ rfl];simpa using hu⟩⟩
def bstr(l:List UInt8):ByteArray:=strOfNums (l.map λx=>(x.toNat:Int))
theorem qkp(l:List UInt8):(bstr l).data.toList=l:=by
 unfold bstr;rw[strOfNums_data,List.map_map]
 conv=>rhs;rw[<-List.map_id l]
 apply List.map_congr_left;intro x _;simp
theorem qgd(l:List UInt8):(bstr l).toList=l:=by rw[ByteArray.toList_eq];exact qkp l
theorem Xf{P:Program}{w:World}{B:Nat}{v:Value}{l:List UInt8}(h:Bys w B v l)(src dst e:TypeId)(hs:P.underlying src=some (.slice e))(he:P.underlying e=some (.int .u8))(hd:P.underlying dst=some .string):(convert src dst v).run P w=.ok (.string (bstr l)) w:=by
 obtain⟨A,c,rfl,hc,hm,hr⟩:=h;rcases A with _|ad
 ·have h0:l.length=0:=by
   rcases Nat.eq_zero_or_pos l.length with h0|h0
   ·exact h0
   ·obtain⟨b,off,h,_⟩:=hr.2 h0;cases h
  obtain rfl:l=[]:=List.eq_nil_of_length_eq_zero h0;exact run_convert_bytes_nil w src e hs he _ _ dst hd
 ·rcases Nat.eq_zero_or_pos l.length with h0|h0
  ·obtain rfl:l=[]:=List.eq_nil_of_length_eq_zero h0;rw[run_convert_bytes_string w src dst e _ _ _ hs he hd,run_bytesToString w _ _ _ [] (by simp[loadCells,loadCellsFrom])];rfl
  ·obtain⟨b,off,h,_,hAL⟩:=hr.2 h0;cases h;exact run_convert_bytes_arg w src e hs he b off l.length c (l.map λx=>(x.toNat:Int)) zA3 (λi hi=>by rw[hAL i (bv l[i]) (by simp[hi])];simp[hi]) dst hd
theorem zI(w:World)(o:Obj)(b:Nat)(h:b=w.heap.size):(w.alloc o).heap[b]?=some o:=by subst h;exact heap_alloc_new w o
theorem qa{w:World}{b:Nat}{cs:Array Value}{t:TypeId}(h:w.heap[b]?=some (.cells cs t (0,0))):∀i,w.cell? ⟨b,i,none⟩=cs[i]?:=λi=>by simp[World.cell?,h]
theorem qg{w:World}{b:Nat}{cs:Array Value}{t:TypeId}(h:w.heap[b]?=some (.cells cs t (0,0))):∀i,w.frozen? ⟨b,i,none⟩=false:=λi=>by simp[World.frozen?,h]
def Zw(lo:Nat)(v:Value):Prop:=∀a n c,v=.slice (some a) n c->lo<=a.block
theorem Zw.of_own{w:World}{base n size:Nat}{e:TypeId}{v:Value}{xs:List Value}(h:w.ownsRow base e size v n xs):Zw base v:=by intro a n' c hv;subst hv;exact(h.lt a.block rfl).1
theorem Zw.mono{lo lo':Nat}{v:Value}(h:Zw lo v)(hl:lo'<=lo):Zw lo' v:=λa n c e=>Nat.le_trans hl (h a n c e)
theorem Bys.setCell{w:World}{B lo:Nat}{v:Value}{l:List UInt8}(h:Bys w B v l)(hf:Zw lo v){p:Addr}(hp:p.block<lo)(u:Value):Bys (w.setCell p u) B v l:=by obtain⟨A,c,e,hc,hm,hr⟩:=h;refine⟨A,c,e,hc,hm,hr.1,λhn=>?_⟩;obtain⟨b,off,hA,hb,hAL⟩:=hr.2 hn;refine⟨b,off,hA,hb,λj u' hu=>?_⟩;have:lo<=b:=hf ⟨b,off,none⟩ l.length c (by rw[e,hA]);rw[World.cell?_setCell_other w p ⟨b,off+j,none⟩ u (λe=>by subst e;simp at hp;omega)];exact hAL j u' hu
theorem qR{B:Nat}{a w:World}(h:Below B a w)(n:Nat):Below B a (w.drewN n):=⟨h.os,h.tape,h.output,h.size,h.block⟩
def Ret(v:Value)(w:World)(e:Ending)(w':World):Prop:=e=.returned v/\Below w.heap.size w w'
def zm(φ:Value->World->Prop)(w:World)(e:Ending)(w':World):Prop:=∃v,e=.returned v/\φ v w'/\Below w.heap.size w w'
def Qm(p:Prop):Prop:=p
theorem Qm.go{p:Prop}(h:p):Qm p:=h
theorem qY{P:Program}{ops:Array Oper}{l:List Oper}{a:Act}{w:World}{Q:Exit->Act->World->Prop}(h:Qm (wpList P ops Q l a w)):wpList P ops Q l a w:=h
theorem Xq(w:World)(cs:Array Value)(e:TypeId):∀j u,cs.toList[j]?=some u->(w.alloc (.cells cs e)).cell? ((⟨w.heap.size,0,none⟩:Addr).add j)=some u:=by
 intro j u hj;have h:(w.alloc (.cells cs e)).cell? ⟨w.heap.size,0+j,none⟩=some u:=by rw[World.cell?_alloc_at _ _ _ _ rfl];simpa using hj
 rw[<-h];unfold Addr.add;split
 ·subst_vars;rfl
 ·rfl
theorem zZ{P:Program}(w:World){ops:Array Oper}{rest:List Oper}{o:Oper}{a:Act}{Q:Exit->Act->World->Prop}(hgd:o.guard=none)(s x:Operand)(t:TypeId)(ho:o.op=.call {callee:=.builtin .append,args:=#[s,x],argTypes:=#[t,t]})(base:Nat)(e:TypeId)(i:TypeInfo)(z:Value)(size bytes:Nat)(ht:P.underlying t=some (.slice e))(hi:P.info? e=some i)(hz:i.zero=some z)(hLG:i.size=size)(hby:i.bytes=bytes)(hzs:z.cells.size=size)(hsz:0<size)(v:Value)(n:Nat)(xs:List Value)(hs:a.eval s=v)(hAE:w.ownsRow base e size v n xs)(cs:Array Value)(hx:a.eval x=.slice (some ⟨w.heap.size,0,none⟩) 1 1)(hl:cs.size=size)(h1:∀u∈cs.toList,u.oneCell'=true)(hn:n<1073741824)(hKT:bytes<=65536)(hUO:base<=w.heap.size)(h:∀v' w',w'.ownsRow base e size v' (n+1) (xs++cs.toList)->w.grownBy w' v.ownBlock->Below base w w'->(v'.ownBlock=v.ownBlock\/∃g,v'.ownBlock=some g/\w.heap.size<=g)->wpList P ops Q rest (a.put o.dst v') w'):wpList P ops Q (o::rest) a (w.alloc (.cells cs e)):=by
 refine wpList_plain hgd λK hK=>?_;have hb:(n+1)*bytes<=140737488355328:=Nat.le_trans (Nat.mul_le_mul_left _ hKT) zO;have hm:n+1<=maxLen:=zA7;obtain⟨v',w',hEQ,h2,h3,_,h5⟩:=run_append_own_at (P:=P) (w.alloc (.cells cs e)) base t o.type e i z size bytes ht hi hz hLG hby hzs hsz v n xs (hAE.alloc _) ⟨w.heap.size,0,none⟩ 1 1 cs.toList
  (by rw[Array.length_toList];omega) (Xq w cs e) h1 hm hb zA2
 have hg:w.grownBy w' v.ownBlock:=⟨h3.os,h3.tape,h3.output,Nat.le_trans zA3 h3.size,λk hk hne=>(h3.block k zA2 hne).trans (zK w _ k hk)⟩
 unfold Oper.wp execOp;simp only[ho,resolve,invoke,builtin,Sem.run_bind,Sem.run_pure,Result.andThen_ok,List.map_toArray,List.map_cons,List.map_nil,hs,hx,hEQ];exact hK _ _ (h v' w' h2 hg ((Below.refl base w).grown hg hUO (λk hk=>(hAE.lt k hk).1)) (h5.imp id λe=>⟨_,e,zA3⟩))
theorem Qw{P:Program}(w:World){ops:Array Oper}{rest:List Oper}{o:Oper}{a:Act}{Q:Exit->Act->World->Prop}(hgd:o.guard=none)(s x:Operand)(t:TypeId)(ho:o.op=.call {callee:=.builtin .append,args:=#[s,x],argTypes:=#[t,t]})(base:Nat)(e:TypeId)(i:TypeInfo)(z:Value)(size bytes:Nat)(ht:P.underlying t=some (.slice e))(hi:P.info? e=some i)(hz:i.zero=some z)(hLG:i.size=size)(hby:i.bytes=bytes)(hzs:z.cells.size=size)(hsz:0<size)(v:Value)(n:Nat)(xs:List Value)(hs:a.eval s=v)(hAE:w.ownsRow base e size v n xs)(B:Nat)(A m c)(news:List Value)(hx:a.eval x=.slice A m c)(hr:Rd w B size A m news)(h1:∀u∈news,u.oneCell'=true)(hn:n+m<1073741824)(hKT:bytes<=65536)(hUO:base<=w.heap.size)(h:∀v' w',w'.ownsRow base e size v' (n+m) (xs++news)->w.grownBy w' v.ownBlock->Below base w w'->(v'.ownBlock=v.ownBlock\/∃g,v'.ownBlock=some g/\w.heap.size<=g)->wpList P ops Q rest (a.put o.dst v') w'):wpList P ops Q (o::rest) a w:=by
 refine wpList_plain hgd λK hK=>?_;have hb:(n+m)*bytes<=140737488355328:=Nat.le_trans (Nat.mul_le_mul_left _ hKT) zO;have hm:n+m<=maxLen:=zA7;have key:∃v' w',(Builtin.append_ #[t,t] o.type #[v,.slice A m c]).run P w=.ok v' w'/\w'.ownsRow base e size v' (n+m) (xs++news)/\w.grownBy w' v.ownBlock /\
   (v'.ownBlock=v.ownBlock\/v'.ownBlock=some w.heap.size):=by
  rcases A with _|ad
  ·have hm0:m=0:=by
    rcases Nat.eq_zero_or_pos m with h0|h0
    ·exact h0
    ·obtain⟨b,off,h,_⟩:=hr.2 h0;cases h
   subst hm0;have hn:news=[]:=List.eq_nil_of_length_eq_zero (by simpa using hr.1);subst hn;refine⟨v,w,?_,by simpa using hAE,World.grownBy.refl w _,.inl rfl⟩;rcases hAE.2 with⟨rfl,_⟩|⟨g,cap,cur,rfl,_,_,hnc,_⟩
   all_goals simp[Builtin.append_,run_underlying ht,sizeOf,typeInfo,Builtin.lenOf,Builtin.firstCells,storeCells, *]
  ·have hJW:∀j u,news[j]?=some u->w.cell? (ad.add j)=some u:=by
    intro j u hu;rcases Nat.eq_zero_or_pos m with h0|h0
    ·subst h0;have hn:news=[]:=List.eq_nil_of_length_eq_zero (by simpa using hr.1);subst hn;simp at hu
    ·obtain⟨b,off,h,_⟩:=hr.2 h0;injection h with h;subst h;exact hr.adds h0 j u hu
   obtain⟨v',w',hEQ,h2,h3,_,h5⟩:=run_append_own_at (P:=P) w base t o.type e i z size bytes ht hi hz hLG hby hzs hsz v n xs hAE ad m c news hr.1 hJW h1 hm hb hUO;exact⟨v',w',hEQ,h2,h3,h5⟩
 obtain⟨v',w',hEQ,h2,h3,h5⟩:=key;unfold Oper.wp execOp;simp only[ho,resolve,invoke,builtin,Sem.run_bind,Sem.run_pure,Result.andThen_ok,List.map_toArray,List.map_cons,List.map_nil,hs,hx,hEQ];exact hK _ _ (h v' w' h2 h3 ((Below.refl base w).grown h3 hUO (λk hk=>(hAE.lt k hk).1)) (h5.imp id λe=>⟨_,e,zM _⟩))
theorem Tl{k:IntKind}{a b:Int}(h:a=b):Ending.returned (.int k a)=.returned (.int k b):=by rw[h]
theorem VE{a b:Bool}(h:a=b):Ending.returned (.bool a)=.returned (.bool b):=by rw[h]
def ve:List UInt8->Nat
 |[]=>0
 |b::r=>b.toNat+256*ve r
theorem qcj(l:List UInt8):ve l<256^l.length:=by
 induction l with
 |nil=>simp[ve]
 |cons b r ih=>have:=b.toNat_lt;simp only[ve,List.length_cons,Nat.pow_succ];omega
theorem or_byte(a b:Nat)(hb:b<256):a*256||| b=b+256*a:=by have h:=Nat.two_pow_add_eq_or_of_lt (i:=8) (b:=b) (by simpa using hb) a;rw[Nat.mul_comm a 256,Nat.add_comm b];exact h.symm
theorem or_u32(a b:Nat)(ha:a<4294967296)(hb:b<4294967296):bits .or .u32 (a:Int) (b:Int)=((a||| b:Nat):Int):=by
 have e:∀n:Nat,n<4294967296->(BitVec.ofInt 32 (n:Int)).toNat=n:=λn hn=>by simp[BitVec.ofInt_natCast];omega
 have hx:a||| b<2^32:=Nat.or_lt_two_pow zO zO
 show IntKind.u32.wrap (((BitVec.ofInt 32 (a:Int)||| BitVec.ofInt 32 (b:Int)).toNat:Nat):Int)=_;rw[BitVec.toNat_or,e a ha,e b hb];simp[IntKind.wrap,IntKind.bits,IntKind.signed];omega
def qM:Nat->Nat->List UInt8
 |_,0=>[]
 |n,k+1=>UInt8.ofNat n::qM (n/256) k
theorem QD(k:Nat):∀n,(qM n k).length=k:=by
 induction k with
 |zero=>intro n;rfl
 |succ k ih=>intro n;simp[qM,ih]
theorem qcZ(l:List UInt8):qM (ve l) l.length=l:=by
 induction l with
 |nil=>rfl
 |cons b r ih=>
  have hb:=b.toNat_lt;simp only[ve,List.length_cons,qM];rw[show(b.toNat+256*ve r)/256=ve r by omega,ih];congr 1;apply UInt8.toNat.inj;simp
end Go.Proofs.YtmeadnlmepcmbaaGreat
namespace Go.Proofs.YtmeadnlmepcmbaaGreat
open Go.RowKit Go.Shelf
attribute [local go_sem] Oper.semAt_some
def ZO{α:Type}(f:Nat->α)(k:Nat):List α:=(List.range k).map f
theorem Vi{α:Type}(f:Nat->α)(k:Nat):ZO f (k+1)=ZO f k++[f k]:=by simp[ZO,List.range_succ]
theorem Zt{α:Type}(f:Nat->α)(k:Nat):(ZO f k).length=k:=by simp[ZO]
def Qu(x y:Nat)(A B:World):Prop:=B.heap[x]?=A.heap[x]?/\B.heap[y]?=A.heap[y]?
theorem Qu.t{x y:Nat}{A B C:World}(h:Qu x y A B)(k:Qu x y B C):Qu x y A C:=⟨k.1.trans h.1,k.2.trans h.2⟩
theorem Qu.refl(x y:Nat)(A:World):Qu x y A A:=⟨rfl,rfl⟩
theorem Qu.b{x y:Nat}{w:World}(hx:x<w.heap.size)(hy:y<w.heap.size)(W:World)(l:Nat)(o o':Obj)(hl:w.heap.size<=l)(_:W.heap[l]?=some o)(_:o.isCells=false)(_:o.isWalk=false):Qu x y W (W.putObj l o'):=
 ⟨World.putObj_heap_other zO,World.putObj_heap_other zO⟩
theorem Qu.set{x y:Nat}(A:World)(p:Addr)(v:Value)(hx:x≠p.block)(hy:y≠p.block):Qu x y A (A.setCell p v):=
 ⟨zJ A p v x hx,zJ A p v y hy⟩
theorem Qu.below{x y B:Nat}{A C:World}(h:Below B A C)(hx:x<B)(hy:y<B):Qu x y A C:=⟨h.block x hx,h.block y hy⟩
set_option maxRecDepth 100000 in
theorem back8_in(n:Nat)(hn:1<=n)(l Bs b off len cap:Nat)(xs:List UInt8)(hFH:len<1099511627776)(hlen:xs.length=len)(J Jx:List (Nat×UInt8)->World->Prop)(hY:∀pre x W,J pre W->pre.length<len->YieldAt Fence.wide (n-1) prog l #[.int .i64 (x.1:Int),bv x.2] W λe W'=>
   (e=.returned (.bool true)/\J (pre++[x]) W'/\Qu Bs b W W')\/(e=.returned (.bool false)/\Jx (pre++[x]) W'))
  (W:World) (hBs:W.cell? ⟨Bs,0,none⟩=some (.slice (some ⟨b,off,none⟩) len cap)) (hc:∀j u,(xs.map bv)[j]?=some u->W.cell? ⟨b,off+j,none⟩=some u) (h0:J [] W) :
  CallsIn Fence.wide n prog 208 #[.func (.yield l) #[] #[],.pointer (some ⟨Bs,0,none⟩)] W λe W'=>(∃v,e=.returned v) /\
   ((∃ys,ys=ZO (λj=>(len-1-j,xs[len-1-j]?.getD 0)) len/\J ys W')\/(∃pre,(∃k,k<=len/\pre=ZO (λj=>(len-1-j,xs[len-1-j]?.getD 0)) k)/\Jx pre W')):=by
 refine callsIn_of_wp func208 rfl trivial ?_ rfl;simp only[ntmps208,List.size_toArray,List.length_cons,List.length_nil,Nat.reduceAdd,Nat.reduceSub,Array.replicate_succ,Array.replicate_zero,List.push_toArray,List.append_toArray,List.nil_append,List.cons_append]
 gi_wp2
 gi_loopw [3] (λi wr=>∃k:Nat,k<=len/\i=.int .i64 ((len:Int)-1-k)/\J (ZO (λj=>(len-1-j,xs[len-1-j]?.getD 0)) k) wr/\Qu Bs b W wr)
  (λi _=>(intOf i+1).toNat)
 case atStart=>exact⟨0,Nat.zero_le _,zA3,h0,Qu.refl _ _ _⟩
 case round=>
  obtain⟨k,hk,rfl,hJs,hnx⟩:=hrel;have hBr:wr.cell? ⟨Bs,0,none⟩=some (.slice (some ⟨b,off,none⟩) len cap):=(World.cell?_of_block (w:=W) hnx.1).trans hBs;by_cases hlt:k<len
  ·have hcx:wr.cell? ⟨b,off+(len-1-k),none⟩=some (bv (xs[len-1-k]?.getD 0)):=by refine(World.cell?_of_block (w:=W) hnx.2).trans (hc _ _ ?_);rw[List.getElem?_map,zL zO];simp
   obtain⟨fn,tmps,assign,body,hy,hR⟩:=hY _ (len-1-k,xs[len-1-k]?.getD 0) wr hJs (by rw[Zt];exact hlt);dsimp only at hy;obtain⟨i,hi⟩:∃i:Nat,len-1-k=i:=⟨_,rfl⟩
   have hi2:(len:Int)-1-k=(i:Int):=zO;have hil:i<len:=zO;have hik:k+i+1<=len/\len<=k+i+1:=zO;have HU:=zH (Vi (λj=>(len-1-j,xs[len-1-j]?.getD 0)) k);obtain⟨u,hu⟩:∃u,xs[i]?.getD 0=u:=⟨_,rfl⟩
   rw[hi]at hcx hy hR;rw[hu]at hcx hy hR;rw[hi2];clear hi2;have HE:=zH hu;clear hu;have HI:=zH hi;clear hi
   gi_wp2
   refine hR.mono ?_;rintro e W3 (⟨rfl,hJ3,hk3⟩|⟨rfl,hUK⟩)
   ·gi_wp2
    go_roundw
    case rel=>exact⟨k+1,zO,by go_num,by rw[HU.out,HI.out,HE.out];exact hJ3,hnx.t hk3⟩
    case measure=>simp[intOf]
   ·gi_wp2
    refine bodyPost_ret (results_none rfl _ _ _) rfl ?_;exact⟨⟨_,rfl⟩,.inr ⟨_,⟨k+1,zO,by rw[HU.out,HI.out,HE.out]⟩,hUK⟩⟩
  ·obtain rfl:k=len:=zO
   gi_wp2
   go_end0;exact⟨⟨_,rfl⟩,.inl ⟨_,rfl,hJs⟩⟩
def S8(W:World)(Bs b:Nat)(v:Value)(xs:List UInt8):Prop:=
 W.cell? ⟨Bs,0,none⟩=some v/\((xs=[]/\∃A c,v=.slice A 0 c)\/∃off cap,v=.slice (some ⟨b,off,none⟩) xs.length cap/\∀j u,(xs.map bv)[j]?=some u->W.cell? ⟨b,off+j,none⟩=some u)
theorem S8.keep{W W':World}{Bs b:Nat}{v:Value}{xs:List UInt8}(h:S8 W Bs b v xs)(hk:Qu Bs b W W'):S8 W' Bs b v xs:=by
 refine⟨(World.cell?_of_block (w:=W) hk.1).trans h.1,?_⟩;rcases h.2 with h|⟨off,cap,e,hc⟩
 ·exact .inl h
 ·exact .inr ⟨off,cap,e,λj u hu=>(World.cell?_of_block (w:=W) hk.2).trans (hc j u hu)⟩
set_option maxRecDepth 100000 in
theorem qeC(n l Bs c:Nat)(A:OA)(J:List (Nat×UInt8)->World->Prop)(W:World)(hBs:W.cell? ⟨Bs,0,none⟩=some (.slice A 0 c))(h0:J [] W):CallsIn Fence.wide n prog 208 #[.func (.yield l) #[] #[],.pointer (some ⟨Bs,0,none⟩)] W λe W'=>(∃v,e=.returned v)/\J [] W':=by
 refine callsIn_of_wp func208 rfl trivial ?_ rfl;simp only[ntmps208,List.size_toArray,List.length_cons,List.length_nil,Nat.reduceAdd,Nat.reduceSub,Array.replicate_succ,Array.replicate_zero,List.push_toArray,List.append_toArray,List.nil_append,List.cons_append]
 gi_wp2
 gi_loopw [3] (λi wr=>i=.int .i64 (-1)/\J [] wr) (λ_ _=>0)
 case atStart=>exact⟨rfl,h0⟩
 case round=>
  obtain⟨rfl,hJs⟩:=hrel
  gi_wp2
  go_end0;exact⟨⟨_,rfl⟩,hJs⟩
def Kt(xs:List UInt8)(k:Nat):List (Nat×UInt8):=ZO (λj=>(xs.length-1-j,xs[xs.length-1-j]?.getD 0)) k
theorem qfV(n:Nat)(hn:1<=n)(Bs b:Nat)(v:Value)(xs:List UInt8)(hFH:xs.length<1099511627776)(w:World)(hBs:Bs<w.heap.size)(hb:b<w.heap.size)(hS:S8 w Bs b v xs):SeqStopsK Fence.wide n prog 208 #[.pointer (some ⟨Bs,0,none⟩)] (λx:Nat×UInt8=>#[.int .i64 (x.1:Int),bv x.2]) (Qu Bs b) (λys=>ys=Kt xs xs.length)
   (λpre=>∃k,k<=xs.length/\pre=Kt xs k) xs.length w:=λl J Jx W hW _ _ hY h0=>by
 obtain⟨hc,h⟩:=hS.keep (Qu.below hW hBs hb);rcases h with⟨rfl,A,c,rfl⟩|⟨off,cap,rfl,hcs⟩
 ·exact(qeC n l Bs c A J W hc h0).mono λe W' ⟨he,hj⟩=>⟨he,.inl ⟨_,rfl,hj⟩⟩
 ·exact back8_in n hn l Bs b off xs.length cap xs hFH rfl J Jx hY W hc hcs h0
theorem qeI(n:Nat)(A:OA)(m c:Nat)(w:World):CallsIn Fence.wide n prog 207 #[.slice A m c] w λe w'=>e=.returned (.func (.func 208) #[] #[.pointer (some ⟨w.heap.size,0,none⟩)])/\w'=w.alloc (.cells #[.slice A m c] 26):=by
 refine callsIn_of_wp func207 rfl trivial ?_ rfl;simp only[ntmps207,List.size_toArray,List.length_cons,List.length_nil,Nat.reduceAdd,Nat.reduceSub,Array.replicate_succ,Array.replicate_zero,List.push_toArray,List.append_toArray,List.nil_append,List.cons_append]
 gi_wp2
 go_ret;exact⟨rfl,rfl⟩
def UU:List (Nat×UInt8)->Int:=List.foldl (λs x=>bits .or .u32 (s*256%4294967296) ((x.2.toNat:Int)%4294967296)) 0
theorem qdZ(pre:List (Nat×UInt8))(x:Nat×UInt8):UU (pre++[x])=bits .or .u32 (UU pre*256%4294967296) ((x.2.toNat:Int)%4294967296):=by simp[UU]
theorem qkT(a b:Nat)(ha:a<16777216)(hb:b<256):bits .or .u32 ((a:Int)*256%4294967296) ((b:Int)%4294967296)=((b+256*a:Nat):Int):=by have e1:(a:Int)*256%4294967296=((a*256:Nat):Int):=zO;have e2:(b:Int)%4294967296=(b:Int):=zO;rw[e1,e2,or_u32 _ _ zO zO,or_byte a b hb]
theorem qiJ(xs:List UInt8)(h7:xs.length<=4):∀k,k<=xs.length->UU (Kt xs k)=(ve (xs.drop (xs.length-k)):Int):=by
 intro k;induction k with
 |zero=>intro _;simp[Kt,ZO,UU,ve]
 |succ k ih=>
  intro hk;have hi:=ih zO;have hs:Kt xs (k+1)=Kt xs k++[(xs.length-1-k,xs[xs.length-1-k]?.getD 0)]:=Vi _ k;rw[hs,qdZ,hi];have hd:xs.drop (xs.length-(k+1))=xs[xs.length-1-k]?.getD 0::xs.drop (xs.length-k):=by have e:xs.length-(k+1)=xs.length-1-k:=zO;rw[e,List.drop_eq_getElem_cons zO,zL zO];simp only[Option.getD_some];congr 2;omega
  rw[hd];have hlt:=qcj (xs.drop (xs.length-k));have hl:(xs.drop (xs.length-k)).length<=3:=zA2;have hp:256^(xs.drop (xs.length-k)).length<=256^3:=Nat.pow_le_pow_right zO hl;exact qkT _ _ (Nat.lt_of_lt_of_le hlt (Nat.le_trans hp zA1)) (UInt8.toNat_lt _)
theorem numU_all(xs:List UInt8)(h:xs.length<=4):UU (Kt xs xs.length)=(ve xs:Int):=by have:=qiJ xs h xs.length (zM _);simpa using this
set_option maxRecDepth 100000 in
theorem get_in(n:Nat)(h3:3<=n)(b off m c at_ many:Nat)(xs:List UInt8)(hx:xs.length=many)(h0:0<many)(h4:many<=4)(ha:at_+many<=m)(hc:m<=c)(hm:c<=maxLen)(w:World)(hb:b<w.heap.size)(hS:∀j u,(xs.map bv)[j]?=some u->w.cell? ⟨b,off+at_+j,none⟩=some u):CallsIn Fence.wide n prog 202 #[.slice (some ⟨b,off,none⟩) m c,.int .i64 (at_:Int),.int .i64 (many:Int)] w λe W'=>e=.returned (.tuple #[.int .u32 (UU (Kt xs xs.length)),.int .i64 0])/\Below w.heap.size w W':=by
 have h1:1<=n:=zO;unfold maxLen at hm;refine callsIn_of_wp_marks func202 rfl trivial ?_ rfl;simp only[ntmps202,List.size_toArray,List.length_cons,List.length_nil,Nat.reduceAdd,Nat.reduceSub,Array.replicate_succ,Array.replicate_zero,List.push_toArray,List.append_toArray,List.nil_append,List.cons_append]
 gi_wp2_with (refine⟨trivial,?_⟩;gi_at_call 207;refine(qeI (n-1) _ _ _ _).mono ?_;rintro e w' ⟨rfl,rfl⟩)
 have bS:=Boxed.new w 29 (.int .u32 0);have bN:=Boxed.new (w.alloc (.cells #[.int .u32 0] 29)) 26 (.slice (some ⟨b,off+at_,none⟩) many (c-at_));rw[World.size_alloc]at bN;have hB0:Below w.heap.size w ((w.alloc (.cells #[.int .u32 0] 29)).alloc (.cells #[.slice (some ⟨b,off+at_,none⟩) many (c-at_)] 26)):=((Below.refl _ w).alloc (zM _) _).alloc zA3 _;have hS8:S8 ((w.alloc (.cells #[.int .u32 0] 29)).alloc (.cells #[.slice (some ⟨b,off+at_,none⟩) many (c-at_)] 26)) (w.heap.size+1) b (.slice (some ⟨b,off+at_,none⟩) many (c-at_)) xs:=by refine⟨bN.cell,.inr ⟨off+at_,c-at_,by rw[hx],λj u hu=>(hB0.cell (p:=⟨b,off+at_+j,none⟩) hb).trans (hS j u hu)⟩⟩
 refine wpIn_rangeFunc_ownG rfl h1 (gf:=208) (lb:=#[.pointer (some ⟨w.heap.size+1,0,none⟩)]) rfl trivial (enters_of func208 zQ rfl)
  (qfV (n-1) zO (w.heap.size+1) b _ xs zO _ zA3 zA2 hS8) Qu.t (Qu.b zA3 zA2) (Below.refl _ _) (λ_=>rfl)
  (λpre W=>(W.cell? ⟨w.heap.size,0,none⟩=some (.int .u32 (UU pre))/\W.frozen? ⟨w.heap.size,0,none⟩=false)/\Below w.heap.size w W)
  (λ_ _ _=>False)
  (OwnFrom.and (Own.from (λs A B row hs hg hr=>⟨cell_kept hs.1 hg hr,(frozen_kept hs.1 hg hr).trans hs.2⟩) _) (ownFrom_below (zM _) zA2))
  (λ_ _ _ _ _ hs _ _=>hs)
  ⟨⟨(bS.alloc _).cell,(bS.alloc _).frozen⟩,hB0⟩
  (λx=>{tmps:=#[.slice (some ⟨b,off,none⟩) m c,.int .i64 at_,.int .i64 many,undef,undef,undef,.pointer (some ⟨w.heap.size,0,none⟩),.int .i64 0,undef,bv x.2,.int .i64 at_,.bool (decide ((at_:Int)<0)),.bool (decide ((at_:Int)<0)),.int .i64 at_,
   .slice (some ⟨b,off,none⟩) m c,.int .i64 m,.int .i64 many,.int .i64 ((m:Int)-many),.bool (decide ((m:Int)-many<at_)),.bool (decide ((at_:Int)<0)||decide ((m:Int)-many<at_)),.slice (some ⟨b,off,none⟩) m c,.int .i64 at_,.int .i64 at_,.int .i64 many,.int .i64 ((at_:Int)+many),
   .slice (some ⟨b,off+at_,none⟩) many (c-at_),.func (.func 208) #[] #[.pointer (some ⟨w.heap.size+1,0,none⟩)],.int .i64 (x.1:Int),bv x.2,undef,undef,undef,undef,undef,undef],defers:=[]}) ?assign ?body ?done ?stop
 case assign=>
  intro l x W K hK
  gi_wp2
  exact hK
 case body=>
  rintro l pre x W ⟨⟨hc,hf⟩,hB⟩ _
  gi_wp2
  exact⟨(KeepsOthers.setCell _ _ _).from _,Qu.set _ _ _ zA3 zA2,⟨by rw[qdZ];exact World.cell?_setCell_same' _ _ _ (by rw[hc];rfl),by rw[World.frozen?_setCell];exact hf⟩,hB.setCell (p:=⟨w.heap.size,0,none⟩) (zM _) _⟩
 case done=>
  rintro D ys W hD rfl ⟨⟨hc,hf⟩,hB⟩ hK
  gi_wp2
  have hDD:D≠w.heap.size:=by simp at hD;omega
  refine⟨zA3,.inl ⟨_,_,rfl,run_takeDeferred ((zJ W _ _ D hDD).trans hK),?_⟩⟩;have hW2:(W.setCell ⟨w.heap.size,0,none⟩ (.int .u32 (UU (Kt xs many)))).heap[D]?=some (Obj.deferred (some [])):=(zJ W _ _ D hDD).trans hK;have hr:((W.setCell ⟨w.heap.size,0,none⟩ (.int .u32 (UU (Kt xs many)))).putObj D (Obj.deferred none)).cell? ⟨w.heap.size,0,none⟩=some (.int .u32 (UU (Kt xs many))):=
   (World.cell?_of_block (w:=W.setCell ⟨w.heap.size,0,none⟩ (.int .u32 (UU (Kt xs many)))) (World.putObj_heap_other (Ne.symm hDD))).trans (World.cell?_setCell_same' _ _ _ (by rw[hc];rfl))
  have hb3:Below w.heap.size w ((W.setCell ⟨w.heap.size,0,none⟩ (.int .u32 (UU (Kt xs many)))).putObj D (Obj.deferred none)):=
   (hB.setCell (p:=⟨w.heap.size,0,none⟩) (zM _) _).trans (belowK_b (w:=w) (zM _) _ D _ _ (by simp at hD;omega) hW2 rfl rfl)
  rw[hx];refine⟨.tuple #[.int .u32 (UU (Kt xs many)),.int .i64 0],?_,rfl,hb3⟩;simp[results,results202,hr,go_sem]
 case stop=>rintro D c pre W _ _ h _;exact h.elim
def Zu(l:List UInt8)(a k:Nat):Int:=if a+k<=l.length then(ve ((l.drop a).take k):Int)else 0
def Uj(l:List UInt8)(a k:Nat):Int:=if a+k<=l.length then 0 else 8
theorem qjF(v:Value)(l:List UInt8)(at_ many:Nat)(h0:0<many)(h4:many<=4)(ha:at_<1000)(w:World)(h:Bys w w.heap.size v l):Calls prog 202 #[v,.int .i64 (at_:Int),.int .i64 (many:Int)] w (Ret (.tuple #[.int .u32 (Zu l at_ many),.int .i64 (Uj l at_ many)]) w):=by
 obtain⟨A,c,rfl,hc,hm,hr⟩:=h;by_cases hin:at_+many<=l.length
 ·obtain⟨b,off,rfl,hb,hAL⟩:=hr.2 zO;have hlen:((l.drop at_).take many).length=many:=zA2;have e:=numU_all ((l.drop at_).take many) zO;refine(callsIn_wide (n:=3)).1 ?_;refine(get_in 3 zO b off l.length c at_ many ((l.drop at_).take many) hlen h0 h4 hin hc hm w hb ?_).mono λe' w' h=>?_
  ·intro j u hj;rw[List.getElem?_map,List.getElem?_take]at hj;split at hj
   ·rw[List.getElem?_drop]at hj;have:=hAL (at_+j) u (by rw[List.getElem?_map];exact hj)
    rwa [<-Nat.add_assoc]at this
   ·cases hj
  ·rw[e]at h;simp only[Zu,Uj,if_pos hin];exact h
 ·go_enter func202,ntmps202;unfold maxLen at hm;simp only[Zu,Uj,if_neg hin];go_wp2;refine bodyPost_ret (v:=.tuple #[.int .u32 0,.int .i64 8]) (by simp[results,results202,go_sem]) rfl ⟨rfl,zA5⟩
end Go.Proofs.YtmeadnlmepcmbaaGreat
namespace Go.Proofs.YtmeadnlmepcmbaaGreat
open Go.RowKit
def Ext(w w':World):Prop:=Below w.heap.size w w'
theorem Ext.refl(w:World):Ext w w:=Below.refl _ _
theorem Ext.trans{a b c:World}(h:Ext a b)(k:Ext b c):Ext a c:=Below.trans h (Below.mono k h.size)
theorem zN(w:World)(o:Obj):Ext w (w.alloc o):=(Below.refl _ _).alloc (zM _) o
theorem Ext.drew(w:World):Ext w w.drew:=(Below.refl _ _).drew
theorem Ext.cell{w w':World}(h:Ext w w'){p:Addr}{v:Value}(hc:w.cell? p=some v):w'.cell? p=some v:=(Below.cell h (World.block_lt_of_cell? w p hc)).trans hc
structure qZ where
 α:Type
 f:α->Value
 φ:α->World->Prop
def one(v:Value):qZ:=⟨Unit,λ_=>v,λ_ _=>True⟩
def QV(φ:World->Prop):Prop:=∀W W',Ext W W'->φ W->φ W'
abbrev qO:=Nat->World->Prop
def qN(o:Oper):List Nat:=(o.after.toList.filter (Region.binds .any)).map (·.on)
def upd(F:qO)(i:Nat)(o:Oper)(φ:World->Prop):qO:=λk=>if k=i then(λW=>φ W/\∀j∈qN o,F j W)else F k
section
variable {P:Program} {ops:Array Oper} {w0:World}
def XB(P:Program)(W:World)(h:qZ):Result Next->Prop
 |.ok (.value u) w'=>∃p,u=h.f p/\h.φ p w'/\Ext W w'
 |.ok (.enter f args) w'=>Ext W w'/\Calls P f args w' λe w''=>∃p,e=.returned (h.f p)/\h.φ p w''/\Ext w' w''
 |_=>False
def vw(P:Program)(o:Oper)(a:Act)(W:World)(h:qZ):Prop:=XB P W h ((execOp a.eval o).run P W)
def qbk(P:Program)(o:Oper)(a:Act)(W:World)(v:Value):Prop:=∃w',(execOp a.eval o).run P W=.ok (.value v) w'/\Ext W w'
def KM(P:Program)(ops:Array Oper)(w0:World)(H:Nat->Option qZ)(i:Nat)(o:Oper)(a:Act)(F:qO)(h:qZ):Prop:=
 (Region.wanted o (yielded ops a.tmps)=false/\h=one undef) \/
 (Region.wanted o (yielded ops a.tmps)=true/\H i=none/\∃v,h=one v/\∀W,Ext w0 W->(∀k∈qN o,F k W)->qbk P o a W v) \/
 (Region.wanted o (yielded ops a.tmps)=true/\H i=some h/\∀W,Ext w0 W->(∀k∈qN o,F k W)->vw P o a W h)
def Cons(w0:World)(F:qO):Prop:=∃W,Ext w0 W/\∀k,F k W
def FOp(P:Program)(ops:Array Oper)(w0:World)(H:Nat->Option qZ)(i:Nat)(o:Oper)(K:Act->qO->Prop)(a:Act)(F:qO):Prop:=
 ∃h,KM P ops w0 H i o a F h/\∀p,Cons w0 (upd F i o (h.φ p))->K (a.put o.dst (h.f p)) (upd F i o (h.φ p))
def Yb(P:Program)(ops:Array Oper)(w0:World)(H:Nat->Option qZ)(Q:Act->qO->Prop):List Oper->Nat->Act->qO->Prop
 |[],_,a,F=>Q a F
 |o::rest,k,a,F=>FOp P ops w0 H k o (λa' F'=>Yb P ops w0 H Q rest (k+1) a' F') a F
def qcP(P:Program)(ops:Array Oper)(w0:World)(H:Nat->Option qZ)(L:Array Bool)(Q:Act->qO->Prop):Nat->Array Bool->Act->qO->Prop
 |0,listed,a,F=>listed=L/\Q a F
 |fuel+1,listed,a,F=>Region.ready .any ops listed≠[]/\∀i∈Region.ready .any ops listed,∀o,ops[i]?=some o->FOp P ops w0 H i o (qcP P ops w0 H L Q fuel (listed.setIfInBounds i true)) a F
theorem qZ.same{h h':qZ}(e:h=h'):h=h':=e
theorem KM.unique{H:Nat->Option qZ}{i:Nat}{o:Oper}{a:Act}{F:qO}{h h':qZ}(hc:Cons w0 F)(x:KM P ops w0 H i o a F h)(y:KM P ops w0 H i o a F h'):h=h':=by
 obtain⟨W,hW,hF⟩:=hc;rcases x with⟨x1,rfl⟩|⟨x1,x2,v,rfl,x3⟩|⟨x1,x2,x3⟩<;>rcases y with⟨y1,rfl⟩|⟨y1,y2,u,rfl,y3⟩|⟨y1,y2,y3⟩
 ·rfl
 ·rw[x1]at y1;cases y1
 ·rw[x1]at y1;cases y1
 ·rw[x1]at y1;cases y1
 ·obtain⟨w1,e1,_⟩:=x3 W hW λk _=>hF k;obtain⟨w2,e2,_⟩:=y3 W hW λk _=>hF k;rw[e1]at e2;cases e2;rfl
 ·rw[x2]at y2;cases y2
 ·rw[x1]at y1;cases y1
 ·rw[x2]at y2;cases y2
 ·rw[x2]at y2;cases y2;rfl
theorem KM.some_{H:Nat->Option qZ}{i:Nat}{o:Oper}{a:Act}{F:qO}{h:qZ}(hc:Cons w0 F)(hst:∀k,QV (F k))(x:KM P ops w0 H i o a F h):∃p,Cons w0 (upd F i o (h.φ p)):=by
 obtain⟨W,hW,hF⟩:=hc;have triv:∀(φ:World->Prop)W',Ext W W'->φ W'->Cons w0 (upd F i o φ):=λφ W' he hφ=>⟨W',hW.trans he,λk=>by
  unfold upd;split
  ·exact⟨hφ,λj _=>hst j _ _ he (hF j)⟩
  ·exact hst k _ _ he (hF k)⟩
 rcases x with⟨x1,rfl⟩|⟨x1,x2,v,rfl,x3⟩|⟨x1,x2,x3⟩
 ·exact⟨(),triv _ W (Ext.refl W) trivial⟩
 ·exact⟨(),triv _ W (Ext.refl W) trivial⟩
 ·have h3:=x3 W hW λk _=>hF k;unfold vw at h3;generalize(execOp a.eval o).run P W=r at h3;cases r with
  |ok n w'=>
   cases n<;>simp only[XB]at h3
   case value u=>obtain⟨p,_,hp,he⟩:=h3;exact⟨p,triv _ w' he hp⟩
   case enter f args=>obtain⟨he,hcl⟩:=h3;obtain⟨e,w'',fr,⟨p,_,hp,he2⟩,_⟩:=hcl [];exact⟨p,triv _ w'' (he.trans he2) hp⟩
  |halt x w'=>simp only[XB]at h3
theorem KM.move{H:Nat->Option qZ}{i j:Nat}{oi oj:Oper}{a:Act}{F:qO}{h:qZ}{v:Value}{φ:World->Prop}(hap:oi.apart ops oj=true)(hsj:∀cs b,oj.op≠.select cs b)(hn:i∉qN oj):KM P ops w0 H j oj (a.put oi.dst v) (upd F i oi φ) h↔KM P ops w0 H j oj a F h:=by
 obtain⟨h1,_,_⟩:=Oper.apart_spec hap;have hF:∀W,(∀k∈qN oj,upd F i oi φ k W)↔∀k∈qN oj,F k W:=λW=>by
  constructor<;>intro hh k hk
  ·have:=hh k hk;unfold upd at this;rwa [if_neg (λe=>hn (by rw[<-e];exact hk))]at this
  ·unfold upd;rw[if_neg (λe=>hn (by rw[<-e];exact hk))];exact hh k hk
 unfold KM qbk vw;rw[wanted_put oj a oi.dst v h1,execOp_put oj hsj a oi.dst v h1];simp only[hF]
theorem KM.move'{H:Nat->Option qZ}{i j:Nat}{oi oj:Oper}{a:Act}{F:qO}{h:qZ}{v:Value}{φ:World->Prop}(hap:oi.apart ops oj=true)(hsi:∀cs b,oi.op≠.select cs b)(hn:j∉qN oi):KM P ops w0 H i oi (a.put oj.dst v) (upd F j oj φ) h↔KM P ops w0 H i oi a F h:=by
 obtain⟨_,_,h3⟩:=Oper.apart_spec hap;have hF:∀W,(∀k∈qN oi,upd F j oj φ k W)↔∀k∈qN oi,F k W:=λW=>by
  constructor<;>intro hh k hk
  ·have:=hh k hk;unfold upd at this;rwa [if_neg (λe=>hn (by rw[<-e];exact hk))]at this
  ·unfold upd;rw[if_neg (λe=>hn (by rw[<-e];exact hk))];exact hh k hk
 unfold KM qbk vw;rw[wanted_put oi a oj.dst v h3,execOp_put oi hsi a oj.dst v h3];simp only[hF]
theorem VI(F:qO){i j:Nat}{oi oj:Oper}(φ ψ:World->Prop)(hne:i≠j)(h1:i∉qN oj)(h2:j∉qN oi):upd (upd F i oi φ) j oj ψ=upd (upd F j oj ψ) i oi φ:=by
 funext k;unfold upd;by_cases hj:k=j
 ·subst hj;rw[if_pos rfl,if_neg (Ne.symm hne),if_pos rfl];funext W;congr 1;apply propext;constructor<;>intro hh l hl
  ·have:=hh l hl;rwa [if_neg (λe=>h1 (by rw[<-e];exact hl))]at this
  ·rw[if_neg (λe=>h1 (by rw[<-e];exact hl))];exact hh l hl
 ·rw[if_neg hj];by_cases hi:k=i
  ·subst hi;rw[if_pos rfl,if_pos rfl];funext W;congr 1;apply propext;constructor<;>intro hh l hl
   ·rw[if_neg (λe=>h2 (by rw[<-e];exact hl))];exact hh l hl
   ·have:=hh l hl;rwa [if_neg (λe=>h2 (by rw[<-e];exact hl))]at this
  ·rw[if_neg hi,if_neg hi,if_neg hj]
theorem Ut{F:qO}(hst:∀k,QV (F k))(i:Nat)(o:Oper){φ:World->Prop}(hφ:QV φ):∀k,QV (upd F i o φ k):=by
 intro k;unfold upd;split
 ·exact λW W' he ⟨h1,h2⟩=>⟨hφ W W' he h1,λj hj=>hst j W W' he (h2 j hj)⟩
 ·exact hst k
theorem KM.stable{H:Nat->Option qZ}(hH:∀i h,H i=some h->∀p,QV (h.φ p)){i:Nat}{o:Oper}{a:Act}{F:qO}{h:qZ}(x:KM P ops w0 H i o a F h):∀p,QV (h.φ p):=by
 rcases x with⟨_,rfl⟩|⟨_,_,v,rfl,_⟩|⟨_,x2,_⟩
 ·exact λ_ _ _ _ _=>trivial
 ·exact λ_ _ _ _ _=>trivial
 ·exact hH i h x2
theorem qfE{H:Nat->Option qZ}(hH:∀i h,H i=some h->∀p,QV (h.φ p)){m:Nat}{L:Array Bool}(hL:∀j,L.getD j true=false->m<=j){Q:Act->qO->Prop}{i:Nat}{oi:Oper}(hi:ops[i]?=some oi)(him:i<m)(hMM:∀(j:Nat)(o:Oper)cs b,ops[j]?=some o->o.op≠.select cs b)(hFA:∀(j:Nat)(o:Oper),ops[j]?=some o->m<=j->∀k,k<m->k∈qN o):∀(fuel:Nat)(listed:Array Bool)(a:Act)(F:qO), (∀j oj,ops[j]?=some oj->j≠i->listed.getD j true=false->(∀e∈oj.after,Region.binds .any e=true->e.on≠i)->oi.apart ops oj=true) ->
   i∈Region.ready .any ops listed->(∀k,QV (F k))->Cons w0 F->(∀k,listed.getD k true=false->∀W,F k W) ->
   FOp P ops w0 H i oi (qcP P ops w0 H L Q fuel (listed.setIfInBounds i true)) a F->qcP P ops w0 H L Q (fuel+1) listed a F:=by
 intro fuel;induction fuel with
 |zero=>
  intro listed a F _ hr hst hc _ hop;refine⟨λh=>(by rw[h]at hr;cases hr),λj hj oj hoj=>?_⟩;by_cases hji:j=i
  ·subst hji;rw[hi]at hoj;cases hoj;exact hop
  ·exfalso;obtain⟨h,hok,hK⟩:=hop;obtain⟨p,hcp⟩:=hok.some_ hc hst;have hmj:m<=j:=hL j (by rw[<-(hK p hcp).1];exact(mem_ready.1 (ready_mono hj hji)).1);obtain⟨_,o',ho',hCV⟩:=mem_ready.1 hj;rw[hoj]at ho';cases ho';have hin:=hFA j oj hoj hmj i him;obtain⟨e,he,hei⟩:=List.mem_map.1 hin;rw[List.mem_filter]at he;have h1:=hCV e (by simpa using he.1) he.2;have h0:=(mem_ready.1 hr).1;rw[hei]at h1;rcases Nat.lt_or_ge i listed.size with h'|h'
   ·simp[h']at h0 h1;rw[h0]at h1;cases h1
   ·simp[Array.getElem?_eq_none h']at h1
 |succ fuel ih=>
  intro listed a F hGT hr hst hc hun hop;refine⟨λh=>(by rw[h]at hr;cases hr),λj hj oj hoj=>?_⟩;by_cases hji:j=i
  ·subst hji;rw[hi]at hoj;cases hoj;exact hop
  ·obtain⟨hFD,oj',hNS,hCV⟩:=mem_ready.1 hj;rw[hoj]at hNS;cases hNS;obtain⟨hOA,oi',hQB,hMB⟩:=mem_ready.1 hr;rw[hi]at hQB;cases hQB;have bad:∀k,listed.getD k true=false->listed.getD k false=true->False:=λk h0 h1=>by
    rcases Nat.lt_or_ge k listed.size with h'|h'
    ·simp[h']at h0 h1;rw[h0]at h1;cases h1
    ·simp[Array.getElem?_eq_none h']at h1
   have hPR:∀e∈oj.after,Region.binds .any e=true->e.on≠i:=λe he hb heq=>bad i hOA (heq▸hCV e he hb);have hPZ:∀e∈oi.after,Region.binds .any e=true->e.on≠j:=λe he hb heq=>bad j hFD (heq▸hMB e he hb);have hpi:i∉qN oj:=λhin=>by obtain⟨e,he,hei⟩:=List.mem_map.1 hin;rw[List.mem_filter]at he;exact hPR e (by simpa using he.1) he.2 hei
   have hpj:j∉qN oi:=λhin=>by obtain⟨e,he,hei⟩:=List.mem_map.1 hin;rw[List.mem_filter]at he;exact hPZ e (by simpa using he.1) he.2 hei
   have hap:=hGT j oj hoj hji hFD hPR;have hsi:∀cs b,oi.op≠.select cs b:=λcs b=>hMM i oi cs b hi;have hsj:∀cs b,oj.op≠.select cs b:=λcs b=>hMM j oj cs b hoj;obtain⟨h2,_⟩:=(Oper.apart_spec hap).2;obtain⟨hI,okI,hKI⟩:=hop;obtain⟨p0,hVV⟩:=okI.some_ hc hst;obtain⟨hJ,okJ0,_⟩:=(hKI p0 hVV).2 j (ready_mono hj hji) oj hoj;have okJ:KM P ops w0 H j oj a F hJ:=(KM.move hap hsj hpi).1 okJ0;refine⟨hJ,okJ,λq hcq=>?_⟩;have stJ:=okJ.stable hH q;have hKX:∀k ok,ops[k]?=some ok->k≠i->(listed.setIfInBounds j true).getD k true=false ->
     (∀e∈ok.after,Region.binds .any e=true->e.on≠i)->oi.apart ops ok=true:=λk ok hk hki hQQ hno=>by
    refine hGT k ok hk hki ?_ hno;by_cases hjk:j=k
    ·subst hjk;exact hFD
    ·rw[getD_set_ne true hjk]at hQQ;exact hQQ
   refine ih (listed.setIfInBounds j true) _ _ hKX (ready_mono hr (Ne.symm hji)) (Ut hst j oj stJ) hcq ?_ ?_
   ·intro k hk W;by_cases hjk:j=k
    ·subst hjk;exfalso;have hlt:j<listed.size:=by
      rcases Nat.lt_or_ge j listed.size with h'|h'
      ·exact h'
      ·simp[Array.getElem?_eq_none h']at hFD
     simp[hlt]at hk
    ·rw[getD_set_ne true hjk]at hk;have:=hun k hk W;unfold upd;rw[if_neg (λe=>hjk e.symm)];exact this
   ·refine⟨hI,(KM.move' hap hsi hpj).2 okI,λp hcp=>?_⟩;have hXX:Cons w0 (upd F i oi (hI.φ p)):=by
     obtain⟨W,hW,hF⟩:=hcp;refine⟨W,hW,λk=>?_⟩;have hk:=hF k;by_cases hki:k=i
     ·subst hki;unfold upd at hk⊢;rw[if_pos rfl]at hk⊢;refine⟨hk.1,λl hl=>?_⟩;have:=hk.2 l hl
      rwa [if_neg (λe=>hpj (by rw[<-e];exact hl))]at this
     ·by_cases hkj:k=j
      ·subst hkj;unfold upd;rw[if_neg hki];exact hun k hFD W
      ·unfold upd at hk⊢;rw[if_neg hki,if_neg hkj]at hk;rw[if_neg hki];exact hk
    obtain⟨hJ',okJ',hXS⟩:=(hKI p hXX).2 j (ready_mono hj hji) oj hoj;have okJ'':KM P ops w0 H j oj a F hJ':=(KM.move hap hsj hpi).1 okJ';have e:=okJ''.unique hc okJ;subst e;have hq:=hXS q (by rw[VI F _ _ (Ne.symm hji) hpi hpj];exact hcp);rw[Array.setIfInBounds_comm _ _ (λe=>hji e.symm),Act.put_comm a (hI.f p) (hJ'.f q) h2,VI F _ _ (Ne.symm hji) hpi hpj]at hq;exact hq
def UR(ops:Array Oper)(L:Array Bool):Nat->Nat->Array Bool->Bool
 |0,_,listed=>listed==L
 |fuel+1,k,listed=>(Region.ready .any ops listed).contains k&&Region.free .any ops listed k&&UR ops L fuel (k+1) (listed.setIfInBounds k true)
def tailB(ops:Array Oper)(m:Nat):Bool:=(List.range ops.size).all λj=>decide (j<m)||(List.range m).all λk=>(match ops[j]? with|some o=>(qN o).contains k|none=>true)
def zv(n m:Nat):Array Bool:=((List.range n).map λj=>decide (j<m)).toArray
theorem qdg{n m:Nat}:∀j,(zv n m).getD j true=false->m<=j:=by
 intro j h;unfold zv at h;rcases Nat.lt_or_ge j n with h'|h'
 ·simp[h']at h;exact h
 ·simp[h']at h
theorem qjb{m:Nat}(h:tailB ops m=true):∀(j:Nat)(o:Oper),ops[j]?=some o->m<=j->∀k,k<m->k∈qN o:=by
 intro j o ho hm k hk;have h1:=List.all_eq_true.1 h j (List.mem_range.2 (zG.1 ho).1);rw[Bool.or_eq_true]at h1;rcases h1 with h1|h1
 ·simp at h1;omega
 ·have h2:=List.all_eq_true.1 h1 k (List.mem_range.2 hk);rw[ho]at h2;simpa using h2
theorem qcQ{H:Nat->Option qZ}(hH:∀i h,H i=some h->∀p,QV (h.φ p)){m:Nat}{L:Array Bool}(hL:∀j,L.getD j true=false->m<=j){Q:Act->qO->Prop}(hs:Region.noSelect ops=true)(hFA:∀(j:Nat)(o:Oper),ops[j]?=some o->m<=j->∀k,k<m->k∈qN o):∀(l:List Oper)(k:Nat)(listed:Array Bool)(a:Act)(F:qO),k+l.length=m->(∀j,j<l.length->l[j]?=ops[k+j]?) ->
  UR ops L l.length k listed=true->(∀k,QV (F k))->Cons w0 F->(∀j,k<=j->∀W,F j W)->(∀j,listed.getD j true=false->k<=j)->Yb P ops w0 H Q l k a F->qcP P ops w0 H L Q l.length listed a F
 |[],k,listed,a,F,hm,_,hB,_,_,_,_,h=>⟨by simpa [UR]using hB,h⟩
 |o::l,k,listed,a,F,hm,hl,hB,hst,hc,hun,hlk,h=>by
  have h0:ops[k]?=some o:=by simpa using(hl 0 zA3).symm
  simp only[List.length_cons,UR,Bool.and_eq_true]at hB;obtain⟨⟨hr,hf⟩,hB'⟩:=hB;have hrk:k∈Region.ready .any ops listed:=by simpa using hr
  have hWF:=(mem_ready.1 hrk).1;refine qfE hH hL h0 (by simp at hm;omega) (Region.noSelect_spec hs) hFA l.length listed a F (Region.free_spec h0 hf) hrk hst hc (λj hj W=>hun j (hlk j hj) W) ?_;obtain⟨hh,hok,hK⟩:=h;refine⟨hh,hok,λp hcp=>?_⟩;refine qcQ hH hL hs hFA l (k+1) _ _ _ (by simp at hm;omega) (λj hj=>by have:=hl (j+1) (by simpa using hj);simpa [Nat.add_assoc,Nat.add_comm 1 j]using this) hB' (Ut hst k o (hok.stable hH p)) hcp
   (λj hj W=>by unfold upd;rw[if_neg zO];exact hun j zO W) (λj hj=>?_) (hK p hcp)
  by_cases hjk:k=j
  ·subst hjk;have hlt:k<listed.size:=by
    rcases Nat.lt_or_ge k listed.size with h'|h'
    ·exact h'
    ·simp[Array.getElem?_eq_none h']at hWF
   simp[hlt]at hj
  ·rw[getD_set_ne true hjk]at hj;have:=hlk j hj;omega
theorem qfG{H:Nat->Option qZ}{i:Nat}{o:Oper}{a:Act}{F:qO}{K:Act->qO->Prop}{K':Act->World->Prop}{Q':Exit->Act->World->Prop}{W:World}(hi:ops[i]?=some o)(hH:∀i h,H i=some h->∀p,QV (h.φ p))(hst:∀k,QV (F k))(hW:Ext w0 W)(hF:∀k,F k W)(hK:∀a' F' W',K a' F'->(∀k,QV (F' k))->Ext w0 W'->(∀k,F' k W')->K' a' W')(h:FOp P ops w0 H i o K a F):wpOp P ops Q' i K' a W:=by
 obtain⟨hh,hok,hn⟩:=h;have go:∀p W',Ext W W'->hh.φ p W'->K' (a.put o.dst (hh.f p)) W':=λp W' he hφ=>by
  have hF':∀k,upd F i o (hh.φ p) k W':=λk=>by
   unfold upd;split
   ·exact⟨hφ,λj _=>hst j _ _ he (hF j)⟩
   ·exact hst k _ _ he (hF k)
  exact hK _ _ W' (hn p ⟨W',hW.trans he,hF'⟩) (Ut hst i o (hok.stable hH p)) (hW.trans he) hF'
 unfold wpOp;simp only[hi];rcases hok with⟨x1,rfl⟩|⟨x1,x2,v,rfl,x3⟩|⟨x1,x2,x3⟩
 ·simp only[x1,Bool.false_eq_true,if_false];exact go () W (Ext.refl W) trivial
 ·simp only[x1,if_true];obtain⟨w',hr,he⟩:=x3 W hW λk _=>hF k;refine .inl ?_;unfold Oper.wp;rw[hr];exact go () w' he trivial
 ·simp only[x1,if_true];have h3:=x3 W hW λk _=>hF k;refine .inl ?_;unfold vw at h3;unfold Oper.wp;generalize(execOp a.eval o).run P W=r at*;cases r with
  |ok n w'=>
   cases n<;>simp only[XB]at h3<;>simp only[Oper.upon]
   case value u=>obtain⟨p,rfl,hp,he⟩:=h3;exact go p w' he hp
   case enter f args=>obtain⟨he,hcl⟩:=h3;refine hcl.mono λe w'' ⟨p,he1,hp,he2⟩=>?_;subst he1;exact go p w'' (he.trans he2) hp
  |halt x w'=>simp only[XB]at h3
theorem TL{H:Nat->Option qZ}(hH:∀i h,H i=some h->∀p,QV (h.φ p)){L:Array Bool}{t:Nat}{Q:Act->qO->Prop}{Q':Exit->Act->World->Prop}(hQ:∀a F W,Q a F->Ext w0 W->(∀k,F k W)->wpAny P .any ops Q' t L a W):∀(fuel:Nat)(listed:Array Bool)(a:Act)(F:qO)(W:World),(∀k,QV (F k))->Ext w0 W->(∀k,F k W)->qcP P ops w0 H L Q fuel listed a F->wpAny P .any ops Q' (fuel+t) listed a W
 |0,listed,a,F,W,_,hW,hF,h=>by rw[h.1,Nat.zero_add];exact hQ a F W h.2 hW hF
 |fuel+1,listed,a,F,W,hst,hW,hF,h=>by rw[show fuel+1+t=fuel+t+1 by omega];refine⟨λh0=>absurd h0 h.1,λi hi=>?_⟩;obtain⟨_,o,ho,_⟩:=mem_ready.1 hi;exact qfG ho hH hst hW hF (λa' F' W' hk hLW hW' hF'=>TL hH hQ fuel _ a' F' W' hLW hW' hF' hk) (h.2 i hi o ho)
def GZ(ops:Array Oper):Nat->Nat->Array Bool->Bool
 |0,_,listed=>(Region.ready .any ops listed).isEmpty
 |fuel+1,k,listed=>(Region.ready .any ops listed==[k])&&GZ ops fuel (k+1) (listed.setIfInBounds k true)
theorem kM{Q':Exit->Act->World->Prop}:∀(l:List Oper)(k:Nat)(listed:Array Bool)(a:Act)(W:World),(∀j,j<l.length->l[j]?=ops[k+j]?)->GZ ops l.length k listed=true->wpList P ops Q' l a W->wpAny P .any ops Q' l.length listed a W
 |[],_,_,_,_,_,hB,h=>⟨by simpa [GZ]using hB,h⟩
 |o::l,k,listed,a,W,hl,hB,h=>by
  simp only[List.length_cons,GZ,Bool.and_eq_true]at hB;obtain⟨hr,hB'⟩:=hB;have hr':Region.ready .any ops listed=[k]:=by simpa using hr
  have h0:ops[k]?=some o:=by simpa using(hl 0 zA3).symm
  refine⟨λe=>(by rw[hr']at e;cases e),λi hi=>?_⟩;rw[hr']at hi;obtain rfl:i=k:=by simpa using hi
  have hl':∀j,j<l.length->l[j]?=ops[i+1+j]?:=λj hj=>by have:=hl (j+1) (by simpa using hj);simpa [Nat.add_assoc,Nat.add_comm 1 j]using this
  refine wpOp_mono (λa w hw=>kM l (i+1) _ a w hl' hB' hw) ?_;unfold wpOp;simp only[h0];exact h
theorem za{id:Nat}{l:List Oper}{Q:Exit->Act->World->Prop}{a:Act}{w:World}(H:Nat->Option qZ)(m:Nat)(hm:P.follows .mixedOrders=true)(hs:Region.noSelect l.toArray=true)(ht:tailB l.toArray m=true)(hml:m<=l.length)(hB:UR l.toArray (zv l.length m) m 0 (Array.replicate l.length false)=true)(hVC:GZ l.toArray (l.drop m).length m (zv l.length m)=true)(hH:∀i h,H i=some h->∀p,QV (h.φ p))(h:∀K:Act->qO->Prop,(∀a' F',(∀W,Ext w W->(∀k,F' k W)->wpList P l.toArray Q (l.drop m) a' W)->K a' F')->Yb P l.toArray w H K (l.take m) 0 a (λ_ _=>True)):(Code.region id l.toArray true).wp P Q a w:=by
 have h:=h _ (λa' F' hh=>hh);refine wp_region_any hm ?_;have hlen:(l.take m).length=m:=by rw[List.length_take];omega
 have key:=qcQ (w0:=w) hH (qdg (n:=l.length)) hs (qjb ht) (l.take m) 0 (Array.replicate l.length false) a (λ_ _=>True) zO
  (λj hj=>by rw[hlen]at hj;rw[List.getElem?_take,if_pos hj];simp) (by rw[hlen];exact hB) (λ_ _ _ _ _=>trivial) ⟨w,Ext.refl w,λ_=>trivial⟩ (λ_ _ _=>trivial) (λ_ _=>Nat.zero_le _) h
 have:=TL (w0:=w) hH (t:=l.length-m) (Q':=Q) (λa F W hq hW hF=>by have:=kM (l.drop m) m _ a W (λj _=>by rw[List.getElem?_drop];simp) hVC (hq W hW hF);rwa [List.length_drop]at this) _ _ _ _ w.drew (λ_ _ _ _ _=>trivial) (Ext.drew w) (λ_=>trivial) key;rw[hlen]at this;have e:m+(l.length-m)=l.length:=zO;rw[e]at this;simpa using this
def qQ:List (Nat×qZ)->Nat->Option qZ
 |[],_=>none
 |(i,h)::r,k=>if k=i then some h else qQ r k
theorem zo{l:List (Nat×qZ)}(h:∀x∈l,∀p,QV (x.2.φ p)):∀i hh,qQ l i=some hh->∀p,QV (hh.φ p):=by
 induction l with
 |nil=>intro i hh e;cases e
 |cons x r ih=>
  intro i hh e;obtain⟨j,o⟩:=x;simp only[qQ]at e;split at e
  ·cases e;exact h (j,_) (List.mem_cons_self)
  ·exact ih (λy hy=>h y (List.mem_cons_of_mem _ hy)) i hh e
def Xj(lo n:Nat)(l:List UInt8):qZ:=⟨OA×Nat,λp=>.slice p.1 n p.2,λp W=>Bys W W.heap.size (.slice p.1 n p.2) l/\Zw lo (.slice p.1 n p.2)⟩
theorem qe(lo n:Nat)(l:List UInt8)(A c):(Xj lo n l).f (A,c)=.slice A n c:=rfl
theorem ql(v:Value)(u:Unit):(one v).f u=v:=rfl
theorem Ji(lo n:Nat)(l:List UInt8):∀p,QV ((Xj lo n l).φ p):=λp W W' he h=>⟨(Bys.below h.1 he).more he.size,h.2⟩
theorem XM{base lo n:Nat}{ty:TypeId}{l:List UInt8}{w:World}{e:Ending}{w':World}(h:zm (λv w'=>w'.ownsRow base ty 1 v n (l.map bv)) w e w')(hlo:lo<=base):∃p,e=.returned ((Xj lo n l).f p)/\(Xj lo n l).φ p w'/\Ext w w':=by
 obtain⟨v,rfl,hAE,hB⟩:=h;have hn:l.length=n:=by have:=hAE.1;simpa using this
 subst hn;have hf:=(Zw.of_own hAE).mono hlo;obtain⟨A,c,e,hc,hm,hr⟩:=Bys.of_own hAE;subst e;exact⟨(A,c),rfl,⟨⟨A,c,rfl,hc,hm,hr⟩,hf⟩,hB⟩
def Jj(lo:Nat)(ty:TypeId)(cs:Array Value):qZ:=⟨Nat,λb=>.pointer (some ⟨b,0,none⟩),λb W=>W.heap[b]?=some (.cells cs ty (0,0))/\lo<=b⟩
theorem qc(lo:Nat)(ty:TypeId)(cs:Array Value)(b:Nat):(Jj lo ty cs).f b=.pointer (some ⟨b,0,none⟩):=rfl
theorem jh(lo:Nat)(ty:TypeId)(cs:Array Value):∀p,QV ((Jj lo ty cs).φ p):=λp W W' he h=>
 ⟨(Below.block he p (zG.1 h.1).1).trans h.1,h.2⟩
def outI(k i o r:Int)(n:Nat)(l:List UInt8):qZ:=⟨OA×Nat,λp=>.agg #[.int .u8 k,.int .u32 i,.int .u32 o,.int .i64 r,.slice p.1 n p.2],λp W=>Bys W W.heap.size (.slice p.1 n p.2) l⟩
theorem qf(k i o r:Int)(n:Nat)(l:List UInt8)(A c):(outI k i o r n l).f (A,c)=.agg #[.int .u8 k,.int .u32 i,.int .u32 o,.int .i64 r,.slice A n c]:=rfl
theorem qgY(k i o r:Int)(n:Nat)(l:List UInt8):∀p,QV ((outI k i o r n l).φ p):=λp W W' he h=>(Bys.below h he).more he.size
theorem Zy(v:Value):∀p,QV ((one v).φ p):=λ_ _ _ _ _=>trivial
theorem Ext.cells{w:World}:∀W,Ext w W->∀b o,b<w.heap.size->W.cell? ⟨b,o,none⟩=w.cell? ⟨b,o,none⟩:=λ_ h b o hb=>Below.cell h (p:=⟨b,o,none⟩) hb
theorem QW{o:Oper}{a:Act}{W:World}{hh:qZ}{f:FuncId}{args:Array Value}(hr:(execOp a.eval o).run P W=.ok (.enter f args) W)(hc:Calls P f args W λe w''=>∃p,e=.returned (hh.f p)/\hh.φ p w''/\Ext W w''):vw P o a W hh:=by
 unfold vw;rw[hr];exact⟨Ext.refl W,hc⟩
theorem qeR{o:Oper}{a:Act}{W w':World}{hh:qZ}{u:Value}(hr:(execOp a.eval o).run P W=.ok (.value u) w')(hp:∃p,u=hh.f p/\hh.φ p w'/\Ext W w'):vw P o a W hh:=by
 unfold vw;rw[hr];exact hp
/-! ### the steps of the walk -/
section
variable {H:Nat->Option qZ} {Q:Act->qO->Prop} {k:Nat} {o:Oper} {rest:List Oper} {a:Act} {F:qO}
theorem Zq(h:Q a F):Yb P ops w0 H Q [] k a F:=h
theorem qU(v:Value)(hw:Region.wanted o (yielded ops a.tmps)=true)(hH:H k=none)(hv:∀W,Ext w0 W->(∀j∈qN o,F j W)->qbk P o a W v)(h:Yb P ops w0 H Q rest (k+1) (a.put o.dst v) (upd F k o λ_=>True)):Yb P ops w0 H Q (o::rest) k a F:=
 ⟨one v,.inr (.inl ⟨hw,hH,v,rfl,hv⟩),λ_ _=>h⟩
theorem Qf(hw:Region.wanted o (yielded ops a.tmps)=false)(h:Yb P ops w0 H Q rest (k+1) (a.put o.dst undef) (upd F k o λ_=>True)):Yb P ops w0 H Q (o::rest) k a F:=
 ⟨one undef,.inl ⟨hw,rfl⟩,λ_ _=>h⟩
theorem QH(hh:qZ)(hw:Region.wanted o (yielded ops a.tmps)=true)(hH:H k=some hh)(hv:∀W,Ext w0 W->(∀j∈qN o,F j W)->vw P o a W hh)(h:∀p,Yb P ops w0 H Q rest (k+1) (a.put o.dst (hh.f p)) (upd F k o (hh.φ p))):Yb P ops w0 H Q (o::rest) k a F:=
 ⟨hh,.inr (.inr ⟨hw,hH,hv⟩),λp _=>h p⟩
end
end
def UC(a b:Int):Int:=if a<b then -1 else if b<a then 1 else 0
def orI(x y z:Int):Int:=if x≠0 then x else if y≠0 then y else z
def JD(k i o k' i' o':Int):Bool:=decide (k<k'\/(k=k'/\(i<i'\/(i=i'/\o<o'))))
theorem qjz{a b:Int}(h:a<b):UC a b=-1:=if_pos h
theorem qjy{a b:Int}(h:b<a):UC a b=1:=by unfold UC;rw[if_neg zO,if_pos h]
theorem qjx{a b:Int}(h:b<=a)(h':a<=b):UC a b=0:=by unfold UC;rw[if_neg zO,if_neg zO]
theorem or_less(k i o k' i' o':Int):decide (orI (UC k k') (UC i i') (UC o o')<0)=JD k i o k' i' o':=by
 rw[Bool.eq_iff_iff];simp only[JD,decide_eq_true_eq];unfold orI UC
 repeat' split
 all_goals omega
abbrev UK(k i o:Int):Value:=.agg #[.int .u8 k,.int .u32 i,.int .u32 o]
theorem qgO(x:Int)(w:World):Calls prog 152 #[.int .u8 x] w (Ret (.bool false) w):=by go_enter func152,ntmps152;go_wp2;go_ret;exact⟨VE zA3,zA5⟩
theorem qeN(x y:Int)(w:World):Calls prog 98 #[.int .u8 x,.int .u8 y] w (Ret (.int .i64 (UC x y)) w):=by
 go_enter func98,ntmps98;go_wp2_with fail;refine(qgO x _).mono ?_;rintro e w1 ⟨rfl,hB⟩;go_wp2_with fail;refine(qgO y _).mono ?_;rintro e w2 ⟨rfl,hB2⟩;have hb:=Below.trans hB (Below.mono hB2 hB.size);clear hB hB2;go_wp2;all_goals go_ret
 all_goals refine⟨Tl ?_,zA5⟩
 all_goals first|exact(qjz (by assumption)).symm|exact(qjy (by assumption)).symm|exact(qjx (by assumption) (by assumption)).symm
theorem qdY(x:Int)(w:World):Calls prog 153 #[.int .u32 x] w (Ret (.bool false) w):=by go_enter func153,ntmps153;go_wp2;go_ret;exact⟨VE zA3,zA5⟩
theorem TA(x y:Int)(w:World):Calls prog 99 #[.int .u32 x,.int .u32 y] w (Ret (.int .i64 (UC x y)) w):=by
 go_enter func99,ntmps99;go_wp2_with fail;refine(qdY x _).mono ?_;rintro e w1 ⟨rfl,hB⟩;go_wp2_with fail;refine(qdY y _).mono ?_;rintro e w2 ⟨rfl,hB2⟩;have hb:=Below.trans hB (Below.mono hB2 hB.size);clear hB hB2;go_wp2;all_goals go_ret
 all_goals refine⟨Tl ?_,zA5⟩
 all_goals first|exact(qjz (by assumption)).symm|exact(qjy (by assumption)).symm|exact(qjx (by assumption) (by assumption)).symm
theorem or3_any(b:Nat)(t:TypeId)(x y z:Int)(w:World)(h:w.heap[b]?=some (.cells #[.int .i64 x,.int .i64 y,.int .i64 z] t (0,0))):Calls prog 97 #[.slice (some ⟨b,0,none⟩) 3 3] w (Ret (.int .i64 (orI x y z)) w):=by
 have kc:=qa h;clear h;go_enter func97,ntmps97;go_wp2_with fail;refine wp_loop_rounds 4 ?_;rw[rounds_succ];go_wp2;all_goals try (rw[rounds_succ];go_wp2)
 all_goals try (rw[rounds_succ];go_wp2)
 all_goals try (rw[rounds_succ];go_wp2)
 all_goals go_ret
 all_goals refine⟨Tl ?_,zA5⟩
 all_goals simp only[bne_iff_ne,ne_eq,bne_eq_false_iff_eq]at*
 all_goals simp[orI, *]
def qfh(ty:TypeId)(cs:Array Value):qZ:=⟨Unit×Nat,λp=>.slice (some ⟨p.2,0,none⟩) cs.size cs.size,λp W=>W.heap[p.2]?=some (.cells cs ty (0,0))⟩
theorem Jk(ty:TypeId)(cs:Array Value)(b:Nat):(qfh ty cs).f ((),b)=.slice (some ⟨b,0,none⟩) cs.size cs.size:=rfl
theorem qdj(ty:TypeId)(cs:Array Value):∀p,QV ((qfh ty cs).φ p):=λp W W' he h=>
 (Below.block he p.2 (zG.1 h).1).trans h
set_option maxRecDepth 100000 in
theorem Vy(k i o k' i' o':Int)(w:World):Calls prog 45 #[UK k i o,UK k' i' o'] w (Ret (.bool (JD k i o k' i' o')) w):=by
 rw[<-or_less];have H1:∀W,_:=λW=>qeN k k' W;have H2:∀W,_:=λW=>TA i i' W;have H3:∀W,_:=λW=>TA o o' W;generalize UC k k'=c1' at*;generalize UC i i'=c2' at*;generalize UC o o'=c3' at*;have H4:∀b t W,_:=λb t W=>or3_any b t c1' c2' c3' W;generalize orI c1' c2' c3'=c4' at*;go_enter func45,ntmps45;go_wp2;generalize hw1:(World.alloc (World.alloc _ _) _)=w1;have b1:Ext w w1:=by rw[<-hw1];exact(zN _ _).trans (zN _ _)
 have hE:=Ext.cells (w:=w1);have hz:w1.heap.size=w.heap.size+2:=by rw[<-hw1];simp
 rw[hz]at hE;have c0:w1.cell? ⟨w.heap.size+0,0,none⟩=some (.int .u8 k):=by rw[<-hw1];simp[go_sem]
 have c1:w1.cell? ⟨w.heap.size+0,1,none⟩=some (.int .u32 i):=by rw[<-hw1];simp[go_sem]
 have c2:w1.cell? ⟨w.heap.size+0,2,none⟩=some (.int .u32 o):=by rw[<-hw1];simp[go_sem]
 have c3:w1.cell? ⟨w.heap.size+1,0,none⟩=some (.int .u8 k'):=by rw[<-hw1];simp[go_sem]
 have c4:w1.cell? ⟨w.heap.size+1,1,none⟩=some (.int .u32 i'):=by rw[<-hw1];simp[go_sem]
 have c5:w1.cell? ⟨w.heap.size+1,2,none⟩=some (.int .u32 o'):=by rw[<-hw1];simp[go_sem]
 simp only[Nat.add_zero]at c0 c1 c2;clear hw1;refine za (qQ [(4,one (.int .i64 c1')),(9,one (.int .i64 c2')),(14,one (.int .i64 c3')),(15,qfh 3 #[.int .i64 c1',.int .i64 c2',.int .i64 c3']),(16,one (.int .i64 c4'))]) 18 zQ zQ zQ zA1 zQ zQ ?st ?walk
 case st=>exact zo (by simp only[List.forall_mem_cons];exact⟨Zy _,Zy _,Zy _,qdj _ _,Zy _,λ_ h=>by cases h⟩)
 case walk=>
  intro K hK;dsimp only[List.take];refine zB0 ?_;refine QH (one (.int .i64 c1')) zA0 zA0 (λW hW _=>?_) (λp=>?_)
  ·refine QW ?_ ((H1 W).mono λe w' h=>⟨(),h.1,trivial,h.2⟩);go_simp
  cases p;refine zB0 ?_;refine QH (one (.int .i64 c2')) zA0 zA0 (λW hW _=>?_) (λp=>?_)
  ·refine QW ?_ ((H2 W).mono λe w' h=>⟨(),h.1,trivial,h.2⟩);go_simp
  cases p;refine zB0 ?_;refine QH (one (.int .i64 c3')) zA0 zA0 (λW hW _=>?_) (λp=>?_)
  ·refine QW ?_ ((H3 W).mono λe w' h=>⟨(),h.1,trivial,h.2⟩);go_simp
  cases p;refine zB0 ?_;refine QH (qfh 3 #[.int .i64 c1',.int .i64 c2',.int .i64 c3']) zA0 zA0 (λW hW _=>?_) (λp=>?_)
  ·refine qeR (u:=.slice (some ⟨W.heap.size,0,none⟩) 3 3) (w':=W.alloc (.cells #[.int .i64 c1',.int .i64 c2',.int .i64 c3'] 3)) ?_ ⟨((),W.heap.size),rfl,zI _ _ _ rfl,zN _ _⟩;go_simp
  obtain⟨⟨⟩,p⟩:=p;refine zB0 ?_;refine QH (one (.int .i64 c4')) zA0 zA0 (λW hW hp=>?_) (λq=>?_)
  ·have h0:W.heap[p]?=some (Obj.cells #[.int .i64 c1',.int .i64 c2',.int .i64 c3'] 3 (0,0)):=(hp 15 zA1).1;refine QW ?_ ((H4 p _ W h0).mono λe w' h=>⟨(),h.1,trivial,h.2⟩);go_simp
  cases q;refine zB0 ?_;refine Zq (hK _ _ λW hW hF=>?_);have hb:Below w.heap.size w W:=Below.trans b1 (Below.mono hW zO);clear hE;dsimp only[List.drop];go_wp2;go_ret;exact⟨rfl,zA5⟩
theorem XI(l:List UInt8)(a k:Nat)(hk:k<=4):0<=Zu l a k/\Zu l a k<4294967296:=by
 unfold Zu;split
 ·have h:=qcj ((l.drop a).take k);have hl:((l.drop a).take k).length<=4:=zA2;have hp:256^((l.drop a).take k).length<=256^4:=Nat.pow_le_pow_right zO hl;omega
 ·omega
theorem qbI(v:Value)(l:List UInt8)(at_:Nat)(ha:at_<1000)(w:World)(h:Bys w w.heap.size v l):Calls prog 192 #[v,.int .i64 (at_:Int)] w (Ret (.tuple #[.int .i64 (Zu l at_ 2),.int .i64 (Uj l at_ 2)]) w):=by
 have hb:=XI l at_ 2 zO;have H:∀W,Ext w W->_:=λW hW=>qjF v l at_ 2 zO zO ha W ((h.below hW).more hW.size);generalize Zu l at_ 2=x at*;generalize Uj l at_ 2=y at*;go_enter func192,ntmps192;go_wp2_with fail;refine(H _ (Ext.refl _)).mono ?_;rintro e w1 ⟨rfl,hB⟩;go_wp2;refine bodyPost_ret (v:=.tuple #[.int .i64 x,.int .i64 y]) ?_ rfl ⟨rfl,zA5⟩;simp[results,results192,go_sem]
theorem KA(v:Value)(l:List UInt8)(at_:Nat)(ha:at_<1000)(w:World)(h:Bys w w.heap.size v l):Calls prog 193 #[v,.int .i64 (at_:Int)] w (Ret (.tuple #[.int .u32 (Zu l at_ 4),.int .i64 (Uj l at_ 4)]) w):=by
 have hb:=XI l at_ 4 zO;have H:∀W,Ext w W->_:=λW hW=>qjF v l at_ 4 zO zO ha W ((h.below hW).more hW.size);generalize Zu l at_ 4=x at*;generalize Uj l at_ 4=y at*;go_enter func193,ntmps193;go_wp2_with fail;refine(H _ (Ext.refl _)).mono ?_;rintro e w1 ⟨rfl,hB⟩;go_wp2;refine bodyPost_ret (v:=.tuple #[.int .u32 x,.int .i64 y]) ?_ rfl ⟨rfl,zA5⟩;simp[results,results193,go_sem]
theorem Bys.sub{w:World}{B a k:Nat}{b off m c:Nat}{l:List UInt8}(h:Bys w B (.slice (some ⟨b,off,none⟩) m c) l)(hk:a+k<=l.length):Bys w B (.slice (some ⟨b,off+a,none⟩) k (c-a)) ((l.drop a).take k):=by
 obtain⟨A,c',e,hc,hm,hr⟩:=h;cases e;have hl:((l.drop a).take k).length=k:=zA2;refine⟨_,_,by rw[hl],by rw[hl];omega,zO,zA3,λhn=>?_⟩;obtain⟨b',off',e,hb,hAL⟩:=hr.2 zO;injection e with e;injection e with e1 e2
 subst e1;subst e2;refine⟨b,off+a,rfl,hb,λj u hu=>?_⟩;rw[List.getElem?_map,List.getElem?_take]at hu;split at hu
 ·rw[List.getElem?_drop]at hu;have:=hAL (a+j) u (by rw[List.getElem?_map];exact hu)
  rwa [<-Nat.add_assoc]at this
 ·cases hu
theorem Bys.at_{w:World}{B:Nat}{A:OA}{m c:Nat}{l:List UInt8}(h:Bys w B (.slice A m c) l):m=l.length/\m<=c/\c<=maxLen/\(0<m->∃b off,A=some ⟨b,off,none⟩/\b<B):=by obtain⟨A',c',e,hc,hm,hr⟩:=h;cases e;refine⟨rfl,hc,hm,λhn=>?_⟩;obtain⟨b,off,e,hb,_⟩:=hr.2 hn;exact⟨b,off,e,hb⟩
theorem Tryz.info_u8:(Tryz.prog.info? 5).map (λi=>(i.zero,i.size,i.bytes))=some (some (.int .u8 0),1,1):=zQ
theorem bytes2(n:Nat)(h:n<65536):(qM n 2).map bv=[.int .u8 ((n:Int)%256),.int .u8 ((n:Int)/256)]:=by simp[qM,bv];omega
theorem bytes4(n:Nat)(h:n<4294967296):(qM n 4).map bv=[.int .u8 ((n:Int)%256),.int .u8 ((n:Int)/256%256),.int .u8 ((n:Int)/65536%256),.int .u8 ((n:Int)/16777216)]:=by simp[qM,bv,Nat.div_div_eq_div_mul];omega
def IsB(lo n:Nat)(l:List UInt8)(v:Value)(W:World):Prop:=∃A c,v=.slice A n c/\Bys W W.heap.size v l/\Zw lo v
theorem IsB.of_own{base n:Nat}{ty:TypeId}{l:List UInt8}{w:World}{v:Value}(h:w.ownsRow base ty 1 v n (l.map bv)):IsB base n l v w:=by
 have hn:l.length=n:=by have:=h.1;simpa using this
 obtain⟨A,c,e,hr⟩:=Bys.of_own h;exact⟨A,c,by rw[e,hn],Bys.of_own h,Zw.of_own h⟩
theorem IsB.new(w:World)(e:TypeId)(l:List UInt8)(lo n:Nat)(hn:n=l.length)(hl:l.length<=maxLen)(hlo:lo<=w.heap.size):IsB lo n l (.slice (some ⟨w.heap.size,0,none⟩) n n) (w.alloc (.cells (l.map bv).toArray e)):=by subst hn;refine⟨_,_,rfl,Bys.new w e l hl,λa n c h=>?_⟩;cases h;exact hlo
theorem Xw(n:Nat)(hn:n<4294967296)(w:World):Calls prog 133 #[.int .u32 (n:Int)] w (zm (IsB w.heap.size 4 (qM n 4)) w):=by
 have HN:=zH (IsB.new w 5 (qM n 4) w.heap.size 4 (QD 4 n).symm (by rw[QD];unfold maxLen;omega) (zM _));rw[bytes4 n hn]at HN;go_enter func133,ntmps133;go_wp2;go_ret;exact⟨_,rfl,HN.out,zA5⟩
def IsB0(lo n:Nat)(l:List UInt8)(v:Value)(W:World):Prop:=∃u,v=.tuple #[u,.int .i64 0]/\IsB lo n l u W
theorem qfz(n:Nat)(hn:n<65536)(w:World):Calls prog 131 #[.int .i64 (n:Int)] w (zm (IsB0 w.heap.size 2 (qM n 2)) w):=by
 have HN:=zH (IsB.new w 5 (qM n 2) w.heap.size 2 (QD 2 n).symm (by rw[QD];unfold maxLen;omega) (zM _));rw[bytes2 n hn]at HN;go_enter func131,ntmps131;go_wp2;refine bodyPost_ret (v:=.tuple #[.slice (some ⟨w.heap.size,0,none⟩) 2 2,.int .i64 0]) ?_ rfl ⟨_,rfl,⟨_,rfl,?_⟩,?_⟩
 ·simp[results,results131,go_sem]
 ·exact HN.out
 ·exact(by repeat' (first|with_reducible exact Below.refl _ _|with_reducible assumption|with_reducible apply Below.drew|with_reducible apply qR|with_reducible refine Below.alloc ?_ ?_ _|with_reducible refine Below.setCell ?_ ?_ _|(simp;done)|(simp;omega)|omega))
def hv(s:Nat):Nat:=(s/2)^^^(if s%2=1 then 3988292384 else 0)
def hvs:Nat->Nat->Nat
 |0,s=>s
 |k+1,s=>hv (hvs k s)
def Xk(i:Nat):Nat:=hvs 4 i
def YC(s:Nat)(x:UInt8):Nat:=
 let s1:=s^^^x.toNat
 let s2:=(s1/16)^^^Xk (s1%16)
 (s2/16)^^^Xk (s2%16)
def qba(l:List UInt8):Nat:=l.foldl YC 4294967295
def crc(l:List UInt8):Nat:=4294967295-qba l
theorem qkq(l:List UInt8)(x:UInt8):qba (l++[x])=YC (qba l) x:=by simp[qba]
theorem VJ{a b:Nat}(ha:a<4294967296)(hb:b<4294967296):a^^^b<4294967296:=Nat.xor_lt_two_pow (n:=32) zO zO
theorem hv_lt{s:Nat}(h:s<4294967296):hv s<4294967296:=by unfold hv;refine VJ zO ?_;split<;>omega
theorem hvs_lt(k:Nat){s:Nat}(h:s<4294967296):hvs k s<4294967296:=by
 induction k with
 |zero=>exact h
 |succ k ih=>exact hv_lt ih
theorem qbm{i:Nat}(h:i<16):Xk i<4294967296:=hvs_lt 4 zO
theorem qia{s:Nat}(x:UInt8)(h:s<4294967296):YC s x<4294967296:=by have hx:=x.toNat_lt;unfold YC;refine VJ ?_ (qbm zO);have:(s^^^x.toNat)/16^^^Xk ((s^^^x.toNat)%16)<4294967296:=VJ (by have:=VJ h (b:=x.toNat) zO;omega) (qbm zO);omega
theorem qjA(l:List UInt8):qba l<4294967296:=by
 suffices h:∀(l:List UInt8)s,s<4294967296->l.foldl YC s<4294967296 from h l _ zO
 intro l;induction l with
 |nil=>intro s h;exact h
 |cons x r ih=>intro s h;exact ih _ (qia x h)
theorem qib(l:List UInt8):crc l<4294967296:=by unfold crc;omega
theorem qbn(n:Nat)(hn:n<4294967296):(BitVec.ofInt 32 (n:Int)).toNat=n:=by simp[BitVec.ofInt_natCast];omega
theorem qhM(n:Nat)(hn:n<4294967296):IntKind.u32.wrap (n:Int)=n:=by simp[IntKind.wrap,IntKind.bits,IntKind.signed];omega
theorem Tt(a b:Nat)(ha:a<4294967296)(hb:b<4294967296):bits .xor .u32 (a:Int) (b:Int)=((a^^^b:Nat):Int):=by show IntKind.u32.wrap (((BitVec.ofInt 32 (a:Int)^^^BitVec.ofInt 32 (b:Int)).toNat:Nat):Int)=_;rw[BitVec.toNat_xor,qbn a ha,qbn b hb];exact qhM _ (VJ ha hb)
theorem qju(a b:Nat)(ha:a<4294967296)(hb:b<4294967296):bits .and .u32 (a:Int) (b:Int)=((a&&& b:Nat):Int):=by show IntKind.u32.wrap (((BitVec.ofInt 32 (a:Int)&&& BitVec.ofInt 32 (b:Int)).toNat:Nat):Int)=_;rw[BitVec.toNat_and,qbn a ha,qbn b hb];refine qhM _ ?_;have:=Nat.and_le_left (n:=a) (m:=b);omega
theorem and_1(a:Nat)(ha:a<4294967296):bits .and .u32 (a:Int) 1=((a%2:Nat):Int):=by have:=qju a 1 ha zO;rw[Nat.and_one_is_mod]at this;exact this
theorem and_15(a:Nat)(ha:a<4294967296):bits .and .u32 (a:Int) 15=((a%16:Nat):Int):=by have:=qju a 15 ha zO;rw[show(15:Nat)=2^4-1 from rfl,Nat.and_two_pow_sub_one_eq_mod]at this;exact this
theorem xor_all(a:Nat)(ha:a<4294967296):a^^^4294967295=4294967295-a:=by have h:=congrArg BitVec.toNat (BitVec.xor_allOnes (x:=BitVec.ofNat 32 a));rw[BitVec.toNat_xor,BitVec.toNat_allOnes,BitVec.toNat_not,BitVec.toNat_ofNat,Nat.mod_eq_of_lt zO]at h;exact h.trans zO
theorem hv_mul(s:Nat)(hs:s<4294967296):bits .xor .u32 (((s/2:Nat)):Int) ((3988292384*((s%2:Nat):Int))%4294967296)=((hv s:Nat):Int):=by
 have h:=Nat.mod_two_eq_zero_or_one s;unfold hv;rcases h with h|h
 ·rw[h];exact Tt _ 0 zO zO
 ·rw[h];exact Tt _ 3988292384 zO zO
def XV(k:Nat):Array Value:=((List.range 16).map λi=>Value.int .u32 ((if i<k then Xk i else 0:Nat):Int)).toArray
theorem kJ(k:Nat):(XV k).size=16:=by simp[XV]
theorem qbl(k i:Nat)(h:i<16):(XV k)[i]?=some (.int .u32 ((if i<k then Xk i else 0:Nat):Int)):=by simp[XV,h]
theorem rowT_set(k:Nat)(h:k<16):(XV k).setIfInBounds k (.int .u32 (Xk k:Int))=XV (k+1):=by
 apply Array.ext_getElem?;intro i;by_cases hi:i<16
 ·rw[qbl _ _ hi];by_cases hk:k=i
  ·subst hk;simp[kJ,h]
  ·rw[Array.getElem?_setIfInBounds_ne hk,qbl _ _ hi];congr 3;split<;>split<;>first|rfl|omega
 ·rw[Array.getElem?_eq_none (by simp[kJ];omega),Array.getElem?_eq_none (by simp[kJ];omega)]
end Go.Proofs.YtmeadnlmepcmbaaGreat
