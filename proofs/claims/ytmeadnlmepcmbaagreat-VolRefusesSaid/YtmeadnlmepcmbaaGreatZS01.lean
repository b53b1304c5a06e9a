/- Lemmas of the proof. -/
import Derived.Test.YtmeadnlmepcmbaaGreatRows
import Derived.WalkKit
import Derived.ProofKit
import Derived.OpenShut
import Derived.BigQuiet
import Derived.BigGuardPart
import Derived.Deep.QuietTactic
import Derived.Deep.RegionHeld3
import Derived.Deep.DeepCutAuto
import Derived.Deep.Draws
import Derived.Maps.AppendAt
import Derived.Lib.Hide
import Derived.Deep.Light
import Derived.RangeFuncNested
import Derived.RangeFuncBox
import Derived.RangeFuncBound
import Derived.RangeFuncCalls
import Derived.RangeFuncLeaves
import Derived.Shelf.Abstract
import Derived.Shelf.RegionOpen
import Derived.OwnWalkIn
import Derived.TacticsInMore
import Derived.LoopNIn
import Derived.LoopIn
import Derived.Deep.Quiet
set_option linter.all false
set_option maxHeartbeats 8000000
namespace Go
instance:Coe World Nat:=⟨λw=>w.heap.size⟩
instance:Coe Nat Addr:=⟨λb=>⟨b,0,none⟩⟩
instance(a b:Nat):CoeDep (Nat×Nat) (a,b) Addr:=⟨⟨a,b,none⟩⟩
instance(w:World)(b:Nat):CoeDep (World×Nat) (w,b) Addr:=⟨⟨w.heap.size,b,none⟩⟩
instance(w:World)(b c:Nat):CoeDep (World×Nat×Nat) (w,b,c) Addr:=⟨⟨w.heap.size+b,c,none⟩⟩
instance(a b:Nat):CoeDep (Nat×Nat) (a,b) (Option Addr):=⟨some ⟨a,b,none⟩⟩
instance(w:World)(b:Nat):CoeDep (World×Nat) (w,b) (Option Addr):=⟨some ⟨w.heap.size,b,none⟩⟩
instance(w:World)(b c:Nat):CoeDep (World×Nat×Nat) (w,b,c) (Option Addr):=⟨some ⟨w.heap.size+b,c,none⟩⟩
instance:Coe Int Value:=⟨λn=>.int .i64 n⟩
instance:Coe Nat Value:=⟨λn=>.int .i64 (n:Int)⟩
instance:Coe Value Ending:=⟨λv=>.returned v⟩
end Go
open Go.Proofs.Tryz
open Go renaming World→E,Value→U
open Go.Value renaming int→I,slice→O,pointer→Oe,tuple→Of
open Option renaming some→M,none→Z
open Go.IntKind renaming i64→X,u32→Oa
open Bool renaming true→Y,false→Od
open Go.Obj renaming cells→Ob
open Go.Ending renaming returned→Oc
namespace Go.Proofs.YtmeadnlmepcmbaaGreat
open Go.RowKit
variable {i B B' base n lo lo':Nat}{p q:Prop}{w w':World}{v:Value}{l:List UInt8}{e:TypeId}{P:Program}{xs:List Value}{ops:Array Oper}{a:Act}{Q:Exit->Act->World->Prop}{rest:List Oper}{o:Oper}
theorem zA.{u}{α:Type u}(l:List α)(i:Nat)(a:α):l.toArray.setIfInBounds i a=(l.set i a).toArray:=List.setIfInBounds_toArray ..
theorem zB.{u}{α:Type u}{x:α}{xs:List α}{a:α}:(x::xs).set 0 a=a::xs:=List.set_cons_zero
theorem zC.{u}{α:Type u}{x:α}{xs:List α}{a:α}:(x::xs).set (i+1) a=x::xs.set i a:=List.set_cons_succ
theorem zG.{u}{α:Type u}{b:α}{xs:Array α}:xs[i]?=M b↔∃h:i<xs.size,xs[i]=b:=Array.getElem?_eq_some_iff
theorem zH(h:p):Hid p:=Lib.hid h
theorem zH2 {p0 p1:Prop}(h0:p0)(h1:p1):Hid p0/\Hid p1:=⟨zH h0,zH h1⟩
theorem zH3 {p0 p1 p2:Prop}(h0:p0)(h1:p1)(h2:p2):Hid p0/\Hid p1/\Hid p2:=⟨zH h0,zH h1,zH h2⟩
theorem zH4 {p0 p1 p2 p3:Prop}(h0:p0)(h1:p1)(h2:p2)(h3:p3):Hid p0/\Hid p1/\Hid p2/\Hid p3:=⟨zH h0,zH h1,zH h2,zH h3⟩
theorem zH5 {p0 p1 p2 p3 p4:Prop}(h0:p0)(h1:p1)(h2:p2)(h3:p3)(h4:p4):Hid p0/\Hid p1/\Hid p2/\Hid p3/\Hid p4:=⟨zH h0,zH h1,zH h2,zH h3,zH h4⟩
theorem zH6 {p0 p1 p2 p3 p4 p5:Prop}(h0:p0)(h1:p1)(h2:p2)(h3:p3)(h4:p4)(h5:p5):Hid p0/\Hid p1/\Hid p2/\Hid p3/\Hid p4/\Hid p5:=⟨zH h0,zH h1,zH h2,zH h3,zH h4,zH h5⟩
theorem zJ(w:E)(a:Addr)(u:U)(k:Nat)(h:k≠a.block):(w.setCell a u).heap[k]?=w.heap[k]?:=Below.heap_setCell w a u k h
theorem zK(w:E)(o:Obj)(k:Nat)(h:k<w):(w.alloc o).heap[k]?=w.heap[k]?:=Below.heap_alloc w o k h
theorem zL.{u}{α:Type u}{l:List α}(h:i<l.length):l[i]?=M l[i]:=List.getElem?_eq_getElem h
theorem zM(n:Nat):n≤n:=Nat.le_refl n
theorem zO(h:p:=by omega):p:=h
theorem zA0(h:p:=by rfl):p:=h
theorem zQ(h:p:=by kernel_rfl):p:=h
theorem zA1(h:p:=by decide):p:=h
theorem zA2(h:p:=by simp;omega):p:=h
theorem zA3(h:p:=by simp):p:=h
theorem zA4(h:p:=by simp<;>omega):p:=h
theorem zE(h:p:=by exact rfl):p:=h
theorem zA5(h:p:=by repeat' (first|with_reducible exact Below.refl _ _|with_reducible assumption|with_reducible apply Below.drew|with_reducible apply qX|with_reducible refine Below.alloc ?_ ?_ _|with_reducible refine Below.setCell ?_ ?_ _|(simp;done)|(simp;omega)|omega)):p:=h
theorem zA6(h:p:=by simp only[List.getElem?_toArray,List.getElem?_cons_succ,List.getElem?_cons_zero];exact rfl):p:=h
theorem zA7(h:p:=by unfold maxLen;omega):p:=h
theorem zA8(h:p:=by simp[Value.oneCell']):p:=h
theorem zA9(h:p:=by simp only[Nat.min_def];split<;>omega):p:=h
theorem zB0(k:q)(h:Hid q→p:=by intro h;(try simp only[Act.put,qo,qf,qc,qh,JG,zA,zB,zC]);(repeat ((first|(refine Qg ?_ (by rfl) (by rfl) (λW hW _=>⟨W,?_,Ext.refl W⟩) ?_;rotate_left;(go_simp<;>with_reducible rfl))|(refine Qn (by rfl) ?_));try simp only[Act.put,qo,qf,qc,qh,JG,zA,zB,zC]));exact h.out):p:=h (zH k)
theorem zB1(k:q)(h:Hid q→p:=by intro h;(try simp only[Act.put,qo,qf,qc,qh,zA,zB,zC]);(repeat ((first|(refine Qg ?_ (by rfl) (by rfl) (λW hW _=>⟨W,?_,Ext.refl W⟩) ?_;rotate_left;(go_simp<;>with_reducible rfl))|(refine Qn (by rfl) ?_));try simp only[Act.put,qo,qf,qc,qh,zA,zB,zC]));exact h.out):p:=h (zH k)
theorem zB2(k:q)(h:Hid q→p:=by intro h;(try simp only[Act.put,qo,qf,qc,qh,qv,QU,zA,zB,zC]);(repeat ((first|(refine qe ?_ (by rfl) (by rfl) (λW hW _=>⟨W,?_,Rel.refl _ W⟩) ?_;rotate_left;(go_simp<;>with_reducible rfl))|(refine qi (by rfl) ?_));try simp only[Act.put,qo,qf,qc,qh,qv,QU,zA,zB,zC]));exact h.out):p:=h (zH k)
theorem zB3(k:q)(h:Hid q→p:=by intro h;(try simp only[Act.put,qo,qf,qc,qh,qv,Qz,QU,zA,zB,zC]);(repeat ((first|(refine Qg ?_ (by rfl) (by rfl) (λW hW _=>⟨W,?_,Ext.refl W⟩) ?_;rotate_left;(go_simp<;>with_reducible rfl))|(refine Qn (by rfl) ?_));try simp only[Act.put,qo,qf,qc,qh,qv,Qz,QU,zA,zB,zC]));exact h.out):p:=h (zH k)
theorem zB4(k:q)(h:Hid q→p:=by intro h;(try simp only[Act.put,qo,qf,qc,qh,Jd,zA,zB,zC]);(repeat ((first|(refine qe ?_ (by rfl) (by rfl) (λW hW _=>⟨W,?_,Rel.refl _ W⟩) ?_;rotate_left;(go_simp<;>with_reducible rfl))|(refine qi (by rfl) ?_));try simp only[Act.put,qo,qf,qc,qh,Jd,zA,zB,zC]));exact h.out):p:=h (zH k)
theorem zB5(k:q)(h:Hid q→p:=by intro h;(dsimp only[List.drop,List.length_cons,List.length_nil]);exact h.out):p:=h (zH k)
theorem zB6(k:q)(h:Hid q→p:=by intro h;(try simp only[Act.put,qo,qf,qc,qh,zA,zB,zC]);(repeat ((first|(refine qe ?_ (by rfl) (by rfl) (λW hW _=>⟨W,?_,Rel.refl _ W⟩) ?_;rotate_left;(go_simp<;>with_reducible rfl))|(refine qi (by rfl) ?_));try simp only[Act.put,qo,qf,qc,qh,zA,zB,zC]));exact h.out):p:=h (zH k)
theorem zB7(k:q)(h:Hid q→p:=by intro h;(try simp only[Act.put,qo,qf,qc,qh,qv,vy,zA,zB,zC]);(repeat ((first|(refine qe ?_ (by rfl) (by rfl) (λW hW _=>⟨W,?_,Rel.refl _ W⟩) ?_;rotate_left;(go_simp<;>with_reducible rfl))|(refine qi (by rfl) ?_));try simp only[Act.put,qo,qf,qc,qh,qv,vy,zA,zB,zC]));exact h.out):p:=h (zH k)
theorem zB8(k:q)(h:Hid q→p:=by intro h;(dsimp only[List.drop,List.length_cons,List.length_nil,Nat.reduceAdd,Nat.reduceSub]);exact h.out):p:=h (zH k)
theorem zB9(k:q)(h:Hid q→p:=by intro h;(try simp only[Act.put,qo,qf,qc,qh,Zd,jn,zA,zB,zC]);(repeat ((first|(refine qe ?_ (by rfl) (by rfl) (λW hW _=>⟨W,?_,Rel.refl _ W⟩) ?_;rotate_left;(go_simp<;>with_reducible rfl))|(refine qi (by rfl) ?_));try simp only[Act.put,qo,qf,qc,qh,Zd,jn,zA,zB,zC]));exact h.out):p:=h (zH k)
theorem zC0(k:q)(h:Hid q→p:=by intro h;(try simp only[Act.put,qo,qf,qc,qh,Zd,jn,zA,zB,zC]);(repeat ((first|(refine Ju hle ?_ (by rfl) (by rfl) (λW hW _=>?_) ?_;rotate_left;(go_simp<;>with_reducible rfl))|(refine Vt (by rfl) ?_));try simp only[Act.put,qo,qf,qc,qh,Zd,jn,zA,zB,zC]));exact h.out):p:=h (zH k)
theorem zC1(k:q)(h:Hid q→p:=by intro h;(try simp only[Act.put,qo,qf,qc,qh,Xt,Ky,zA,zB,zC]);(repeat ((first|(refine qe ?_ (by rfl) (by rfl) (λW hW _=>⟨W,?_,Rel.refl _ W⟩) ?_;rotate_left;(go_simp<;>with_reducible rfl))|(refine qi (by rfl) ?_));try simp only[Act.put,qo,qf,qc,qh,Xt,Ky,zA,zB,zC]));exact h.out):p:=h (zH k)
theorem zC2(k:q)(h:Hid q→p:=by intro h;(try simp only[Act.put,qo,qf,qc,qh,qv,Qz,zA,zB,zC]);(repeat ((first|(refine Qg ?_ (by rfl) (by rfl) (λW hW _=>⟨W,?_,Ext.refl W⟩) ?_;rotate_left;(go_simp<;>with_reducible rfl))|(refine Qn (by rfl) ?_));try simp only[Act.put,qo,qf,qc,qh,qv,Qz,zA,zB,zC]));exact h.out):p:=h (zH k)
theorem zC3(k:q)(h:Hid q→p:=by intro h;(try simp only[Act.put,qo,qf,qc,qh,qv,zA,zB,zC]);(repeat ((first|(refine qe ?_ (by rfl) (by rfl) (λW hW _=>⟨W,?_,Rel.refl _ W⟩) ?_;rotate_left;(go_simp<;>with_reducible rfl))|(refine qi (by rfl) ?_));try simp only[Act.put,qo,qf,qc,qh,qv,zA,zB,zC]));exact h.out):p:=h (zH k)
theorem zC4(k:q)(h:Hid q→p:=by intro h;(try simp only[Act.put,qo,qf,qc,qh,qI,Qe,qL,qN,zA,zB,zC]);(repeat ((first|(refine qe ?_ (by rfl) (by rfl) (λW hW _=>⟨W,?_,Rel.refl _ W⟩) ?_;rotate_left;(go_simp<;>with_reducible rfl))|(refine qi (by rfl) ?_));try simp only[Act.put,qo,qf,qc,qh,qI,Qe,qL,qN,zA,zB,zC]));exact h.out):p:=h (zH k)
theorem zC5(k:q)(h:Hid q→p:=by intro h;(try simp only[Act.put,qo,qf,qc,qh,jh,Zl,Zk,Jj,zA,zB,zC]);(repeat ((first|(refine qe ?_ (by rfl) (by rfl) (λW hW _=>⟨W,?_,Rel.refl _ W⟩) ?_;rotate_left;(go_simp<;>with_reducible rfl))|(refine qi (by rfl) ?_));try simp only[Act.put,qo,qf,qc,qh,jh,Zl,Zk,Jj,zA,zB,zC]));exact h.out):p:=h (zH k)
theorem zC6(k:q)(h:Hid q→p:=by intro h;(try simp only[Act.put,qo,qf,qc,qh,Zd,zA,zB,zC]);(repeat ((first|(refine qe ?_ (by rfl) (by rfl) (λW hW _=>⟨W,?_,Rel.refl _ W⟩) ?_;rotate_left;(go_simp<;>with_reducible rfl))|(refine qi (by rfl) ?_));try simp only[Act.put,qo,qf,qc,qh,Zd,zA,zB,zC]));exact h.out):p:=h (zH k)
theorem zC7(k:q)(h:Hid q→p:=by intro h;(try simp only[Act.put,qo,qf,qc,qh,qI,qv,zA,zB,zC]);(repeat ((first|(refine qe ?_ (by rfl) (by rfl) (λW hW _=>⟨W,?_,Rel.refl _ W⟩) ?_;rotate_left;(go_simp<;>with_reducible rfl))|(refine qi (by rfl) ?_));try simp only[Act.put,qo,qf,qc,qh,qI,qv,zA,zB,zC]));exact h.out):p:=h (zH k)
theorem zC8(k:q)(h:Hid q→p:=by intro h;(try simp only[Act.put,qo,qf,qc,qh,qI,qv,Qe,qL,qN,zA,zB,zC]);(repeat ((first|(refine Jv hle ?_ (by rfl) (by rfl) (λW hW=>?_) ?_;rotate_left;(go_simp<;>with_reducible rfl))|(refine Jw (by rfl) ?_));try simp only[Act.put,qo,qf,qc,qh,qI,qv,Qe,qL,qN,zA,zB,zC]));exact h.out):p:=h (zH k)
theorem zC9(k:q)(h:Hid q→p:=by intro h;(try simp only[Act.put,qo,qf,qc,qh,qI,qv,Qe,qL,qN,zA,zB,zC]);(repeat ((first|(refine qe ?_ (by rfl) (by rfl) (λW hW _=>⟨W,?_,Rel.refl _ W⟩) ?_;rotate_left;(go_simp<;>with_reducible rfl))|(refine qi (by rfl) ?_));try simp only[Act.put,qo,qf,qc,qh,qI,qv,Qe,qL,qN,zA,zB,zC]));exact h.out):p:=h (zH k)
theorem zD0(k:q)(h:Hid q→p:=by intro h;(try simp only[Act.put,qo,qf,qc,qh,qL,zA,zB,zC]);(repeat ((first|(refine qe ?_ (by rfl) (by rfl) (λW hW _=>⟨W,?_,Rel.refl _ W⟩) ?_;rotate_left;(go_simp<;>with_reducible rfl))|(refine qi (by rfl) ?_));try simp only[Act.put,qo,qf,qc,qh,qL,zA,zB,zC]));exact h.out):p:=h (zH k)
theorem zD1(k:q)(h:Hid q→p:=by intro h;(try simp only[Act.put,qo,qf,qc,qh,qv,jH,ZL,zA,zB,zC]);(repeat ((first|(refine qe ?_ (by rfl) (by rfl) (λW hW _=>⟨W,?_,Rel.refl _ W⟩) ?_;rotate_left;(go_simp<;>with_reducible rfl))|(refine qi (by rfl) ?_));try simp only[Act.put,qo,qf,qc,qh,qv,jH,ZL,zA,zB,zC]));exact h.out):p:=h (zH k)
abbrev OA:=Option Addr
def Rd(w:E)(B size:Nat)(A:OA)(n:Nat)(xs:List U):Prop:=
 xs.length=n*size/\(0<n->∃b off,A=M ⟨b,off,Z⟩/\b<B/\∀j u,xs[j]?=M u->w.cell? ⟨b,off+j,Z⟩=M u)
section
variable {w w':World} {B B' size n:Nat} {A:OA} {xs:List Value}
theorem Rd.none_:Rd w B size A 0 []:=⟨zA3,λh=>absurd h zO⟩
theorem Rd.len1(h:Rd w B 1 A n xs):xs.length=n:=by have:=h.1;omega
theorem Rd.keep(h:Rd w B size A n xs)(hk:∀p:Addr,p.block<B->w'.cell? p=w.cell? p):Rd w' B size A n xs:=
 ⟨h.1,λhn=>by obtain⟨b,off,e,hb,hc⟩:=h.2 hn;exact⟨b,off,e,hb,λj u hu=>(hk _ hb).trans (hc j u hu)⟩⟩
theorem Rd.more(h:Rd w B size A n xs)(hB:B<=B'):Rd w B' size A n xs:=
 ⟨h.1,λhn=>by obtain⟨b,off,e,hb,hc⟩:=h.2 hn;exact⟨b,off,e,zO,hc⟩⟩
theorem Rd.below(h:Rd w B size A n xs)(hb:Below B w w'):Rd w' B size A n xs:=h.keep λ_ hp=>hb.cell hp
theorem Rd.drew(h:Rd w B size A n xs):Rd w.drew B size A n xs:=h
theorem Rd.drewN(h:Rd w B size A n xs)(k:Nat):Rd (w.drewN k) B size A n xs:=h
theorem Rd.alloc(h:Rd w B size A n xs)(hB:B<=w)(o:Obj):Rd (w.alloc o) B size A n xs:=h.keep λp hp=>World.cell?_alloc_lt w o p zO
theorem Rd.at_{k:Nat}{u:U}(h:Rd w B size A n xs)(hn:0<n)(hu:xs[k]?=u):∃b off,A=M ⟨b,off,Z⟩/\b<B/\w.cell? ⟨b,off+k,Z⟩=u:=by obtain⟨b,off,e,hb,hc⟩:=h.2 hn;exact⟨b,off,e,hb,hc k u hu⟩
theorem Rd.take(h:Rd w B size A n xs){k:Nat}(hk:k<=n):Rd w B size A k (xs.take (k*size)):=by refine⟨by rw[List.length_take,h.1];exact Nat.min_eq_left (Nat.mul_le_mul_right _ hk),λhn=>?_⟩;obtain⟨b,off,rfl,hb,hAG⟩:=h.2 zO;refine⟨b,off,rfl,hb,λj u hu=>hAG j u ?_⟩;rw[List.getElem?_take]at hu;split at hu;exact hu;cases hu
theorem Rd.of_own{base:Nat}{e:TypeId}{c:Nat}(h:w.ownsRow base e size (O A n c) n xs):Rd w w size A n xs:=by
 refine⟨h.1,λhn=>?_⟩;rcases h.2 with⟨h0,h1⟩|⟨g,cap,cur,hv,hb,hg,hnc,_,hsz,htk⟩
 omega;injection hv with hA _ _
 subst hA;refine⟨g,0,rfl,?_,λj u hu=>?_⟩;rcases Nat.lt_or_ge g w.heap.size with hlt|hge
 exact hlt;rw[Array.getElem?_eq_none hge]at hg;cases hg;have:=h.cells (g:=g) rfl j u hu;simpa [Addr.add] using(show w.cell? ⟨g,0+j,Z⟩=M u by
  rw[<-this];unfold Addr.add;split;subst_vars;rfl
  ·rfl)
theorem Rd.new(w:E)(cs:Array U)(e:TypeId)(n:Nat)(hn:cs.size=n):Rd (w.alloc (Ob cs e)) (w.alloc (Ob cs e)).heap.size 1 w n cs.toList:=
 ⟨by simp[hn],λ_=>⟨w.heap.size,0,rfl,zA3,λj u hu=>by rw[World.cell?_alloc_at _ _ _ _ rfl];simpa using hu⟩⟩
theorem Rd.adds{b off:Nat}(h:Rd w B size (b,off) n xs)(hn:0<n):∀j u,xs[j]?=M u->w.cell? (((b,off):Addr).add j)=M u:=by
 obtain⟨b',off',e,_,hc⟩:=h.2 hn;injection e with e;injection e with e1 e2
 subst e1;subst e2;intro j u hu;rw[<-hc j u hu];unfold Addr.add;split;subst_vars;rfl;rfl
end
abbrev bv(x:UInt8):U:=I .u8 (x.toNat:Int)
theorem Gp(l:List UInt8):∀u∈l.map bv,u.oneCell'=Y:=by intro u hu;obtain⟨x,_,rfl⟩:=List.mem_map.1 hu;rfl
def Bys(w:E)(B:Nat)(v:U)(l:List UInt8):Prop:=∃A c,v=O A l.length c/\l.length<=c/\c<=maxLen/\Rd w B 1 A l.length (l.map bv)
theorem Bys.below(h:Bys w B v l)(hb:Below B w w'):Bys w' B v l:=by obtain⟨A,c,e,hc,hm,hr⟩:=h;exact⟨A,c,e,hc,hm,hr.below hb⟩
theorem Bys.keep(h:Bys w B v l)(hk:∀p:Addr,p.block<B->w'.cell? p=w.cell? p):Bys w' B v l:=by obtain⟨A,c,e,hc,hm,hr⟩:=h;exact⟨A,c,e,hc,hm,hr.keep hk⟩
theorem Bys.more(h:Bys w B v l)(hb:B<=B'):Bys w B' v l:=by obtain⟨A,c,e,hc,hm,hr⟩:=h;exact⟨A,c,e,hc,hm,hr.more hb⟩
theorem Bys.nil(w:E)(B:Nat):Bys w B (O Z 0 0) []:=⟨Z,0,rfl,zM _,by simp[maxLen],Rd.none_⟩
theorem Bys.of_own(h:w.ownsRow base e 1 v n (l.map bv)):Bys w w v l:=by
 have hn:l.length=n:=by have:=h.1;simpa using this
 subst hn;rcases h.2 with⟨rfl,h0⟩|⟨g,cap,cur,rfl,hb,hg,hnc,hcm,hsz,htk⟩
 obtain rfl:l=[]:=List.eq_nil_of_length_eq_zero h0;exact Bys.nil w _;exact⟨_,cap,rfl,hnc,hcm,Rd.of_own h⟩
theorem Bys.new(w:E)(e:TypeId)(l:List UInt8)(hl:l.length<=maxLen:=by simp[maxLen]):Bys (w.alloc (Ob (l.map bv).toArray e)) (w.alloc (Ob (l.map bv).toArray e)).heap.size (O w l.length l.length) l:=
 ⟨_,_,rfl,zM _,hl,zA3,λ_=>⟨w.heap.size,0,rfl,zA3,λj u hu=>by rw[World.cell?_alloc_at _ _ _ _ rfl];simpa using hu⟩⟩
def bstr(l:List UInt8):ByteArray:=strOfNums (l.map λx=>(x.toNat:Int))
theorem qlL(l:List UInt8):(bstr l).data.toList=l:=by
 unfold bstr;rw[strOfNums_data,List.map_map]
 conv=>rhs;rw[<-List.map_id l]
 apply List.map_congr_left;intro x _;simp
theorem qhf(l:List UInt8):(bstr l).toList=l:=by rw[ByteArray.toList_eq];exact qlL l
theorem kF(h:Bys w B v l)(src dst e:TypeId)(hs:P.underlying src=M (.slice e))(he:P.underlying e=M (.int .u8))(hd:P.underlying dst=M .string):(convert src dst v).run P w=.ok (.string (bstr l)) w:=by
 obtain⟨A,c,rfl,hc,hm,hr⟩:=h;rcases A with _|ad
 have h0:l.length=0:=by
  rcases Nat.eq_zero_or_pos l.length with h0|h0
  exact h0;obtain⟨b,off,h,_⟩:=hr.2 h0;cases h
 obtain rfl:l=[]:=List.eq_nil_of_length_eq_zero h0;exact run_convert_bytes_nil w src e hs he _ _ dst hd;rcases Nat.eq_zero_or_pos l.length with h0|h0
 obtain rfl:l=[]:=List.eq_nil_of_length_eq_zero h0;rw[run_convert_bytes_string w src dst e _ _ _ hs he hd,run_bytesToString w _ _ _ [] (by simp[loadCells,loadCellsFrom])];rfl;obtain⟨b,off,h,_,hAG⟩:=hr.2 h0;cases h;exact run_convert_bytes_arg w src e hs he b off l.length c (l.map λx=>(x.toNat:Int)) zA3 (λi hi=>by rw[hAG i (bv l[i]) (by simp[hi])];simp[hi]) dst hd
theorem zI(w:E)(o:Obj)(b:Nat)(h:b=w):(w.alloc o).heap[b]?=o:=by subst h;exact heap_alloc_new w o
theorem qa{b:Nat}{cs:Array U}{t:TypeId}(h:w.heap[b]?=M (Ob cs t)):∀i,w.cell? ⟨b,i,Z⟩=cs[i]?:=λi=>by simp[World.cell?,h]
theorem qd{b:Nat}{cs:Array U}{t:TypeId}(h:w.heap[b]?=M (Ob cs t)):∀i,w.frozen? ⟨b,i,Z⟩=Od:=λi=>by simp[World.frozen?,h]
def ZV(lo:Nat)(v:U):Prop:=∀a n c,v=O (M a) n c->lo<=a.block
theorem ZV.of_own{base n size:Nat}(h:w.ownsRow base e size v n xs):ZV base v:=by intro a n' c hv;subst hv;exact(h.lt a.block rfl).1
theorem ZV.mono(h:ZV lo v)(hl:lo'<=lo):ZV lo' v:=λa n c e=>Nat.le_trans hl (h a n c e)
theorem Bys.setCell(h:Bys w B v l)(hf:ZV lo v){p:Addr}(hp:p.block<lo)(u:U):Bys (w.setCell p u) B v l:=by obtain⟨A,c,e,hc,hm,hr⟩:=h;refine⟨A,c,e,hc,hm,hr.1,λhn=>?_⟩;obtain⟨b,off,hA,hb,hAG⟩:=hr.2 hn;refine⟨b,off,hA,hb,λj u' hu=>?_⟩;have:lo<=b:=hf ⟨b,off,Z⟩ l.length c (by rw[e,hA]);rw[World.cell?_setCell_other w p ⟨b,off+j,Z⟩ u (λe=>by subst e;simp at hp;omega)];exact hAG j u' hu
theorem qX{a:E}(h:Below B a w)(n:Nat):Below B a (w.drewN n):=⟨h.os,h.tape,h.output,h.size,h.block⟩
def Ret(v:U)(w:E)(e:Ending)(w':E):Prop:=e=v/\Below w w w'
def zv(φ:U->E->Prop)(w:E)(e:Ending)(w':E):Prop:=∃v,e=Oc v/\φ v w'/\Below w w w'
def Qs(p:Prop):Prop:=p
theorem Qs.go(h:p):Qs p:=h
theorem Qa{l:List Oper}(h:Qs (wpList P ops Q l a w)):wpList P ops Q l a w:=h
theorem XY(w:E)(cs:Array U)(e:TypeId):∀j u,cs.toList[j]?=M u->(w.alloc (Ob cs e)).cell? ((w:Addr).add j)=M u:=by
 intro j u hj;have h:(w.alloc (Ob cs e)).cell? (w,0+j)=u:=by rw[World.cell?_alloc_at _ _ _ _ rfl];simpa using hj
 rw[<-h];unfold Addr.add;split;subst_vars;rfl;rfl
theorem ZB(w:E)(hgd:o.guard=Z)(s x:Operand)(t:TypeId)(ho:o.op=.call {callee:=.builtin .append,args:=#[s,x],argTypes:=#[t,t]})(base:Nat)(e:TypeId)(i:TypeInfo)(z:U)(size bytes:Nat)(ht:P.underlying t=M (.slice e))(hi:P.info? e=i)(hz:i.zero=z)(hHJ:i.size=size)(hby:i.bytes=bytes)(hzs:z.cells.size=size)(hsz:0<size)(v:U)(n:Nat)(xs:List U)(hs:a.eval s=v)(hAD:w.ownsRow base e size v n xs)(cs:Array U)(hx:a.eval x=O w 1 1)(hl:cs.size=size)(h1:∀u∈cs.toList,u.oneCell'=Y)(hn:n<1073741824)(hGV:bytes<=65536)(hMP:base<=w)(h:∀v' w',w'.ownsRow base e size v' (n+1) (xs++cs.toList)->w.grownBy w' v.ownBlock->Below base w w'->(v'.ownBlock=v.ownBlock\/∃g,v'.ownBlock=M g/\w.heap.size<=g)->wpList P ops Q rest (a.put o.dst v') w'):wpList P ops Q (o::rest) a (w.alloc (Ob cs e)):=by
 refine wpList_plain hgd λK hK=>?_;have hb:(n+1)*bytes<=140737488355328:=Nat.le_trans (Nat.mul_le_mul_left _ hGV) zO;have hm:n+1<=maxLen:=zA7;obtain⟨v',w',hCQ,h2,h3,_,h5⟩:=run_append_own_at (P:=P) (w.alloc (Ob cs e)) base t o.type e i z size bytes ht hi hz hHJ hby hzs hsz v n xs (hAD.alloc _) ⟨w.heap.size,0,Z⟩ 1 1 cs.toList
  (by rw[Array.length_toList];omega) (XY w cs e) h1 hm hb zA2
 have hg:w.grownBy w' v.ownBlock:=⟨h3.os,h3.tape,h3.output,Nat.le_trans zA3 h3.size,λk hk hne=>(h3.block k zA2 hne).trans (zK w _ k hk)⟩
 unfold Oper.wp execOp;simp only[ho,resolve,invoke,builtin,Sem.run_bind,Sem.run_pure,Result.andThen_ok,List.map_toArray,List.map_cons,List.map_nil,hs,hx,hCQ];exact hK _ _ (h v' w' h2 hg ((Below.refl base w).grown hg hMP (λk hk=>(hAD.lt k hk).1)) (h5.imp id λe=>⟨_,e,zA3⟩))
theorem QG(w:E)(hgd:o.guard=Z)(s x:Operand)(t:TypeId)(ho:o.op=.call {callee:=.builtin .append,args:=#[s,x],argTypes:=#[t,t]})(base:Nat)(e:TypeId)(i:TypeInfo)(z:U)(size bytes:Nat)(ht:P.underlying t=M (.slice e))(hi:P.info? e=i)(hz:i.zero=z)(hHJ:i.size=size)(hby:i.bytes=bytes)(hzs:z.cells.size=size)(hsz:0<size)(v:U)(n:Nat)(xs:List U)(hs:a.eval s=v)(hAD:w.ownsRow base e size v n xs)(B:Nat)(A m c)(news:List U)(hx:a.eval x=O A m c)(hr:Rd w B size A m news)(h1:∀u∈news,u.oneCell'=Y)(hn:n+m<1073741824)(hGV:bytes<=65536)(hMP:base<=w)(h:∀v' w',w'.ownsRow base e size v' (n+m) (xs++news)->w.grownBy w' v.ownBlock->Below base w w'->(v'.ownBlock=v.ownBlock\/∃g,v'.ownBlock=M g/\w.heap.size<=g)->wpList P ops Q rest (a.put o.dst v') w'):wpList P ops Q (o::rest) a w:=by
 refine wpList_plain hgd λK hK=>?_;have hb:(n+m)*bytes<=140737488355328:=Nat.le_trans (Nat.mul_le_mul_left _ hGV) zO;have hm:n+m<=maxLen:=zA7;have key:∃v' w',(Builtin.append_ #[t,t] o.type #[v,O A m c]).run P w=.ok v' w'/\w'.ownsRow base e size v' (n+m) (xs++news)/\w.grownBy w' v.ownBlock /\
   (v'.ownBlock=v.ownBlock\/v'.ownBlock=M w.heap.size):=by
  rcases A with _|ad
  ·have hm0:m=0:=by
    rcases Nat.eq_zero_or_pos m with h0|h0
    exact h0;obtain⟨b,off,h,_⟩:=hr.2 h0;cases h
   subst hm0;have hn:news=[]:=List.eq_nil_of_length_eq_zero (by simpa using hr.1);subst hn;refine⟨v,w,?_,by simpa using hAD,World.grownBy.refl w _,.inl rfl⟩;rcases hAD.2 with⟨rfl,_⟩|⟨g,cap,cur,rfl,_,_,hnc,_⟩
   all_goals simp[Builtin.append_,run_underlying ht,sizeOf,typeInfo,Builtin.lenOf,Builtin.firstCells,storeCells, *]
  have hFZ:∀j u,news[j]?=M u->w.cell? (ad.add j)=M u:=by
   intro j u hu;rcases Nat.eq_zero_or_pos m with h0|h0
   subst h0;have hn:news=[]:=List.eq_nil_of_length_eq_zero (by simpa using hr.1);subst hn;simp at hu;obtain⟨b,off,h,_⟩:=hr.2 h0;injection h with h;subst h;exact hr.adds h0 j u hu
  obtain⟨v',w',hCQ,h2,h3,_,h5⟩:=run_append_own_at (P:=P) w base t o.type e i z size bytes ht hi hz hHJ hby hzs hsz v n xs hAD ad m c news hr.1 hFZ h1 hm hb hMP;exact⟨v',w',hCQ,h2,h3,h5⟩
 obtain⟨v',w',hCQ,h2,h3,h5⟩:=key;unfold Oper.wp execOp;simp only[ho,resolve,invoke,builtin,Sem.run_bind,Sem.run_pure,Result.andThen_ok,List.map_toArray,List.map_cons,List.map_nil,hs,hx,hCQ];exact hK _ _ (h v' w' h2 h3 ((Below.refl base w).grown h3 hMP (λk hk=>(hAD.lt k hk).1)) (h5.imp id λe=>⟨_,e,zM _⟩))
theorem Ua{k:IntKind}{a b:Int}(h:a=b):Ending.returned (I k a)=Oc (I k b):=by rw[h]
theorem VU{a b:Bool}(h:a=b):Ending.returned (.bool a)=Oc (.bool b):=by rw[h]
def vH:List UInt8->Nat
 |[]=>0
 |b::r=>b.toNat+256*vH r
theorem qdc(l:List UInt8):vH l<256^l.length:=by
 induction l with
 |nil=>simp[vH]
 |cons b r ih=>have:=b.toNat_lt;simp only[vH,List.length_cons,Nat.pow_succ];omega
theorem or_byte(a b:Nat)(hb:b<256):a*256||| b=b+256*a:=by have h:=Nat.two_pow_add_eq_or_of_lt (i:=8) (b:=b) (by simpa using hb) a;rw[Nat.mul_comm a 256,Nat.add_comm b];exact h.symm
theorem or_u32(a b:Nat)(ha:a<4294967296)(hb:b<4294967296):bits .or Oa (a:Int) (b:Int)=((a||| b:Nat):Int):=by
 have e:∀n:Nat,n<4294967296->(BitVec.ofInt 32 (n:Int)).toNat=n:=λn hn=>by simp[BitVec.ofInt_natCast];omega
 have hx:a||| b<2^32:=Nat.or_lt_two_pow zO zO
 show IntKind.u32.wrap (((BitVec.ofInt 32 (a:Int)||| BitVec.ofInt 32 (b:Int)).toNat:Nat):Int)=_;rw[BitVec.toNat_or,e a ha,e b hb];simp[IntKind.wrap,IntKind.bits,IntKind.signed];omega
def qT:Nat->Nat->List UInt8
 |_,0=>[]
 |n,k+1=>UInt8.ofNat n::qT (n/256) k
theorem QV(k:Nat):∀n,(qT n k).length=k:=by
 induction k with
 |zero=>intro n;rfl
 |succ k ih=>intro n;simp[qT,ih]
theorem qdU(l:List UInt8):qT (vH l) l.length=l:=by
 induction l with
 |nil=>rfl
 |cons b r ih=>
  have hb:=b.toNat_lt;simp only[vH,List.length_cons,qT];rw[show(b.toNat+256*vH r)/256=vH r by omega,ih];congr 1;apply UInt8.toNat.inj;simp
end Go.Proofs.YtmeadnlmepcmbaaGreat
namespace Go.Proofs.YtmeadnlmepcmbaaGreat
open Go.RowKit Go.Shelf
attribute [local go_sem] Oper.semAt_some
variable {α:Type}{x y:Nat}{A C w W W':World}{v:Value}{xs:List UInt8}
def jf{α:Type}(f:Nat->α)(k:Nat):List α:=(List.range k).map f
theorem VA(f:Nat->α)(k:Nat):jf f (k+1)=jf f k++[f k]:=by simp[jf,List.range_succ]
theorem ZA(f:Nat->α)(k:Nat):(jf f k).length=k:=by simp[jf]
def Qx(x y:Nat)(A B:E):Prop:=B.heap[x]?=A.heap[x]?/\B.heap[y]?=A.heap[y]?
theorem Qx.t{B:E}(h:Qx x y A B)(k:Qx x y B C):Qx x y A C:=⟨k.1.trans h.1,k.2.trans h.2⟩
theorem Qx.refl(x y:Nat)(A:E):Qx x y A A:=⟨rfl,rfl⟩
theorem Qx.b(hx:x<w)(hy:y<w)(W:E)(l:Nat)(o o':Obj)(hl:w.heap.size<=l)(_:W.heap[l]?=o)(_:o.isCells=Od)(_:o.isWalk=Od):Qx x y W (W.putObj l o'):=
 ⟨World.putObj_heap_other zO,World.putObj_heap_other zO⟩
theorem Qx.set(A:E)(p:Addr)(v:U)(hx:x≠p.block)(hy:y≠p.block):Qx x y A (A.setCell p v):=
 ⟨zJ A p v x hx,zJ A p v y hy⟩
theorem Qx.below{B:Nat}(h:Below B A C)(hx:x<B)(hy:y<B):Qx x y A C:=⟨h.block x hx,h.block y hy⟩
set_option maxRecDepth 100000 in
theorem back8_in(n:Nat)(hn:1<=n)(l Bs b off len cap:Nat)(xs:List UInt8)(hDE:len<1099511627776)(hlen:xs.length=len)(J Jx:List (Nat×UInt8)->E->Prop)(hY:∀pre x W,J pre W->pre.length<len->YieldAt Fence.wide (n-1) prog l #[I X (x.1:Int),bv x.2] W λe W'=>
   (e=Oc (.bool Y)/\J (pre++[x]) W'/\Qx Bs b W W')\/(e=Oc (.bool Od)/\Jx (pre++[x]) W'))
  (W:E) (hBs:W.cell? Bs=M (O (b,off) len cap)) (hc:∀j u,(xs.map bv)[j]?=M u->W.cell? ⟨b,off+j,Z⟩=M u) (h0:J [] W) :
  CallsIn Fence.wide n prog 208 #[.func (.yield l) #[] #[],Oe Bs] W λe W'=>(∃v,e=Oc v) /\
   ((∃ys,ys=jf (λj=>(len-1-j,xs[len-1-j]?.getD 0)) len/\J ys W')\/(∃pre,(∃k,k<=len/\pre=jf (λj=>(len-1-j,xs[len-1-j]?.getD 0)) k)/\Jx pre W')):=by
 refine callsIn_of_wp func208 rfl trivial ?_ rfl;simp only[ntmps208,List.size_toArray,List.length_cons,List.length_nil,Nat.reduceAdd,Nat.reduceSub,Array.replicate_succ,Array.replicate_zero,List.push_toArray,List.append_toArray,List.nil_append,List.cons_append]
 gi_wp2
 gi_loopw [3] (λi wr=>∃k:Nat,k<=len/\i=I X ((len:Int)-1-k)/\J (jf (λj=>(len-1-j,xs[len-1-j]?.getD 0)) k) wr/\Qx Bs b W wr)
  (λi _=>(intOf i+1).toNat)
 case atStart=>exact⟨0,Nat.zero_le _,zA3,h0,Qx.refl _ _ _⟩
 case round=>
  obtain⟨k,hk,rfl,hJs,hnx⟩:=hrel;have hBr:wr.cell? Bs=M (O (b,off) len cap):=(World.cell?_of_block (w:=W) hnx.1).trans hBs;by_cases hlt:k<len
  ·have hcx:wr.cell? (b,off+(len-1-k))=M (bv (xs[len-1-k]?.getD 0)):=by refine(World.cell?_of_block (w:=W) hnx.2).trans (hc _ _ ?_);rw[List.getElem?_map,zL zO];simp
   obtain⟨fn,tmps,assign,body,hy,hR⟩:=hY _ (len-1-k,xs[len-1-k]?.getD 0) wr hJs (by rw[ZA];exact hlt);dsimp only at hy;obtain⟨i,hi⟩:∃i:Nat,len-1-k=i:=⟨_,rfl⟩
   have hi2:(len:Int)-1-k=(i:Int):=zO;have hil:i<len:=zO;have hik:k+i+1<=len/\len<=k+i+1:=zO;have HU:=zH (VA (λj=>(len-1-j,xs[len-1-j]?.getD 0)) k);obtain⟨u,hu⟩:∃u,xs[i]?.getD 0=u:=⟨_,rfl⟩
   rw[hi]at hcx hy hR;rw[hu]at hcx hy hR;rw[hi2];clear hi2;have HE:=zH hu;clear hu;have HI:=zH hi;clear hi
   gi_wp2
   refine hR.mono ?_;rintro e W3 (⟨rfl,hJ3,hk3⟩|⟨rfl,hKP⟩)
   ·gi_wp2
    go_roundw
    case rel=>exact⟨k+1,zO,by go_num,by rw[HU.out,HI.out,HE.out];exact hJ3,hnx.t hk3⟩
    case measure=>simp[intOf]
   gi_wp2
   refine bodyPost_ret (results_none rfl _ _ _) rfl ?_;exact⟨⟨_,rfl⟩,.inr ⟨_,⟨k+1,zO,by rw[HU.out,HI.out,HE.out]⟩,hKP⟩⟩
  obtain rfl:k=len:=zO
  gi_wp2
  go_end0;exact⟨⟨_,rfl⟩,.inl ⟨_,rfl,hJs⟩⟩
def S8(W:E)(Bs b:Nat)(v:U)(xs:List UInt8):Prop:=
 W.cell? Bs=v/\((xs=[]/\∃A c,v=O A 0 c)\/∃off cap,v=O (M ⟨b,off,Z⟩) xs.length cap/\∀j u,(xs.map bv)[j]?=M u->W.cell? ⟨b,off+j,Z⟩=M u)
theorem S8.keep{Bs b:Nat}(h:S8 W Bs b v xs)(hk:Qx Bs b W W'):S8 W' Bs b v xs:=by
 refine⟨(World.cell?_of_block (w:=W) hk.1).trans h.1,?_⟩;rcases h.2 with h|⟨off,cap,e,hc⟩
 exact .inl h;exact .inr ⟨off,cap,e,λj u hu=>(World.cell?_of_block (w:=W) hk.2).trans (hc j u hu)⟩
set_option maxRecDepth 100000 in
theorem qfG(n l Bs c:Nat)(A:OA)(J:List (Nat×UInt8)->E->Prop)(W:E)(hBs:W.cell? Bs=M (O A 0 c))(h0:J [] W):CallsIn Fence.wide n prog 208 #[.func (.yield l) #[] #[],Oe Bs] W λe W'=>(∃v,e=Oc v)/\J [] W':=by
 refine callsIn_of_wp func208 rfl trivial ?_ rfl;simp only[ntmps208,List.size_toArray,List.length_cons,List.length_nil,Nat.reduceAdd,Nat.reduceSub,Array.replicate_succ,Array.replicate_zero,List.push_toArray,List.append_toArray,List.nil_append,List.cons_append]
 gi_wp2
 gi_loopw [3] (λi wr=>i=I X (-1)/\J [] wr) (λ_ _=>0)
 case atStart=>exact⟨rfl,h0⟩
 case round=>
  obtain⟨rfl,hJs⟩:=hrel
  gi_wp2
  go_end0;exact⟨⟨_,rfl⟩,hJs⟩
def KR(xs:List UInt8)(k:Nat):List (Nat×UInt8):=jf (λj=>(xs.length-1-j,xs[xs.length-1-j]?.getD 0)) k
theorem qgZ(n:Nat)(hn:1<=n)(Bs b:Nat)(v:U)(xs:List UInt8)(hDE:xs.length<1099511627776)(w:E)(hBs:Bs<w)(hb:b<w)(hS:S8 w Bs b v xs):SeqStopsK Fence.wide n prog 208 #[Oe Bs] (λx:Nat×UInt8=>#[(x.1:Int),bv x.2]) (Qx Bs b) (λys=>ys=KR xs xs.length)
   (λpre=>∃k,k<=xs.length/\pre=KR xs k) xs.length w:=λl J Jx W hW _ _ hY h0=>by
 obtain⟨hc,h⟩:=hS.keep (Qx.below hW hBs hb);rcases h with⟨rfl,A,c,rfl⟩|⟨off,cap,rfl,hcs⟩
 exact(qfG n l Bs c A J W hc h0).mono λe W' ⟨he,hj⟩=>⟨he,.inl ⟨_,rfl,hj⟩⟩
 exact back8_in n hn l Bs b off xs.length cap xs hDE rfl J Jx hY W hc hcs h0
theorem qfM(n:Nat)(A:OA)(m c:Nat)(w:E):CallsIn Fence.wide n prog 207 #[O A m c] w λe w'=>e=Oc (.func (.func 208) #[] #[Oe w])/\w'=w.alloc (Ob #[O A m c] 26):=by
 refine callsIn_of_wp func207 rfl trivial ?_ rfl;simp only[ntmps207,List.size_toArray,List.length_cons,List.length_nil,Nat.reduceAdd,Nat.reduceSub,Array.replicate_succ,Array.replicate_zero,List.push_toArray,List.append_toArray,List.nil_append,List.cons_append]
 gi_wp2
 go_ret;exact⟨rfl,rfl⟩
def GL:List (Nat×UInt8)->Int:=List.foldl (λs x=>bits .or Oa (s*256%4294967296) ((x.2.toNat:Int)%4294967296)) 0
theorem qeX(pre:List (Nat×UInt8))(x:Nat×UInt8):GL (pre++[x])=bits .or Oa (GL pre*256%4294967296) ((x.2.toNat:Int)%4294967296):=by simp[GL]
theorem qmu(a b:Nat)(ha:a<16777216)(hb:b<256):bits .or Oa ((a:Int)*256%4294967296) ((b:Int)%4294967296)=((b+256*a:Nat):Int):=by have e1:(a:Int)*256%4294967296=((a*256:Nat):Int):=zO;have e2:(b:Int)%4294967296=(b:Int):=zO;rw[e1,e2,or_u32 _ _ zO zO,or_byte a b hb]
theorem qkc(xs:List UInt8)(h7:xs.length<=4):∀k,k<=xs.length->GL (KR xs k)=(vH (xs.drop (xs.length-k)):Int):=by
 intro k;induction k with
 |zero=>intro _;simp[KR,jf,GL,vH]
 |succ k ih=>
  intro hk;have hi:=ih zO;have hs:KR xs (k+1)=KR xs k++[(xs.length-1-k,xs[xs.length-1-k]?.getD 0)]:=VA _ k;rw[hs,qeX,hi];have hd:xs.drop (xs.length-(k+1))=xs[xs.length-1-k]?.getD 0::xs.drop (xs.length-k):=by have e:xs.length-(k+1)=xs.length-1-k:=zO;rw[e,List.drop_eq_getElem_cons zO,zL zO];simp only[Option.getD_some];congr 2;omega
  rw[hd];have hlt:=qdc (xs.drop (xs.length-k));have hl:(xs.drop (xs.length-k)).length<=3:=zA2;have hp:256^(xs.drop (xs.length-k)).length<=256^3:=Nat.pow_le_pow_right zO hl;exact qmu _ _ (Nat.lt_of_lt_of_le hlt (Nat.le_trans hp zA1)) (UInt8.toNat_lt _)
theorem numU_all(xs:List UInt8)(h:xs.length<=4):GL (KR xs xs.length)=(vH xs:Int):=by have:=qkc xs h xs.length (zM _);simpa using this
set_option maxRecDepth 100000 in
theorem get_in(n:Nat)(h3:3<=n)(b off m c at_ many:Nat)(xs:List UInt8)(hx:xs.length=many)(h0:0<many)(h4:many<=4)(ha:at_+many<=m)(hc:m<=c)(hm:c<=maxLen)(w:E)(hb:b<w)(hS:∀j u,(xs.map bv)[j]?=M u->w.cell? ⟨b,off+at_+j,Z⟩=M u):CallsIn Fence.wide n prog 202 #[O (b,off) m c,(at_:Int),(many:Int)] w λe W'=>e=Oc (Of #[I Oa (GL (KR xs xs.length)),I X 0])/\Below w w W':=by
 have h1:1<=n:=zO;unfold maxLen at hm;refine callsIn_of_wp_marks func202 rfl trivial ?_ rfl;simp only[ntmps202,List.size_toArray,List.length_cons,List.length_nil,Nat.reduceAdd,Nat.reduceSub,Array.replicate_succ,Array.replicate_zero,List.push_toArray,List.append_toArray,List.nil_append,List.cons_append]
 gi_wp2_with (refine⟨trivial,?_⟩;gi_at_call 207;refine(qfM (n-1) _ _ _ _).mono ?_;rintro e w' ⟨rfl,rfl⟩)
 have bS:=Boxed.new w 29 (I Oa 0);have bN:=Boxed.new (w.alloc (Ob #[I Oa 0] 29)) 26 (O (M ⟨b,off+at_,Z⟩) many (c-at_));rw[World.size_alloc]at bN;have hB0:Below w w ((w.alloc (Ob #[I Oa 0] 29)).alloc (Ob #[O (b,off+at_) many (c-at_)] 26)):=((Below.refl _ w).alloc (zM _) _).alloc zA3 _;have hS8:S8 ((w.alloc (Ob #[I Oa 0] 29)).alloc (Ob #[O (b,off+at_) many (c-at_)] 26)) (↑w+1) b (O (b,off+at_) many (c-at_)) xs:=by refine⟨bN.cell,.inr ⟨off+at_,c-at_,by rw[hx],λj u hu=>(hB0.cell (p:=⟨b,off+at_+j,Z⟩) hb).trans (hS j u hu)⟩⟩
 refine wpIn_rangeFunc_ownG rfl h1 (gf:=208) (lb:=#[Oe (M ⟨w.heap.size+1,0,Z⟩)]) rfl trivial (enters_of func208 zQ rfl)
  (qgZ (n-1) zO (w.heap.size+1) b _ xs zO _ zA3 zA2 hS8) Qx.t (Qx.b zA3 zA2) (Below.refl _ _) (λ_=>rfl)
  (λpre W=>(W.cell? ⟨w.heap.size,0,Z⟩=M (I Oa (GL pre))/\W.frozen? ⟨w.heap.size,0,Z⟩=Od)/\Below w.heap.size w W)
  (λ_ _ _=>False)
  (OwnFrom.and (Own.from (λs A B row hs hg hr=>⟨cell_kept hs.1 hg hr,(frozen_kept hs.1 hg hr).trans hs.2⟩) _) (ownFrom_below (zM _) zA2))
  (λ_ _ _ _ _ hs _ _=>hs)
  ⟨⟨(bS.alloc _).cell,(bS.alloc _).frozen⟩,hB0⟩
  (λx=>{tmps:=#[O (M ⟨b,off,Z⟩) m c,I X at_,I X many,undef,undef,undef,Oe (M ⟨w.heap.size,0,Z⟩),I X 0,undef,bv x.2,I X at_,.bool (decide ((at_:Int)<0)),.bool (decide ((at_:Int)<0)),I X at_,
   O (M ⟨b,off,Z⟩) m c,I X m,I X many,I X ((m:Int)-many),.bool (decide ((m:Int)-many<at_)),.bool (decide ((at_:Int)<0)||decide ((m:Int)-many<at_)),O (M ⟨b,off,Z⟩) m c,I X at_,I X at_,I X many,I X ((at_:Int)+many),
   O (M ⟨b,off+at_,Z⟩) many (c-at_),.func (.func 208) #[] #[Oe (M ⟨w.heap.size+1,0,Z⟩)],I X (x.1:Int),bv x.2,undef,undef,undef,undef,undef,undef],defers:=[]}) ?assign ?body ?done ?stop
 case assign=>
  intro l x W K hK
  gi_wp2
  exact hK
 case body=>
  rintro l pre x W ⟨⟨hc,hf⟩,hB⟩ _
  gi_wp2
  exact⟨(KeepsOthers.setCell _ _ _).from _,Qx.set _ _ _ zA3 zA2,⟨by rw[qeX];exact World.cell?_setCell_same' _ _ _ (by rw[hc];rfl),by rw[World.frozen?_setCell];exact hf⟩,hB.setCell (p:=⟨w.heap.size,0,Z⟩) (zM _) _⟩
 case done=>
  rintro D ys W hD rfl ⟨⟨hc,hf⟩,hB⟩ hK
  gi_wp2
  have hDD:D≠w:=by simp at hD;omega
  refine⟨zA3,.inl ⟨_,_,rfl,run_takeDeferred ((zJ W _ _ D hDD).trans hK),?_⟩⟩;have hW2:(W.setCell w (I Oa (GL (KR xs many)))).heap[D]?=M (Obj.deferred (M [])):=(zJ W _ _ D hDD).trans hK;have hr:((W.setCell w (I Oa (GL (KR xs many)))).putObj D (Obj.deferred Z)).cell? w=M (I Oa (GL (KR xs many))):=
   (World.cell?_of_block (w:=W.setCell ⟨w.heap.size,0,Z⟩ (I Oa (GL (KR xs many)))) (World.putObj_heap_other (Ne.symm hDD))).trans (World.cell?_setCell_same' _ _ _ (by rw[hc];rfl))
  have hb3:Below w w ((W.setCell w (I Oa (GL (KR xs many)))).putObj D (Obj.deferred Z)):=
   (hB.setCell (p:=⟨w.heap.size,0,Z⟩) (zM _) _).trans (belowK_b (w:=w) (zM _) _ D _ _ (by simp at hD;omega) hW2 rfl rfl)
  rw[hx];refine⟨Of #[I Oa (GL (KR xs many)),I X 0],?_,rfl,hb3⟩;simp[results,results202,hr,go_sem]
 case stop=>rintro D c pre W _ _ h _;exact h.elim
def ZE(l:List UInt8)(a k:Nat):Int:=if a+k<=l.length then(vH ((l.drop a).take k):Int)else 0
def Gd(l:List UInt8)(a k:Nat):Int:=if a+k<=l.length then 0 else 8
theorem qkX(v:U)(l:List UInt8)(at_ many:Nat)(h0:0<many)(h4:many<=4)(ha:at_<1000)(w:E)(h:Bys w w v l):Calls prog 202 #[v,(at_:Int),(many:Int)] w (Ret (Of #[I Oa (ZE l at_ many),I X (Gd l at_ many)]) w):=by
 obtain⟨A,c,rfl,hc,hm,hr⟩:=h;by_cases hin:at_+many<=l.length;obtain⟨b,off,rfl,hb,hAG⟩:=hr.2 zO;have hlen:((l.drop at_).take many).length=many:=zA2;have e:=numU_all ((l.drop at_).take many) zO;refine(callsIn_wide (n:=3)).1 ?_;refine(get_in 3 zO b off l.length c at_ many ((l.drop at_).take many) hlen h0 h4 hin hc hm w hb ?_).mono λe' w' h=>?_;intro j u hj;rw[List.getElem?_map,List.getElem?_take]at hj;split at hj;rw[List.getElem?_drop]at hj;have:=hAG (at_+j) u (by rw[List.getElem?_map];exact hj)
 rwa [<-Nat.add_assoc]at this
 cases hj;rw[e]at h;simp only[ZE,Gd,if_pos hin];exact h;go_enter func202,ntmps202;unfold maxLen at hm;simp only[ZE,Gd,if_neg hin];go_wp2;refine bodyPost_ret (v:=Of #[I Oa 0,I X 8]) (by simp[results,results202,go_sem]) rfl ⟨rfl,zA5⟩
end Go.Proofs.YtmeadnlmepcmbaaGreat
namespace Go.Proofs.YtmeadnlmepcmbaaGreat
open Go.RowKit
variable {w w':World}{p:Addr}{v:Value}{B m c base n s i:Nat}{l:List UInt8}{ty:TypeId}
def Ext(w w':E):Prop:=Below w w w'
theorem Ext.refl(w:E):Ext w w:=Below.refl _ _
theorem Ext.trans{a b c:E}(h:Ext a b)(k:Ext b c):Ext a c:=Below.trans h (Below.mono k h.size)
theorem zN(w:E)(o:Obj):Ext w (w.alloc o):=(Below.refl _ _).alloc (zM _) o
theorem Ext.drew(w:E):Ext w w.drew:=(Below.refl _ _).drew
theorem Ext.cell(h:Ext w w')(hc:w.cell? p=v):w'.cell? p=v:=(Below.cell h (World.block_lt_of_cell? w p hc)).trans hc
structure Qd where
 α:Type
 f:α->U
 φ:α->E->Prop
def one(v:U):Qd:=⟨Unit,λ_=>v,λ_ _=>True⟩
def zy(φ:E->Prop):Prop:=∀W W',Ext W W'->φ W->φ W'
abbrev qR:=Nat->E->Prop
def qS(o:Oper):List Nat:=(o.after.toList.filter (Region.binds .any)).map (·.on)
def upd(F:qR)(i:Nat)(o:Oper)(φ:E->Prop):qR:=λk=>if k=i then(λW=>φ W/\∀j∈qS o,F j W)else F k
section
variable {P:Program} {ops:Array Oper} {w0:World}
def Tm(P:Program)(W:E)(h:Qd):Result Next->Prop
 |.ok (.value u) w'=>∃p,u=h.f p/\h.φ p w'/\Ext W w'
 |.ok (.enter f args) w'=>Ext W w'/\Calls P f args w' λe w''=>∃p,e=Oc (h.f p)/\h.φ p w''/\Ext w' w''
 |_=>False
def vS(P:Program)(o:Oper)(a:Act)(W:E)(h:Qd):Prop:=Tm P W h ((execOp a.eval o).run P W)
def qcc(P:Program)(o:Oper)(a:Act)(W:E)(v:U):Prop:=∃w',(execOp a.eval o).run P W=.ok (.value v) w'/\Ext W w'
def Yk(P:Program)(ops:Array Oper)(w0:E)(H:Nat->Option Qd)(i:Nat)(o:Oper)(a:Act)(F:qR)(h:Qd):Prop:=
 (Region.wanted o (yielded ops a.tmps)=Od/\h=one undef) \/
 (Region.wanted o (yielded ops a.tmps)=Y/\H i=Z/\∃v,h=one v/\∀W,Ext w0 W->(∀k∈qS o,F k W)->qcc P o a W v) \/
 (Region.wanted o (yielded ops a.tmps)=Y/\H i=h/\∀W,Ext w0 W->(∀k∈qS o,F k W)->vS P o a W h)
def Cons(w0:E)(F:qR):Prop:=∃W,Ext w0 W/\∀k,F k W
def FOp(P:Program)(ops:Array Oper)(w0:E)(H:Nat->Option Qd)(i:Nat)(o:Oper)(K:Act->qR->Prop)(a:Act)(F:qR):Prop:=
 ∃h,Yk P ops w0 H i o a F h/\∀p,Cons w0 (upd F i o (h.φ p))->K (a.put o.dst (h.f p)) (upd F i o (h.φ p))
def Yu(P:Program)(ops:Array Oper)(w0:E)(H:Nat->Option Qd)(Q:Act->qR->Prop):List Oper->Nat->Act->qR->Prop
 |[],_,a,F=>Q a F
 |o::rest,k,a,F=>FOp P ops w0 H k o (λa' F'=>Yu P ops w0 H Q rest (k+1) a' F') a F
def qdK(P:Program)(ops:Array Oper)(w0:E)(H:Nat->Option Qd)(L:Array Bool)(Q:Act->qR->Prop):Nat->Array Bool->Act->qR->Prop
 |0,listed,a,F=>listed=L/\Q a F
 |fuel+1,listed,a,F=>Region.ready .any ops listed≠[]/\∀i∈Region.ready .any ops listed,∀o,ops[i]?=M o->FOp P ops w0 H i o (qdK P ops w0 H L Q fuel (listed.setIfInBounds i Y)) a F
theorem Qd.same{h h':Qd}(e:h=h'):h=h':=e
theorem Yk.unique{H:Nat->Option Qd}{i:Nat}{o:Oper}{a:Act}{F:qR}{h h':Qd}(hc:Cons w0 F)(x:Yk P ops w0 H i o a F h)(y:Yk P ops w0 H i o a F h'):h=h':=by
 obtain⟨W,hW,hF⟩:=hc;rcases x with⟨x1,rfl⟩|⟨x1,x2,v,rfl,x3⟩|⟨x1,x2,x3⟩<;>rcases y with⟨y1,rfl⟩|⟨y1,y2,u,rfl,y3⟩|⟨y1,y2,y3⟩
 rfl;rw[x1]at y1;cases y1;rw[x1]at y1;cases y1;rw[x1]at y1;cases y1;obtain⟨w1,e1,_⟩:=x3 W hW λk _=>hF k;obtain⟨w2,e2,_⟩:=y3 W hW λk _=>hF k;rw[e1]at e2;cases e2;rfl;rw[x2]at y2;cases y2;rw[x1]at y1;cases y1;rw[x2]at y2;cases y2;rw[x2]at y2;cases y2;rfl
theorem Yk.some_{H:Nat->Option Qd}{i:Nat}{o:Oper}{a:Act}{F:qR}{h:Qd}(hc:Cons w0 F)(hst:∀k,zy (F k))(x:Yk P ops w0 H i o a F h):∃p,Cons w0 (upd F i o (h.φ p)):=by
 obtain⟨W,hW,hF⟩:=hc;have triv:∀(φ:E->Prop)W',Ext W W'->φ W'->Cons w0 (upd F i o φ):=λφ W' he hφ=>⟨W',hW.trans he,λk=>by
  unfold upd;split;exact⟨hφ,λj _=>hst j _ _ he (hF j)⟩
  ·exact hst k _ _ he (hF k)⟩
 rcases x with⟨x1,rfl⟩|⟨x1,x2,v,rfl,x3⟩|⟨x1,x2,x3⟩
 exact⟨(),triv _ W (Ext.refl W) trivial⟩;exact⟨(),triv _ W (Ext.refl W) trivial⟩;have h3:=x3 W hW λk _=>hF k;unfold vS at h3;generalize(execOp a.eval o).run P W=r at h3;cases r with
 |ok n w'=>
  cases n<;>simp only[Tm]at h3
  case value u=>obtain⟨p,_,hp,he⟩:=h3;exact⟨p,triv _ w' he hp⟩
  case enter f args=>obtain⟨he,hcl⟩:=h3;obtain⟨e,w'',fr,⟨p,_,hp,he2⟩,_⟩:=hcl [];exact⟨p,triv _ w'' (he.trans he2) hp⟩
 |halt x w'=>simp only[Tm]at h3
theorem Yk.move{H:Nat->Option Qd}{i j:Nat}{oi oj:Oper}{a:Act}{F:qR}{h:Qd}{v:U}{φ:E->Prop}(hap:oi.apart ops oj=Y)(hsj:∀cs b,oj.op≠.select cs b)(hn:i∉qS oj):Yk P ops w0 H j oj (a.put oi.dst v) (upd F i oi φ) h↔Yk P ops w0 H j oj a F h:=by
 obtain⟨h1,_,_⟩:=Oper.apart_spec hap;have hF:∀W,(∀k∈qS oj,upd F i oi φ k W)↔∀k∈qS oj,F k W:=λW=>by constructor<;>intro hh k hk;have:=hh k hk;unfold upd at this;rwa [if_neg (λe=>hn (by rw[<-e];exact hk))]at this;unfold upd;rw[if_neg (λe=>hn (by rw[<-e];exact hk))];exact hh k hk
 unfold Yk qcc vS;rw[wanted_put oj a oi.dst v h1,execOp_put oj hsj a oi.dst v h1];simp only[hF]
theorem Yk.move'{H:Nat->Option Qd}{i j:Nat}{oi oj:Oper}{a:Act}{F:qR}{h:Qd}{v:U}{φ:E->Prop}(hap:oi.apart ops oj=Y)(hsi:∀cs b,oi.op≠.select cs b)(hn:j∉qS oi):Yk P ops w0 H i oi (a.put oj.dst v) (upd F j oj φ) h↔Yk P ops w0 H i oi a F h:=by
 obtain⟨_,_,h3⟩:=Oper.apart_spec hap;have hF:∀W,(∀k∈qS oi,upd F j oj φ k W)↔∀k∈qS oi,F k W:=λW=>by constructor<;>intro hh k hk;have:=hh k hk;unfold upd at this;rwa [if_neg (λe=>hn (by rw[<-e];exact hk))]at this;unfold upd;rw[if_neg (λe=>hn (by rw[<-e];exact hk))];exact hh k hk
 unfold Yk qcc vS;rw[wanted_put oi a oj.dst v h3,execOp_put oi hsi a oj.dst v h3];simp only[hF]
theorem kh(F:qR){i j:Nat}{oi oj:Oper}(φ ψ:E->Prop)(hne:i≠j)(h1:i∉qS oj)(h2:j∉qS oi):upd (upd F i oi φ) j oj ψ=upd (upd F j oj ψ) i oi φ:=by funext k;unfold upd;by_cases hj:k=j;subst hj;rw[if_pos rfl,if_neg (Ne.symm hne),if_pos rfl];funext W;congr 1;apply propext;constructor<;>intro hh l hl;have:=hh l hl;rwa [if_neg (λe=>h1 (by rw[<-e];exact hl))]at this;rw[if_neg (λe=>h1 (by rw[<-e];exact hl))];exact hh l hl;rw[if_neg hj];by_cases hi:k=i;subst hi;rw[if_pos rfl,if_pos rfl];funext W;congr 1;apply propext;constructor<;>intro hh l hl;rw[if_neg (λe=>h2 (by rw[<-e];exact hl))];exact hh l hl;have:=hh l hl;rwa [if_neg (λe=>h2 (by rw[<-e];exact hl))]at this;rw[if_neg hi,if_neg hi,if_neg hj]
theorem Gk{F:qR}(hst:∀k,zy (F k))(i:Nat)(o:Oper){φ:E->Prop}(hφ:zy φ):∀k,zy (upd F i o φ k):=by
 intro k;unfold upd;split;exact λW W' he ⟨h1,h2⟩=>⟨hφ W W' he h1,λj hj=>hst j W W' he (h2 j hj)⟩
 exact hst k
theorem Yk.stable{H:Nat->Option Qd}(hH:∀i h,H i=M h->∀p,zy (h.φ p)){i:Nat}{o:Oper}{a:Act}{F:qR}{h:Qd}(x:Yk P ops w0 H i o a F h):∀p,zy (h.φ p):=by
 rcases x with⟨_,rfl⟩|⟨_,_,v,rfl,_⟩|⟨_,x2,_⟩
 exact λ_ _ _ _ _=>trivial;exact λ_ _ _ _ _=>trivial;exact hH i h x2
theorem qgH{H:Nat->Option Qd}(hH:∀i h,H i=M h->∀p,zy (h.φ p)){m:Nat}{L:Array Bool}(hL:∀j,L.getD j Y=Od->m<=j){Q:Act->qR->Prop}{i:Nat}{oi:Oper}(hi:ops[i]?=oi)(him:i<m)(hIU:∀(j:Nat)(o:Oper)cs b,ops[j]?=o->o.op≠.select cs b)(hCT:∀(j:Nat)(o:Oper),ops[j]?=o->m<=j->∀k,k<m->k∈qS o):∀(fuel:Nat)(listed:Array Bool)(a:Act)(F:qR), (∀j oj,ops[j]?=M oj->j≠i->listed.getD j Y=Od->(∀e∈oj.after,Region.binds .any e=Y->e.on≠i)->oi.apart ops oj=Y) ->
   i∈Region.ready .any ops listed->(∀k,zy (F k))->Cons w0 F->(∀k,listed.getD k Y=Od->∀W,F k W) ->
   FOp P ops w0 H i oi (qdK P ops w0 H L Q fuel (listed.setIfInBounds i Y)) a F->qdK P ops w0 H L Q (fuel+1) listed a F:=by
 intro fuel;induction fuel with
 |zero=>
  intro listed a F _ hr hst hc _ hop;refine⟨λh=>(by rw[h]at hr;cases hr),λj hj oj hoj=>?_⟩;by_cases hji:j=i;subst hji;rw[hi]at hoj;cases hoj;exact hop;exfalso;obtain⟨h,hok,hK⟩:=hop;obtain⟨p,hcp⟩:=hok.some_ hc hst;have hmj:m<=j:=hL j (by rw[<-(hK p hcp).1];exact(mem_ready.1 (ready_mono hj hji)).1);obtain⟨_,o',ho',hCC⟩:=mem_ready.1 hj;rw[hoj]at ho';cases ho';have hin:=hCT j oj hoj hmj i him;obtain⟨e,he,hei⟩:=List.mem_map.1 hin;rw[List.mem_filter]at he;have h1:=hCC e (by simpa using he.1) he.2;have h0:=(mem_ready.1 hr).1;rw[hei]at h1;rcases Nat.lt_or_ge i listed.size with h'|h'
  simp[h']at h0 h1;rw[h0]at h1;cases h1;simp[Array.getElem?_eq_none h']at h1
 |succ fuel ih=>
  intro listed a F hEX hr hst hc hun hop;refine⟨λh=>(by rw[h]at hr;cases hr),λj hj oj hoj=>?_⟩;by_cases hji:j=i;subst hji;rw[hi]at hoj;cases hoj;exact hop;obtain⟨hCU,oj',hJH,hCC⟩:=mem_ready.1 hj;rw[hoj]at hJH;cases hJH;obtain⟨hJO,oi',hKE,hIJ⟩:=mem_ready.1 hr;rw[hi]at hKE;cases hKE;have bad:∀k,listed.getD k Y=Od->listed.getD k Od=Y->False:=λk h0 h1=>by
   rcases Nat.lt_or_ge k listed.size with h'|h'
   simp[h']at h0 h1;rw[h0]at h1;cases h1;simp[Array.getElem?_eq_none h']at h1
  have hKC:∀e∈oj.after,Region.binds .any e=Y->e.on≠i:=λe he hb heq=>bad i hJO (heq▸hCC e he hb);have hKD:∀e∈oi.after,Region.binds .any e=Y->e.on≠j:=λe he hb heq=>bad j hCU (heq▸hIJ e he hb);have hpi:i∉qS oj:=λhin=>by obtain⟨e,he,hei⟩:=List.mem_map.1 hin;rw[List.mem_filter]at he;exact hKC e (by simpa using he.1) he.2 hei
  have hpj:j∉qS oi:=λhin=>by obtain⟨e,he,hei⟩:=List.mem_map.1 hin;rw[List.mem_filter]at he;exact hKD e (by simpa using he.1) he.2 hei
  have hap:=hEX j oj hoj hji hCU hKC;have hsi:∀cs b,oi.op≠.select cs b:=λcs b=>hIU i oi cs b hi;have hsj:∀cs b,oj.op≠.select cs b:=λcs b=>hIU j oj cs b hoj;obtain⟨h2,_⟩:=(Oper.apart_spec hap).2;obtain⟨hI,okI,hKI⟩:=hop;obtain⟨p0,hOD⟩:=okI.some_ hc hst;obtain⟨hJ,okJ0,_⟩:=(hKI p0 hOD).2 j (ready_mono hj hji) oj hoj;have okJ:Yk P ops w0 H j oj a F hJ:=(Yk.move hap hsj hpi).1 okJ0;refine⟨hJ,okJ,λq hcq=>?_⟩;have stJ:=okJ.stable hH q;have hGZ:∀k ok,ops[k]?=M ok->k≠i->(listed.setIfInBounds j Y).getD k Y=Od ->
    (∀e∈ok.after,Region.binds .any e=Y->e.on≠i)->oi.apart ops ok=Y:=λk ok hk hki hKM hno=>by
   refine hEX k ok hk hki ?_ hno;by_cases hjk:j=k;subst hjk;exact hCU;rw[getD_set_ne Y hjk]at hKM;exact hKM
  refine ih (listed.setIfInBounds j Y) _ _ hGZ (ready_mono hr (Ne.symm hji)) (Gk hst j oj stJ) hcq ?_ ?_;intro k hk W;by_cases hjk:j=k;subst hjk;exfalso;have hlt:j<listed.size:=by
   rcases Nat.lt_or_ge j listed.size with h'|h'
   exact h';simp[Array.getElem?_eq_none h']at hCU
  simp[hlt]at hk;rw[getD_set_ne Y hjk]at hk;have:=hun k hk W;unfold upd;rw[if_neg (λe=>hjk e.symm)];exact this;refine⟨hI,(Yk.move' hap hsi hpj).2 okI,λp hcp=>?_⟩;have hPT:Cons w0 (upd F i oi (hI.φ p)):=by
   obtain⟨W,hW,hF⟩:=hcp;refine⟨W,hW,λk=>?_⟩;have hk:=hF k;by_cases hki:k=i;subst hki;unfold upd at hk⊢;rw[if_pos rfl]at hk⊢;refine⟨hk.1,λl hl=>?_⟩;have:=hk.2 l hl
   rwa [if_neg (λe=>hpj (by rw[<-e];exact hl))]at this
   by_cases hkj:k=j;subst hkj;unfold upd;rw[if_neg hki];exact hun k hCU W;unfold upd at hk⊢;rw[if_neg hki,if_neg hkj]at hk;rw[if_neg hki];exact hk
  obtain⟨hJ',okJ',hPN⟩:=(hKI p hPT).2 j (ready_mono hj hji) oj hoj;have okJ'':Yk P ops w0 H j oj a F hJ':=(Yk.move hap hsj hpi).1 okJ';have e:=okJ''.unique hc okJ;subst e;have hq:=hPN q (by rw[kh F _ _ (Ne.symm hji) hpi hpj];exact hcp);rw[Array.setIfInBounds_comm _ _ (λe=>hji e.symm),Act.put_comm a (hI.f p) (hJ'.f q) h2,kh F _ _ (Ne.symm hji) hpi hpj]at hq;exact hq
def GG(ops:Array Oper)(L:Array Bool):Nat->Nat->Array Bool->Bool
 |0,_,listed=>listed==L
 |fuel+1,k,listed=>(Region.ready .any ops listed).contains k&&Region.free .any ops listed k&&GG ops L fuel (k+1) (listed.setIfInBounds k Y)
def tailB(ops:Array Oper)(m:Nat):Bool:=(List.range ops.size).all λj=>decide (j<m)||(List.range m).all λk=>(match ops[j]? with|some o=>(qS o).contains k|none=>Y)
def QX(n m:Nat):Array Bool:=((List.range n).map λj=>decide (j<m)).toArray
theorem qea{n m:Nat}:∀j,(QX n m).getD j Y=Od->m<=j:=by
 intro j h;unfold QX at h;rcases Nat.lt_or_ge j n with h'|h'
 simp[h']at h;exact h;simp[h']at h
theorem qks{m:Nat}(h:tailB ops m=Y):∀(j:Nat)(o:Oper),ops[j]?=o->m<=j->∀k,k<m->k∈qS o:=by
 intro j o ho hm k hk;have h1:=List.all_eq_true.1 h j (List.mem_range.2 (zG.1 ho).1);rw[Bool.or_eq_true]at h1;rcases h1 with h1|h1
 simp at h1;omega;have h2:=List.all_eq_true.1 h1 k (List.mem_range.2 hk);rw[ho]at h2;simpa using h2
theorem qdL{H:Nat->Option Qd}(hH:∀i h,H i=M h->∀p,zy (h.φ p)){m:Nat}{L:Array Bool}(hL:∀j,L.getD j Y=Od->m<=j){Q:Act->qR->Prop}(hs:Region.noSelect ops=Y)(hCT:∀(j:Nat)(o:Oper),ops[j]?=o->m<=j->∀k,k<m->k∈qS o):∀(l:List Oper)(k:Nat)(listed:Array Bool)(a:Act)(F:qR),k+l.length=m->(∀j,j<l.length->l[j]?=ops[k+j]?) ->
  GG ops L l.length k listed=Y->(∀k,zy (F k))->Cons w0 F->(∀j,k<=j->∀W,F j W)->(∀j,listed.getD j Y=Od->k<=j)->Yu P ops w0 H Q l k a F->qdK P ops w0 H L Q l.length listed a F
 |[],k,listed,a,F,hm,_,hB,_,_,_,_,h=>⟨by simpa [GG]using hB,h⟩
 |o::l,k,listed,a,F,hm,hl,hB,hst,hc,hun,hlk,h=>by
  have h0:ops[k]?=o:=by simpa using(hl 0 zA3).symm
  simp only[List.length_cons,GG,Bool.and_eq_true]at hB;obtain⟨⟨hr,hf⟩,hB'⟩:=hB;have hrk:k∈Region.ready .any ops listed:=by simpa using hr
  have hOI:=(mem_ready.1 hrk).1;refine qgH hH hL h0 (by simp at hm;omega) (Region.noSelect_spec hs) hCT l.length listed a F (Region.free_spec h0 hf) hrk hst hc (λj hj W=>hun j (hlk j hj) W) ?_;obtain⟨hh,hok,hK⟩:=h;refine⟨hh,hok,λp hcp=>?_⟩;refine qdL hH hL hs hCT l (k+1) _ _ _ (by simp at hm;omega) (λj hj=>by have:=hl (j+1) (by simpa using hj);simpa [Nat.add_assoc,Nat.add_comm 1 j]using this) hB' (Gk hst k o (hok.stable hH p)) hcp
   (λj hj W=>by unfold upd;rw[if_neg zO];exact hun j zO W) (λj hj=>?_) (hK p hcp)
  by_cases hjk:k=j;subst hjk;have hlt:k<listed.size:=by
   rcases Nat.lt_or_ge k listed.size with h'|h'
   exact h';simp[Array.getElem?_eq_none h']at hOI
  simp[hlt]at hj;rw[getD_set_ne Y hjk]at hj;have:=hlk j hj;omega
theorem qgJ{H:Nat->Option Qd}{i:Nat}{o:Oper}{a:Act}{F:qR}{K:Act->qR->Prop}{K':Act->E->Prop}{Q':Exit->Act->E->Prop}{W:E}(hi:ops[i]?=o)(hH:∀i h,H i=M h->∀p,zy (h.φ p))(hst:∀k,zy (F k))(hW:Ext w0 W)(hF:∀k,F k W)(hK:∀a' F' W',K a' F'->(∀k,zy (F' k))->Ext w0 W'->(∀k,F' k W')->K' a' W')(h:FOp P ops w0 H i o K a F):wpOp P ops Q' i K' a W:=by
 obtain⟨hh,hok,hn⟩:=h;have go:∀p W',Ext W W'->hh.φ p W'->K' (a.put o.dst (hh.f p)) W':=λp W' he hφ=>by
  have hF':∀k,upd F i o (hh.φ p) k W':=λk=>by unfold upd;split;exact⟨hφ,λj _=>hst j _ _ he (hF j)⟩;exact hst k _ _ he (hF k)
  exact hK _ _ W' (hn p ⟨W',hW.trans he,hF'⟩) (Gk hst i o (hok.stable hH p)) (hW.trans he) hF'
 unfold wpOp;simp only[hi];rcases hok with⟨x1,rfl⟩|⟨x1,x2,v,rfl,x3⟩|⟨x1,x2,x3⟩
 simp only[x1,Bool.false_eq_true,if_false];exact go () W (Ext.refl W) trivial;simp only[x1,if_true];obtain⟨w',hr,he⟩:=x3 W hW λk _=>hF k;refine .inl ?_;unfold Oper.wp;rw[hr];exact go () w' he trivial;simp only[x1,if_true];have h3:=x3 W hW λk _=>hF k;refine .inl ?_;unfold vS at h3;unfold Oper.wp;generalize(execOp a.eval o).run P W=r at*;cases r with
 |ok n w'=>
  cases n<;>simp only[Tm]at h3<;>simp only[Oper.upon]
  case value u=>obtain⟨p,rfl,hp,he⟩:=h3;exact go p w' he hp
  case enter f args=>obtain⟨he,hcl⟩:=h3;refine hcl.mono λe w'' ⟨p,he1,hp,he2⟩=>?_;subst he1;exact go p w'' (he.trans he2) hp
 |halt x w'=>simp only[Tm]at h3
theorem UF{H:Nat->Option Qd}(hH:∀i h,H i=M h->∀p,zy (h.φ p)){L:Array Bool}{t:Nat}{Q:Act->qR->Prop}{Q':Exit->Act->E->Prop}(hQ:∀a F W,Q a F->Ext w0 W->(∀k,F k W)->wpAny P .any ops Q' t L a W):∀(fuel:Nat)(listed:Array Bool)(a:Act)(F:qR)(W:E),(∀k,zy (F k))->Ext w0 W->(∀k,F k W)->qdK P ops w0 H L Q fuel listed a F->wpAny P .any ops Q' (fuel+t) listed a W
 |0,listed,a,F,W,_,hW,hF,h=>by rw[h.1,Nat.zero_add];exact hQ a F W h.2 hW hF
 |fuel+1,listed,a,F,W,hst,hW,hF,h=>by rw[show fuel+1+t=fuel+t+1 by omega];refine⟨λh0=>absurd h0 h.1,λi hi=>?_⟩;obtain⟨_,o,ho,_⟩:=mem_ready.1 hi;exact qgJ ho hH hst hW hF (λa' F' W' hk hJP hW' hF'=>UF hH hQ fuel _ a' F' W' hJP hW' hF' hk) (h.2 i hi o ho)
def qad(ops:Array Oper):Nat->Nat->Array Bool->Bool
 |0,_,listed=>(Region.ready .any ops listed).isEmpty
 |fuel+1,k,listed=>(Region.ready .any ops listed==[k])&&qad ops fuel (k+1) (listed.setIfInBounds k Y)
theorem Kj{Q':Exit->Act->E->Prop}:∀(l:List Oper)(k:Nat)(listed:Array Bool)(a:Act)(W:E),(∀j,j<l.length->l[j]?=ops[k+j]?)->qad ops l.length k listed=Y->wpList P ops Q' l a W->wpAny P .any ops Q' l.length listed a W
 |[],_,_,_,_,_,hB,h=>⟨by simpa [qad]using hB,h⟩
 |o::l,k,listed,a,W,hl,hB,h=>by
  simp only[List.length_cons,qad,Bool.and_eq_true]at hB;obtain⟨hr,hB'⟩:=hB;have hr':Region.ready .any ops listed=[k]:=by simpa using hr
  have h0:ops[k]?=o:=by simpa using(hl 0 zA3).symm
  refine⟨λe=>(by rw[hr']at e;cases e),λi hi=>?_⟩;rw[hr']at hi;obtain rfl:i=k:=by simpa using hi
  have hl':∀j,j<l.length->l[j]?=ops[i+1+j]?:=λj hj=>by have:=hl (j+1) (by simpa using hj);simpa [Nat.add_assoc,Nat.add_comm 1 j]using this
  refine wpOp_mono (λa w hw=>Kj l (i+1) _ a w hl' hB' hw) ?_;unfold wpOp;simp only[h0];exact h
theorem ZC{id:Nat}{l:List Oper}{Q:Exit->Act->E->Prop}{a:Act}{w:E}(H:Nat->Option Qd)(m:Nat)(hm:P.follows .mixedOrders=Y)(hs:Region.noSelect l.toArray=Y)(ht:tailB l.toArray m=Y)(hml:m<=l.length)(hB:GG l.toArray (QX l.length m) m 0 (Array.replicate l.length Od)=Y)(hKZ:qad l.toArray (l.drop m).length m (QX l.length m)=Y)(hH:∀i h,H i=M h->∀p,zy (h.φ p))(h:∀K:Act->qR->Prop,(∀a' F',(∀W,Ext w W->(∀k,F' k W)->wpList P l.toArray Q (l.drop m) a' W)->K a' F')->Yu P l.toArray w H K (l.take m) 0 a (λ_ _=>True)):(Code.region id l.toArray Y).wp P Q a w:=by
 have h:=h _ (λa' F' hh=>hh);refine wp_region_any hm ?_;have hlen:(l.take m).length=m:=by rw[List.length_take];omega
 have key:=qdL (w0:=w) hH (qea (n:=l.length)) hs (qks ht) (l.take m) 0 (Array.replicate l.length Od) a (λ_ _=>True) zO
  (λj hj=>by rw[hlen]at hj;rw[List.getElem?_take,if_pos hj];simp) (by rw[hlen];exact hB) (λ_ _ _ _ _=>trivial) ⟨w,Ext.refl w,λ_=>trivial⟩ (λ_ _ _=>trivial) (λ_ _=>Nat.zero_le _) h
 have:=UF (w0:=w) hH (t:=l.length-m) (Q':=Q) (λa F W hq hW hF=>by have:=Kj (l.drop m) m _ a W (λj _=>by rw[List.getElem?_drop];simp) hKZ (hq W hW hF);rwa [List.length_drop]at this) _ _ _ _ w.drew (λ_ _ _ _ _=>trivial) (Ext.drew w) (λ_=>trivial) key;rw[hlen]at this;have e:m+(l.length-m)=l.length:=zO;rw[e]at this;simpa using this
def qV:List (Nat×Qd)->Nat->Option Qd
 |[],_=>Z
 |(i,h)::r,k=>if k=i then M h else qV r k
theorem ZR{l:List (Nat×Qd)}(h:∀x∈l,∀p,zy (x.2.φ p)):∀i hh,qV l i=M hh->∀p,zy (hh.φ p):=by
 induction l with
 |nil=>intro i hh e;cases e
 |cons x r ih=>
  intro i hh e;obtain⟨j,o⟩:=x;simp only[qV]at e;split at e;cases e;exact h (j,_) (List.mem_cons_self);exact ih (λy hy=>h y (List.mem_cons_of_mem _ hy)) i hh e
def XQ(lo n:Nat)(l:List UInt8):Qd:=⟨OA×Nat,λp=>O p.1 n p.2,λp W=>Bys W W (O p.1 n p.2) l/\ZV lo (O p.1 n p.2)⟩
theorem qf(lo n:Nat)(l:List UInt8)(A c):(XQ lo n l).f (A,c)=O A n c:=rfl
theorem qo(v:U)(u:Unit):(one v).f u=v:=rfl
theorem JF(lo n:Nat)(l:List UInt8):∀p,zy ((XQ lo n l).φ p):=λp W W' he h=>⟨(Bys.below h.1 he).more he.size,h.2⟩
theorem Tv{base lo n:Nat}{ty:TypeId}{l:List UInt8}{w:E}{e:Ending}{w':E}(h:zv (λv w'=>w'.ownsRow base ty 1 v n (l.map bv)) w e w')(hlo:lo<=base):∃p,e=Oc ((XQ lo n l).f p)/\(XQ lo n l).φ p w'/\Ext w w':=by
 obtain⟨v,rfl,hAD,hB⟩:=h;have hn:l.length=n:=by have:=hAD.1;simpa using this
 subst hn;have hf:=(ZV.of_own hAD).mono hlo;obtain⟨A,c,e,hc,hm,hr⟩:=Bys.of_own hAD;subst e;exact⟨(A,c),rfl,⟨⟨A,c,rfl,hc,hm,hr⟩,hf⟩,hB⟩
def jx(lo:Nat)(ty:TypeId)(cs:Array U):Qd:=⟨Nat,λb=>Oe b,λb W=>W.heap[b]?=M (Ob cs ty)/\lo<=b⟩
theorem qc(lo:Nat)(ty:TypeId)(cs:Array U)(b:Nat):(jx lo ty cs).f b=Oe b:=rfl
theorem Zt(lo:Nat)(ty:TypeId)(cs:Array U):∀p,zy ((jx lo ty cs).φ p):=λp W W' he h=>
 ⟨(Below.block he p (zG.1 h.1).1).trans h.1,h.2⟩
def outI(k i o r:Int)(n:Nat)(l:List UInt8):Qd:=⟨OA×Nat,λp=>.agg #[I .u8 k,I Oa i,I Oa o,r,O p.1 n p.2],λp W=>Bys W W (O p.1 n p.2) l⟩
theorem qh(k i o r:Int)(n:Nat)(l:List UInt8)(A c):(outI k i o r n l).f (A,c)=.agg #[I .u8 k,I Oa i,I Oa o,r,O A n c]:=rfl
theorem qio(k i o r:Int)(n:Nat)(l:List UInt8):∀p,zy ((outI k i o r n l).φ p):=λp W W' he h=>(Bys.below h he).more he.size
theorem jv(v:U):∀p,zy ((one v).φ p):=λ_ _ _ _ _=>trivial
theorem Ext.cells{w:E}:∀W,Ext w W->∀b o,b<w.heap.size->W.cell? ⟨b,o,Z⟩=w.cell? ⟨b,o,Z⟩:=λ_ h b o hb=>Below.cell h (p:=⟨b,o,Z⟩) hb
theorem Za{o:Oper}{a:Act}{W:E}{hh:Qd}{f:FuncId}{args:Array U}(hr:(execOp a.eval o).run P W=.ok (.enter f args) W)(hc:Calls P f args W λe w''=>∃p,e=Oc (hh.f p)/\hh.φ p w''/\Ext W w''):vS P o a W hh:=by unfold vS;rw[hr];exact⟨Ext.refl W,hc⟩
theorem qfT{o:Oper}{a:Act}{W w':E}{hh:Qd}{u:U}(hr:(execOp a.eval o).run P W=.ok (.value u) w')(hp:∃p,u=hh.f p/\hh.φ p w'/\Ext W w'):vS P o a W hh:=by unfold vS;rw[hr];exact hp
/-! ### the steps of the walk -/
section
variable {H:Nat->Option Qd} {Q:Act->qR->Prop} {k:Nat} {o:Oper} {rest:List Oper} {a:Act} {F:qR}
theorem jk(h:Q a F):Yu P ops w0 H Q [] k a F:=h
theorem Qg(v:U)(hw:Region.wanted o (yielded ops a.tmps)=Y)(hH:H k=Z)(hv:∀W,Ext w0 W->(∀j∈qS o,F j W)->qcc P o a W v)(h:Yu P ops w0 H Q rest (k+1) (a.put o.dst v) (upd F k o λ_=>True)):Yu P ops w0 H Q (o::rest) k a F:=
 ⟨one v,.inr (.inl ⟨hw,hH,v,rfl,hv⟩),λ_ _=>h⟩
theorem Qn(hw:Region.wanted o (yielded ops a.tmps)=Od)(h:Yu P ops w0 H Q rest (k+1) (a.put o.dst undef) (upd F k o λ_=>True)):Yu P ops w0 H Q (o::rest) k a F:=
 ⟨one undef,.inl ⟨hw,rfl⟩,λ_ _=>h⟩
theorem QT(hh:Qd)(hw:Region.wanted o (yielded ops a.tmps)=Y)(hH:H k=hh)(hv:∀W,Ext w0 W->(∀j∈qS o,F j W)->vS P o a W hh)(h:∀p,Yu P ops w0 H Q rest (k+1) (a.put o.dst (hh.f p)) (upd F k o (hh.φ p))):Yu P ops w0 H Q (o::rest) k a F:=
 ⟨hh,.inr (.inr ⟨hw,hH,hv⟩),λp _=>h p⟩
end
end
def Gs(a b:Int):Int:=if a<b then -1 else if b<a then 1 else 0
def orI(x y z:Int):Int:=if x≠0 then x else if y≠0 then y else z
def YE(k i o k' i' o':Int):Bool:=decide (k<k'\/(k=k'/\(i<i'\/(i=i'/\o<o'))))
theorem qkP{a b:Int}(h:a<b):Gs a b=-1:=if_pos h
theorem qkO{a b:Int}(h:b<a):Gs a b=1:=by unfold Gs;rw[if_neg zO,if_pos h]
theorem qkN{a b:Int}(h:b<=a)(h':a<=b):Gs a b=0:=by unfold Gs;rw[if_neg zO,if_neg zO]
theorem or_less(k i o k' i' o':Int):decide (orI (Gs k k') (Gs i i') (Gs o o')<0)=YE k i o k' i' o':=by
 rw[Bool.eq_iff_iff];simp only[YE,decide_eq_true_eq];unfold orI Gs
 repeat' split
 all_goals omega
abbrev Xk(k i o:Int):U:=.agg #[I .u8 k,I Oa i,I Oa o]
theorem qic(x:Int)(w:E):Calls prog 152 #[I .u8 x] w (Ret (.bool Od) w):=by go_enter func152,ntmps152;go_wp2;go_ret;exact⟨VU zA3,zA5⟩
theorem qfP(x y:Int)(w:E):Calls prog 98 #[I .u8 x,I .u8 y] w (Ret (I X (Gs x y)) w):=by
 go_enter func98,ntmps98;go_wp2_with fail;refine(qic x _).mono ?_;rintro e w1 ⟨rfl,hB⟩;go_wp2_with fail;refine(qic y _).mono ?_;rintro e w2 ⟨rfl,hB2⟩;have hb:=Below.trans hB (Below.mono hB2 hB.size);clear hB hB2;go_wp2;all_goals go_ret
 all_goals refine⟨Ua ?_,zA5⟩
 all_goals first|exact(qkP (by assumption)).symm|exact(qkO (by assumption)).symm|exact(qkN (by assumption) (by assumption)).symm
theorem qeV(x:Int)(w:E):Calls prog 153 #[I Oa x] w (Ret (.bool Od) w):=by go_enter func153,ntmps153;go_wp2;go_ret;exact⟨VU zA3,zA5⟩
theorem Uu(x y:Int)(w:E):Calls prog 99 #[I Oa x,I Oa y] w (Ret (I X (Gs x y)) w):=by
 go_enter func99,ntmps99;go_wp2_with fail;refine(qeV x _).mono ?_;rintro e w1 ⟨rfl,hB⟩;go_wp2_with fail;refine(qeV y _).mono ?_;rintro e w2 ⟨rfl,hB2⟩;have hb:=Below.trans hB (Below.mono hB2 hB.size);clear hB hB2;go_wp2;all_goals go_ret
 all_goals refine⟨Ua ?_,zA5⟩
 all_goals first|exact(qkP (by assumption)).symm|exact(qkO (by assumption)).symm|exact(qkN (by assumption) (by assumption)).symm
theorem or3_any(b:Nat)(t:TypeId)(x y z:Int)(w:E)(h:w.heap[b]?=M (Ob #[x,y,z] t)):Calls prog 97 #[O b 3 3] w (Ret (I X (orI x y z)) w):=by
 have kc:=qa h;clear h;go_enter func97,ntmps97;go_wp2_with fail;refine wp_loop_rounds 4 ?_;rw[rounds_succ];go_wp2;all_goals try (rw[rounds_succ];go_wp2)
 all_goals try (rw[rounds_succ];go_wp2)
 all_goals try (rw[rounds_succ];go_wp2)
 all_goals go_ret
 all_goals refine⟨Ua ?_,zA5⟩
 all_goals simp only[bne_iff_ne,ne_eq,bne_eq_false_iff_eq]at*
 all_goals simp[orI, *]
def qgl(ty:TypeId)(cs:Array U):Qd:=⟨Unit×Nat,λp=>O p.2 cs.size cs.size,λp W=>W.heap[p.2]?=M (Ob cs ty)⟩
theorem JG(ty:TypeId)(cs:Array U)(b:Nat):(qgl ty cs).f ((),b)=O b cs.size cs.size:=rfl
theorem qee(ty:TypeId)(cs:Array U):∀p,zy ((qgl ty cs).φ p):=λp W W' he h=>
 (Below.block he p.2 (zG.1 h).1).trans h
set_option maxRecDepth 100000 in
theorem Tq(k i o k' i' o':Int)(w:E):Calls prog 45 #[Xk k i o,Xk k' i' o'] w (Ret (.bool (YE k i o k' i' o')) w):=by
 rw[<-or_less];have H1:∀W,_:=λW=>qfP k k' W;have H2:∀W,_:=λW=>Uu i i' W;have H3:∀W,_:=λW=>Uu o o' W;generalize Gs k k'=c1' at*;generalize Gs i i'=c2' at*;generalize Gs o o'=c3' at*;have H4:∀b t W,_:=λb t W=>or3_any b t c1' c2' c3' W;generalize orI c1' c2' c3'=c4' at*;go_enter func45,ntmps45;go_wp2;generalize hw1:(World.alloc (World.alloc _ _) _)=w1;have b1:Ext w w1:=by rw[<-hw1];exact(zN _ _).trans (zN _ _)
 have hE:=Ext.cells (w:=w1);have hz:w1.heap.size=w.heap.size+2:=by rw[<-hw1];simp
 rw[hz]at hE;have c0:w1.cell? (w,0,0)=M (I .u8 k):=by rw[<-hw1];simp[go_sem]
 have c1:w1.cell? (w,0,1)=M (I Oa i):=by rw[<-hw1];simp[go_sem]
 have c2:w1.cell? (w,0,2)=M (I Oa o):=by rw[<-hw1];simp[go_sem]
 have c3:w1.cell? (w,1,0)=M (I .u8 k'):=by rw[<-hw1];simp[go_sem]
 have c4:w1.cell? (w,1,1)=M (I Oa i'):=by rw[<-hw1];simp[go_sem]
 have c5:w1.cell? (w,1,2)=M (I Oa o'):=by rw[<-hw1];simp[go_sem]
 simp only[Nat.add_zero]at c0 c1 c2;clear hw1;refine ZC (qV [(4,one (I X c1')),(9,one (I X c2')),(14,one (I X c3')),(15,qgl 3 #[I X c1',I X c2',I X c3']),(16,one (I X c4'))]) 18 zQ zQ zQ zA1 zQ zQ ?st ?walk
 case st=>exact ZR (by simp only[List.forall_mem_cons];exact⟨jv _,jv _,jv _,qee _ _,jv _,λ_ h=>by cases h⟩)
 case walk=>
  intro K hK;dsimp only[List.take];refine zB0 ?_;refine QT (one (I X c1')) zA0 zA0 (λW hW _=>?_) (λp=>?_)
  ·refine Za ?_ ((H1 W).mono λe w' h=>⟨(),h.1,trivial,h.2⟩);go_simp
  cases p;refine zB0 ?_;refine QT (one (I X c2')) zA0 zA0 (λW hW _=>?_) (λp=>?_)
  ·refine Za ?_ ((H2 W).mono λe w' h=>⟨(),h.1,trivial,h.2⟩);go_simp
  cases p;refine zB0 ?_;refine QT (one (I X c3')) zA0 zA0 (λW hW _=>?_) (λp=>?_)
  ·refine Za ?_ ((H3 W).mono λe w' h=>⟨(),h.1,trivial,h.2⟩);go_simp
  cases p;refine zB0 ?_;refine QT (qgl 3 #[I X c1',I X c2',I X c3']) zA0 zA0 (λW hW _=>?_) (λp=>?_)
  ·refine qfT (u:=O (M ⟨W.heap.size,0,Z⟩) 3 3) (w':=W.alloc (Ob #[I X c1',I X c2',I X c3'] 3)) ?_ ⟨((),W.heap.size),rfl,zI _ _ _ rfl,zN _ _⟩;go_simp
  obtain⟨⟨⟩,p⟩:=p;refine zB0 ?_;refine QT (one (I X c4')) zA0 zA0 (λW hW hp=>?_) (λq=>?_)
  ·have h0:W.heap[p]?=M (Obj.cells #[I X c1',I X c2',I X c3'] 3 (0,0)):=(hp 15 zA1).1;refine Za ?_ ((H4 p _ W h0).mono λe w' h=>⟨(),h.1,trivial,h.2⟩);go_simp
  cases q;refine zB0 ?_;refine jk (hK _ _ λW hW hF=>?_);have hb:Below w w W:=Below.trans b1 (Below.mono hW zO);clear hE;dsimp only[List.drop];go_wp2;go_ret;exact⟨rfl,zA5⟩
theorem Ts(l:List UInt8)(a k:Nat)(hk:k<=4):0<=ZE l a k/\ZE l a k<4294967296:=by unfold ZE;split;have h:=qdc ((l.drop a).take k);have hl:((l.drop a).take k).length<=4:=zA2;have hp:256^((l.drop a).take k).length<=256^4:=Nat.pow_le_pow_right zO hl;omega;omega
theorem qcE(v:U)(l:List UInt8)(at_:Nat)(ha:at_<1000)(w:E)(h:Bys w w v l):Calls prog 192 #[v,(at_:Int)] w (Ret (Of #[I X (ZE l at_ 2),I X (Gd l at_ 2)]) w):=by have hb:=Ts l at_ 2 zO;have H:∀W,Ext w W->_:=λW hW=>qkX v l at_ 2 zO zO ha W ((h.below hW).more hW.size);generalize ZE l at_ 2=x at*;generalize Gd l at_ 2=y at*;go_enter func192,ntmps192;go_wp2_with fail;refine(H _ (Ext.refl _)).mono ?_;rintro e w1 ⟨rfl,hB⟩;go_wp2;refine bodyPost_ret (v:=Of #[I X x,I X y]) ?_ rfl ⟨rfl,zA5⟩;simp[results,results192,go_sem]
theorem KZ(v:U)(l:List UInt8)(at_:Nat)(ha:at_<1000)(w:E)(h:Bys w w v l):Calls prog 193 #[v,(at_:Int)] w (Ret (Of #[I Oa (ZE l at_ 4),I X (Gd l at_ 4)]) w):=by have hb:=Ts l at_ 4 zO;have H:∀W,Ext w W->_:=λW hW=>qkX v l at_ 4 zO zO ha W ((h.below hW).more hW.size);generalize ZE l at_ 4=x at*;generalize Gd l at_ 4=y at*;go_enter func193,ntmps193;go_wp2_with fail;refine(H _ (Ext.refl _)).mono ?_;rintro e w1 ⟨rfl,hB⟩;go_wp2;refine bodyPost_ret (v:=Of #[I Oa x,I X y]) ?_ rfl ⟨rfl,zA5⟩;simp[results,results193,go_sem]
theorem Bys.sub{a k:Nat}{b off m c:Nat}(h:Bys w B (O (b,off) m c) l)(hk:a+k<=l.length):Bys w B (O (b,off+a) k (c-a)) ((l.drop a).take k):=by
 obtain⟨A,c',e,hc,hm,hr⟩:=h;cases e;have hl:((l.drop a).take k).length=k:=zA2;refine⟨_,_,by rw[hl],by rw[hl];omega,zO,zA3,λhn=>?_⟩;obtain⟨b',off',e,hb,hAG⟩:=hr.2 zO;injection e with e;injection e with e1 e2
 subst e1;subst e2;refine⟨b,off+a,rfl,hb,λj u hu=>?_⟩;rw[List.getElem?_map,List.getElem?_take]at hu;split at hu;rw[List.getElem?_drop]at hu;have:=hAG (a+j) u (by rw[List.getElem?_map];exact hu)
 rwa [<-Nat.add_assoc]at this
 cases hu
theorem Bys.at_{A:OA}(h:Bys w B (O A m c) l):m=l.length/\m<=c/\c<=maxLen/\(0<m->∃b off,A=M ⟨b,off,Z⟩/\b<B):=by obtain⟨A',c',e,hc,hm,hr⟩:=h;cases e;refine⟨rfl,hc,hm,λhn=>?_⟩;obtain⟨b,off,e,hb,_⟩:=hr.2 hn;exact⟨b,off,e,hb⟩
theorem Tryz.info_u8:(Tryz.prog.info? 5).map (λi=>(i.zero,i.size,i.bytes))=M (M (I .u8 0),1,1):=zQ
theorem bytes2(n:Nat)(h:n<65536):(qT n 2).map bv=[I .u8 ((n:Int)%256),I .u8 ((n:Int)/256)]:=by simp[qT,bv];omega
theorem bytes4(n:Nat)(h:n<4294967296):(qT n 4).map bv=[I .u8 ((n:Int)%256),I .u8 ((n:Int)/256%256),I .u8 ((n:Int)/65536%256),I .u8 ((n:Int)/16777216)]:=by simp[qT,bv,Nat.div_div_eq_div_mul];omega
def IsB(lo n:Nat)(l:List UInt8)(v:U)(W:E):Prop:=∃A c,v=O A n c/\Bys W W v l/\ZV lo v
theorem IsB.of_own(h:w.ownsRow base ty 1 v n (l.map bv)):IsB base n l v w:=by
 have hn:l.length=n:=by have:=h.1;simpa using this
 obtain⟨A,c,e,hr⟩:=Bys.of_own h;exact⟨A,c,by rw[e,hn],Bys.of_own h,ZV.of_own h⟩
theorem IsB.new(w:E)(e:TypeId)(l:List UInt8)(lo n:Nat)(hn:n=l.length)(hl:l.length<=maxLen)(hlo:lo<=w):IsB lo n l (O w n n) (w.alloc (Ob (l.map bv).toArray e)):=by subst hn;refine⟨_,_,rfl,Bys.new w e l hl,λa n c h=>?_⟩;cases h;exact hlo
theorem Tg(n:Nat)(hn:n<4294967296)(w:E):Calls prog 133 #[I Oa (n:Int)] w (zv (IsB w 4 (qT n 4)) w):=by have HN:=zH (IsB.new w 5 (qT n 4) w.heap.size 4 (QV 4 n).symm (by rw[QV];unfold maxLen;omega) (zM _));rw[bytes4 n hn]at HN;go_enter func133,ntmps133;go_wp2;go_ret;exact⟨_,rfl,HN.out,zA5⟩
def IsB0(lo n:Nat)(l:List UInt8)(v:U)(W:E):Prop:=∃u,v=Of #[u,I X 0]/\IsB lo n l u W
theorem qgB(n:Nat)(hn:n<65536)(w:E):Calls prog 131 #[(n:Int)] w (zv (IsB0 w 2 (qT n 2)) w):=by
 have HN:=zH (IsB.new w 5 (qT n 2) w.heap.size 2 (QV 2 n).symm (by rw[QV];unfold maxLen;omega) (zM _));rw[bytes2 n hn]at HN;go_enter func131,ntmps131;go_wp2;refine bodyPost_ret (v:=Of #[O (M ⟨w.heap.size,0,Z⟩) 2 2,I X 0]) ?_ rfl ⟨_,rfl,⟨_,rfl,?_⟩,?_⟩
 ·simp[results,results131,go_sem]
 exact HN.out;exact(by repeat' (first|with_reducible exact Below.refl _ _|with_reducible assumption|with_reducible apply Below.drew|with_reducible apply qX|with_reducible refine Below.alloc ?_ ?_ _|with_reducible refine Below.setCell ?_ ?_ _|(simp;done)|(simp;omega)|omega))
def hv(s:Nat):Nat:=(s/2)^^^(if s%2=1 then 3988292384 else 0)
def hvs:Nat->Nat->Nat
 |0,s=>s
 |k+1,s=>hv (hvs k s)
def XS(i:Nat):Nat:=hvs 4 i
def Xc(s:Nat)(x:UInt8):Nat:=
 let s1:=s^^^x.toNat
 let s2:=(s1/16)^^^XS (s1%16)
 (s2/16)^^^XS (s2%16)
def qbM(l:List UInt8):Nat:=l.foldl Xc 4294967295
def crc(l:List UInt8):Nat:=4294967295-qbM l
theorem qlM(l:List UInt8)(x:UInt8):qbM (l++[x])=Xc (qbM l) x:=by simp[qbM]
theorem km{a b:Nat}(ha:a<4294967296)(hb:b<4294967296):a^^^b<4294967296:=Nat.xor_lt_two_pow (n:=32) zO zO
theorem hv_lt(h:s<4294967296):hv s<4294967296:=by unfold hv;refine km zO ?_;split<;>omega
theorem hvs_lt(k:Nat)(h:s<4294967296):hvs k s<4294967296:=by
 induction k with
 |zero=>exact h
 |succ k ih=>exact hv_lt ih
theorem qcg(h:i<16):XS i<4294967296:=hvs_lt 4 zO
theorem qjp(x:UInt8)(h:s<4294967296):Xc s x<4294967296:=by have hx:=x.toNat_lt;unfold Xc;refine km ?_ (qcg zO);have:(s^^^x.toNat)/16^^^XS ((s^^^x.toNat)%16)<4294967296:=km (by have:=km h (b:=x.toNat) zO;omega) (qcg zO);omega
theorem qkQ(l:List UInt8):qbM l<4294967296:=by
 suffices h:∀(l:List UInt8)s,s<4294967296->l.foldl Xc s<4294967296 from h l _ zO
 intro l;induction l with
 |nil=>intro s h;exact h
 |cons x r ih=>intro s h;exact ih _ (qjp x h)
theorem qjq(l:List UInt8):crc l<4294967296:=by unfold crc;omega
theorem qch(n:Nat)(hn:n<4294967296):(BitVec.ofInt 32 (n:Int)).toNat=n:=by simp[BitVec.ofInt_natCast];omega
theorem qjb(n:Nat)(hn:n<4294967296):IntKind.u32.wrap (n:Int)=n:=by simp[IntKind.wrap,IntKind.bits,IntKind.signed];omega
theorem Ul(a b:Nat)(ha:a<4294967296)(hb:b<4294967296):bits .xor Oa (a:Int) (b:Int)=((a^^^b:Nat):Int):=by show IntKind.u32.wrap (((BitVec.ofInt 32 (a:Int)^^^BitVec.ofInt 32 (b:Int)).toNat:Nat):Int)=_;rw[BitVec.toNat_xor,qch a ha,qch b hb];exact qjb _ (km ha hb)
theorem qkH(a b:Nat)(ha:a<4294967296)(hb:b<4294967296):bits .and Oa (a:Int) (b:Int)=((a&&& b:Nat):Int):=by show IntKind.u32.wrap (((BitVec.ofInt 32 (a:Int)&&& BitVec.ofInt 32 (b:Int)).toNat:Nat):Int)=_;rw[BitVec.toNat_and,qch a ha,qch b hb];refine qjb _ ?_;have:=Nat.and_le_left (n:=a) (m:=b);omega
theorem and_1(a:Nat)(ha:a<4294967296):bits .and Oa (a:Int) 1=((a%2:Nat):Int):=by have:=qkH a 1 ha zO;rw[Nat.and_one_is_mod]at this;exact this
theorem and_15(a:Nat)(ha:a<4294967296):bits .and Oa (a:Int) 15=((a%16:Nat):Int):=by have:=qkH a 15 ha zO;rw[show(15:Nat)=2^4-1 from rfl,Nat.and_two_pow_sub_one_eq_mod]at this;exact this
theorem xor_all(a:Nat)(ha:a<4294967296):a^^^4294967295=4294967295-a:=by have h:=congrArg BitVec.toNat (BitVec.xor_allOnes (x:=BitVec.ofNat 32 a));rw[BitVec.toNat_xor,BitVec.toNat_allOnes,BitVec.toNat_not,BitVec.toNat_ofNat,Nat.mod_eq_of_lt zO]at h;exact h.trans zO
theorem hv_mul(s:Nat)(hs:s<4294967296):bits .xor Oa (((s/2:Nat)):Int) ((3988292384*((s%2:Nat):Int))%4294967296)=((hv s:Nat):Int):=by
 have h:=Nat.mod_two_eq_zero_or_one s;unfold hv;rcases h with h|h
 rw[h];exact Ul _ 0 zO zO;rw[h];exact Ul _ 3988292384 zO zO
def TH(k:Nat):Array U:=((List.range 16).map λi=>Value.int Oa ((if i<k then XS i else 0:Nat):Int)).toArray
theorem Kh(k:Nat):(TH k).size=16:=by simp[TH]
theorem qce(k i:Nat)(h:i<16):(TH k)[i]?=M (I Oa ((if i<k then XS i else 0:Nat):Int)):=by simp[TH,h]
theorem rowT_set(k:Nat)(h:k<16):(TH k).setIfInBounds k (I Oa (XS k:Int))=TH (k+1):=by
 apply Array.ext_getElem?;intro i;by_cases hi:i<16;rw[qce _ _ hi];by_cases hk:k=i;subst hk;simp[Kh,h];rw[Array.getElem?_setIfInBounds_ne hk,qce _ _ hi];congr 3;split<;>split<;>first|rfl|omega
 rw[Array.getElem?_eq_none (by simp[Kh];omega),Array.getElem?_eq_none (by simp[Kh];omega)]
end Go.Proofs.YtmeadnlmepcmbaaGreat
