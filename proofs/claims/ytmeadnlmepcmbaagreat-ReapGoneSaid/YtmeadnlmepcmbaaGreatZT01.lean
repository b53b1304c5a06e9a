/- Lemmas of the proof. -/
import Derived.Test.YtmeadnlmepcmbaaGreatRows
import Derived.WalkKit
import Derived.ProofKit
import Derived.OpenShut
import Derived.BigQuiet
import Derived.BigGuardPart
import Derived.Deep.QuietTactic
import Derived.Deep.RegionHeld3
import Derived.Deep.DeepCutAuto
import Derived.Deep.Draws
import Derived.Maps.AppendAt
import Derived.Lib.Hide
import Derived.Deep.Light
import Derived.RangeFuncNested
import Derived.RangeFuncBox
import Derived.RangeFuncBound
import Derived.RangeFuncCalls
import Derived.RangeFuncLeaves
import Derived.Shelf.Abstract
import Derived.Shelf.RegionOpen
import Derived.OwnWalkIn
import Derived.TacticsInMore
import Derived.LoopNIn
import Derived.LoopIn
import Derived.Deep.Quiet
set_option linter.all false
set_option maxHeartbeats 8000000
namespace Go
instance : Coe World Nat:=⟨λw=>w.heap.size⟩
instance : Coe Nat Addr:=⟨λb=>⟨b,0,none⟩⟩
instance (a b:Nat):CoeDep (Nat×Nat) (a,b) Addr:=⟨⟨a,b,none⟩⟩
instance (w:World)(b:Nat):CoeDep (World×Nat) (w,b) Addr:=⟨⟨w.heap.size,b,none⟩⟩
instance (w:World)(b c:Nat):CoeDep (World×Nat×Nat) (w,b,c) Addr:=⟨⟨w.heap.size+b,c,none⟩⟩
instance (a b:Nat):CoeDep (Nat×Nat) (a,b) (Option Addr):=⟨some ⟨a,b,none⟩⟩
instance (w:World)(b:Nat):CoeDep (World×Nat) (w,b) (Option Addr):=⟨some ⟨w.heap.size,b,none⟩⟩
instance (w:World)(b c:Nat):CoeDep (World×Nat×Nat) (w,b,c) (Option Addr):=⟨some ⟨w.heap.size+b,c,none⟩⟩
instance : Coe Int Value:=⟨λn=>.int .i64 n⟩
instance : Coe Nat Value:=⟨λn=>.int .i64 (n:Int)⟩
instance : Coe Value Ending:=⟨λv=>.returned v⟩
end Go
open Go.Proofs.Tryz
open Go renaming World→E,Value→U
open Go.Value renaming int→I,slice→O,pointer→Oe,tuple→Of
open Option renaming some→M,none→Z
open Go.IntKind renaming i64→X,u32→Oa
open Bool renaming true→Y,false→Od
open Go.Obj renaming cells→Ob
open Go.Ending renaming returned→Oc
namespace Go.Proofs.YtmeadnlmepcmbaaGreat
open Go.RowKit
variable {p q:Prop}{w w':World}{B B' base n lo lo':Nat}{v:Value}{l:List UInt8}{e:TypeId}{P:Program}{cs:Array Value}{xs:List Value}{ops:Array Oper}{a:Act}{Q:Exit->Act->World->Prop}{rest:List Oper}{o:Oper}
theorem zA.{u}{α:Type u}(l:List α)(i:Nat)(a:α):l.toArray.setIfInBounds i a=(l.set i a).toArray:=List.setIfInBounds_toArray ..
theorem zB.{u}{α:Type u}{x:α}{xs:List α}{a:α}:(x::xs).set 0 a=a::xs:=List.set_cons_zero
theorem zC.{u}{α:Type u}{x:α}{xs:List α}{i:Nat}{a:α}:(x::xs).set (i+1) a=x::xs.set i a:=List.set_cons_succ
theorem zG.{u}{α:Type u}{i:Nat}{b:α}{xs:Array α}:xs[i]?=M b↔∃h:i<xs.size,xs[i]=b:=Array.getElem?_eq_some_iff
theorem zH(h:p):Hid p:=Lib.hid h
theorem zH2 {p0 p1:Prop}(h0:p0)(h1:p1):Hid p0/\Hid p1:=⟨zH h0,zH h1⟩
theorem zH3 {p0 p1 p2:Prop}(h0:p0)(h1:p1)(h2:p2):Hid p0/\Hid p1/\Hid p2:=⟨zH h0,zH h1,zH h2⟩
theorem zH4 {p0 p1 p2 p3:Prop}(h0:p0)(h1:p1)(h2:p2)(h3:p3):Hid p0/\Hid p1/\Hid p2/\Hid p3:=⟨zH h0,zH h1,zH h2,zH h3⟩
theorem zH5 {p0 p1 p2 p3 p4:Prop}(h0:p0)(h1:p1)(h2:p2)(h3:p3)(h4:p4):Hid p0/\Hid p1/\Hid p2/\Hid p3/\Hid p4:=⟨zH h0,zH h1,zH h2,zH h3,zH h4⟩
theorem zH6 {p0 p1 p2 p3 p4 p5:Prop}(h0:p0)(h1:p1)(h2:p2)(h3:p3)(h4:p4)(h5:p5):Hid p0/\Hid p1/\Hid p2/\Hid p3/\Hid p4/\Hid p5:=⟨zH h0,zH h1,zH h2,zH h3,zH h4,zH h5⟩
theorem zJ(w:E)(a:Addr)(u:U)(k:Nat)(h:k≠a.block):(w.setCell a u).heap[k]?=w.heap[k]?:=Below.heap_setCell w a u k h
theorem zK(w:E)(o:Obj)(k:Nat)(h:k<w):(w.alloc o).heap[k]?=w.heap[k]?:=Below.heap_alloc w o k h
theorem zL.{u}{α:Type u}{l:List α}{i:Nat}(h:i<l.length):l[i]?=M l[i]:=List.getElem?_eq_getElem h
theorem zM(n:Nat):n≤n:=Nat.le_refl n
theorem zO(h:p:=by omega):p:=h
theorem zA0(h:p:=by rfl):p:=h
theorem zQ(h:p:=by kernel_rfl):p:=h
theorem zA1(h:p:=by decide):p:=h
theorem zA2(h:p:=by simp;omega):p:=h
theorem zA3(h:p:=by simp):p:=h
theorem zA4(h:p:=by simp<;>omega):p:=h
theorem zE(h:p:=by exact rfl):p:=h
theorem zA5(h:p:=by repeat' (first|with_reducible exact Below.refl _ _|with_reducible assumption|with_reducible apply Below.drew|with_reducible apply qT|with_reducible refine Below.alloc ?_ ?_ _|with_reducible refine Below.setCell ?_ ?_ _|(simp;done)|(simp;omega)|omega)):p:=h
theorem zA6(h:p:=by simp only[List.getElem?_toArray,List.getElem?_cons_succ,List.getElem?_cons_zero];exact rfl):p:=h
theorem zA7(h:p:=by unfold maxLen;omega):p:=h
theorem zA8(h:p:=by simp[Value.oneCell']):p:=h
theorem zA9(h:p:=by simp only[Nat.min_def];split<;>omega):p:=h
theorem zB0(k:q)(h:Hid q→p:=by intro h;(try simp only[Act.put,ql,qf,qc,qg,Jv,zA,zB,zC]);(repeat ((first|(refine qX ?_ (by rfl) (by rfl) (λW hW _=>⟨W,?_,Ext.refl W⟩) ?_;rotate_left;(go_simp<;>with_reducible rfl))|(refine Qf (by rfl) ?_));try simp only[Act.put,ql,qf,qc,qg,Jv,zA,zB,zC]));exact h.out):p:=h (zH k)
theorem zB1(k:q)(h:Hid q→p:=by intro h;(try simp only[Act.put,ql,qf,qc,qg,zA,zB,zC]);(repeat ((first|(refine qX ?_ (by rfl) (by rfl) (λW hW _=>⟨W,?_,Ext.refl W⟩) ?_;rotate_left;(go_simp<;>with_reducible rfl))|(refine Qf (by rfl) ?_));try simp only[Act.put,ql,qf,qc,qg,zA,zB,zC]));exact h.out):p:=h (zH k)
theorem zB3(k:q)(h:Hid q→p:=by intro h;(try simp only[Act.put,ql,qf,qc,qg,qy,QT,zA,zB,zC]);(repeat ((first|(refine qd ?_ (by rfl) (by rfl) (λW hW _=>⟨W,?_,Rel.refl _ W⟩) ?_;rotate_left;(go_simp<;>with_reducible rfl))|(refine qh (by rfl) ?_));try simp only[Act.put,ql,qf,qc,qg,qy,QT,zA,zB,zC]));exact h.out):p:=h (zH k)
theorem zB4(k:q)(h:Hid q→p:=by intro h;(try simp only[Act.put,ql,qf,qc,qg,qy,Qx,QT,zA,zB,zC]);(repeat ((first|(refine qX ?_ (by rfl) (by rfl) (λW hW _=>⟨W,?_,Ext.refl W⟩) ?_;rotate_left;(go_simp<;>with_reducible rfl))|(refine Qf (by rfl) ?_));try simp only[Act.put,ql,qf,qc,qg,qy,Qx,QT,zA,zB,zC]));exact h.out):p:=h (zH k)
theorem zB5(k:q)(h:Hid q→p:=by intro h;(try simp only[Act.put,ql,qf,qc,qg,jX,zA,zB,zC]);(repeat ((first|(refine qd ?_ (by rfl) (by rfl) (λW hW _=>⟨W,?_,Rel.refl _ W⟩) ?_;rotate_left;(go_simp<;>with_reducible rfl))|(refine qh (by rfl) ?_));try simp only[Act.put,ql,qf,qc,qg,jX,zA,zB,zC]));exact h.out):p:=h (zH k)
theorem zB6(k:q)(h:Hid q→p:=by intro h;(dsimp only[List.drop,List.length_cons,List.length_nil]);exact h.out):p:=h (zH k)
theorem zB7(k:q)(h:Hid q→p:=by intro h;(try simp only[Act.put,ql,qf,qc,qg,zA,zB,zC]);(repeat ((first|(refine qd ?_ (by rfl) (by rfl) (λW hW _=>⟨W,?_,Rel.refl _ W⟩) ?_;rotate_left;(go_simp<;>with_reducible rfl))|(refine qh (by rfl) ?_));try simp only[Act.put,ql,qf,qc,qg,zA,zB,zC]));exact h.out):p:=h (zH k)
theorem zB8(k:q)(h:Hid q→p:=by intro h;(try simp only[Act.put,ql,qf,qc,qg,qy,vk,zA,zB,zC]);(repeat ((first|(refine qd ?_ (by rfl) (by rfl) (λW hW _=>⟨W,?_,Rel.refl _ W⟩) ?_;rotate_left;(go_simp<;>with_reducible rfl))|(refine qh (by rfl) ?_));try simp only[Act.put,ql,qf,qc,qg,qy,vk,zA,zB,zC]));exact h.out):p:=h (zH k)
theorem zB9(k:q)(h:Hid q→p:=by intro h;(try simp only[Act.put,ql,qf,qc,qg,Zf,jl,zA,zB,zC]);(repeat ((first|(refine qd ?_ (by rfl) (by rfl) (λW hW _=>⟨W,?_,Rel.refl _ W⟩) ?_;rotate_left;(go_simp<;>with_reducible rfl))|(refine qh (by rfl) ?_));try simp only[Act.put,ql,qf,qc,qg,Zf,jl,zA,zB,zC]));exact h.out):p:=h (zH k)
theorem zC0(k:q)(h:Hid q→p:=by intro h;(try simp only[Act.put,ql,qf,qc,qg,Zf,jl,zA,zB,zC]);(repeat ((first|(refine Jn hle ?_ (by rfl) (by rfl) (λW hW _=>?_) ?_;rotate_left;(go_simp<;>with_reducible rfl))|(refine Vi (by rfl) ?_));try simp only[Act.put,ql,qf,qc,qg,Zf,jl,zA,zB,zC]));exact h.out):p:=h (zH k)
theorem zC1(k:q)(h:Hid q→p:=by intro h;(try simp only[Act.put,ql,qf,qc,qg,Xq,Kv,zA,zB,zC]);(repeat ((first|(refine qd ?_ (by rfl) (by rfl) (λW hW _=>⟨W,?_,Rel.refl _ W⟩) ?_;rotate_left;(go_simp<;>with_reducible rfl))|(refine qh (by rfl) ?_));try simp only[Act.put,ql,qf,qc,qg,Xq,Kv,zA,zB,zC]));exact h.out):p:=h (zH k)
theorem zC2(k:q)(h:Hid q→p:=by intro h;(try simp only[Act.put,ql,qf,qc,qg,qy,Qx,zA,zB,zC]);(repeat ((first|(refine qX ?_ (by rfl) (by rfl) (λW hW _=>⟨W,?_,Ext.refl W⟩) ?_;rotate_left;(go_simp<;>with_reducible rfl))|(refine Qf (by rfl) ?_));try simp only[Act.put,ql,qf,qc,qg,qy,Qx,zA,zB,zC]));exact h.out):p:=h (zH k)
theorem zC3(k:q)(h:Hid q→p:=by intro h;(try simp only[Act.put,ql,qf,qc,qg,Zf,zA,zB,zC]);(repeat ((first|(refine qd ?_ (by rfl) (by rfl) (λW hW _=>⟨W,?_,Rel.refl _ W⟩) ?_;rotate_left;(go_simp<;>with_reducible rfl))|(refine qh (by rfl) ?_));try simp only[Act.put,ql,qf,qc,qg,Zf,zA,zB,zC]));exact h.out):p:=h (zH k)
theorem zC4(k:q)(h:Hid q→p:=by intro h;(dsimp only[List.drop,List.length_cons,List.length_nil,Nat.reduceAdd,Nat.reduceSub]);exact h.out):p:=h (zH k)
theorem zC5(k:q)(h:Hid q→p:=by intro h;(try simp only[Act.put,ql,qf,qc,qg,qy,zA,zB,zC]);(repeat ((first|(refine qd ?_ (by rfl) (by rfl) (λW hW _=>⟨W,?_,Rel.refl _ W⟩) ?_;rotate_left;(go_simp<;>with_reducible rfl))|(refine qh (by rfl) ?_));try simp only[Act.put,ql,qf,qc,qg,qy,zA,zB,zC]));exact h.out):p:=h (zH k)
theorem zC6(k:q)(h:Hid q→p:=by intro h;(try simp only[Act.put,ql,qf,qc,qg,qE,Qc,qG,qJ,zA,zB,zC]);(repeat ((first|(refine qd ?_ (by rfl) (by rfl) (λW hW _=>⟨W,?_,Rel.refl _ W⟩) ?_;rotate_left;(go_simp<;>with_reducible rfl))|(refine qh (by rfl) ?_));try simp only[Act.put,ql,qf,qc,qg,qE,Qc,qG,qJ,zA,zB,zC]));exact h.out):p:=h (zH k)
theorem zC7(k:q)(h:Hid q→p:=by intro h;(try simp only[Act.put,ql,qf,qc,qg,jc,Zn,Zm,Jf,zA,zB,zC]);(repeat ((first|(refine qd ?_ (by rfl) (by rfl) (λW hW _=>⟨W,?_,Rel.refl _ W⟩) ?_;rotate_left;(go_simp<;>with_reducible rfl))|(refine qh (by rfl) ?_));try simp only[Act.put,ql,qf,qc,qg,jc,Zn,Zm,Jf,zA,zB,zC]));exact h.out):p:=h (zH k)
theorem zC8(k:q)(h:Hid q→p:=by intro h;(try simp only[Act.put,ql,qf,qc,qg,qE,qy,zA,zB,zC]);(repeat ((first|(refine qd ?_ (by rfl) (by rfl) (λW hW _=>⟨W,?_,Rel.refl _ W⟩) ?_;rotate_left;(go_simp<;>with_reducible rfl))|(refine qh (by rfl) ?_));try simp only[Act.put,ql,qf,qc,qg,qE,qy,zA,zB,zC]));exact h.out):p:=h (zH k)
theorem zC9(k:q)(h:Hid q→p:=by intro h;(try simp only[Act.put,ql,qf,qc,qg,qE,qy,Qc,qG,qJ,zA,zB,zC]);(repeat ((first|(refine Jo hle ?_ (by rfl) (by rfl) (λW hW=>?_) ?_;rotate_left;(go_simp<;>with_reducible rfl))|(refine Jp (by rfl) ?_));try simp only[Act.put,ql,qf,qc,qg,qE,qy,Qc,qG,qJ,zA,zB,zC]));exact h.out):p:=h (zH k)
theorem zD0(k:q)(h:Hid q→p:=by intro h;(try simp only[Act.put,ql,qf,qc,qg,qE,qy,Qc,qG,qJ,zA,zB,zC]);(repeat ((first|(refine qd ?_ (by rfl) (by rfl) (λW hW _=>⟨W,?_,Rel.refl _ W⟩) ?_;rotate_left;(go_simp<;>with_reducible rfl))|(refine qh (by rfl) ?_));try simp only[Act.put,ql,qf,qc,qg,qE,qy,Qc,qG,qJ,zA,zB,zC]));exact h.out):p:=h (zH k)
theorem zD1(k:q)(h:Hid q→p:=by intro h;(try simp only[Act.put,ql,qf,qc,qg,qbU,zA,zB,zC]);(repeat ((first|(refine qd ?_ (by rfl) (by rfl) (λW hW _=>⟨W,?_,Rel.refl _ W⟩) ?_;rotate_left;(go_simp<;>with_reducible rfl))|(refine qh (by rfl) ?_));try simp only[Act.put,ql,qf,qc,qg,qbU,zA,zB,zC]));exact h.out):p:=h (zH k)
theorem zD2(k:q)(h:Hid q→p:=by intro h;(try simp only[Act.put,ql,qf,qc,qg,Vz,zA,zB,zC]);(repeat ((first|(refine qd ?_ (by rfl) (by rfl) (λW hW _=>⟨W,?_,Rel.refl _ W⟩) ?_;rotate_left;(go_simp<;>with_reducible rfl))|(refine qh (by rfl) ?_));try simp only[Act.put,ql,qf,qc,qg,Vz,zA,zB,zC]));exact h.out):p:=h (zH k)
theorem zD3(k:q)(h:Hid q→p:=by intro h;(try simp only[Act.put,ql,qf,qc,qg,qG,zA,zB,zC]);(repeat ((first|(refine qd ?_ (by rfl) (by rfl) (λW hW _=>⟨W,?_,Rel.refl _ W⟩) ?_;rotate_left;(go_simp<;>with_reducible rfl))|(refine qh (by rfl) ?_));try simp only[Act.put,ql,qf,qc,qg,qG,zA,zB,zC]));exact h.out):p:=h (zH k)
abbrev OA:=Option Addr
def Rd(w:E)(B size:Nat)(A:OA)(n:Nat)(xs:List U):Prop:=
 xs.length=n*size/\(0<n->∃b off,A=M ⟨b,off,Z⟩/\b<B/\∀j u,xs[j]?=M u->w.cell? ⟨b,off+j,Z⟩=M u)
section
variable {w w':World} {B B' size n:Nat} {A:OA} {xs:List Value}
theorem Rd.none_:Rd w B size A 0 []:=⟨zA3,λh=>absurd h zO⟩
theorem Rd.len1(h:Rd w B 1 A n xs):xs.length=n:=by have:=h.1;omega
theorem Rd.keep(h:Rd w B size A n xs)(hk:∀p:Addr,p.block<B->w'.cell? p=w.cell? p):Rd w' B size A n xs:=
 ⟨h.1,λhn=>by obtain⟨b,off,e,hb,hc⟩:=h.2 hn;exact⟨b,off,e,hb,λj u hu=>(hk _ hb).trans (hc j u hu)⟩⟩
theorem Rd.more(h:Rd w B size A n xs)(hB:B<=B'):Rd w B' size A n xs:=
 ⟨h.1,λhn=>by obtain⟨b,off,e,hb,hc⟩:=h.2 hn;exact⟨b,off,e,zO,hc⟩⟩
theorem Rd.below(h:Rd w B size A n xs)(hb:Below B w w'):Rd w' B size A n xs:=h.keep λ_ hp=>hb.cell hp
theorem Rd.drew(h:Rd w B size A n xs):Rd w.drew B size A n xs:=h
theorem Rd.drewN(h:Rd w B size A n xs)(k:Nat):Rd (w.drewN k) B size A n xs:=h
theorem Rd.alloc(h:Rd w B size A n xs)(hB:B<=w)(o:Obj):Rd (w.alloc o) B size A n xs:=h.keep λp hp=>World.cell?_alloc_lt w o p zO
theorem Rd.at_{k:Nat}{u:U}(h:Rd w B size A n xs)(hn:0<n)(hu:xs[k]?=u):∃b off,A=M ⟨b,off,Z⟩/\b<B/\w.cell? ⟨b,off+k,Z⟩=u:=by obtain⟨b,off,e,hb,hc⟩:=h.2 hn;exact⟨b,off,e,hb,hc k u hu⟩
theorem Rd.take(h:Rd w B size A n xs){k:Nat}(hk:k<=n):Rd w B size A k (xs.take (k*size)):=by refine⟨by rw[List.length_take,h.1];exact Nat.min_eq_left (Nat.mul_le_mul_right _ hk),λhn=>?_⟩;obtain⟨b,off,rfl,hb,aF⟩:=h.2 zO;refine⟨b,off,rfl,hb,λj u hu=>aF j u ?_⟩;rw[List.getElem?_take]at hu;split at hu;exact hu;cases hu
theorem Rd.of_own{base:Nat}{e:TypeId}{c:Nat}(h:w.ownsRow base e size (O A n c) n xs):Rd w w size A n xs:=by
 refine⟨h.1,λhn=>?_⟩;rcases h.2 with⟨h0,h1⟩|⟨g,cap,cur,hv,hb,hg,fQ,_,hsz,mM⟩
 omega;injection hv with hA _ _
 subst hA;refine⟨g,0,rfl,?_,λj u hu=>?_⟩;rcases Nat.lt_or_ge g w.heap.size with hlt|lg
 exact hlt;rw[Array.getElem?_eq_none lg]at hg;cases hg;have:=h.cells (g:=g) rfl j u hu;simpa [Addr.add] using(show w.cell? ⟨g,0+j,Z⟩=M u by
  rw[<-this];unfold Addr.add;split;subst_vars;rfl
  ·rfl)
theorem Rd.new(w:E)(cs:Array U)(e:TypeId)(n:Nat)(hn:cs.size=n):Rd (w.alloc (Ob cs e)) (w.alloc (Ob cs e)).heap.size 1 w n cs.toList:=
 ⟨by simp[hn],λ_=>⟨w.heap.size,0,rfl,zA3,λj u hu=>by rw[World.cell?_alloc_at _ _ _ _ rfl];simpa using hu⟩⟩
theorem Rd.adds{b off:Nat}(h:Rd w B size (b,off) n xs)(hn:0<n):∀j u,xs[j]?=M u->w.cell? (((b,off):Addr).add j)=M u:=by
 obtain⟨b',off',e,_,hc⟩:=h.2 hn;injection e with e;injection e with e1 e2
 subst e1;subst e2;intro j u hu;rw[<-hc j u hu];unfold Addr.add;split;subst_vars;rfl;rfl
end
abbrev bv(x:UInt8):U:=I .u8 (x.toNat:Int)
theorem Gi(l:List UInt8):∀u∈l.map bv,u.oneCell'=Y:=by intro u hu;obtain⟨x,_,rfl⟩:=List.mem_map.1 hu;rfl
def Bys(w:E)(B:Nat)(v:U)(l:List UInt8):Prop:=∃A c,v=O A l.length c/\l.length<=c/\c<=maxLen/\Rd w B 1 A l.length (l.map bv)
theorem Bys.below(h:Bys w B v l)(hb:Below B w w'):Bys w' B v l:=by obtain⟨A,c,e,hc,hm,hr⟩:=h;exact⟨A,c,e,hc,hm,hr.below hb⟩
theorem Bys.keep(h:Bys w B v l)(hk:∀p:Addr,p.block<B->w'.cell? p=w.cell? p):Bys w' B v l:=by obtain⟨A,c,e,hc,hm,hr⟩:=h;exact⟨A,c,e,hc,hm,hr.keep hk⟩
theorem Bys.more(h:Bys w B v l)(hb:B<=B'):Bys w B' v l:=by obtain⟨A,c,e,hc,hm,hr⟩:=h;exact⟨A,c,e,hc,hm,hr.more hb⟩
theorem Bys.nil(w:E)(B:Nat):Bys w B (O Z 0 0) []:=⟨Z,0,rfl,zM _,by simp[maxLen],Rd.none_⟩
theorem Bys.of_own(h:w.ownsRow base e 1 v n (l.map bv)):Bys w w v l:=by
 have hn:l.length=n:=by have:=h.1;simpa using this
 subst hn;rcases h.2 with⟨rfl,h0⟩|⟨g,cap,cur,rfl,hb,hg,fQ,eP,hsz,mM⟩
 obtain rfl:l=[]:=List.eq_nil_of_length_eq_zero h0;exact Bys.nil w _;exact⟨_,cap,rfl,fQ,eP,Rd.of_own h⟩
theorem Bys.new(w:E)(e:TypeId)(l:List UInt8)(hl:l.length<=maxLen:=by simp[maxLen]):Bys (w.alloc (Ob (l.map bv).toArray e)) (w.alloc (Ob (l.map bv).toArray e)).heap.size (O w l.length l.length) l:=
 ⟨_,_,rfl,zM _,hl,zA3,λ_=>⟨w.heap.size,0,rfl,zA3,λj u hu=>by rw[World.cell?_alloc_at _ _ _ _ rfl];simpa using hu⟩⟩
def bstr(l:List UInt8):ByteArray:=strOfNums (l.map λx=>(x.toNat:Int))
theorem qlG(l:List UInt8):(bstr l).data.toList=l:=by
 unfold bstr;rw[strOfNums_data,List.map_map]
 conv=>rhs;rw[<-List.map_id l]
 apply List.map_congr_left;intro x _;simp
theorem qhg(l:List UInt8):(bstr l).toList=l:=by rw[ByteArray.toList_eq];exact qlG l
theorem XI(h:Bys w B v l)(src dst e:TypeId)(hs:P.underlying src=M (.slice e))(he:P.underlying e=M (.int .u8))(hd:P.underlying dst=M .string):(convert src dst v).run P w=.ok (.string (bstr l)) w:=by
 obtain⟨A,c,rfl,hc,hm,hr⟩:=h;rcases A with _|ad
 have h0:l.length=0:=by
  rcases Nat.eq_zero_or_pos l.length with h0|h0
  exact h0;obtain⟨b,off,h,_⟩:=hr.2 h0;cases h
 obtain rfl:l=[]:=List.eq_nil_of_length_eq_zero h0;exact run_convert_bytes_nil w src e hs he _ _ dst hd;rcases Nat.eq_zero_or_pos l.length with h0|h0
 obtain rfl:l=[]:=List.eq_nil_of_length_eq_zero h0;rw[run_convert_bytes_string w src dst e _ _ _ hs he hd,run_bytesToString w _ _ _ [] (by simp[loadCells,loadCellsFrom])];rfl;obtain⟨b,off,h,_,aF⟩:=hr.2 h0;cases h;exact run_convert_bytes_arg w src e hs he b off l.length c (l.map λx=>(x.toNat:Int)) zA3 (λi hi=>by rw[aF i (bv l[i]) (by simp[hi])];simp[hi]) dst hd
theorem zI(w:E)(o:Obj)(b:Nat)(h:b=w):(w.alloc o).heap[b]?=o:=by subst h;exact heap_alloc_new w o
theorem qa{b:Nat}{t:TypeId}(h:w.heap[b]?=M (Ob cs t)):∀i,w.cell? ⟨b,i,Z⟩=cs[i]?:=λi=>by simp[World.cell?,h]
theorem qe{b:Nat}{t:TypeId}(h:w.heap[b]?=M (Ob cs t)):∀i,w.frozen? ⟨b,i,Z⟩=Od:=λi=>by simp[World.frozen?,h]
def ZK(lo:Nat)(v:U):Prop:=∀a n c,v=O (M a) n c->lo<=a.block
theorem ZK.of_own{base n size:Nat}(h:w.ownsRow base e size v n xs):ZK base v:=by intro a n' c hv;subst hv;exact(h.lt a.block rfl).1
theorem ZK.mono(h:ZK lo v)(hl:lo'<=lo):ZK lo' v:=λa n c e=>Nat.le_trans hl (h a n c e)
theorem Bys.setCell(h:Bys w B v l)(hf:ZK lo v){p:Addr}(hp:p.block<lo)(u:U):Bys (w.setCell p u) B v l:=by obtain⟨A,c,e,hc,hm,hr⟩:=h;refine⟨A,c,e,hc,hm,hr.1,λhn=>?_⟩;obtain⟨b,off,hA,hb,aF⟩:=hr.2 hn;refine⟨b,off,hA,hb,λj u' hu=>?_⟩;have:lo<=b:=hf ⟨b,off,Z⟩ l.length c (by rw[e,hA]);rw[World.cell?_setCell_other w p ⟨b,off+j,Z⟩ u (λe=>by subst e;simp at hp;omega)];exact aF j u' hu
theorem qT{a:E}(h:Below B a w)(n:Nat):Below B a (w.drewN n):=⟨h.os,h.tape,h.output,h.size,h.block⟩
def Ret(v:U)(w:E)(e:Ending)(w':E):Prop:=e=v/\Below w w w'
def zZ(φ:U->E->Prop)(w:E)(e:Ending)(w':E):Prop:=∃v,e=Oc v/\φ v w'/\Below w w w'
def Qm(p:Prop):Prop:=p
theorem Qm.go(h:p):Qm p:=h
theorem qV{l:List Oper}(h:Qm (wpList P ops Q l a w)):wpList P ops Q l a w:=h
theorem XR(w:E)(cs:Array U)(e:TypeId):∀j u,cs.toList[j]?=M u->(w.alloc (Ob cs e)).cell? ((w:Addr).add j)=M u:=by
 intro j u hj;have h:(w.alloc (Ob cs e)).cell? (w,0+j)=u:=by rw[World.cell?_alloc_at _ _ _ _ rfl];simpa using hj
 rw[<-h];unfold Addr.add;split;subst_vars;rfl;rfl
theorem Zh(w:E)(fV:o.guard=Z)(s x:Operand)(t:TypeId)(ho:o.op=.call {callee:=.builtin .append,args:=#[s,x],argTypes:=#[t,t]})(base:Nat)(e:TypeId)(i:TypeInfo)(z:U)(size bytes:Nat)(ht:P.underlying t=M (.slice e))(hi:P.info? e=i)(hz:i.zero=z)(fJ:i.size=size)(af:i.bytes=bytes)(sQ:z.cells.size=size)(hsz:0<size)(v:U)(n:Nat)(xs:List U)(hs:a.eval s=v)(aB:w.ownsRow base e size v n xs)(cs:Array U)(hx:a.eval x=O w 1 1)(hl:cs.size=size)(h1:∀u∈cs.toList,u.oneCell'=Y)(hn:n<1073741824)(fD:bytes<=65536)(oG:base<=w)(h:∀v' w',w'.ownsRow base e size v' (n+1) (xs++cs.toList)->w.grownBy w' v.ownBlock->Below base w w'->(v'.ownBlock=v.ownBlock\/∃g,v'.ownBlock=M g/\w.heap.size<=g)->wpList P ops Q rest (a.put o.dst v') w'):wpList P ops Q (o::rest) a (w.alloc (Ob cs e)):=by
 refine wpList_plain fV λK hK=>?_;have hb:(n+1)*bytes<=140737488355328:=Nat.le_trans (Nat.mul_le_mul_left _ fD) zO;have hm:n+1<=maxLen:=zA7;obtain⟨v',w',bH,h2,h3,_,h5⟩:=run_append_own_at (P:=P) (w.alloc (Ob cs e)) base t o.type e i z size bytes ht hi hz fJ af sQ hsz v n xs (aB.alloc _) ⟨w.heap.size,0,Z⟩ 1 1 cs.toList
  (by rw[Array.length_toList];omega) (XR w cs e) h1 hm hb zA2
 have hg:w.grownBy w' v.ownBlock:=⟨h3.os,h3.tape,h3.output,Nat.le_trans zA3 h3.size,λk hk aH=>(h3.block k zA2 aH).trans (zK w _ k hk)⟩
 unfold Oper.wp execOp;simp only[ho,resolve,invoke,builtin,Sem.run_bind,Sem.run_pure,Result.andThen_ok,List.map_toArray,List.map_cons,List.map_nil,hs,hx,bH];exact hK _ _ (h v' w' h2 hg ((Below.refl base w).grown hg oG (λk hk=>(aB.lt k hk).1)) (h5.imp id λe=>⟨_,e,zA3⟩))
theorem QB(w:E)(fV:o.guard=Z)(s x:Operand)(t:TypeId)(ho:o.op=.call {callee:=.builtin .append,args:=#[s,x],argTypes:=#[t,t]})(base:Nat)(e:TypeId)(i:TypeInfo)(z:U)(size bytes:Nat)(ht:P.underlying t=M (.slice e))(hi:P.info? e=i)(hz:i.zero=z)(fJ:i.size=size)(af:i.bytes=bytes)(sQ:z.cells.size=size)(hsz:0<size)(v:U)(n:Nat)(xs:List U)(hs:a.eval s=v)(aB:w.ownsRow base e size v n xs)(B:Nat)(A m c)(news:List U)(hx:a.eval x=O A m c)(hr:Rd w B size A m news)(h1:∀u∈news,u.oneCell'=Y)(hn:n+m<1073741824)(fD:bytes<=65536)(oG:base<=w)(h:∀v' w',w'.ownsRow base e size v' (n+m) (xs++news)->w.grownBy w' v.ownBlock->Below base w w'->(v'.ownBlock=v.ownBlock\/∃g,v'.ownBlock=M g/\w.heap.size<=g)->wpList P ops Q rest (a.put o.dst v') w'):wpList P ops Q (o::rest) a w:=by
 refine wpList_plain fV λK hK=>?_;have hb:(n+m)*bytes<=140737488355328:=Nat.le_trans (Nat.mul_le_mul_left _ fD) zO;have hm:n+m<=maxLen:=zA7;have key:∃v' w',(Builtin.append_ #[t,t] o.type #[v,O A m c]).run P w=.ok v' w'/\w'.ownsRow base e size v' (n+m) (xs++news)/\w.grownBy w' v.ownBlock /\
   (v'.ownBlock=v.ownBlock\/v'.ownBlock=M w.heap.size):=by
  rcases A with _|ad
  ·have hm0:m=0:=by
    rcases Nat.eq_zero_or_pos m with h0|h0
    exact h0;obtain⟨b,off,h,_⟩:=hr.2 h0;cases h
   subst hm0;have hn:news=[]:=List.eq_nil_of_length_eq_zero (by simpa using hr.1);subst hn;refine⟨v,w,?_,by simpa using aB,World.grownBy.refl w _,.inl rfl⟩;rcases aB.2 with⟨rfl,_⟩|⟨g,cap,cur,rfl,_,_,fQ,_⟩
   all_goals simp[Builtin.append_,run_underlying ht,sizeOf,typeInfo,Builtin.lenOf,Builtin.firstCells,storeCells, *]
  have eH:∀j u,news[j]?=M u->w.cell? (ad.add j)=M u:=by
   intro j u hu;rcases Nat.eq_zero_or_pos m with h0|h0
   subst h0;have hn:news=[]:=List.eq_nil_of_length_eq_zero (by simpa using hr.1);subst hn;simp at hu;obtain⟨b,off,h,_⟩:=hr.2 h0;injection h with h;subst h;exact hr.adds h0 j u hu
  obtain⟨v',w',bH,h2,h3,_,h5⟩:=run_append_own_at (P:=P) w base t o.type e i z size bytes ht hi hz fJ af sQ hsz v n xs aB ad m c news hr.1 eH h1 hm hb oG;exact⟨v',w',bH,h2,h3,h5⟩
 obtain⟨v',w',bH,h2,h3,h5⟩:=key;unfold Oper.wp execOp;simp only[ho,resolve,invoke,builtin,Sem.run_bind,Sem.run_pure,Result.andThen_ok,List.map_toArray,List.map_cons,List.map_nil,hs,hx,bH];exact hK _ _ (h v' w' h2 h3 ((Below.refl base w).grown h3 oG (λk hk=>(aB.lt k hk).1)) (h5.imp id λe=>⟨_,e,zM _⟩))
theorem TT{k:IntKind}{a b:Int}(h:a=b):Ending.returned (I k a)=Oc (I k b):=by rw[h]
theorem VT{a b:Bool}(h:a=b):Ending.returned (.bool a)=Oc (.bool b):=by rw[h]
def vy:List UInt8->Nat
 |[]=>0
 |b::r=>b.toNat+256*vy r
theorem qcZ(l:List UInt8):vy l<256^l.length:=by
 induction l with
 |nil=>simp[vy]
 |cons b r ih=>have:=b.toNat_lt;simp only[vy,List.length_cons,Nat.pow_succ];omega
theorem or_byte(a b:Nat)(hb:b<256):a*256||| b=b+256*a:=by have h:=Nat.two_pow_add_eq_or_of_lt (i:=8) (b:=b) (by simpa using hb) a;rw[Nat.mul_comm a 256,Nat.add_comm b];exact h.symm
theorem or_u32(a b:Nat)(ha:a<4294967296)(hb:b<4294967296):bits .or Oa (a:Int) (b:Int)=((a||| b:Nat):Int):=by
 have e:∀n:Nat,n<4294967296->(BitVec.ofInt 32 (n:Int)).toNat=n:=λn hn=>by simp[BitVec.ofInt_natCast];omega
 have hx:a||| b<2^32:=Nat.or_lt_two_pow zO zO
 show IntKind.u32.wrap (((BitVec.ofInt 32 (a:Int)||| BitVec.ofInt 32 (b:Int)).toNat:Nat):Int)=_;rw[BitVec.toNat_or,e a ha,e b hb];simp[IntKind.wrap,IntKind.bits,IntKind.signed];omega
def qQ:Nat->Nat->List UInt8
 |_,0=>[]
 |n,k+1=>UInt8.ofNat n::qQ (n/256) k
theorem QU(k:Nat):∀n,(qQ n k).length=k:=by
 induction k with
 |zero=>intro n;rfl
 |succ k ih=>intro n;simp[qQ,ih]
theorem qdR(l:List UInt8):qQ (vy l) l.length=l:=by
 induction l with
 |nil=>rfl
 |cons b r ih=>
  have hb:=b.toNat_lt;simp only[vy,List.length_cons,qQ];rw[show(b.toNat+256*vy r)/256=vy r by omega,ih];congr 1;apply UInt8.toNat.inj;simp
end Go.Proofs.YtmeadnlmepcmbaaGreat
namespace Go.Proofs.YtmeadnlmepcmbaaGreat
open Go.RowKit Go.Shelf
attribute [local go_sem] Oper.semAt_some
variable {α:Type}{x y:Nat}{A C w W W':World}{v:Value}{xs:List UInt8}
def jb{α:Type}(f:Nat->α)(k:Nat):List α:=(List.range k).map f
theorem Vu(f:Nat->α)(k:Nat):jb f (k+1)=jb f k++[f k]:=by simp[jb,List.range_succ]
theorem ZG(f:Nat->α)(k:Nat):(jb f k).length=k:=by simp[jb]
def Qw(x y:Nat)(A B:E):Prop:=B.heap[x]?=A.heap[x]?/\B.heap[y]?=A.heap[y]?
theorem Qw.t{B:E}(h:Qw x y A B)(k:Qw x y B C):Qw x y A C:=⟨k.1.trans h.1,k.2.trans h.2⟩
theorem Qw.refl(x y:Nat)(A:E):Qw x y A A:=⟨rfl,rfl⟩
theorem Qw.b(hx:x<w)(hy:y<w)(W:E)(l:Nat)(o o':Obj)(hl:w.heap.size<=l)(_:W.heap[l]?=o)(_:o.isCells=Od)(_:o.isWalk=Od):Qw x y W (W.putObj l o'):=
 ⟨World.putObj_heap_other zO,World.putObj_heap_other zO⟩
theorem Qw.set(A:E)(p:Addr)(v:U)(hx:x≠p.block)(hy:y≠p.block):Qw x y A (A.setCell p v):=
 ⟨zJ A p v x hx,zJ A p v y hy⟩
theorem Qw.below{B:Nat}(h:Below B A C)(hx:x<B)(hy:y<B):Qw x y A C:=⟨h.block x hx,h.block y hy⟩
set_option maxRecDepth 100000 in
theorem back8_in(n:Nat)(hn:1<=n)(l Bs b off len cap:Nat)(xs:List UInt8)(bT:len<1099511627776)(hlen:xs.length=len)(J Jx:List (Nat×UInt8)->E->Prop)(hY:∀pre x W,J pre W->pre.length<len->YieldAt Fence.wide (n-1) prog l #[I X (x.1:Int),bv x.2] W λe W'=>
   (e=Oc (.bool Y)/\J (pre++[x]) W'/\Qw Bs b W W')\/(e=Oc (.bool Od)/\Jx (pre++[x]) W'))
  (W:E) (ik:W.cell? Bs=M (O (b,off) len cap)) (hc:∀j u,(xs.map bv)[j]?=M u->W.cell? ⟨b,off+j,Z⟩=M u) (h0:J [] W) :
  CallsIn Fence.wide n prog 208 #[.func (.yield l) #[] #[],Oe Bs] W λe W'=>(∃v,e=Oc v) /\
   ((∃ys,ys=jb (λj=>(len-1-j,xs[len-1-j]?.getD 0)) len/\J ys W')\/(∃pre,(∃k,k<=len/\pre=jb (λj=>(len-1-j,xs[len-1-j]?.getD 0)) k)/\Jx pre W')):=by
 refine callsIn_of_wp func208 rfl trivial ?_ rfl;simp only[ntmps208,List.size_toArray,List.length_cons,List.length_nil,Nat.reduceAdd,Nat.reduceSub,Array.replicate_succ,Array.replicate_zero,List.push_toArray,List.append_toArray,List.nil_append,List.cons_append]
 gi_wp2
 gi_loopw [3] (λi wr=>∃k:Nat,k<=len/\i=I X ((len:Int)-1-k)/\J (jb (λj=>(len-1-j,xs[len-1-j]?.getD 0)) k) wr/\Qw Bs b W wr)
  (λi _=>(intOf i+1).toNat)
 case atStart=>exact⟨0,Nat.zero_le _,zA3,h0,Qw.refl _ _ _⟩
 case round=>
  obtain⟨k,hk,rfl,iI,dR⟩:=hrel;have hBr:wr.cell? Bs=M (O (b,off) len cap):=(World.cell?_of_block (w:=W) dR.1).trans ik;by_cases hlt:k<len
  ·have oH:wr.cell? (b,off+(len-1-k))=M (bv (xs[len-1-k]?.getD 0)):=by refine(World.cell?_of_block (w:=W) dR.2).trans (hc _ _ ?_);rw[List.getElem?_map,zL zO];simp
   obtain⟨fn,tmps,assign,body,hy,hR⟩:=hY _ (len-1-k,xs[len-1-k]?.getD 0) wr iI (by rw[ZG];exact hlt);dsimp only at hy;obtain⟨i,hi⟩:∃i:Nat,len-1-k=i:=⟨_,rfl⟩
   have dK:(len:Int)-1-k=(i:Int):=zO;have hil:i<len:=zO;have hik:k+i+1<=len/\len<=k+i+1:=zO;have HU:=zH (Vu (λj=>(len-1-j,xs[len-1-j]?.getD 0)) k);obtain⟨u,hu⟩:∃u,xs[i]?.getD 0=u:=⟨_,rfl⟩
   rw[hi]at oH hy hR;rw[hu]at oH hy hR;rw[dK];clear dK;have HE:=zH hu;clear hu;have HI:=zH hi;clear hi
   gi_wp2
   refine hR.mono ?_;rintro e W3 (⟨rfl,hJ3,gy⟩|⟨rfl,lY⟩)
   ·gi_wp2
    go_roundw
    case rel=>exact⟨k+1,zO,by go_num,by rw[HU.out,HI.out,HE.out];exact hJ3,dR.t gy⟩
    case measure=>simp[intOf]
   gi_wp2
   refine bodyPost_ret (results_none rfl _ _ _) rfl ?_;exact⟨⟨_,rfl⟩,.inr ⟨_,⟨k+1,zO,by rw[HU.out,HI.out,HE.out]⟩,lY⟩⟩
  obtain rfl:k=len:=zO
  gi_wp2
  go_end0;exact⟨⟨_,rfl⟩,.inl ⟨_,rfl,iI⟩⟩
def S8(W:E)(Bs b:Nat)(v:U)(xs:List UInt8):Prop:=
 W.cell? Bs=v/\((xs=[]/\∃A c,v=O A 0 c)\/∃off cap,v=O (M ⟨b,off,Z⟩) xs.length cap/\∀j u,(xs.map bv)[j]?=M u->W.cell? ⟨b,off+j,Z⟩=M u)
theorem S8.keep{Bs b:Nat}(h:S8 W Bs b v xs)(hk:Qw Bs b W W'):S8 W' Bs b v xs:=by
 refine⟨(World.cell?_of_block (w:=W) hk.1).trans h.1,?_⟩;rcases h.2 with h|⟨off,cap,e,hc⟩
 exact .inl h;exact .inr ⟨off,cap,e,λj u hu=>(World.cell?_of_block (w:=W) hk.2).trans (hc j u hu)⟩
set_option maxRecDepth 100000 in
theorem qfD(n l Bs c:Nat)(A:OA)(J:List (Nat×UInt8)->E->Prop)(W:E)(ik:W.cell? Bs=M (O A 0 c))(h0:J [] W):CallsIn Fence.wide n prog 208 #[.func (.yield l) #[] #[],Oe Bs] W λe W'=>(∃v,e=Oc v)/\J [] W':=by
 refine callsIn_of_wp func208 rfl trivial ?_ rfl;simp only[ntmps208,List.size_toArray,List.length_cons,List.length_nil,Nat.reduceAdd,Nat.reduceSub,Array.replicate_succ,Array.replicate_zero,List.push_toArray,List.append_toArray,List.nil_append,List.cons_append]
 gi_wp2
 gi_loopw [3] (λi wr=>i=I X (-1)/\J [] wr) (λ_ _=>0)
 case atStart=>exact⟨rfl,h0⟩
 case round=>
  obtain⟨rfl,iI⟩:=hrel
  gi_wp2
  go_end0;exact⟨⟨_,rfl⟩,iI⟩
def KG(xs:List UInt8)(k:Nat):List (Nat×UInt8):=jb (λj=>(xs.length-1-j,xs[xs.length-1-j]?.getD 0)) k
theorem qgZ(n:Nat)(hn:1<=n)(Bs b:Nat)(v:U)(xs:List UInt8)(bT:xs.length<1099511627776)(w:E)(ik:Bs<w)(hb:b<w)(hS:S8 w Bs b v xs):SeqStopsK Fence.wide n prog 208 #[Oe Bs] (λx:Nat×UInt8=>#[(x.1:Int),bv x.2]) (Qw Bs b) (λys=>ys=KG xs xs.length)
   (λpre=>∃k,k<=xs.length/\pre=KG xs k) xs.length w:=λl J Jx W hW _ _ hY h0=>by
 obtain⟨hc,h⟩:=hS.keep (Qw.below hW ik hb);rcases h with⟨rfl,A,c,rfl⟩|⟨off,cap,rfl,ay⟩
 exact(qfD n l Bs c A J W hc h0).mono λe W' ⟨he,hj⟩=>⟨he,.inl ⟨_,rfl,hj⟩⟩
 exact back8_in n hn l Bs b off xs.length cap xs bT rfl J Jx hY W hc ay h0
theorem qfJ(n:Nat)(A:OA)(m c:Nat)(w:E):CallsIn Fence.wide n prog 207 #[O A m c] w λe w'=>e=Oc (.func (.func 208) #[] #[Oe w])/\w'=w.alloc (Ob #[O A m c] 26):=by
 refine callsIn_of_wp func207 rfl trivial ?_ rfl;simp only[ntmps207,List.size_toArray,List.length_cons,List.length_nil,Nat.reduceAdd,Nat.reduceSub,Array.replicate_succ,Array.replicate_zero,List.push_toArray,List.append_toArray,List.nil_append,List.cons_append]
 gi_wp2
 go_ret;exact⟨rfl,rfl⟩
def GG:List (Nat×UInt8)->Int:=List.foldl (λs x=>bits .or Oa (s*256%4294967296) ((x.2.toNat:Int)%4294967296)) 0
theorem qeU(pre:List (Nat×UInt8))(x:Nat×UInt8):GG (pre++[x])=bits .or Oa (GG pre*256%4294967296) ((x.2.toNat:Int)%4294967296):=by simp[GG]
theorem qmo(a b:Nat)(ha:a<16777216)(hb:b<256):bits .or Oa ((a:Int)*256%4294967296) ((b:Int)%4294967296)=((b+256*a:Nat):Int):=by have e1:(a:Int)*256%4294967296=((a*256:Nat):Int):=zO;have e2:(b:Int)%4294967296=(b:Int):=zO;rw[e1,e2,or_u32 _ _ zO zO,or_byte a b hb]
theorem qjT(xs:List UInt8)(h7:xs.length<=4):∀k,k<=xs.length->GG (KG xs k)=(vy (xs.drop (xs.length-k)):Int):=by
 intro k;induction k with
 |zero=>intro _;simp[KG,jb,GG,vy]
 |succ k ih=>
  intro hk;have hi:=ih zO;have hs:KG xs (k+1)=KG xs k++[(xs.length-1-k,xs[xs.length-1-k]?.getD 0)]:=Vu _ k;rw[hs,qeU,hi];have hd:xs.drop (xs.length-(k+1))=xs[xs.length-1-k]?.getD 0::xs.drop (xs.length-k):=by have e:xs.length-(k+1)=xs.length-1-k:=zO;rw[e,List.drop_eq_getElem_cons zO,zL zO];simp only[Option.getD_some];congr 2;omega
  rw[hd];have hlt:=qcZ (xs.drop (xs.length-k));have hl:(xs.drop (xs.length-k)).length<=3:=zA2;have hp:256^(xs.drop (xs.length-k)).length<=256^3:=Nat.pow_le_pow_right zO hl;exact qmo _ _ (Nat.lt_of_lt_of_le hlt (Nat.le_trans hp zA1)) (UInt8.toNat_lt _)
theorem numU_all(xs:List UInt8)(h:xs.length<=4):GG (KG xs xs.length)=(vy xs:Int):=by have:=qjT xs h xs.length (zM _);simpa using this
set_option maxRecDepth 100000 in
theorem get_in(n:Nat)(h3:3<=n)(b off m c at_ many:Nat)(xs:List UInt8)(hx:xs.length=many)(h0:0<many)(h4:many<=4)(ha:at_+many<=m)(hc:m<=c)(hm:c<=maxLen)(w:E)(hb:b<w)(hS:∀j u,(xs.map bv)[j]?=M u->w.cell? ⟨b,off+at_+j,Z⟩=M u):CallsIn Fence.wide n prog 202 #[O (b,off) m c,(at_:Int),(many:Int)] w λe W'=>e=Oc (Of #[I Oa (GG (KG xs xs.length)),I X 0])/\Below w w W':=by
 have h1:1<=n:=zO;unfold maxLen at hm;refine callsIn_of_wp_marks func202 rfl trivial ?_ rfl;simp only[ntmps202,List.size_toArray,List.length_cons,List.length_nil,Nat.reduceAdd,Nat.reduceSub,Array.replicate_succ,Array.replicate_zero,List.push_toArray,List.append_toArray,List.nil_append,List.cons_append]
 gi_wp2_with (refine⟨trivial,?_⟩;gi_at_call 207;refine(qfJ (n-1) _ _ _ _).mono ?_;rintro e w' ⟨rfl,rfl⟩)
 have bS:=Boxed.new w 29 (I Oa 0);have bN:=Boxed.new (w.alloc (Ob #[I Oa 0] 29)) 26 (O (M ⟨b,off+at_,Z⟩) many (c-at_));rw[World.size_alloc]at bN;have hB0:Below w w ((w.alloc (Ob #[I Oa 0] 29)).alloc (Ob #[O (b,off+at_) many (c-at_)] 26)):=((Below.refl _ w).alloc (zM _) _).alloc zA3 _;have hS8:S8 ((w.alloc (Ob #[I Oa 0] 29)).alloc (Ob #[O (b,off+at_) many (c-at_)] 26)) (↑w+1) b (O (b,off+at_) many (c-at_)) xs:=by refine⟨bN.cell,.inr ⟨off+at_,c-at_,by rw[hx],λj u hu=>(hB0.cell (p:=⟨b,off+at_+j,Z⟩) hb).trans (hS j u hu)⟩⟩
 refine wpIn_rangeFunc_ownG rfl h1 (gf:=208) (lb:=#[Oe (M ⟨w.heap.size+1,0,Z⟩)]) rfl trivial (enters_of func208 zQ rfl)
  (qgZ (n-1) zO (w.heap.size+1) b _ xs zO _ zA3 zA2 hS8) Qw.t (Qw.b zA3 zA2) (Below.refl _ _) (λ_=>rfl)
  (λpre W=>(W.cell? ⟨w.heap.size,0,Z⟩=M (I Oa (GG pre))/\W.frozen? ⟨w.heap.size,0,Z⟩=Od)/\Below w.heap.size w W)
  (λ_ _ _=>False)
  (OwnFrom.and (Own.from (λs A B row hs hg hr=>⟨cell_kept hs.1 hg hr,(frozen_kept hs.1 hg hr).trans hs.2⟩) _) (ownFrom_below (zM _) zA2))
  (λ_ _ _ _ _ hs _ _=>hs)
  ⟨⟨(bS.alloc _).cell,(bS.alloc _).frozen⟩,hB0⟩
  (λx=>{tmps:=#[O (M ⟨b,off,Z⟩) m c,I X at_,I X many,undef,undef,undef,Oe (M ⟨w.heap.size,0,Z⟩),I X 0,undef,bv x.2,I X at_,.bool (decide ((at_:Int)<0)),.bool (decide ((at_:Int)<0)),I X at_,
   O (M ⟨b,off,Z⟩) m c,I X m,I X many,I X ((m:Int)-many),.bool (decide ((m:Int)-many<at_)),.bool (decide ((at_:Int)<0)||decide ((m:Int)-many<at_)),O (M ⟨b,off,Z⟩) m c,I X at_,I X at_,I X many,I X ((at_:Int)+many),
   O (M ⟨b,off+at_,Z⟩) many (c-at_),.func (.func 208) #[] #[Oe (M ⟨w.heap.size+1,0,Z⟩)],I X (x.1:Int),bv x.2,undef,undef,undef,undef,undef,undef],defers:=[]}) ?assign ?body ?done ?stop
 case assign=>
  intro l x W K hK
  gi_wp2
  exact hK
 case body=>
  rintro l pre x W ⟨⟨hc,hf⟩,hB⟩ _
  gi_wp2
  exact⟨(KeepsOthers.setCell _ _ _).from _,Qw.set _ _ _ zA3 zA2,⟨by rw[qeU];exact World.cell?_setCell_same' _ _ _ (by rw[hc];rfl),by rw[World.frozen?_setCell];exact hf⟩,hB.setCell (p:=⟨w.heap.size,0,Z⟩) (zM _) _⟩
 case done=>
  rintro D ys W hD rfl ⟨⟨hc,hf⟩,hB⟩ hK
  gi_wp2
  have hDD:D≠w:=by simp at hD;omega
  refine⟨zA3,.inl ⟨_,_,rfl,run_takeDeferred ((zJ W _ _ D hDD).trans hK),?_⟩⟩;have hW2:(W.setCell w (I Oa (GG (KG xs many)))).heap[D]?=M (Obj.deferred (M [])):=(zJ W _ _ D hDD).trans hK;have hr:((W.setCell w (I Oa (GG (KG xs many)))).putObj D (Obj.deferred Z)).cell? w=M (I Oa (GG (KG xs many))):=
   (World.cell?_of_block (w:=W.setCell ⟨w.heap.size,0,Z⟩ (I Oa (GG (KG xs many)))) (World.putObj_heap_other (Ne.symm hDD))).trans (World.cell?_setCell_same' _ _ _ (by rw[hc];rfl))
  have dC:Below w w ((W.setCell w (I Oa (GG (KG xs many)))).putObj D (Obj.deferred Z)):=
   (hB.setCell (p:=⟨w.heap.size,0,Z⟩) (zM _) _).trans (belowK_b (w:=w) (zM _) _ D _ _ (by simp at hD;omega) hW2 rfl rfl)
  rw[hx];refine⟨Of #[I Oa (GG (KG xs many)),I X 0],?_,rfl,dC⟩;simp[results,results202,hr,go_sem]
 case stop=>rintro D c pre W _ _ h _;exact h.elim
def ZH(l:List UInt8)(a k:Nat):Int:=if a+k<=l.length then(vy ((l.drop a).take k):Int)else 0
def UU(l:List UInt8)(a k:Nat):Int:=if a+k<=l.length then 0 else 8
theorem qkT(v:U)(l:List UInt8)(at_ many:Nat)(h0:0<many)(h4:many<=4)(ha:at_<1000)(w:E)(h:Bys w w v l):Calls prog 202 #[v,(at_:Int),(many:Int)] w (Ret (Of #[I Oa (ZH l at_ many),I X (UU l at_ many)]) w):=by
 obtain⟨A,c,rfl,hc,hm,hr⟩:=h;by_cases hin:at_+many<=l.length;obtain⟨b,off,rfl,hb,aF⟩:=hr.2 zO;have hlen:((l.drop at_).take many).length=many:=zA2;have e:=numU_all ((l.drop at_).take many) zO;refine(callsIn_wide (n:=3)).1 ?_;refine(get_in 3 zO b off l.length c at_ many ((l.drop at_).take many) hlen h0 h4 hin hc hm w hb ?_).mono λe' w' h=>?_;intro j u hj;rw[List.getElem?_map,List.getElem?_take]at hj;split at hj;rw[List.getElem?_drop]at hj;have:=aF (at_+j) u (by rw[List.getElem?_map];exact hj)
 rwa [<-Nat.add_assoc]at this
 cases hj;rw[e]at h;simp only[ZH,UU,if_pos hin];exact h;go_enter func202,ntmps202;unfold maxLen at hm;simp only[ZH,UU,if_neg hin];go_wp2;refine bodyPost_ret (v:=Of #[I Oa 0,I X 8]) (by simp[results,results202,go_sem]) rfl ⟨rfl,zA5⟩
end Go.Proofs.YtmeadnlmepcmbaaGreat
namespace Go.Proofs.YtmeadnlmepcmbaaGreat
open Go.RowKit
variable {w w':World}{p:Addr}{v:Value}{B m c base n s i:Nat}{l:List UInt8}{ty:TypeId}
def Ext(w w':E):Prop:=Below w w w'
theorem Ext.refl(w:E):Ext w w:=Below.refl _ _
theorem Ext.trans{a b c:E}(h:Ext a b)(k:Ext b c):Ext a c:=Below.trans h (Below.mono k h.size)
theorem zN(w:E)(o:Obj):Ext w (w.alloc o):=(Below.refl _ _).alloc (zM _) o
theorem Ext.drew(w:E):Ext w w.drew:=(Below.refl _ _).drew
theorem Ext.cell(h:Ext w w')(hc:w.cell? p=v):w'.cell? p=v:=(Below.cell h (World.block_lt_of_cell? w p hc)).trans hc
structure Qb where
 α:Type
 f:α->U
 φ:α->E->Prop
def one(v:U):Qb:=⟨Unit,λ_=>v,λ_ _=>True⟩
def za(φ:E->Prop):Prop:=∀W W',Ext W W'->φ W->φ W'
abbrev qN:=Nat->E->Prop
def qO(o:Oper):List Nat:=(o.after.toList.filter (Region.binds .any)).map (·.on)
def upd(F:qN)(i:Nat)(o:Oper)(φ:E->Prop):qN:=λk=>if k=i then(λW=>φ W/\∀j∈qO o,F j W)else F k
section
variable {P:Program} {ops:Array Oper} {w0:World}
def Te(P:Program)(W:E)(h:Qb):Result Next->Prop
 |.ok (.value u) w'=>∃p,u=h.f p/\h.φ p w'/\Ext W w'
 |.ok (.enter f args) w'=>Ext W w'/\Calls P f args w' λe w''=>∃p,e=Oc (h.f p)/\h.φ p w''/\Ext w' w''
 |_=>False
def vG(P:Program)(o:Oper)(a:Act)(W:E)(h:Qb):Prop:=Te P W h ((execOp a.eval o).run P W)
def qbX(P:Program)(o:Oper)(a:Act)(W:E)(v:U):Prop:=∃w',(execOp a.eval o).run P W=.ok (.value v) w'/\Ext W w'
def Ye(P:Program)(ops:Array Oper)(w0:E)(H:Nat->Option Qb)(i:Nat)(o:Oper)(a:Act)(F:qN)(h:Qb):Prop:=
 (Region.wanted o (yielded ops a.tmps)=Od/\h=one undef) \/
 (Region.wanted o (yielded ops a.tmps)=Y/\H i=Z/\∃v,h=one v/\∀W,Ext w0 W->(∀k∈qO o,F k W)->qbX P o a W v) \/
 (Region.wanted o (yielded ops a.tmps)=Y/\H i=h/\∀W,Ext w0 W->(∀k∈qO o,F k W)->vG P o a W h)
def Cons(w0:E)(F:qN):Prop:=∃W,Ext w0 W/\∀k,F k W
def FOp(P:Program)(ops:Array Oper)(w0:E)(H:Nat->Option Qb)(i:Nat)(o:Oper)(K:Act->qN->Prop)(a:Act)(F:qN):Prop:=
 ∃h,Ye P ops w0 H i o a F h/\∀p,Cons w0 (upd F i o (h.φ p))->K (a.put o.dst (h.f p)) (upd F i o (h.φ p))
def Yo(P:Program)(ops:Array Oper)(w0:E)(H:Nat->Option Qb)(Q:Act->qN->Prop):List Oper->Nat->Act->qN->Prop
 |[],_,a,F=>Q a F
 |o::rest,k,a,F=>FOp P ops w0 H k o (λa' F'=>Yo P ops w0 H Q rest (k+1) a' F') a F
def qdF(P:Program)(ops:Array Oper)(w0:E)(H:Nat->Option Qb)(L:Array Bool)(Q:Act->qN->Prop):Nat->Array Bool->Act->qN->Prop
 |0,listed,a,F=>listed=L/\Q a F
 |fuel+1,listed,a,F=>Region.ready .any ops listed≠[]/\∀i∈Region.ready .any ops listed,∀o,ops[i]?=M o->FOp P ops w0 H i o (qdF P ops w0 H L Q fuel (listed.setIfInBounds i Y)) a F
theorem Qb.same{h h':Qb}(e:h=h'):h=h':=e
theorem Ye.unique{H:Nat->Option Qb}{i:Nat}{o:Oper}{a:Act}{F:qN}{h h':Qb}(hc:Cons w0 F)(x:Ye P ops w0 H i o a F h)(y:Ye P ops w0 H i o a F h'):h=h':=by
 obtain⟨W,hW,hF⟩:=hc;rcases x with⟨x1,rfl⟩|⟨x1,x2,v,rfl,x3⟩|⟨x1,x2,x3⟩<;>rcases y with⟨y1,rfl⟩|⟨y1,y2,u,rfl,y3⟩|⟨y1,y2,y3⟩
 rfl;rw[x1]at y1;cases y1;rw[x1]at y1;cases y1;rw[x1]at y1;cases y1;obtain⟨w1,e1,_⟩:=x3 W hW λk _=>hF k;obtain⟨w2,e2,_⟩:=y3 W hW λk _=>hF k;rw[e1]at e2;cases e2;rfl;rw[x2]at y2;cases y2;rw[x1]at y1;cases y1;rw[x2]at y2;cases y2;rw[x2]at y2;cases y2;rfl
theorem Ye.some_{H:Nat->Option Qb}{i:Nat}{o:Oper}{a:Act}{F:qN}{h:Qb}(hc:Cons w0 F)(aJ:∀k,za (F k))(x:Ye P ops w0 H i o a F h):∃p,Cons w0 (upd F i o (h.φ p)):=by
 obtain⟨W,hW,hF⟩:=hc;have triv:∀(φ:E->Prop)W',Ext W W'->φ W'->Cons w0 (upd F i o φ):=λφ W' he hφ=>⟨W',hW.trans he,λk=>by
  unfold upd;split;exact⟨hφ,λj _=>aJ j _ _ he (hF j)⟩
  ·exact aJ k _ _ he (hF k)⟩
 rcases x with⟨x1,rfl⟩|⟨x1,x2,v,rfl,x3⟩|⟨x1,x2,x3⟩
 exact⟨(),triv _ W (Ext.refl W) trivial⟩;exact⟨(),triv _ W (Ext.refl W) trivial⟩;have h3:=x3 W hW λk _=>hF k;unfold vG at h3;generalize(execOp a.eval o).run P W=r at h3;cases r with
 |ok n w'=>
  cases n<;>simp only[Te]at h3
  case value u=>obtain⟨p,_,hp,he⟩:=h3;exact⟨p,triv _ w' he hp⟩
  case enter f args=>obtain⟨he,az⟩:=h3;obtain⟨e,w'',fr,⟨p,_,hp,iW⟩,_⟩:=az [];exact⟨p,triv _ w'' (he.trans iW) hp⟩
 |halt x w'=>simp only[Te]at h3
theorem Ye.move{H:Nat->Option Qb}{i j:Nat}{oi oj:Oper}{a:Act}{F:qN}{h:Qb}{v:U}{φ:E->Prop}(dW:oi.apart ops oj=Y)(pF:∀cs b,oj.op≠.select cs b)(hn:i∉qO oj):Ye P ops w0 H j oj (a.put oi.dst v) (upd F i oi φ) h↔Ye P ops w0 H j oj a F h:=by
 obtain⟨h1,_,_⟩:=Oper.apart_spec dW;have hF:∀W,(∀k∈qO oj,upd F i oi φ k W)↔∀k∈qO oj,F k W:=λW=>by constructor<;>intro hh k hk;have:=hh k hk;unfold upd at this;rwa [if_neg (λe=>hn (by rw[<-e];exact hk))]at this;unfold upd;rw[if_neg (λe=>hn (by rw[<-e];exact hk))];exact hh k hk
 unfold Ye qbX vG;rw[wanted_put oj a oi.dst v h1,execOp_put oj pF a oi.dst v h1];simp only[hF]
theorem Ye.move'{H:Nat->Option Qb}{i j:Nat}{oi oj:Oper}{a:Act}{F:qN}{h:Qb}{v:U}{φ:E->Prop}(dW:oi.apart ops oj=Y)(uH:∀cs b,oi.op≠.select cs b)(hn:j∉qO oi):Ye P ops w0 H i oi (a.put oj.dst v) (upd F j oj φ) h↔Ye P ops w0 H i oi a F h:=by
 obtain⟨_,_,h3⟩:=Oper.apart_spec dW;have hF:∀W,(∀k∈qO oi,upd F j oj φ k W)↔∀k∈qO oi,F k W:=λW=>by constructor<;>intro hh k hk;have:=hh k hk;unfold upd at this;rwa [if_neg (λe=>hn (by rw[<-e];exact hk))]at this;unfold upd;rw[if_neg (λe=>hn (by rw[<-e];exact hk))];exact hh k hk
 unfold Ye qbX vG;rw[wanted_put oi a oj.dst v h3,execOp_put oi uH a oj.dst v h3];simp only[hF]
theorem VX(F:qN){i j:Nat}{oi oj:Oper}(φ ψ:E->Prop)(aH:i≠j)(h1:i∉qO oj)(h2:j∉qO oi):upd (upd F i oi φ) j oj ψ=upd (upd F j oj ψ) i oi φ:=by funext k;unfold upd;by_cases hj:k=j;subst hj;rw[if_pos rfl,if_neg (Ne.symm aH),if_pos rfl];funext W;congr 1;apply propext;constructor<;>intro hh l hl;have:=hh l hl;rwa [if_neg (λe=>h1 (by rw[<-e];exact hl))]at this;rw[if_neg (λe=>h1 (by rw[<-e];exact hl))];exact hh l hl;rw[if_neg hj];by_cases hi:k=i;subst hi;rw[if_pos rfl,if_pos rfl];funext W;congr 1;apply propext;constructor<;>intro hh l hl;rw[if_neg (λe=>h2 (by rw[<-e];exact hl))];exact hh l hl;have:=hh l hl;rwa [if_neg (λe=>h2 (by rw[<-e];exact hl))]at this;rw[if_neg hi,if_neg hi,if_neg hj]
theorem Gb{F:qN}(aJ:∀k,za (F k))(i:Nat)(o:Oper){φ:E->Prop}(hφ:za φ):∀k,za (upd F i o φ k):=by
 intro k;unfold upd;split;exact λW W' he ⟨h1,h2⟩=>⟨hφ W W' he h1,λj hj=>aJ j W W' he (h2 j hj)⟩
 exact aJ k
theorem Ye.stable{H:Nat->Option Qb}(hH:∀i h,H i=M h->∀p,za (h.φ p)){i:Nat}{o:Oper}{a:Act}{F:qN}{h:Qb}(x:Ye P ops w0 H i o a F h):∀p,za (h.φ p):=by
 rcases x with⟨_,rfl⟩|⟨_,_,v,rfl,_⟩|⟨_,x2,_⟩
 exact λ_ _ _ _ _=>trivial;exact λ_ _ _ _ _=>trivial;exact hH i h x2
theorem qgE{H:Nat->Option Qb}(hH:∀i h,H i=M h->∀p,za (h.φ p)){m:Nat}{L:Array Bool}(hL:∀j,L.getD j Y=Od->m<=j){Q:Act->qN->Prop}{i:Nat}{oi:Oper}(hi:ops[i]?=oi)(him:i<m)(iD:∀(j:Nat)(o:Oper)cs b,ops[j]?=o->o.op≠.select cs b)(bJ:∀(j:Nat)(o:Oper),ops[j]?=o->m<=j->∀k,k<m->k∈qO o):∀(fuel:Nat)(listed:Array Bool)(a:Act)(F:qN), (∀j oj,ops[j]?=M oj->j≠i->listed.getD j Y=Od->(∀e∈oj.after,Region.binds .any e=Y->e.on≠i)->oi.apart ops oj=Y) ->
   i∈Region.ready .any ops listed->(∀k,za (F k))->Cons w0 F->(∀k,listed.getD k Y=Od->∀W,F k W) ->
   FOp P ops w0 H i oi (qdF P ops w0 H L Q fuel (listed.setIfInBounds i Y)) a F->qdF P ops w0 H L Q (fuel+1) listed a F:=by
 intro fuel;induction fuel with
 |zero=>
  intro listed a F _ hr aJ hc _ dw;refine⟨λh=>(by rw[h]at hr;cases hr),λj hj oj dD=>?_⟩;by_cases hji:j=i;subst hji;rw[hi]at dD;cases dD;exact dw;exfalso;obtain⟨h,hok,hK⟩:=dw;obtain⟨p,dU⟩:=hok.some_ hc aJ;have hmj:m<=j:=hL j (by rw[<-(hK p dU).1];exact(mem_ready.1 (ready_mono hj hji)).1);obtain⟨_,o',rE,aW⟩:=mem_ready.1 hj;rw[dD]at rE;cases rE;have hin:=bJ j oj dD hmj i him;obtain⟨e,he,nJ⟩:=List.mem_map.1 hin;rw[List.mem_filter]at he;have h1:=aW e (by simpa using he.1) he.2;have h0:=(mem_ready.1 hr).1;rw[nJ]at h1;rcases Nat.lt_or_ge i listed.size with h'|h'
  simp[h']at h0 h1;rw[h0]at h1;cases h1;simp[Array.getElem?_eq_none h']at h1
 |succ fuel ih=>
  intro listed a F dF hr aJ hc eU dw;refine⟨λh=>(by rw[h]at hr;cases hr),λj hj oj dD=>?_⟩;by_cases hji:j=i;subst hji;rw[hi]at dD;cases dD;exact dw;obtain⟨bK,oj',iL,aW⟩:=mem_ready.1 hj;rw[dD]at iL;cases iL;obtain⟨iY,oi',lJ,gZ⟩:=mem_ready.1 hr;rw[hi]at lJ;cases lJ;have bad:∀k,listed.getD k Y=Od->listed.getD k Od=Y->False:=λk h0 h1=>by
   rcases Nat.lt_or_ge k listed.size with h'|h'
   simp[h']at h0 h1;rw[h0]at h1;cases h1;simp[Array.getElem?_eq_none h']at h1
  have lH:∀e∈oj.after,Region.binds .any e=Y->e.on≠i:=λe he hb nK=>bad i iY (nK▸aW e he hb);have lI:∀e∈oi.after,Region.binds .any e=Y->e.on≠j:=λe he hb nK=>bad j bK (nK▸gZ e he hb);have eF:i∉qO oj:=λhin=>by obtain⟨e,he,nJ⟩:=List.mem_map.1 hin;rw[List.mem_filter]at he;exact lH e (by simpa using he.1) he.2 nJ
  have rG:j∉qO oi:=λhin=>by obtain⟨e,he,nJ⟩:=List.mem_map.1 hin;rw[List.mem_filter]at he;exact lI e (by simpa using he.1) he.2 nJ
  have dW:=dF j oj dD hji bK lH;have uH:∀cs b,oi.op≠.select cs b:=λcs b=>iD i oi cs b hi;have pF:∀cs b,oj.op≠.select cs b:=λcs b=>iD j oj cs b dD;obtain⟨h2,_⟩:=(Oper.apart_spec dW).2;obtain⟨hI,okI,yg⟩:=dw;obtain⟨p0,pO⟩:=okI.some_ hc aJ;obtain⟨hJ,okJ0,_⟩:=(yg p0 pO).2 j (ready_mono hj hji) oj dD;have okJ:Ye P ops w0 H j oj a F hJ:=(Ye.move dW pF eF).1 okJ0;refine⟨hJ,okJ,λq hcq=>?_⟩;have stJ:=okJ.stable hH q;have fE:∀k ok,ops[k]?=M ok->k≠i->(listed.setIfInBounds j Y).getD k Y=Od ->
    (∀e∈ok.after,Region.binds .any e=Y->e.on≠i)->oi.apart ops ok=Y:=λk ok hk eX lT aj=>by
   refine dF k ok hk eX ?_ aj;by_cases hjk:j=k;subst hjk;exact bK;rw[getD_set_ne Y hjk]at lT;exact lT
  refine ih (listed.setIfInBounds j Y) _ _ fE (ready_mono hr (Ne.symm hji)) (Gb aJ j oj stJ) hcq ?_ ?_;intro k hk W;by_cases hjk:j=k;subst hjk;exfalso;have hlt:j<listed.size:=by
   rcases Nat.lt_or_ge j listed.size with h'|h'
   exact h';simp[Array.getElem?_eq_none h']at bK
  simp[hlt]at hk;rw[getD_set_ne Y hjk]at hk;have:=eU k hk W;unfold upd;rw[if_neg (λe=>hjk e.symm)];exact this;refine⟨hI,(Ye.move' dW uH rG).2 okI,λp dU=>?_⟩;have tH:Cons w0 (upd F i oi (hI.φ p)):=by
   obtain⟨W,hW,hF⟩:=dU;refine⟨W,hW,λk=>?_⟩;have hk:=hF k;by_cases eX:k=i;subst eX;unfold upd at hk⊢;rw[if_pos rfl]at hk⊢;refine⟨hk.1,λl hl=>?_⟩;have:=hk.2 l hl
   rwa [if_neg (λe=>rG (by rw[<-e];exact hl))]at this
   by_cases hkj:k=j;subst hkj;unfold upd;rw[if_neg eX];exact eU k bK W;unfold upd at hk⊢;rw[if_neg eX,if_neg hkj]at hk;rw[if_neg eX];exact hk
  obtain⟨xH,okJ',sU⟩:=(yg p tH).2 j (ready_mono hj hji) oj dD;have okJ'':Ye P ops w0 H j oj a F xH:=(Ye.move dW pF eF).1 okJ';have e:=okJ''.unique hc okJ;subst e;have hq:=sU q (by rw[VX F _ _ (Ne.symm hji) eF rG];exact dU);rw[Array.setIfInBounds_comm _ _ (λe=>hji e.symm),Act.put_comm a (hI.f p) (xH.f q) h2,VX F _ _ (Ne.symm hji) eF rG]at hq;exact hq
def GA(ops:Array Oper)(L:Array Bool):Nat->Nat->Array Bool->Bool
 |0,_,listed=>listed==L
 |fuel+1,k,listed=>(Region.ready .any ops listed).contains k&&Region.free .any ops listed k&&GA ops L fuel (k+1) (listed.setIfInBounds k Y)
def tailB(ops:Array Oper)(m:Nat):Bool:=(List.range ops.size).all λj=>decide (j<m)||(List.range m).all λk=>(match ops[j]? with|some o=>(qO o).contains k|none=>Y)
def QW(n m:Nat):Array Bool:=((List.range n).map λj=>decide (j<m)).toArray
theorem qdY{n m:Nat}:∀j,(QW n m).getD j Y=Od->m<=j:=by
 intro j h;unfold QW at h;rcases Nat.lt_or_ge j n with h'|h'
 simp[h']at h;exact h;simp[h']at h
theorem qkr{m:Nat}(h:tailB ops m=Y):∀(j:Nat)(o:Oper),ops[j]?=o->m<=j->∀k,k<m->k∈qO o:=by
 intro j o ho hm k hk;have h1:=List.all_eq_true.1 h j (List.mem_range.2 (zG.1 ho).1);rw[Bool.or_eq_true]at h1;rcases h1 with h1|h1
 simp at h1;omega;have h2:=List.all_eq_true.1 h1 k (List.mem_range.2 hk);rw[ho]at h2;simpa using h2
theorem qdG{H:Nat->Option Qb}(hH:∀i h,H i=M h->∀p,za (h.φ p)){m:Nat}{L:Array Bool}(hL:∀j,L.getD j Y=Od->m<=j){Q:Act->qN->Prop}(hs:Region.noSelect ops=Y)(bJ:∀(j:Nat)(o:Oper),ops[j]?=o->m<=j->∀k,k<m->k∈qO o):∀(l:List Oper)(k:Nat)(listed:Array Bool)(a:Act)(F:qN),k+l.length=m->(∀j,j<l.length->l[j]?=ops[k+j]?) ->
  GA ops L l.length k listed=Y->(∀k,za (F k))->Cons w0 F->(∀j,k<=j->∀W,F j W)->(∀j,listed.getD j Y=Od->k<=j)->Yo P ops w0 H Q l k a F->qdF P ops w0 H L Q l.length listed a F
 |[],k,listed,a,F,hm,_,hB,_,_,_,_,h=>⟨by simpa [GA]using hB,h⟩
 |o::l,k,listed,a,F,hm,hl,hB,aJ,hc,eU,hlk,h=>by
  have h0:ops[k]?=o:=by simpa using(hl 0 zA3).symm
  simp only[List.length_cons,GA,Bool.and_eq_true]at hB;obtain⟨⟨hr,hf⟩,mi⟩:=hB;have wV:k∈Region.ready .any ops listed:=by simpa using hr
  have pV:=(mem_ready.1 wV).1;refine qgE hH hL h0 (by simp at hm;omega) (Region.noSelect_spec hs) bJ l.length listed a F (Region.free_spec h0 hf) wV aJ hc (λj hj W=>eU j (hlk j hj) W) ?_;obtain⟨hh,hok,hK⟩:=h;refine⟨hh,hok,λp dU=>?_⟩;refine qdG hH hL hs bJ l (k+1) _ _ _ (by simp at hm;omega) (λj hj=>by have:=hl (j+1) (by simpa using hj);simpa [Nat.add_assoc,Nat.add_comm 1 j]using this) mi (Gb aJ k o (hok.stable hH p)) dU
   (λj hj W=>by unfold upd;rw[if_neg zO];exact eU j zO W) (λj hj=>?_) (hK p dU)
  by_cases hjk:k=j;subst hjk;have hlt:k<listed.size:=by
   rcases Nat.lt_or_ge k listed.size with h'|h'
   exact h';simp[Array.getElem?_eq_none h']at pV
  simp[hlt]at hj;rw[getD_set_ne Y hjk]at hj;have:=hlk j hj;omega
theorem qgG{H:Nat->Option Qb}{i:Nat}{o:Oper}{a:Act}{F:qN}{K:Act->qN->Prop}{K':Act->E->Prop}{Q':Exit->Act->E->Prop}{W:E}(hi:ops[i]?=o)(hH:∀i h,H i=M h->∀p,za (h.φ p))(aJ:∀k,za (F k))(hW:Ext w0 W)(hF:∀k,F k W)(hK:∀a' F' W',K a' F'->(∀k,za (F' k))->Ext w0 W'->(∀k,F' k W')->K' a' W')(h:FOp P ops w0 H i o K a F):wpOp P ops Q' i K' a W:=by
 obtain⟨hh,hok,hn⟩:=h;have go:∀p W',Ext W W'->hh.φ p W'->K' (a.put o.dst (hh.f p)) W':=λp W' he hφ=>by
  have nC:∀k,upd F i o (hh.φ p) k W':=λk=>by unfold upd;split;exact⟨hφ,λj _=>aJ j _ _ he (hF j)⟩;exact aJ k _ _ he (hF k)
  exact hK _ _ W' (hn p ⟨W',hW.trans he,nC⟩) (Gb aJ i o (hok.stable hH p)) (hW.trans he) nC
 unfold wpOp;simp only[hi];rcases hok with⟨x1,rfl⟩|⟨x1,x2,v,rfl,x3⟩|⟨x1,x2,x3⟩
 simp only[x1,Bool.false_eq_true,if_false];exact go () W (Ext.refl W) trivial;simp only[x1,if_true];obtain⟨w',hr,he⟩:=x3 W hW λk _=>hF k;refine .inl ?_;unfold Oper.wp;rw[hr];exact go () w' he trivial;simp only[x1,if_true];have h3:=x3 W hW λk _=>hF k;refine .inl ?_;unfold vG at h3;unfold Oper.wp;generalize(execOp a.eval o).run P W=r at*;cases r with
 |ok n w'=>
  cases n<;>simp only[Te]at h3<;>simp only[Oper.upon]
  case value u=>obtain⟨p,rfl,hp,he⟩:=h3;exact go p w' he hp
  case enter f args=>obtain⟨he,az⟩:=h3;refine az.mono λe w'' ⟨p,he1,hp,iW⟩=>?_;subst he1;exact go p w'' (he.trans iW) hp
 |halt x w'=>simp only[Te]at h3
theorem Uw{H:Nat->Option Qb}(hH:∀i h,H i=M h->∀p,za (h.φ p)){L:Array Bool}{t:Nat}{Q:Act->qN->Prop}{Q':Exit->Act->E->Prop}(hQ:∀a F W,Q a F->Ext w0 W->(∀k,F k W)->wpAny P .any ops Q' t L a W):∀(fuel:Nat)(listed:Array Bool)(a:Act)(F:qN)(W:E),(∀k,za (F k))->Ext w0 W->(∀k,F k W)->qdF P ops w0 H L Q fuel listed a F->wpAny P .any ops Q' (fuel+t) listed a W
 |0,listed,a,F,W,_,hW,hF,h=>by rw[h.1,Nat.zero_add];exact hQ a F W h.2 hW hF
 |fuel+1,listed,a,F,W,aJ,hW,hF,h=>by rw[show fuel+1+t=fuel+t+1 by omega];refine⟨λh0=>absurd h0 h.1,λi hi=>?_⟩;obtain⟨_,o,ho,_⟩:=mem_ready.1 hi;exact qgG ho hH aJ hW hF (λa' F' W' hk eQ bZ nC=>Uw hH hQ fuel _ a' F' W' eQ bZ nC hk) (h.2 i hi o ho)
def qaa(ops:Array Oper):Nat->Nat->Array Bool->Bool
 |0,_,listed=>(Region.ready .any ops listed).isEmpty
 |fuel+1,k,listed=>(Region.ready .any ops listed==[k])&&qaa ops fuel (k+1) (listed.setIfInBounds k Y)
theorem Kg{Q':Exit->Act->E->Prop}:∀(l:List Oper)(k:Nat)(listed:Array Bool)(a:Act)(W:E),(∀j,j<l.length->l[j]?=ops[k+j]?)->qaa ops l.length k listed=Y->wpList P ops Q' l a W->wpAny P .any ops Q' l.length listed a W
 |[],_,_,_,_,_,hB,h=>⟨by simpa [qaa]using hB,h⟩
 |o::l,k,listed,a,W,hl,hB,h=>by
  simp only[List.length_cons,qaa,Bool.and_eq_true]at hB;obtain⟨hr,mi⟩:=hB;have iq:Region.ready .any ops listed=[k]:=by simpa using hr
  have h0:ops[k]?=o:=by simpa using(hl 0 zA3).symm
  refine⟨λe=>(by rw[iq]at e;cases e),λi hi=>?_⟩;rw[iq]at hi;obtain rfl:i=k:=by simpa using hi
  have xJ:∀j,j<l.length->l[j]?=ops[i+1+j]?:=λj hj=>by have:=hl (j+1) (by simpa using hj);simpa [Nat.add_assoc,Nat.add_comm 1 j]using this
  refine wpOp_mono (λa w hw=>Kg l (i+1) _ a w xJ mi hw) ?_;unfold wpOp;simp only[h0];exact h
theorem zX{id:Nat}{l:List Oper}{Q:Exit->Act->E->Prop}{a:Act}{w:E}(H:Nat->Option Qb)(m:Nat)(hm:P.follows .mixedOrders=Y)(hs:Region.noSelect l.toArray=Y)(ht:tailB l.toArray m=Y)(yN:m<=l.length)(hB:GA l.toArray (QW l.length m) m 0 (Array.replicate l.length Od)=Y)(mD:qaa l.toArray (l.drop m).length m (QW l.length m)=Y)(hH:∀i h,H i=M h->∀p,za (h.φ p))(h:∀K:Act->qN->Prop,(∀a' F',(∀W,Ext w W->(∀k,F' k W)->wpList P l.toArray Q (l.drop m) a' W)->K a' F')->Yo P l.toArray w H K (l.take m) 0 a (λ_ _=>True)):(Code.region id l.toArray Y).wp P Q a w:=by
 have h:=h _ (λa' F' hh=>hh);refine wp_region_any hm ?_;have hlen:(l.take m).length=m:=by rw[List.length_take];omega
 have key:=qdG (w0:=w) hH (qdY (n:=l.length)) hs (qkr ht) (l.take m) 0 (Array.replicate l.length Od) a (λ_ _=>True) zO
  (λj hj=>by rw[hlen]at hj;rw[List.getElem?_take,if_pos hj];simp) (by rw[hlen];exact hB) (λ_ _ _ _ _=>trivial) ⟨w,Ext.refl w,λ_=>trivial⟩ (λ_ _ _=>trivial) (λ_ _=>Nat.zero_le _) h
 have:=Uw (w0:=w) hH (t:=l.length-m) (Q':=Q) (λa F W hq hW hF=>by have:=Kg (l.drop m) m _ a W (λj _=>by rw[List.getElem?_drop];simp) mD (hq W hW hF);rwa [List.length_drop]at this) _ _ _ _ w.drew (λ_ _ _ _ _=>trivial) (Ext.drew w) (λ_=>trivial) key;rw[hlen]at this;have e:m+(l.length-m)=l.length:=zO;rw[e]at this;simpa using this
def qP:List (Nat×Qb)->Nat->Option Qb
 |[],_=>Z
 |(i,h)::r,k=>if k=i then M h else qP r k
theorem Zc{l:List (Nat×Qb)}(h:∀x∈l,∀p,za (x.2.φ p)):∀i hh,qP l i=M hh->∀p,za (hh.φ p):=by
 induction l with
 |nil=>intro i hh e;cases e
 |cons x r ih=>
  intro i hh e;obtain⟨j,o⟩:=x;simp only[qP]at e;split at e;cases e;exact h (j,_) (List.mem_cons_self);exact ih (λy hy=>h y (List.mem_cons_of_mem _ hy)) i hh e
def XL(lo n:Nat)(l:List UInt8):Qb:=⟨OA×Nat,λp=>O p.1 n p.2,λp W=>Bys W W (O p.1 n p.2) l/\ZK lo (O p.1 n p.2)⟩
theorem qf(lo n:Nat)(l:List UInt8)(A c):(XL lo n l).f (A,c)=O A n c:=rfl
theorem ql(v:U)(u:Unit):(one v).f u=v:=rfl
theorem Jt(lo n:Nat)(l:List UInt8):∀p,za ((XL lo n l).φ p):=λp W W' he h=>⟨(Bys.below h.1 he).more he.size,h.2⟩
theorem Tn{base lo n:Nat}{ty:TypeId}{l:List UInt8}{w:E}{e:Ending}{w':E}(h:zZ (λv w'=>w'.ownsRow base ty 1 v n (l.map bv)) w e w')(aQ:lo<=base):∃p,e=Oc ((XL lo n l).f p)/\(XL lo n l).φ p w'/\Ext w w':=by
 obtain⟨v,rfl,aB,hB⟩:=h;have hn:l.length=n:=by have:=aB.1;simpa using this
 subst hn;have hf:=(ZK.of_own aB).mono aQ;obtain⟨A,c,e,hc,hm,hr⟩:=Bys.of_own aB;subst e;exact⟨(A,c),rfl,⟨⟨A,c,rfl,hc,hm,hr⟩,hf⟩,hB⟩
def Ju(lo:Nat)(ty:TypeId)(cs:Array U):Qb:=⟨Nat,λb=>Oe b,λb W=>W.heap[b]?=M (Ob cs ty)/\lo<=b⟩
theorem qc(lo:Nat)(ty:TypeId)(cs:Array U)(b:Nat):(Ju lo ty cs).f b=Oe b:=rfl
theorem jv(lo:Nat)(ty:TypeId)(cs:Array U):∀p,za ((Ju lo ty cs).φ p):=λp W W' he h=>
 ⟨(Below.block he p (zG.1 h.1).1).trans h.1,h.2⟩
def outI(k i o r:Int)(n:Nat)(l:List UInt8):Qb:=⟨OA×Nat,λp=>.agg #[I .u8 k,I Oa i,I Oa o,r,O p.1 n p.2],λp W=>Bys W W (O p.1 n p.2) l⟩
theorem qg(k i o r:Int)(n:Nat)(l:List UInt8)(A c):(outI k i o r n l).f (A,c)=.agg #[I .u8 k,I Oa i,I Oa o,r,O A n c]:=rfl
theorem qih(k i o r:Int)(n:Nat)(l:List UInt8):∀p,za ((outI k i o r n l).φ p):=λp W W' he h=>(Bys.below h he).more he.size
theorem ZM(v:U):∀p,za ((one v).φ p):=λ_ _ _ _ _=>trivial
theorem Ext.cells{w:E}:∀W,Ext w W->∀b o,b<w.heap.size->W.cell? ⟨b,o,Z⟩=w.cell? ⟨b,o,Z⟩:=λ_ h b o hb=>Below.cell h (p:=⟨b,o,Z⟩) hb
theorem zl{o:Oper}{a:Act}{W:E}{hh:Qb}{f:FuncId}{args:Array U}(hr:(execOp a.eval o).run P W=.ok (.enter f args) W)(hc:Calls P f args W λe w''=>∃p,e=Oc (hh.f p)/\hh.φ p w''/\Ext W w''):vG P o a W hh:=by unfold vG;rw[hr];exact⟨Ext.refl W,hc⟩
theorem qfS{o:Oper}{a:Act}{W w':E}{hh:Qb}{u:U}(hr:(execOp a.eval o).run P W=.ok (.value u) w')(hp:∃p,u=hh.f p/\hh.φ p w'/\Ext W w'):vG P o a W hh:=by unfold vG;rw[hr];exact hp
/-! ### the steps of the walk -/
section
variable {H:Nat->Option Qb} {Q:Act->qN->Prop} {k:Nat} {o:Oper} {rest:List Oper} {a:Act} {F:qN}
theorem ZB(h:Q a F):Yo P ops w0 H Q [] k a F:=h
theorem qX(v:U)(hw:Region.wanted o (yielded ops a.tmps)=Y)(hH:H k=Z)(hv:∀W,Ext w0 W->(∀j∈qO o,F j W)->qbX P o a W v)(h:Yo P ops w0 H Q rest (k+1) (a.put o.dst v) (upd F k o λ_=>True)):Yo P ops w0 H Q (o::rest) k a F:=
 ⟨one v,.inr (.inl ⟨hw,hH,v,rfl,hv⟩),λ_ _=>h⟩
theorem Qf(hw:Region.wanted o (yielded ops a.tmps)=Od)(h:Yo P ops w0 H Q rest (k+1) (a.put o.dst undef) (upd F k o λ_=>True)):Yo P ops w0 H Q (o::rest) k a F:=
 ⟨one undef,.inl ⟨hw,rfl⟩,λ_ _=>h⟩
theorem QM(hh:Qb)(hw:Region.wanted o (yielded ops a.tmps)=Y)(hH:H k=hh)(hv:∀W,Ext w0 W->(∀j∈qO o,F j W)->vG P o a W hh)(h:∀p,Yo P ops w0 H Q rest (k+1) (a.put o.dst (hh.f p)) (upd F k o (hh.φ p))):Yo P ops w0 H Q (o::rest) k a F:=
 ⟨hh,.inr (.inr ⟨hw,hH,hv⟩),λp _=>h p⟩
end
end
def Gk(a b:Int):Int:=if a<b then -1 else if b<a then 1 else 0
def orI(x y z:Int):Int:=if x≠0 then x else if y≠0 then y else z
def vJ(k i o k' i' o':Int):Bool:=decide (k<k'\/(k=k'/\(i<i'\/(i=i'/\o<o'))))
theorem qkK{a b:Int}(h:a<b):Gk a b=-1:=if_pos h
theorem qkJ{a b:Int}(h:b<a):Gk a b=1:=by unfold Gk;rw[if_neg zO,if_pos h]
theorem qkI{a b:Int}(h:b<=a)(h':a<=b):Gk a b=0:=by unfold Gk;rw[if_neg zO,if_neg zO]
theorem or_less(k i o k' i' o':Int):decide (orI (Gk k k') (Gk i i') (Gk o o')<0)=vJ k i o k' i' o':=by
 rw[Bool.eq_iff_iff];simp only[vJ,decide_eq_true_eq];unfold orI Gk
 repeat' split
 all_goals omega
abbrev Uh(k i o:Int):U:=.agg #[I .u8 k,I Oa i,I Oa o]
theorem qhV(x:Int)(w:E):Calls prog 152 #[I .u8 x] w (Ret (.bool Od) w):=by go_enter func152,ntmps152;go_wp2;go_ret;exact⟨VT zA3,zA5⟩
theorem qfO(x y:Int)(w:E):Calls prog 98 #[I .u8 x,I .u8 y] w (Ret (I X (Gk x y)) w):=by
 go_enter func98,ntmps98;go_wp2_with fail;refine(qhV x _).mono ?_;rintro e w1 ⟨rfl,hB⟩;go_wp2_with fail;refine(qhV y _).mono ?_;rintro e w2 ⟨rfl,dh⟩;have hb:=Below.trans hB (Below.mono dh hB.size);clear hB dh;go_wp2;all_goals go_ret
 all_goals refine⟨TT ?_,zA5⟩
 all_goals first|exact(qkK (by assumption)).symm|exact(qkJ (by assumption)).symm|exact(qkI (by assumption) (by assumption)).symm
theorem qeT(x:Int)(w:E):Calls prog 153 #[I Oa x] w (Ret (.bool Od) w):=by go_enter func153,ntmps153;go_wp2;go_ret;exact⟨VT zA3,zA5⟩
theorem Un(x y:Int)(w:E):Calls prog 99 #[I Oa x,I Oa y] w (Ret (I X (Gk x y)) w):=by
 go_enter func99,ntmps99;go_wp2_with fail;refine(qeT x _).mono ?_;rintro e w1 ⟨rfl,hB⟩;go_wp2_with fail;refine(qeT y _).mono ?_;rintro e w2 ⟨rfl,dh⟩;have hb:=Below.trans hB (Below.mono dh hB.size);clear hB dh;go_wp2;all_goals go_ret
 all_goals refine⟨TT ?_,zA5⟩
 all_goals first|exact(qkK (by assumption)).symm|exact(qkJ (by assumption)).symm|exact(qkI (by assumption) (by assumption)).symm
theorem or3_any(b:Nat)(t:TypeId)(x y z:Int)(w:E)(h:w.heap[b]?=M (Ob #[x,y,z] t)):Calls prog 97 #[O b 3 3] w (Ret (I X (orI x y z)) w):=by
 have kc:=qa h;clear h;go_enter func97,ntmps97;go_wp2_with fail;refine wp_loop_rounds 4 ?_;rw[rounds_succ];go_wp2;all_goals try (rw[rounds_succ];go_wp2)
 all_goals try (rw[rounds_succ];go_wp2)
 all_goals try (rw[rounds_succ];go_wp2)
 all_goals go_ret
 all_goals refine⟨TT ?_,zA5⟩
 all_goals simp only[bne_iff_ne,ne_eq,bne_eq_false_iff_eq]at*
 all_goals simp[orI, *]
def qgi(ty:TypeId)(cs:Array U):Qb:=⟨Unit×Nat,λp=>O p.2 cs.size cs.size,λp W=>W.heap[p.2]?=M (Ob cs ty)⟩
theorem Jv(ty:TypeId)(cs:Array U)(b:Nat):(qgi ty cs).f ((),b)=O b cs.size cs.size:=rfl
theorem qeb(ty:TypeId)(cs:Array U):∀p,za ((qgi ty cs).φ p):=λp W W' he h=>
 (Below.block he p.2 (zG.1 h).1).trans h
set_option maxRecDepth 100000 in
theorem VN(k i o k' i' o':Int)(w:E):Calls prog 45 #[Uh k i o,Uh k' i' o'] w (Ret (.bool (vJ k i o k' i' o')) w):=by
 rw[<-or_less];have H1:∀W,_:=λW=>qfO k k' W;have H2:∀W,_:=λW=>Un i i' W;have H3:∀W,_:=λW=>Un o o' W;generalize Gk k k'=c1' at*;generalize Gk i i'=c2' at*;generalize Gk o o'=c3' at*;have H4:∀b t W,_:=λb t W=>or3_any b t c1' c2' c3' W;generalize orI c1' c2' c3'=c4' at*;go_enter func45,ntmps45;go_wp2;generalize aA:(World.alloc (World.alloc _ _) _)=w1;have b1:Ext w w1:=by rw[<-aA];exact(zN _ _).trans (zN _ _)
 have hE:=Ext.cells (w:=w1);have hz:w1.heap.size=w+2:=by rw[<-aA];simp
 rw[hz]at hE;have c0:w1.cell? (w,0,0)=M (I .u8 k):=by rw[<-aA];simp[go_sem]
 have c1:w1.cell? (w,0,1)=M (I Oa i):=by rw[<-aA];simp[go_sem]
 have c2:w1.cell? (w,0,2)=M (I Oa o):=by rw[<-aA];simp[go_sem]
 have c3:w1.cell? (w,1,0)=M (I .u8 k'):=by rw[<-aA];simp[go_sem]
 have c4:w1.cell? (w,1,1)=M (I Oa i'):=by rw[<-aA];simp[go_sem]
 have c5:w1.cell? (w,1,2)=M (I Oa o'):=by rw[<-aA];simp[go_sem]
 simp only[Nat.add_zero]at c0 c1 c2;clear aA;refine zX (qP [(4,one (I X c1')),(9,one (I X c2')),(14,one (I X c3')),(15,qgi 3 #[I X c1',I X c2',I X c3']),(16,one (I X c4'))]) 18 zQ zQ zQ zA1 zQ zQ ?st ?walk
 case st=>exact Zc (by simp only[List.forall_mem_cons];exact⟨ZM _,ZM _,ZM _,qeb _ _,ZM _,λ_ h=>by cases h⟩)
 case walk=>
  intro K hK;dsimp only[List.take];refine zB0 ?_;refine QM (one (I X c1')) zA0 zA0 (λW hW _=>?_) (λp=>?_)
  ·refine zl ?_ ((H1 W).mono λe w' h=>⟨(),h.1,trivial,h.2⟩);go_simp
  cases p;refine zB0 ?_;refine QM (one (I X c2')) zA0 zA0 (λW hW _=>?_) (λp=>?_)
  ·refine zl ?_ ((H2 W).mono λe w' h=>⟨(),h.1,trivial,h.2⟩);go_simp
  cases p;refine zB0 ?_;refine QM (one (I X c3')) zA0 zA0 (λW hW _=>?_) (λp=>?_)
  ·refine zl ?_ ((H3 W).mono λe w' h=>⟨(),h.1,trivial,h.2⟩);go_simp
  cases p;refine zB0 ?_;refine QM (qgi 3 #[I X c1',I X c2',I X c3']) zA0 zA0 (λW hW _=>?_) (λp=>?_)
  ·refine qfS (u:=O (M ⟨W.heap.size,0,Z⟩) 3 3) (w':=W.alloc (Ob #[I X c1',I X c2',I X c3'] 3)) ?_ ⟨((),W.heap.size),rfl,zI _ _ _ rfl,zN _ _⟩;go_simp
  obtain⟨⟨⟩,p⟩:=p;refine zB0 ?_;refine QM (one (I X c4')) zA0 zA0 (λW hW hp=>?_) (λq=>?_)
  ·have h0:W.heap[p]?=M (Obj.cells #[c1',c2',c3'] 3):=(hp 15 zA1).1;refine zl ?_ ((H4 p _ W h0).mono λe w' h=>⟨(),h.1,trivial,h.2⟩);go_simp
  cases q;refine zB0 ?_;refine ZB (hK _ _ λW hW hF=>?_);have hb:Below w w W:=Below.trans b1 (Below.mono hW zO);clear hE;dsimp only[List.drop];go_wp2;go_ret;exact⟨rfl,zA5⟩
theorem Tj(l:List UInt8)(a k:Nat)(hk:k<=4):0<=ZH l a k/\ZH l a k<4294967296:=by unfold ZH;split;have h:=qcZ ((l.drop a).take k);have hl:((l.drop a).take k).length<=4:=zA2;have hp:256^((l.drop a).take k).length<=256^4:=Nat.pow_le_pow_right zO hl;omega;omega
theorem qcz(v:U)(l:List UInt8)(at_:Nat)(ha:at_<1000)(w:E)(h:Bys w w v l):Calls prog 192 #[v,(at_:Int)] w (Ret (Of #[I X (ZH l at_ 2),I X (UU l at_ 2)]) w):=by have hb:=Tj l at_ 2 zO;have H:∀W,Ext w W->_:=λW hW=>qkT v l at_ 2 zO zO ha W ((h.below hW).more hW.size);generalize ZH l at_ 2=x at*;generalize UU l at_ 2=y at*;go_enter func192,ntmps192;go_wp2_with fail;refine(H _ (Ext.refl _)).mono ?_;rintro e w1 ⟨rfl,hB⟩;go_wp2;refine bodyPost_ret (v:=Of #[I X x,I X y]) ?_ rfl ⟨rfl,zA5⟩;simp[results,results192,go_sem]
theorem KM(v:U)(l:List UInt8)(at_:Nat)(ha:at_<1000)(w:E)(h:Bys w w v l):Calls prog 193 #[v,(at_:Int)] w (Ret (Of #[I Oa (ZH l at_ 4),I X (UU l at_ 4)]) w):=by have hb:=Tj l at_ 4 zO;have H:∀W,Ext w W->_:=λW hW=>qkT v l at_ 4 zO zO ha W ((h.below hW).more hW.size);generalize ZH l at_ 4=x at*;generalize UU l at_ 4=y at*;go_enter func193,ntmps193;go_wp2_with fail;refine(H _ (Ext.refl _)).mono ?_;rintro e w1 ⟨rfl,hB⟩;go_wp2;refine bodyPost_ret (v:=Of #[I Oa x,I X y]) ?_ rfl ⟨rfl,zA5⟩;simp[results,results193,go_sem]
theorem Bys.sub{a k:Nat}{b off m c:Nat}(h:Bys w B (O (b,off) m c) l)(hk:a+k<=l.length):Bys w B (O (b,off+a) k (c-a)) ((l.drop a).take k):=by
 obtain⟨A,c',e,hc,hm,hr⟩:=h;cases e;have hl:((l.drop a).take k).length=k:=zA2;refine⟨_,_,by rw[hl],by rw[hl];omega,zO,zA3,λhn=>?_⟩;obtain⟨b',off',e,hb,aF⟩:=hr.2 zO;injection e with e;injection e with e1 e2
 subst e1;subst e2;refine⟨b,off+a,rfl,hb,λj u hu=>?_⟩;rw[List.getElem?_map,List.getElem?_take]at hu;split at hu;rw[List.getElem?_drop]at hu;have:=aF (a+j) u (by rw[List.getElem?_map];exact hu)
 rwa [<-Nat.add_assoc]at this
 cases hu
theorem Bys.at_{A:OA}(h:Bys w B (O A m c) l):m=l.length/\m<=c/\c<=maxLen/\(0<m->∃b off,A=M ⟨b,off,Z⟩/\b<B):=by obtain⟨A',c',e,hc,hm,hr⟩:=h;cases e;refine⟨rfl,hc,hm,λhn=>?_⟩;obtain⟨b,off,e,hb,_⟩:=hr.2 hn;exact⟨b,off,e,hb⟩
theorem Tryz.info_u8:(Tryz.prog.info? 5).map (λi=>(i.zero,i.size,i.bytes))=M (M (I .u8 0),1,1):=zQ
theorem bytes2(n:Nat)(h:n<65536):(qQ n 2).map bv=[I .u8 ((n:Int)%256),I .u8 ((n:Int)/256)]:=by simp[qQ,bv];omega
theorem bytes4(n:Nat)(h:n<4294967296):(qQ n 4).map bv=[I .u8 ((n:Int)%256),I .u8 ((n:Int)/256%256),I .u8 ((n:Int)/65536%256),I .u8 ((n:Int)/16777216)]:=by simp[qQ,bv,Nat.div_div_eq_div_mul];omega
def IsB(lo n:Nat)(l:List UInt8)(v:U)(W:E):Prop:=∃A c,v=O A n c/\Bys W W v l/\ZK lo v
theorem IsB.of_own(h:w.ownsRow base ty 1 v n (l.map bv)):IsB base n l v w:=by
 have hn:l.length=n:=by have:=h.1;simpa using this
 obtain⟨A,c,e,hr⟩:=Bys.of_own h;exact⟨A,c,by rw[e,hn],Bys.of_own h,ZK.of_own h⟩
theorem IsB.new(w:E)(e:TypeId)(l:List UInt8)(lo n:Nat)(hn:n=l.length)(hl:l.length<=maxLen)(aQ:lo<=w):IsB lo n l (O w n n) (w.alloc (Ob (l.map bv).toArray e)):=by subst hn;refine⟨_,_,rfl,Bys.new w e l hl,λa n c h=>?_⟩;cases h;exact aQ
theorem XX(n:Nat)(hn:n<4294967296)(w:E):Calls prog 133 #[I Oa (n:Int)] w (zZ (IsB w 4 (qQ n 4)) w):=by have HN:=zH (IsB.new w 5 (qQ n 4) w.heap.size 4 (QU 4 n).symm (by rw[QU];unfold maxLen;omega) (zM _));rw[bytes4 n hn]at HN;go_enter func133,ntmps133;go_wp2;go_ret;exact⟨_,rfl,HN.out,zA5⟩
def IsB0(lo n:Nat)(l:List UInt8)(v:U)(W:E):Prop:=∃u,v=Of #[u,I X 0]/\IsB lo n l u W
theorem qgz(n:Nat)(hn:n<65536)(w:E):Calls prog 131 #[(n:Int)] w (zZ (IsB0 w 2 (qQ n 2)) w):=by
 have HN:=zH (IsB.new w 5 (qQ n 2) w.heap.size 2 (QU 2 n).symm (by rw[QU];unfold maxLen;omega) (zM _));rw[bytes2 n hn]at HN;go_enter func131,ntmps131;go_wp2;refine bodyPost_ret (v:=Of #[O (M ⟨w.heap.size,0,Z⟩) 2 2,I X 0]) ?_ rfl ⟨_,rfl,⟨_,rfl,?_⟩,?_⟩
 ·simp[results,results131,go_sem]
 exact HN.out;exact(by repeat' (first|with_reducible exact Below.refl _ _|with_reducible assumption|with_reducible apply Below.drew|with_reducible apply qT|with_reducible refine Below.alloc ?_ ?_ _|with_reducible refine Below.setCell ?_ ?_ _|(simp;done)|(simp;omega)|omega))
def hv(s:Nat):Nat:=(s/2)^^^(if s%2=1 then 3988292384 else 0)
def hvs:Nat->Nat->Nat
 |0,s=>s
 |k+1,s=>hv (hvs k s)
def XM(i:Nat):Nat:=hvs 4 i
def YY(s:Nat)(x:UInt8):Nat:=
 let s1:=s^^^x.toNat
 let s2:=(s1/16)^^^XM (s1%16)
 (s2/16)^^^XM (s2%16)
def qbM(l:List UInt8):Nat:=l.foldl YY 4294967295
def crc(l:List UInt8):Nat:=4294967295-qbM l
theorem qlH(l:List UInt8)(x:UInt8):qbM (l++[x])=YY (qbM l) x:=by simp[qbM]
theorem VY{a b:Nat}(ha:a<4294967296)(hb:b<4294967296):a^^^b<4294967296:=Nat.xor_lt_two_pow (n:=32) zO zO
theorem hv_lt(h:s<4294967296):hv s<4294967296:=by unfold hv;refine VY zO ?_;split<;>omega
theorem hvs_lt(k:Nat)(h:s<4294967296):hvs k s<4294967296:=by
 induction k with
 |zero=>exact h
 |succ k ih=>exact hv_lt ih
theorem qbZ(h:i<16):XM i<4294967296:=hvs_lt 4 zO
theorem qje(x:UInt8)(h:s<4294967296):YY s x<4294967296:=by have hx:=x.toNat_lt;unfold YY;refine VY ?_ (qbZ zO);have:(s^^^x.toNat)/16^^^XM ((s^^^x.toNat)%16)<4294967296:=VY (by have:=VY h (b:=x.toNat) zO;omega) (qbZ zO);omega
theorem qkL(l:List UInt8):qbM l<4294967296:=by
 suffices h:∀(l:List UInt8)s,s<4294967296->l.foldl YY s<4294967296 from h l _ zO
 intro l;induction l with
 |nil=>intro s h;exact h
 |cons x r ih=>intro s h;exact ih _ (qje x h)
theorem qjf(l:List UInt8):crc l<4294967296:=by unfold crc;omega
theorem qca(n:Nat)(hn:n<4294967296):(BitVec.ofInt 32 (n:Int)).toNat=n:=by simp[BitVec.ofInt_natCast];omega
theorem qiR(n:Nat)(hn:n<4294967296):IntKind.u32.wrap (n:Int)=n:=by simp[IntKind.wrap,IntKind.bits,IntKind.signed];omega
theorem Ug(a b:Nat)(ha:a<4294967296)(hb:b<4294967296):bits .xor Oa (a:Int) (b:Int)=((a^^^b:Nat):Int):=by show IntKind.u32.wrap (((BitVec.ofInt 32 (a:Int)^^^BitVec.ofInt 32 (b:Int)).toNat:Nat):Int)=_;rw[BitVec.toNat_xor,qca a ha,qca b hb];exact qiR _ (VY ha hb)
theorem qkF(a b:Nat)(ha:a<4294967296)(hb:b<4294967296):bits .and Oa (a:Int) (b:Int)=((a&&& b:Nat):Int):=by show IntKind.u32.wrap (((BitVec.ofInt 32 (a:Int)&&& BitVec.ofInt 32 (b:Int)).toNat:Nat):Int)=_;rw[BitVec.toNat_and,qca a ha,qca b hb];refine qiR _ ?_;have:=Nat.and_le_left (n:=a) (m:=b);omega
theorem and_1(a:Nat)(ha:a<4294967296):bits .and Oa (a:Int) 1=((a%2:Nat):Int):=by have:=qkF a 1 ha zO;rw[Nat.and_one_is_mod]at this;exact this
theorem and_15(a:Nat)(ha:a<4294967296):bits .and Oa (a:Int) 15=((a%16:Nat):Int):=by have:=qkF a 15 ha zO;rw[show(15:Nat)=2^4-1 from rfl,Nat.and_two_pow_sub_one_eq_mod]at this;exact this
theorem xor_all(a:Nat)(ha:a<4294967296):a^^^4294967295=4294967295-a:=by have h:=congrArg BitVec.toNat (BitVec.xor_allOnes (x:=BitVec.ofNat 32 a));rw[BitVec.toNat_xor,BitVec.toNat_allOnes,BitVec.toNat_not,BitVec.toNat_ofNat,Nat.mod_eq_of_lt zO]at h;exact h.trans zO
theorem hv_mul(s:Nat)(hs:s<4294967296):bits .xor Oa (((s/2:Nat)):Int) ((3988292384*((s%2:Nat):Int))%4294967296)=((hv s:Nat):Int):=by
 have h:=Nat.mod_two_eq_zero_or_one s;unfold hv;rcases h with h|h
 rw[h];exact Ug _ 0 zO zO;rw[h];exact Ug _ 3988292384 zO zO
def Ty(k:Nat):Array U:=((List.range 16).map λi=>Value.int Oa ((if i<k then XM i else 0:Nat):Int)).toArray
theorem Ke(k:Nat):(Ty k).size=16:=by simp[Ty]
theorem qbY(k i:Nat)(h:i<16):(Ty k)[i]?=M (I Oa ((if i<k then XM i else 0:Nat):Int)):=by simp[Ty,h]
theorem rowT_set(k:Nat)(h:k<16):(Ty k).setIfInBounds k (I Oa (XM k:Int))=Ty (k+1):=by
 apply Array.ext_getElem?;intro i;by_cases hi:i<16;rw[qbY _ _ hi];by_cases hk:k=i;subst hk;simp[Ke,h];rw[Array.getElem?_setIfInBounds_ne hk,qbY _ _ hi];congr 3;split<;>split<;>first|rfl|omega
 rw[Array.getElem?_eq_none (by simp[Ke];omega),Array.getElem?_eq_none (by simp[Ke];omega)]
end Go.Proofs.YtmeadnlmepcmbaaGreat
