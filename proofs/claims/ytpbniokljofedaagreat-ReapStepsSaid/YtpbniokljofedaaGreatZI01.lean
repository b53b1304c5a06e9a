/- Texts Base, Num, Back, Code, joined. -/
import Derived.Test.YtpbniokljofedaaGreatRows
import Derived.WalkKit
import Derived.ProofKit
import Derived.OpenShut
import Derived.BigQuiet
import Derived.BigGuardPart
import Derived.Deep.QuietTactic
import Derived.Deep.RegionHeld3
import Derived.Deep.DeepCutAuto
import Derived.Deep.Draws
import Derived.Maps.AppendAt
import Derived.Lib.Hide
import Derived.Deep.Light
import Derived.RangeFuncNested
import Derived.RangeFuncBox
import Derived.RangeFuncBound
import Derived.RangeFuncCalls
import Derived.RangeFuncLeaves
import Derived.Shelf.Abstract
import Derived.Shelf.RegionOpen
import Derived.OwnWalkIn
import Derived.TacticsInMore
import Derived.LoopNIn
import Derived.LoopIn
set_option linter.unusedSimpArgs false
set_option linter.unusedVariables false
set_option maxHeartbeats 8000000
open Go.Proofs.Tryz
namespace Go.Proofs.YtpbniokljofedaaGreat
open Go.RowKit
theorem zA.{u} {α:Type u} (l:List α) (i:Nat) (a:α):l.toArray.setIfInBounds i a=(l.set i a).toArray:=List.setIfInBounds_toArray ..
theorem zB.{u} {α:Type u} {x:α} {xs:List α} {a:α}:(x::xs).set 0 a=a::xs:=List.set_cons_zero
theorem zC.{u} {α:Type u} {x:α} {xs:List α} {i:Nat} {a:α}:(x::xs).set (i+1) a=x::xs.set i a:=List.set_cons_succ
theorem zG.{u} {α:Type u} {i:Nat} {b:α} {xs:Array α}:xs[i]?=some b↔∃ h:i<xs.size,xs[i]=b:=Array.getElem?_eq_some_iff
theorem zH {p:Prop} (h:p):Hid p:=Lib.hid h
theorem zJ (w:World) (a:Addr) (u:Value) (k:Nat) (h:k≠a.block):(w.setCell a u).heap[k]?=w.heap[k]?:=Below.heap_setCell w a u k h
theorem zK (w:World) (o:Obj) (k:Nat) (h:k<w.heap.size):(w.alloc o).heap[k]?=w.heap[k]?:=Below.heap_alloc w o k h
theorem zL.{u} {α:Type u} {l:List α} {i:Nat} (h:i<l.length):l[i]?=some l[i]:=List.getElem?_eq_getElem h
theorem zM (n:Nat):n≤n:=Nat.le_refl n
theorem zO {p:Prop} (h:p:=by omega):p:=h
theorem zA0 {p:Prop} (h:p:=by rfl):p:=h
theorem zQ {p:Prop} (h:p:=by kernel_rfl):p:=h
theorem zA1 {p:Prop} (h:p:=by decide):p:=h
theorem zA2 {p:Prop} (h:p:=by simp;omega):p:=h
theorem zA3 {p:Prop} (h:p:=by simp):p:=h
theorem zA4 {p:Prop} (h:p:=by simp <;> omega):p:=h
theorem zE {p:Prop} (h:p:=by exact rfl):p:=h
theorem zA5 {p:Prop} (h:p:=by repeat' (first|with_reducible exact Below.refl _ _|with_reducible assumption|with_reducible apply Below.drew|with_reducible apply qz|with_reducible refine Below.alloc ?_ ?_ _|with_reducible refine Below.setCell ?_ ?_ _|(simp;done)|(simp;omega)|omega)):p:=h
theorem zA6 {p:Prop} (h:p:=by simp only[List.getElem?_toArray,List.getElem?_cons_succ,List.getElem?_cons_zero];exact rfl):p:=h
theorem zA7 {p:Prop} (h:p:=by unfold maxLen;omega):p:=h
theorem zA8 {p:Prop} (h:p:=by simp[Value.oneCell']):p:=h
theorem zA9 {p:Prop} (h:p:=by simp only[Nat.min_def];split <;> omega):p:=h
theorem zB0 {p q:Prop} (k:q) (h:Hid q→p:=by intro h;repeat ((first|(refine qM ?_ (by rfl) (by rfl) (fun W hW _=>⟨W,?_,Ext.refl W⟩) ?_;rotate_left;(go_simp<;>with_reducible rfl))|(refine qV (by rfl) ?_));try simp only[Act.put,ql,qf,qc,qg,jn,zA,zB,zC]);exact h.out):p:=h (zH k)
theorem zB1 {p q:Prop} (k:q) (h:Hid q→p:=by intro h;repeat ((first|(refine qM ?_ (by rfl) (by rfl) (fun W hW _=>⟨W,?_,Ext.refl W⟩) ?_;rotate_left;(go_simp<;>with_reducible rfl))|(refine qV (by rfl) ?_));try simp only[Act.put,ql,qf,qc,qg,zA,zB,zC]);exact h.out):p:=h (zH k)
theorem zB2 {p q:Prop} (k:q) (h:Hid q→p:=by intro h;repeat ((first|(refine qd ?_ (by rfl) (by rfl) (fun W hW _=>⟨W,?_,Rel.refl _ W⟩) ?_;rotate_left;(go_simp<;>with_reducible rfl))|(refine qh (by rfl) ?_));try simp only[Act.put,ql,qf,qc,qg,qO,Qy,zA,zB,zC]);exact h.out):p:=h (zH k)
theorem zB3 {p q:Prop} (k:q) (h:Hid q→p:=by intro h;repeat ((first|(refine qM ?_ (by rfl) (by rfl) (fun W hW _=>⟨W,?_,Ext.refl W⟩) ?_;rotate_left;(go_simp<;>with_reducible rfl))|(refine qV (by rfl) ?_));try simp only[Act.put,ql,qf,qc,qg,qO,Qj,Qy,zA,zB,zC]);exact h.out):p:=h (zH k)
theorem zB4 {p q:Prop} (k:q) (h:Hid q→p:=by intro h;repeat ((first|(refine qd ?_ (by rfl) (by rfl) (fun W hW _=>⟨W,?_,Rel.refl _ W⟩) ?_;rotate_left;(go_simp<;>with_reducible rfl))|(refine qh (by rfl) ?_));try simp only[Act.put,ql,qf,qc,qg,ZU,zA,zB,zC]);exact h.out):p:=h (zH k)
theorem zB5 {p q:Prop} (k:q) (h:Hid q→p:=by intro h;dsimp only[List.drop,List.length_cons,List.length_nil];exact h.out):p:=h (zH k)
theorem zB6 {p q:Prop} (k:q) (h:Hid q→p:=by intro h;repeat ((first|(refine qd ?_ (by rfl) (by rfl) (fun W hW _=>⟨W,?_,Rel.refl _ W⟩) ?_;rotate_left;(go_simp<;>with_reducible rfl))|(refine qh (by rfl) ?_));try simp only[Act.put,ql,qf,qc,qg,zA,zB,zC]);exact h.out):p:=h (zH k)
theorem zB7 {p q:Prop} (k:q) (h:Hid q→p:=by intro h;repeat ((first|(refine qd ?_ (by rfl) (by rfl) (fun W hW _=>⟨W,?_,Rel.refl _ W⟩) ?_;rotate_left;(go_simp<;>with_reducible rfl))|(refine qh (by rfl) ?_));try simp only[Act.put,ql,qf,qc,qg,qc,zA,zB,zC]);exact h.out):p:=h (zH k)
theorem zB8 {p q:Prop} (k:q) (h:Hid q→p:=by intro h;repeat ((first|(refine qd ?_ (by rfl) (by rfl) (fun W hW _=>⟨W,?_,Rel.refl _ W⟩) ?_;rotate_left;(go_simp<;>with_reducible rfl))|(refine qh (by rfl) ?_));try simp only[Act.put,ql,qf,qc,qg,qc,qO,jN,zA,zB,zC]);exact h.out):p:=h (zH k)
theorem zB9 {p q:Prop} (k:q) (h:Hid q→p:=by intro h;repeat ((first|(refine qd ?_ (by rfl) (by rfl) (fun W hW _=>⟨W,?_,Rel.refl _ W⟩) ?_;rotate_left;(go_simp<;>with_reducible rfl))|(refine qh (by rfl) ?_));try simp only[Act.put,ql,qf,qc,qg,QS,Zr,qc,zA,zB,zC]);exact h.out):p:=h (zH k)
theorem zC0 {p q:Prop} (k:q) (h:Hid q→p:=by intro h;repeat ((first|(refine jj hle ?_ (by rfl) (by rfl) (fun W hW _=>?_) ?_;rotate_left;(go_simp<;>with_reducible rfl))|(refine Jm (by rfl) ?_));try simp only[Act.put,ql,qf,qc,qg,QS,Zr,qc,zA,zB,zC]);exact h.out):p:=h (zH k)
theorem zC1 {p q:Prop} (k:q) (h:Hid q→p:=by intro h;repeat ((first|(refine qd ?_ (by rfl) (by rfl) (fun W hW _=>⟨W,?_,Rel.refl _ W⟩) ?_;rotate_left;(go_simp<;>with_reducible rfl))|(refine qh (by rfl) ?_));try simp only[Act.put,ql,qf,qc,qg,kX,vM,zA,zB,zC]);exact h.out):p:=h (zH k)
theorem zC2 {p q:Prop} (k:q) (h:Hid q→p:=by intro h;repeat ((first|(refine qM ?_ (by rfl) (by rfl) (fun W hW _=>⟨W,?_,Ext.refl W⟩) ?_;rotate_left;(go_simp<;>with_reducible rfl))|(refine qV (by rfl) ?_));try simp only[Act.put,ql,qf,qc,qg,qO,Qj,qf,zA,zB,zC]);exact h.out):p:=h (zH k)
theorem zC3 {p q:Prop} (k:q) (h:Hid q→p:=by intro h;dsimp only[List.drop,List.length_cons,List.length_nil,Nat.reduceAdd,Nat.reduceSub];exact h.out):p:=h (zH k)
theorem zC4 {p q:Prop} (k:q) (h:Hid q→p:=by intro h;repeat ((first|(refine qd ?_ (by rfl) (by rfl) (fun W hW _=>⟨W,?_,Rel.refl _ W⟩) ?_;rotate_left;(go_simp<;>with_reducible rfl))|(refine qh (by rfl) ?_));try simp only[Act.put,ql,qf,qc,qg,qc,qO,zA,zB,zC]);exact h.out):p:=h (zH k)
theorem zC5 {p q:Prop} (k:q) (h:Hid q→p:=by intro h;repeat ((first|(refine qd ?_ (by rfl) (by rfl) (fun W hW _=>⟨W,?_,Rel.refl _ W⟩) ?_;rotate_left;(go_simp<;>with_reducible rfl))|(refine qh (by rfl) ?_));try simp only[Act.put,ql,qf,qc,qg,Qp,Qn,Qk,qR,zA,zB,zC]);exact h.out):p:=h (zH k)
theorem zC6 {p q:Prop} (k:q) (h:Hid q→p:=by intro h;repeat ((first|(refine qd ?_ (by rfl) (by rfl) (fun W hW _=>⟨W,?_,Rel.refl _ W⟩) ?_;rotate_left;(go_simp<;>with_reducible rfl))|(refine qh (by rfl) ?_));try simp only[Act.put,ql,qf,qc,qg,ZS,ZT,Qn,qR,zA,zB,zC]);exact h.out):p:=h (zH k)
theorem zC7 {p q:Prop} (k:q) (h:Hid q→p:=by intro h;repeat ((first|(refine qd ?_ (by rfl) (by rfl) (fun W hW _=>⟨W,?_,Rel.refl _ W⟩) ?_;rotate_left;(go_simp<;>with_reducible rfl))|(refine qh (by rfl) ?_));try simp only[Act.put,ql,qf,qc,qg,Zi,QY,QX,jb,qc,zA,zB,zC]);exact h.out):p:=h (zH k)
theorem zC8 {p q:Prop} (k:q) (h:Hid q→p:=by intro h;repeat ((first|(refine qd ?_ (by rfl) (by rfl) (fun W hW _=>⟨W,?_,Rel.refl _ W⟩) ?_;rotate_left;(go_simp<;>with_reducible rfl))|(refine qh (by rfl) ?_));try simp only[Act.put,ql,qf,qc,qg,QS,zA,zB,zC]);exact h.out):p:=h (zH k)
theorem zC9 {p q:Prop} (k:q) (h:Hid q→p:=by intro h;repeat ((first|(refine qd ?_ (by rfl) (by rfl) (fun W hW _=>⟨W,?_,Rel.refl _ W⟩) ?_;rotate_left;(go_simp<;>with_reducible rfl))|(refine qh (by rfl) ?_));try simp only[Act.put,ql,qf,qc,qg,Yr,zA,zB,zC]);exact h.out):p:=h (zH k)
theorem zD0 {p q:Prop} (k:q) (h:Hid q→p:=by intro h;repeat ((first|(refine qd ?_ (by rfl) (by rfl) (fun W hW _=>⟨W,?_,Rel.refl _ W⟩) ?_;rotate_left;(go_simp<;>with_reducible rfl))|(refine qh (by rfl) ?_));try simp only[Act.put,ql,qf,qc,qg,Qk,zA,zB,zC]);exact h.out):p:=h (zH k)
def Rd (w:World) (B size:Nat) (A:Option Addr) (n:Nat) (xs:List Value):Prop:=
 xs.length=n*size/\(0<n->∃ b off,A=some ⟨b,off,none⟩/\b<B/\∀ j u,xs[j]?=some u->w.cell? ⟨b,off+j,none⟩=some u)
section
variable {w w':World} {B B' size n:Nat} {A:Option Addr} {xs:List Value}
theorem Rd.none_:Rd w B size A 0 []:=⟨zA3,fun h=>absurd h zO⟩
theorem Rd.len1 (h:Rd w B 1 A n xs):xs.length=n:=by have:=h.1;omega
theorem Rd.keep (h:Rd w B size A n xs) (hk:∀ p:Addr,p.block<B->w'.cell? p=w.cell? p):Rd w' B size A n xs:=
 ⟨h.1,fun hn=>by obtain⟨b,off,e,hb,hc⟩:=h.2 hn;exact⟨b,off,e,hb,fun j u hu=>(hk _ hb).trans (hc j u hu)⟩⟩
theorem Rd.more (h:Rd w B size A n xs) (hB:B<=B'):Rd w B' size A n xs:=
 ⟨h.1,fun hn=>by obtain⟨b,off,e,hb,hc⟩:=h.2 hn;exact⟨b,off,e,zO,hc⟩⟩
theorem Rd.below (h:Rd w B size A n xs) (hb:Below B w w'):Rd w' B size A n xs:=h.keep fun _ hp=>hb.cell hp
theorem Rd.drew (h:Rd w B size A n xs):Rd w.drew B size A n xs:=h
theorem Rd.drewN (h:Rd w B size A n xs) (k:Nat):Rd (w.drewN k) B size A n xs:=h
theorem Rd.alloc (h:Rd w B size A n xs) (hB:B<=w.heap.size) (o:Obj):Rd (w.alloc o) B size A n xs:=h.keep fun p hp=>World.cell?_alloc_lt w o p zO
theorem Rd.at_ {k:Nat} {u:Value} (h:Rd w B size A n xs) (hn:0<n) (hu:xs[k]?=some u):∃ b off,A=some ⟨b,off,none⟩/\b<B/\w.cell? ⟨b,off+k,none⟩=some u:=by obtain⟨b,off,e,hb,hc⟩:=h.2 hn;exact⟨b,off,e,hb,hc k u hu⟩
theorem Rd.take (h:Rd w B size A n xs) {k:Nat} (hk:k<=n):Rd w B size A k (xs.take (k*size)):=by
 refine⟨by rw[List.length_take,h.1];exact Nat.min_eq_left (Nat.mul_le_mul_right _ hk),fun hn=>?_⟩;obtain⟨b,off,rfl,hb,aF⟩:=h.2 zO;refine⟨b,off,rfl,hb,fun j u hu=>aF j u ?_⟩;rw[List.getElem?_take] at hu;split at hu
 ·exact hu
 ·cases hu
theorem Rd.of_own {base:Nat} {e:TypeId} {c:Nat} (h:w.ownsRow base e size (.slice A n c) n xs):Rd w w.heap.size size A n xs:=by
 refine⟨h.1,fun hn=>?_⟩;rcases h.2 with ⟨h0,h1⟩|⟨g,cap,cur,hv,hb,hg,fP,_,hsz,nN⟩
 ·omega
 ·injection hv with hA _ _
  subst hA;refine⟨g,0,rfl,?_,fun j u hu=>?_⟩
  ·rcases Nat.lt_or_ge g w.heap.size with hlt|iD
   ·exact hlt
   ·rw[Array.getElem?_eq_none iD] at hg;cases hg
  ·have:=h.cells (g:=g) rfl j u hu;simpa [Addr.add] using (show w.cell? ⟨g,0+j,none⟩=some u by
    rw[<-this];unfold Addr.add;split
    ·subst_vars;rfl
    ·rfl)
theorem Rd.new (w:World) (cs:Array Value) (e:TypeId) (n:Nat) (hn:cs.size=n):Rd (w.alloc (.cells cs e)) (w.alloc (.cells cs e)).heap.size 1 (some ⟨w.heap.size,0,none⟩) n cs.toList:=
 ⟨by simp[hn],fun _=>⟨w.heap.size,0,rfl,zA3,fun j u hu=>by rw[World.cell?_alloc_at _ _ _ _ rfl];simpa using hu⟩⟩
theorem Rd.adds {b off:Nat} (h:Rd w B size (some ⟨b,off,none⟩) n xs) (hn:0<n):∀ j u,xs[j]?=some u->w.cell? ((⟨b,off,none⟩:Addr).add j)=some u:=by
 obtain⟨b',off',e,_,hc⟩:=h.2 hn;injection e with e;injection e with e1 e2
 subst e1;subst e2;intro j u hu;rw[<-hc j u hu];unfold Addr.add;split
 ·subst_vars;rfl
 ·rfl
end
abbrev bv (x:UInt8):Value:=.int .u8 (x.toNat:Int)
theorem Xv (l:List UInt8):∀ u∈l.map bv,u.oneCell'=true:=by intro u hu;obtain⟨x,_,rfl⟩:=List.mem_map.1 hu;rfl
def Bys (w:World) (B:Nat) (v:Value) (l:List UInt8):Prop:=∃ A c,v=.slice A l.length c/\l.length<=c/\c<=maxLen/\Rd w B 1 A l.length (l.map bv)
theorem Bys.below {w w':World} {B:Nat} {v:Value} {l:List UInt8} (h:Bys w B v l) (hb:Below B w w'):Bys w' B v l:=by obtain⟨A,c,e,hc,hm,hr⟩:=h;exact⟨A,c,e,hc,hm,hr.below hb⟩
theorem Bys.keep {w w':World} {B:Nat} {v:Value} {l:List UInt8} (h:Bys w B v l) (hk:∀ p:Addr,p.block<B->w'.cell? p=w.cell? p):Bys w' B v l:=by obtain⟨A,c,e,hc,hm,hr⟩:=h;exact⟨A,c,e,hc,hm,hr.keep hk⟩
theorem Bys.more {w:World} {B B':Nat} {v:Value} {l:List UInt8} (h:Bys w B v l) (hb:B<=B'):Bys w B' v l:=by obtain⟨A,c,e,hc,hm,hr⟩:=h;exact⟨A,c,e,hc,hm,hr.more hb⟩
theorem Bys.nil (w:World) (B:Nat):Bys w B (.slice none 0 0) []:=⟨none,0,rfl,zM _,by simp[maxLen],Rd.none_⟩
theorem Bys.of_own {w:World} {base n:Nat} {e:TypeId} {v:Value} {l:List UInt8} (h:w.ownsRow base e 1 v n (l.map bv)):Bys w w.heap.size v l:=by
 have hn:l.length=n:=by have:=h.1;simpa using this
 subst hn;rcases h.2 with ⟨rfl,h0⟩|⟨g,cap,cur,rfl,hb,hg,fP,eG,hsz,nN⟩
 ·obtain rfl:l=[]:=List.eq_nil_of_length_eq_zero h0;exact Bys.nil w _
 ·exact⟨_,cap,rfl,fP,eG,Rd.of_own h⟩
theorem Bys.new (w:World) (e:TypeId) (l:List UInt8) (hl:l.length<=maxLen:=by simp[maxLen]):Bys (w.alloc (.cells (l.map bv).toArray e)) (w.alloc (.cells (l.map bv).toArray e)).heap.size (.slice (some ⟨w.heap.size,0,none⟩) l.length l.length) l:=
 ⟨_,_,rfl,zM _,hl,zA3,fun _=>⟨w.heap.size,0,rfl,zA3,fun j u hu=>by rw[World.cell?_alloc_at _ _ _ _ rfl];simpa using hu⟩⟩
def bstr (l:List UInt8):ByteArray:=strOfNums (l.map fun x=>(x.toNat:Int))
theorem qgO (l:List UInt8):(bstr l).data.toList=l:=by
 unfold bstr;rw[strOfNums_data,List.map_map]
 conv=>rhs;rw[<-List.map_id l]
 apply List.map_congr_left;intro x _;simp
theorem qcX (l:List UInt8):(bstr l).toList=l:=by rw[ByteArray.toList_eq];exact qgO l
theorem jI {P:Program} {w:World} {B:Nat} {v:Value} {l:List UInt8} (h:Bys w B v l) (src dst e:TypeId) (hs:P.underlying src=some (.slice e)) (he:P.underlying e=some (.int .u8)) (hd:P.underlying dst=some .string) : (convert src dst v).run P w=.ok (.string (bstr l)) w:=by
 obtain⟨A,c,rfl,hc,hm,hr⟩:=h;rcases A with _|ad
 ·have h0:l.length=0:=by
   rcases Nat.eq_zero_or_pos l.length with h0|h0
   ·exact h0
   ·obtain⟨b,off,h,_⟩:=hr.2 h0;cases h
  obtain rfl:l=[]:=List.eq_nil_of_length_eq_zero h0;exact run_convert_bytes_nil w src e hs he _ _ dst hd
 ·rcases Nat.eq_zero_or_pos l.length with h0|h0
  ·obtain rfl:l=[]:=List.eq_nil_of_length_eq_zero h0;rw[run_convert_bytes_string w src dst e _ _ _ hs he hd,run_bytesToString w _ _ _ [] (by simp[loadCells,loadCellsFrom])];rfl
  ·obtain⟨b,off,h,_,aF⟩:=hr.2 h0;cases h;exact run_convert_bytes_arg w src e hs he b off l.length c (l.map fun x=>(x.toNat:Int)) zA3 (fun i hi=>by rw[aF i (bv l[i]) (by simp[hi])];simp[hi]) dst hd
theorem zI (w:World) (o:Obj) (b:Nat) (h:b=w.heap.size):(w.alloc o).heap[b]?=some o:=by subst h;exact heap_alloc_new w o
theorem qa {w:World} {b:Nat} {cs:Array Value} {t:TypeId} (h:w.heap[b]?=some (.cells cs t (0,0))):∀ i,w.cell? ⟨b,i,none⟩=cs[i]?:=fun i=>by simp[World.cell?,h]
theorem qe {w:World} {b:Nat} {cs:Array Value} {t:TypeId} (h:w.heap[b]?=some (.cells cs t (0,0))):∀ i,w.frozen? ⟨b,i,none⟩=false:=fun i=>by simp[World.frozen?,h]
def Ze (lo:Nat) (v:Value):Prop:=∀ a n c,v=.slice (some a) n c->lo<=a.block
theorem Ze.of_own {w:World} {base n size:Nat} {e:TypeId} {v:Value} {xs:List Value} (h:w.ownsRow base e size v n xs):Ze base v:=by intro a n' c hv;subst hv;exact(h.lt a.block rfl).1
theorem Ze.mono {lo lo':Nat} {v:Value} (h:Ze lo v) (hl:lo'<=lo):Ze lo' v:=fun a n c e=>Nat.le_trans hl (h a n c e)
theorem Bys.setCell {w:World} {B lo:Nat} {v:Value} {l:List UInt8} (h:Bys w B v l) (hf:Ze lo v) {p:Addr} (hp:p.block<lo) (u:Value):Bys (w.setCell p u) B v l:=by obtain⟨A,c,e,hc,hm,hr⟩:=h;refine⟨A,c,e,hc,hm,hr.1,fun hn=>?_⟩;obtain⟨b,off,hA,hb,aF⟩:=hr.2 hn;refine⟨b,off,hA,hb,fun j u' hu=>?_⟩;have:lo<=b:=hf ⟨b,off,none⟩ l.length c (by rw[e,hA]);rw[World.cell?_setCell_other w p ⟨b,off+j,none⟩ u (fun e=>by subst e;simp at hp;omega)];exact aF j u' hu
theorem qz {B:Nat} {a w:World} (h:Below B a w) (n:Nat):Below B a (w.drewN n):=⟨h.os,h.tape,h.output,h.size,h.block⟩
def Ret (v:Value) (w:World) (e:Ending) (w':World):Prop:=e=.returned v/\Below w.heap.size w w'
def QV (φ:Value->World->Prop) (w:World) (e:Ending) (w':World):Prop:=∃ v,e=.returned v/\φ v w'/\Below w.heap.size w w'
def Qh (p:Prop):Prop:=p
theorem Qh.go {p:Prop} (h:p):Qh p:=h
theorem qI {P:Program} {ops:Array Oper} {l:List Oper} {a:Act} {w:World} {Q:Exit->Act->World->Prop} (h:Qh (wpList P ops Q l a w)):wpList P ops Q l a w:=h
theorem KB (w:World) (cs:Array Value) (e:TypeId):∀ j u,cs.toList[j]?=some u->(w.alloc (.cells cs e)).cell? ((⟨w.heap.size,0,none⟩:Addr).add j)=some u:=by
 intro j u hj;have h:(w.alloc (.cells cs e)).cell? ⟨w.heap.size,0+j,none⟩=some u:=by rw[World.cell?_alloc_at _ _ _ _ rfl];simpa using hj
 rw[<-h];unfold Addr.add;split
 ·subst_vars;rfl
 ·rfl
theorem Zc {P:Program} (w:World) {ops:Array Oper} {rest:List Oper} {o:Oper} {a:Act} {Q:Exit->Act->World->Prop} (fG:o.guard=none) (s x:Operand) (t:TypeId) (ho:o.op=.call { callee:=.builtin .append,args:=#[s,x],argTypes:=#[t,t] }) (base:Nat) (e:TypeId) (i:TypeInfo) (z:Value) (size bytes:Nat) (ht:P.underlying t=some (.slice e)) (hi:P.info? e=some i) (hz:i.zero=some z) (dw:i.size=size) (aT:i.bytes=bytes) (hzs:z.cells.size=size) (hsz:0<size) (v:Value) (n:Nat) (xs:List Value) (hs:a.eval s=v) (aB:w.ownsRow base e size v n xs) (cs:Array Value) (hx:a.eval x=.slice (some ⟨w.heap.size,0,none⟩) 1 1) (hl:cs.size=size) (h1:∀ u∈cs.toList,u.oneCell'=true) (hn:n<1073741824) (dX:bytes<=65536) (mD:base<=w.heap.size) (h:∀ v' w',w'.ownsRow base e size v' (n+1) (xs++cs.toList)->w.grownBy w' v.ownBlock->Below base w w'->(v'.ownBlock=v.ownBlock\/∃ g,v'.ownBlock=some g/\w.heap.size<=g)->wpList P ops Q rest (a.put o.dst v') w'):wpList P ops Q (o :: rest) a (w.alloc (.cells cs e)):=by
 refine wpList_plain fG fun K hK=>?_;have hb:(n+1)*bytes<=140737488355328:=Nat.le_trans (Nat.mul_le_mul_left _ dX) zO;have hm:n+1<=maxLen:=zA7;obtain⟨v',w',au,h2,h3,_,h5⟩:=run_append_own_at (P:=P) (w.alloc (.cells cs e)) base t o.type e i z size bytes ht hi hz dw aT hzs hsz v n xs (aB.alloc _) ⟨w.heap.size,0,none⟩ 1 1 cs.toList
  (by rw[Array.length_toList];omega) (KB w cs e) h1 hm hb zA2
 have hg:w.grownBy w' v.ownBlock:=⟨h3.os,h3.tape,h3.output,Nat.le_trans zA3 h3.size,fun k hk aN=>(h3.block k zA2 aN).trans (zK w _ k hk)⟩
 unfold Oper.wp execOp;simp only[ho,resolve,invoke,builtin,Sem.run_bind,Sem.run_pure,Result.andThen_ok,List.map_toArray,List.map_cons,List.map_nil,hs,hx,au];exact hK _ _ (h v' w' h2 hg ((Below.refl base w).grown hg mD (fun k hk=>(aB.lt k hk).1)) (h5.imp id fun e=>⟨_,e,zA3⟩))
theorem Qq {P:Program} (w:World) {ops:Array Oper} {rest:List Oper} {o:Oper} {a:Act} {Q:Exit->Act->World->Prop} (fG:o.guard=none) (s x:Operand) (t:TypeId) (ho:o.op=.call { callee:=.builtin .append,args:=#[s,x],argTypes:=#[t,t] }) (base:Nat) (e:TypeId) (i:TypeInfo) (z:Value) (size bytes:Nat) (ht:P.underlying t=some (.slice e)) (hi:P.info? e=some i) (hz:i.zero=some z) (dw:i.size=size) (aT:i.bytes=bytes) (hzs:z.cells.size=size) (hsz:0<size) (v:Value) (n:Nat) (xs:List Value) (hs:a.eval s=v) (aB:w.ownsRow base e size v n xs) (B:Nat) (A:Option Addr) (m c:Nat) (news:List Value) (hx:a.eval x=.slice A m c) (hr:Rd w B size A m news) (h1:∀ u∈news,u.oneCell'=true) (hn:n+m<1073741824) (dX:bytes<=65536) (mD:base<=w.heap.size) (h:∀ v' w',w'.ownsRow base e size v' (n+m) (xs++news)->w.grownBy w' v.ownBlock->Below base w w'->(v'.ownBlock=v.ownBlock\/∃ g,v'.ownBlock=some g/\w.heap.size<=g)->wpList P ops Q rest (a.put o.dst v') w'):wpList P ops Q (o :: rest) a w:=by
 refine wpList_plain fG fun K hK=>?_;have hb:(n+m)*bytes<=140737488355328:=Nat.le_trans (Nat.mul_le_mul_left _ dX) zO;have hm:n+m<=maxLen:=zA7;have key:∃ v' w',(Builtin.append_ #[t,t] o.type #[v,.slice A m c]).run P w=.ok v' w'/\w'.ownsRow base e size v' (n+m) (xs++news)/\w.grownBy w' v.ownBlock /\
   (v'.ownBlock=v.ownBlock\/v'.ownBlock=some w.heap.size):=by
  rcases A with _|ad
  ·have hm0:m=0:=by
    rcases Nat.eq_zero_or_pos m with h0|h0
    ·exact h0
    ·obtain⟨b,off,h,_⟩:=hr.2 h0;cases h
   subst hm0;have hn:news=[]:=List.eq_nil_of_length_eq_zero (by simpa using hr.1);subst hn;refine⟨v,w,?_,by simpa using aB,World.grownBy.refl w _,.inl rfl⟩;rcases aB.2 with ⟨rfl,_⟩|⟨g,cap,cur,rfl,_,_,fP,_⟩
   all_goals simp[Builtin.append_,run_underlying ht,sizeOf,typeInfo,Builtin.lenOf,Builtin.firstCells,storeCells, *]
  ·have dO:∀ j u,news[j]?=some u->w.cell? (ad.add j)=some u:=by
    intro j u hu;rcases Nat.eq_zero_or_pos m with h0|h0
    ·subst h0;have hn:news=[]:=List.eq_nil_of_length_eq_zero (by simpa using hr.1);subst hn;simp at hu
    ·obtain⟨b,off,h,_⟩:=hr.2 h0;injection h with h;subst h;exact hr.adds h0 j u hu
   obtain⟨v',w',au,h2,h3,_,h5⟩:=run_append_own_at (P:=P) w base t o.type e i z size bytes ht hi hz dw aT hzs hsz v n xs aB ad m c news hr.1 dO h1 hm hb mD;exact⟨v',w',au,h2,h3,h5⟩
 obtain⟨v',w',au,h2,h3,h5⟩:=key;unfold Oper.wp execOp;simp only[ho,resolve,invoke,builtin,Sem.run_bind,Sem.run_pure,Result.andThen_ok,List.map_toArray,List.map_cons,List.map_nil,hs,hx,au];exact hK _ _ (h v' w' h2 h3 ((Below.refl base w).grown h3 mD (fun k hk=>(aB.lt k hk).1)) (h5.imp id fun e=>⟨_,e,zM _⟩))
theorem Ys {k:IntKind} {a b:Int} (h:a=b):Ending.returned (.int k a)=.returned (.int k b):=by rw[h]
theorem JM {a b:Bool} (h:a=b):Ending.returned (.bool a)=.returned (.bool b):=by rw[h]
def Ji:List UInt8->Nat
 | []=>0
 |b :: r=>b.toNat+256*Ji r
theorem GB (l:List UInt8):Ji l<256 ^ l.length:=by
 induction l with
 |nil=>simp[Ji]
 |cons b r ih=>have:=b.toNat_lt;simp only[Ji,List.length_cons,Nat.pow_succ];omega
theorem or_byte (a b:Nat) (hb:b<256):a*256 ||| b=b+256*a:=by have h:=Nat.two_pow_add_eq_or_of_lt (i:=8) (b:=b) (by simpa using hb) a;rw[Nat.mul_comm a 256,Nat.add_comm b];exact h.symm
theorem or_u32 (a b:Nat) (ha:a<4294967296) (hb:b<4294967296):bits .or .u32 (a:Int) (b:Int)=((a ||| b:Nat):Int):=by
 have e:∀ n:Nat,n<4294967296->(BitVec.ofInt 32 (n:Int)).toNat=n:=fun n hn=>by simp[BitVec.ofInt_natCast];omega
 have hx:a ||| b<2 ^ 32:=Nat.or_lt_two_pow zO zO
 show IntKind.u32.wrap (((BitVec.ofInt 32 (a:Int) ||| BitVec.ofInt 32 (b:Int)).toNat:Nat):Int)=_;rw[BitVec.toNat_or,e a ha,e b hb];simp[IntKind.wrap,IntKind.bits,IntKind.signed];omega
def qA:Nat->Nat->List UInt8
 |_,0=>[]
 |n,k+1=>UInt8.ofNat n :: qA (n / 256) k
theorem zZ (k:Nat):∀ n,(qA n k).length=k:=by
 induction k with
 |zero=>intro n;rfl
 |succ k ih=>intro n;simp[qA,ih]
theorem qar (l:List UInt8):qA (Ji l) l.length=l:=by
 induction l with
 |nil=>rfl
 |cons b r ih =>
  have hb:=b.toNat_lt;simp only[Ji,List.length_cons,qA];rw[show (b.toNat+256*Ji r) / 256=Ji r by omega,ih];congr 1;apply UInt8.toNat.inj;simp
end Go.Proofs.YtpbniokljofedaaGreat
namespace Go.Proofs.YtpbniokljofedaaGreat
open Go.RowKit Go.Shelf
attribute [local go_sem] Oper.semAt_some
def Zn {α:Type} (f:Nat->α) (k:Nat):List α:=(List.range k).map f
theorem Ju {α:Type} (f:Nat->α) (k:Nat):Zn f (k+1)=Zn f k++[f k]:=by simp[Zn,List.range_succ]
theorem zj {α:Type} (f:Nat->α) (k:Nat):(Zn f k).length=k:=by simp[Zn]
def Qi (x y:Nat) (A B:World):Prop:=B.heap[x]?=A.heap[x]?/\B.heap[y]?=A.heap[y]?
theorem Qi.t {x y:Nat} {A B C:World} (h:Qi x y A B) (k:Qi x y B C):Qi x y A C:=⟨k.1.trans h.1,k.2.trans h.2⟩
theorem Qi.refl (x y:Nat) (A:World):Qi x y A A:=⟨rfl,rfl⟩
theorem Qi.b {x y:Nat} {w:World} (hx:x<w.heap.size) (hy:y<w.heap.size) (W:World) (l:Nat) (o o':Obj) (hl:w.heap.size<=l) (_:W.heap[l]?=some o) (_:o.isCells=false) (_:o.isWalk=false):Qi x y W (W.putObj l o'):=
 ⟨World.putObj_heap_other zO,World.putObj_heap_other zO⟩
theorem Qi.set {x y:Nat} (A:World) (p:Addr) (v:Value) (hx:x≠p.block) (hy:y≠p.block):Qi x y A (A.setCell p v):=
 ⟨zJ A p v x hx,zJ A p v y hy⟩
theorem Qi.below {x y B:Nat} {A C:World} (h:Below B A C) (hx:x<B) (hy:y<B):Qi x y A C:=⟨h.block x hx,h.block y hy⟩
set_option maxRecDepth 100000 in
theorem back8_in (n:Nat) (hn:1<=n) (l Bs b off len cap:Nat) (xs:List UInt8) (aj:len<1099511627776) (hlen:xs.length=len) (J Jx:List (Nat×UInt8)->World->Prop) (hY:∀ pre x W,J pre W->pre.length<len->YieldAt Fence.wide (n-1) prog l #[.int .i64 (x.1:Int),bv x.2] W fun e W' =>
   (e=.returned (.bool true)/\J (pre++[x]) W'/\Qi Bs b W W')\/(e=.returned (.bool false)/\Jx (pre++[x]) W'))
  (W:World) (fO:W.cell? ⟨Bs,0,none⟩=some (.slice (some ⟨b,off,none⟩) len cap)) (hc:∀ j u,(xs.map bv)[j]?=some u->W.cell? ⟨b,off+j,none⟩=some u) (h0:J [] W) :
  CallsIn Fence.wide n prog 181 #[.func (.yield l) #[] #[],.pointer (some ⟨Bs,0,none⟩)] W fun e W'=>(∃ v,e=.returned v) /\
   ((∃ ys,ys=Zn (fun j=>(len-1-j,xs[len-1-j]?.getD 0)) len/\J ys W')\/(∃ pre,(∃ k,k<=len/\pre=Zn (fun j=>(len-1-j,xs[len-1-j]?.getD 0)) k)/\Jx pre W')):=by
 refine callsIn_of_wp func181 rfl trivial ?_ rfl;simp only[ntmps181,List.size_toArray,List.length_cons,List.length_nil,Nat.reduceAdd,Nat.reduceSub,Array.replicate_succ,Array.replicate_zero,List.push_toArray,List.append_toArray,List.nil_append,List.cons_append]
 gi_wp2
 gi_loopw [3] (fun i wr=>∃ k:Nat,k<=len/\i=.int .i64 ((len:Int)-1-k)/\J (Zn (fun j=>(len-1-j,xs[len-1-j]?.getD 0)) k) wr/\Qi Bs b W wr)
  (fun i _=>(intOf i+1).toNat)
 case atStart=>exact⟨0,Nat.zero_le _,zA3,h0,Qi.refl _ _ _⟩
 case round =>
  obtain⟨k,hk,rfl,fC,dR⟩:=hrel;have hBr:wr.cell? ⟨Bs,0,none⟩=some (.slice (some ⟨b,off,none⟩) len cap):=(World.cell?_of_block (w:=W) dR.1).trans fO;by_cases hlt:k<len
  ·have uK:wr.cell? ⟨b,off+(len-1-k),none⟩=some (bv (xs[len-1-k]?.getD 0)):=by refine(World.cell?_of_block (w:=W) dR.2).trans (hc _ _ ?_);rw[List.getElem?_map,zL zO];simp
   obtain⟨fn,tmps,assign,body,hy,hR⟩:=hY _ (len-1-k,xs[len-1-k]?.getD 0) wr fC (by rw[zj];exact hlt);dsimp only at hy;obtain⟨i,hi⟩:∃ i:Nat,len-1-k=i:=⟨_,rfl⟩
   have dD:(len:Int)-1-k=(i:Int):=zO;have hil:i<len:=zO;have hik:k+i+1<=len/\len<=k+i+1:=zO;have HU:=zH (Ju (fun j=>(len-1-j,xs[len-1-j]?.getD 0)) k);obtain⟨u,hu⟩:∃ u,xs[i]?.getD 0=u:=⟨_,rfl⟩
   rw[hi] at uK hy hR;rw[hu] at uK hy hR;rw[dD];clear dD;have HE:=zH hu;clear hu;have HI:=zH hi;clear hi
   gi_wp2
   refine hR.mono ?_;rintro e W3 (⟨rfl,xZ,ig⟩|⟨rfl,iH⟩)
   ·gi_wp2
    go_roundw
    case rel=>exact⟨k+1,zO,by go_num,by rw[HU.out,HI.out,HE.out];exact xZ,dR.t ig⟩
    case measure=>simp[intOf]
   ·gi_wp2
    refine bodyPost_ret (results_none rfl _ _ _) rfl ?_;exact⟨⟨_,rfl⟩,.inr ⟨_,⟨k+1,zO,by rw[HU.out,HI.out,HE.out]⟩,iH⟩⟩
  ·obtain rfl:k=len:=zO
   gi_wp2
   go_end0;exact⟨⟨_,rfl⟩,.inl ⟨_,rfl,fC⟩⟩
def S8 (W:World) (Bs b:Nat) (v:Value) (xs:List UInt8):Prop:=
 W.cell? ⟨Bs,0,none⟩=some v/\((xs=[]/\∃ A c,v=.slice A 0 c)\/∃ off cap,v=.slice (some ⟨b,off,none⟩) xs.length cap/\∀ j u,(xs.map bv)[j]?=some u->W.cell? ⟨b,off+j,none⟩=some u)
theorem S8.keep {W W':World} {Bs b:Nat} {v:Value} {xs:List UInt8} (h:S8 W Bs b v xs) (hk:Qi Bs b W W'):S8 W' Bs b v xs:=by
 refine⟨(World.cell?_of_block (w:=W) hk.1).trans h.1,?_⟩;rcases h.2 with h|⟨off,cap,e,hc⟩
 ·exact .inl h
 ·exact .inr ⟨off,cap,e,fun j u hu=>(World.cell?_of_block (w:=W) hk.2).trans (hc j u hu)⟩
set_option maxRecDepth 100000 in
theorem qbD (n l Bs c:Nat) (A:Option Addr) (J:List (Nat×UInt8)->World->Prop) (W:World) (fO:W.cell? ⟨Bs,0,none⟩=some (.slice A 0 c)) (h0:J [] W):CallsIn Fence.wide n prog 181 #[.func (.yield l) #[] #[],.pointer (some ⟨Bs,0,none⟩)] W fun e W'=>(∃ v,e=.returned v)/\J [] W':=by
 refine callsIn_of_wp func181 rfl trivial ?_ rfl;simp only[ntmps181,List.size_toArray,List.length_cons,List.length_nil,Nat.reduceAdd,Nat.reduceSub,Array.replicate_succ,Array.replicate_zero,List.push_toArray,List.append_toArray,List.nil_append,List.cons_append]
 gi_wp2
 gi_loopw [3] (fun i wr=>i=.int .i64 (-1)/\J [] wr) (fun _ _=>0)
 case atStart=>exact⟨rfl,h0⟩
 case round =>
  obtain⟨rfl,fC⟩:=hrel
  gi_wp2
  go_end0;exact⟨⟨_,rfl⟩,fC⟩
def vY (xs:List UInt8) (k:Nat):List (Nat×UInt8):=Zn (fun j=>(xs.length-1-j,xs[xs.length-1-j]?.getD 0)) k
theorem qcQ (n:Nat) (hn:1<=n) (Bs b:Nat) (v:Value) (xs:List UInt8) (aj:xs.length<1099511627776) (w:World) (fO:Bs<w.heap.size) (hb:b<w.heap.size) (hS:S8 w Bs b v xs):SeqStopsK Fence.wide n prog 181 #[.pointer (some ⟨Bs,0,none⟩)] (fun x:Nat×UInt8=>#[.int .i64 (x.1:Int),bv x.2]) (Qi Bs b) (fun ys=>ys=vY xs xs.length)
   (fun pre=>∃ k,k<=xs.length/\pre=vY xs k) xs.length w:=fun l J Jx W hW _ _ hY h0=>by
 obtain⟨hc,h⟩:=hS.keep (Qi.below hW fO hb);rcases h with ⟨rfl,A,c,rfl⟩|⟨off,cap,rfl,bV⟩
 ·exact(qbD n l Bs c A J W hc h0).mono fun e W' ⟨he,hj⟩=>⟨he,.inl ⟨_,rfl,hj⟩⟩
 ·exact back8_in n hn l Bs b off xs.length cap xs aj rfl J Jx hY W hc bV h0
theorem qbJ (n:Nat) (A:Option Addr) (m c:Nat) (w:World):CallsIn Fence.wide n prog 176 #[.slice A m c] w fun e w'=>e=.returned (.func (.func 181) #[] #[.pointer (some ⟨w.heap.size,0,none⟩)])/\w'=w.alloc (.cells #[.slice A m c] 26):=by
 refine callsIn_of_wp func176 rfl trivial ?_ rfl;simp only[ntmps176,List.size_toArray,List.length_cons,List.length_nil,Nat.reduceAdd,Nat.reduceSub,Array.replicate_succ,Array.replicate_zero,List.push_toArray,List.append_toArray,List.nil_append,List.cons_append]
 gi_wp2
 go_ret;exact⟨rfl,rfl⟩
def XP:List (Nat×UInt8)->Int:=List.foldl (fun s x=>bits .or .u32 (s*256 % 4294967296) ((x.2.toNat:Int) % 4294967296)) 0
theorem qbh (pre:List (Nat×UInt8)) (x:Nat×UInt8):XP (pre++[x])=bits .or .u32 (XP pre*256 % 4294967296) ((x.2.toNat:Int) % 4294967296):=by simp[XP]
theorem qhp (a b:Nat) (ha:a<16777216) (hb:b<256):bits .or .u32 ((a:Int)*256 % 4294967296) ((b:Int) % 4294967296)=((b+256*a:Nat):Int):=by have e1:(a:Int)*256 % 4294967296=((a*256:Nat):Int):=zO;have e2:(b:Int) % 4294967296=(b:Int):=zO;rw[e1,e2,or_u32 _ _ zO zO,or_byte a b hb]
theorem qfy (xs:List UInt8) (h7:xs.length<=4):∀ k,k<=xs.length->XP (vY xs k)=(Ji (xs.drop (xs.length-k)):Int):=by
 intro k;induction k with
 |zero=>intro _;simp[vY,Zn,XP,Ji]
 |succ k ih =>
  intro hk;have hi:=ih zO;have hs:vY xs (k+1)=vY xs k++[(xs.length-1-k,xs[xs.length-1-k]?.getD 0)]:=Ju _ k;rw[hs,qbh,hi];have hd:xs.drop (xs.length-(k+1))=xs[xs.length-1-k]?.getD 0 :: xs.drop (xs.length-k):=by have e:xs.length-(k+1)=xs.length-1-k:=zO;rw[e,List.drop_eq_getElem_cons zO,zL zO];simp only[Option.getD_some];congr 2;omega
  rw[hd];have hlt:=GB (xs.drop (xs.length-k));have hl:(xs.drop (xs.length-k)).length<=3:=zA2;have hp:256 ^ (xs.drop (xs.length-k)).length<=256 ^ 3:=Nat.pow_le_pow_right zO hl;exact qhp _ _ (Nat.lt_of_lt_of_le hlt (Nat.le_trans hp zA1)) (UInt8.toNat_lt _)
theorem numU_all (xs:List UInt8) (h:xs.length<=4):XP (vY xs xs.length)=(Ji xs:Int):=by have:=qfy xs h xs.length (zM _);simpa using this
set_option maxRecDepth 100000 in
theorem get_in (n:Nat) (h3:3<=n) (b off m c at_ many:Nat) (xs:List UInt8) (hx:xs.length=many) (h0:0<many) (h4:many<=4) (ha:at_+many<=m) (hc:m<=c) (hm:c<=maxLen) (w:World) (hb:b<w.heap.size) (hS:∀ j u,(xs.map bv)[j]?=some u->w.cell? ⟨b,off+at_+j,none⟩=some u):CallsIn Fence.wide n prog 165 #[.slice (some ⟨b,off,none⟩) m c,.int .i64 (at_:Int),.int .i64 (many:Int)] w fun e W'=>e=.returned (.tuple #[.int .u32 (XP (vY xs xs.length)),.int .i64 0])/\Below w.heap.size w W':=by
 have h1:1<=n:=zO;unfold maxLen at hm;refine callsIn_of_wp_marks func165 rfl trivial ?_ rfl;simp only[ntmps165,List.size_toArray,List.length_cons,List.length_nil,Nat.reduceAdd,Nat.reduceSub,Array.replicate_succ,Array.replicate_zero,List.push_toArray,List.append_toArray,List.nil_append,List.cons_append]
 gi_wp2_with (refine⟨trivial,?_⟩;gi_at_call 176;refine(qbJ (n-1) _ _ _ _).mono ?_;rintro e w' ⟨rfl,rfl⟩)
 have bS:=Boxed.new w 29 (.int .u32 0);have bN:=Boxed.new (w.alloc (.cells #[.int .u32 0] 29)) 26 (.slice (some ⟨b,off+at_,none⟩) many (c-at_));rw[World.size_alloc] at bN;have hB0:Below w.heap.size w ((w.alloc (.cells #[.int .u32 0] 29)).alloc (.cells #[.slice (some ⟨b,off+at_,none⟩) many (c-at_)] 26)):=((Below.refl _ w).alloc (zM _) _).alloc zA3 _;have hS8:S8 ((w.alloc (.cells #[.int .u32 0] 29)).alloc (.cells #[.slice (some ⟨b,off+at_,none⟩) many (c-at_)] 26)) (w.heap.size+1) b (.slice (some ⟨b,off+at_,none⟩) many (c-at_)) xs:=by refine⟨bN.cell,.inr ⟨off+at_,c-at_,by rw[hx],fun j u hu=>(hB0.cell (p:=⟨b,off+at_+j,none⟩) hb).trans (hS j u hu)⟩⟩
 refine wpIn_rangeFunc_ownG rfl h1 (gf:=181) (lb:=#[.pointer (some ⟨w.heap.size+1,0,none⟩)]) rfl trivial (enters_of func181 zQ rfl)
  (qcQ (n-1) zO (w.heap.size+1) b _ xs zO _ zA3 zA2 hS8) Qi.t (Qi.b zA3 zA2) (Below.refl _ _) (fun _=>rfl)
  (fun pre W=>(W.cell? ⟨w.heap.size,0,none⟩=some (.int .u32 (XP pre))/\W.frozen? ⟨w.heap.size,0,none⟩=false)/\Below w.heap.size w W)
  (fun _ _ _=>False)
  (OwnFrom.and (Own.from (fun s A B row hs hg hr=>⟨cell_kept hs.1 hg hr,(frozen_kept hs.1 hg hr).trans hs.2⟩) _) (ownFrom_below (zM _) zA2))
  (fun _ _ _ _ _ hs _ _=>hs)
  ⟨⟨(bS.alloc _).cell,(bS.alloc _).frozen⟩,hB0⟩
  (fun x=>{ tmps:=#[.slice (some ⟨b,off,none⟩) m c,.int .i64 at_,.int .i64 many,undef,undef,undef,.pointer (some ⟨w.heap.size,0,none⟩),.int .i64 0,undef,bv x.2,.int .i64 at_,.bool (decide ((at_:Int)<0)),.bool (decide ((at_:Int)<0)),.int .i64 at_,
   .slice (some ⟨b,off,none⟩) m c,.int .i64 m,.int .i64 many,.int .i64 ((m:Int)-many),.bool (decide ((m:Int)-many<at_)),.bool (decide ((at_:Int)<0) || decide ((m:Int)-many<at_)),.slice (some ⟨b,off,none⟩) m c,.int .i64 at_,.int .i64 at_,.int .i64 many,.int .i64 ((at_:Int)+many),
   .slice (some ⟨b,off+at_,none⟩) many (c-at_),.func (.func 181) #[] #[.pointer (some ⟨w.heap.size+1,0,none⟩)],.int .i64 (x.1:Int),bv x.2,undef,undef,undef,undef,undef,undef],defers:=[] }) ?assign ?body ?done ?stop
 case assign =>
  intro l x W K hK
  gi_wp2
  exact hK
 case body =>
  rintro l pre x W ⟨⟨hc,hf⟩,hB⟩ _
  gi_wp2
  exact⟨(KeepsOthers.setCell _ _ _).from _,Qi.set _ _ _ zA3 zA2,⟨by rw[qbh];exact World.cell?_setCell_same' _ _ _ (by rw[hc];rfl),by rw[World.frozen?_setCell];exact hf⟩,hB.setCell (p:=⟨w.heap.size,0,none⟩) (zM _) _⟩
 case done =>
  rintro D ys W hD rfl ⟨⟨hc,hf⟩,hB⟩ hK
  gi_wp2
  have hDD:D≠w.heap.size:=by simp at hD;omega
  refine⟨zA3,.inl ⟨_,_,rfl,run_takeDeferred ((zJ W _ _ D hDD).trans hK),?_⟩⟩;have hW2:(W.setCell ⟨w.heap.size,0,none⟩ (.int .u32 (XP (vY xs many)))).heap[D]?=some (Obj.deferred (some [])):=(zJ W _ _ D hDD).trans hK;have hr:((W.setCell ⟨w.heap.size,0,none⟩ (.int .u32 (XP (vY xs many)))).putObj D (Obj.deferred none)).cell? ⟨w.heap.size,0,none⟩=some (.int .u32 (XP (vY xs many))):=
   (World.cell?_of_block (w:=W.setCell ⟨w.heap.size,0,none⟩ (.int .u32 (XP (vY xs many)))) (World.putObj_heap_other (Ne.symm hDD))).trans (World.cell?_setCell_same' _ _ _ (by rw[hc];rfl))
  have dF:Below w.heap.size w ((W.setCell ⟨w.heap.size,0,none⟩ (.int .u32 (XP (vY xs many)))).putObj D (Obj.deferred none)):=
   (hB.setCell (p:=⟨w.heap.size,0,none⟩) (zM _) _).trans (belowK_b (w:=w) (zM _) _ D _ _ (by simp at hD;omega) hW2 rfl rfl)
  rw[hx];refine⟨.tuple #[.int .u32 (XP (vY xs many)),.int .i64 0],?_,rfl,dF⟩;simp[results,results165,hr,go_sem]
 case stop =>rintro D c pre W _ _ h _;exact h.elim
def Za (l:List UInt8) (a k:Nat):Int:=if a+k<=l.length then (Ji ((l.drop a).take k):Int) else 0
def Xl (l:List UInt8) (a k:Nat):Int:=if a+k<=l.length then 0 else 8
theorem qgl (v:Value) (l:List UInt8) (at_ many:Nat) (h0:0<many) (h4:many<=4) (ha:at_<1000) (w:World) (h:Bys w w.heap.size v l):Calls prog 165 #[v,.int .i64 (at_:Int),.int .i64 (many:Int)] w (Ret (.tuple #[.int .u32 (Za l at_ many),.int .i64 (Xl l at_ many)]) w):=by
 obtain⟨A,c,rfl,hc,hm,hr⟩:=h;by_cases hin:at_+many<=l.length
 ·obtain⟨b,off,rfl,hb,aF⟩:=hr.2 zO;have hlen:((l.drop at_).take many).length=many:=zA2;have e:=numU_all ((l.drop at_).take many) zO;refine(callsIn_wide (n:=3)).1 ?_;refine(get_in 3 zO b off l.length c at_ many ((l.drop at_).take many) hlen h0 h4 hin hc hm w hb ?_).mono fun e' w' h=>?_
  ·intro j u hj;rw[List.getElem?_map,List.getElem?_take] at hj;split at hj
   ·rw[List.getElem?_drop] at hj;have:=aF (at_+j) u (by rw[List.getElem?_map];exact hj)
    rwa [<-Nat.add_assoc] at this
   ·cases hj
  ·rw[e] at h;simp only[Za,Xl,if_pos hin];exact h
 ·go_enter func165,ntmps165;unfold maxLen at hm;simp only[Za,Xl,if_neg hin];go_wp2;refine bodyPost_ret (v:=.tuple #[.int .u32 0,.int .i64 8]) (by simp[results,results165,go_sem]) rfl ⟨rfl,zA5⟩
end Go.Proofs.YtpbniokljofedaaGreat
