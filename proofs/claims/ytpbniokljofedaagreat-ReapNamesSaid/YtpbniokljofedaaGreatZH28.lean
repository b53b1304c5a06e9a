/- Texts ReapW, Reap, Left1, RoomyD, Chg, VOpen, ForW, ForW2, PoolC, VPut, SnapG, SnapS, SnapE, Snap, Freeze, Cre1, FreeN, joined. -/
import Derived.Test.YtpbniokljofedaaGreatZH27
set_option linter.unusedSimpArgs false
set_option linter.unusedVariables false
set_option maxHeartbeats 8000000
open Go.Proofs.Tryz
namespace Go.Proofs.YtpbniokljofedaaGreat
open Go.RowKit
def Jn (T:Sto) (a:Int):Except Int Sto:=if ZO T a=0 then .ok (qt T (ZZ T.now a.toNat)) else .error (ZO T a)
theorem VK {T:Sto} {a:Int} (h:ZO T a=0):Jn T a=.ok (qt T (ZZ T.now a.toNat)):=by unfold Jn;rw[if_pos h]
theorem Gg {T:Sto} {a:Int} (h:ZO T a≠0):Jn T a=.error (ZO T a):=by unfold Jn;rw[if_neg h]
def TZ (lvl:Int) (gone:Bool) (q:List Int×Except Int Sto) (x:It):List Int×Except Int Sto:=match q.2 with
 | .error _=>q
 | .ok T=>if gone=false\/x.r=0 then q else if 0<lvl then (q.1++[x.r],q.2) else (q.1,Jn T x.r)
def Ua (lvl:Int) (gone:Bool) (xs:List It) (q:List Int×Except Int Sto):List Int×Except Int Sto:=xs.foldl (TZ lvl gone) q
def errI:Except Int Sto->Int
 | .error e=>e
 | .ok _=>0
def GB (S:Sto) (ini:List Int) (a:Nat):Except Int (List Int×Sto):=match qv S a with
 |none=>.error 8
 |some (lvl,xs)=>match Ua lvl (decide (Qd S.now a=1)) xs (ini,Jn S (a:Int)) with
  |(_,.error _)=>.error 8
  |(D,.ok T)=>if 40<D.length then .error 9 else .ok (D,T)
theorem qfo (lvl:Int) (gone:Bool) (xs:List It) (k:Nat) (hk:k<xs.length) (q:List Int×Except Int Sto):Ua lvl gone (xs.take (k+1)) q=TZ lvl gone (Ua lvl gone (xs.take k) q) xs[k]:=by unfold Ua;rw[<-List.take_append_getElem hk,List.foldl_append];rfl
theorem qfn (lvl:Int) {gone:Bool} (D:List Int) (T:Sto) {x:It} (h:gone=false\/x.r=0):TZ lvl gone (D,.ok T) x=(D,.ok T):=by unfold TZ;simp only;rw[if_pos h]
theorem qfm {lvl:Int} {gone:Bool} (D:List Int) (T:Sto) {x:It} (h:¬(gone=false\/x.r=0)) (hl:0<lvl):TZ lvl gone (D,.ok T) x=(D++[x.r],.ok T):=by unfold TZ;simp only;rw[if_neg h,if_pos hl]
theorem qfl {lvl:Int} {gone:Bool} (D:List Int) (T:Sto) {x:It} (h:¬(gone=false\/x.r=0)) (hl:¬0<lvl):TZ lvl gone (D,.ok T) x=(D,Jn T x.r):=by unfold TZ;simp only;rw[if_neg h,if_neg hl]
theorem Gh {T T':Sto} {a:Int} (hT:qm T=true) (h:Jn T a=.ok T'):qm T'=true:=by
 by_cases h0:ZO T a=0
 ·rw[VK h0] at h;cases h;obtain⟨_,m,rfl,hm8,_,_⟩:=qbp h0;exact may_now hT hm8 _
 ·rw[Gg h0] at h;cases h
def VD (S:Sto) (gen root next:Int) (dead:List Int) (w:World) (e:Ending) (w':World):Prop:=Below w.heap.size w w' /\
 ((e=.returned (.tuple #[Vg,.int .i64 8])/\Zm S root next dead) \/
  ∃ vs refs nodes,Zd S root next dead vs/\Qv S (Zg root dead vs) refs nodes/\Zz S refs /\
   ((dead=[]/\e=.returned (.tuple #[Vg,.int .i64 6]))\/∃ (ini:List Int) (a:Nat),dead=ini++[(a:Int)] /\
    match GB S ini a with
    | .error er=>e=.returned (.tuple #[Vg,.int .i64 er])
    | .ok (D,T)=>∃ u,e=.returned (.tuple #[u,.int .i64 0])/\Jf w.heap.size T gen root next D u w'))
structure RpC (S:Sto) (lvl:Int) (xs:List It) (gone:Bool) (ini:List Int) (a:Nat) (v1 v2 v3 v4 v5 v6 v7:Value) (pb sb lo m:Nat) (w wL:World) (k:Nat) (D:List Int) (q:Except Int Sto) (A5:Option Addr) (c5:Nat) (u0 u1 u2 u3:Value) (wr:World):Prop where
 le:k<=xs.length
 eq:Ua lvl gone (xs.take k) (ini,Jn S (a:Int))=(D,q)
 few:D.length<=40+k
 pool:wr.heap[pb]?=some (.cells #[v1,v2,v3,v4,v5,v6,v7,.slice A5 D.length c5] 32 (0,0))
 own:wr.ownsRow lo 3 1 (.slice A5 D.length c5) D.length (vS D)
 box:wr.heap[sb]?=some (.cells #[u0,u1,u2,u3] 28 (0,0))
 err:∀ er,q=.error er->er≠0
 ok:∀ T,q=.ok T->qm T=true/\QF lo T (.agg #[u0,u1,u2,u3]) wr
 at_:∀ g,(Value.slice A5 D.length c5).ownBlock=some g->g<m\/wL.heap.size<=g
 kept:∀ p,m<=p->p<wL.heap.size->p≠sb->wr.heap[p]?=wL.heap[p]?
 size:wL.heap.size<=wr.heap.size
 bel:Below w.heap.size w wr
 out:pb+1<wL.heap.size/\wr.heap[pb+1]?=wL.heap[pb+1]?
theorem QF.ext' {lo:Nat} {S:Sto} {u:Value} {W W2:World} (h:QF lo S u W) (hx:Ext W W2):QF lo S u W2:=h.keep (zM _) hx.size fun b _ h2=>Below.block hx b h2
theorem RpC.next {S:Sto} {lvl:Int} {xs:List It} {gone:Bool} {ini:List Int} {a:Nat} {v1 v2 v3 v4 v5 v6 v7:Value} {pb sb lo m:Nat} {w wL:World} {k:Nat} {D:List Int} {q:Except Int Sto} {A5:Option Addr} {c5:Nat} {u0 u1 u2 u3:Value} {wr wr':World} (h:RpC S lvl xs gone ini a v1 v2 v3 v4 v5 v6 v7 pb sb lo m w wL k D q A5 c5 u0 u1 u2 u3 wr) (hx:Ext wr wr') {j:Nat} (hj:j<=xs.length) (hkj:k<=j) (he:Ua lvl gone (xs.take j) (ini,Jn S (a:Int))=(D,q)):RpC S lvl xs gone ini a v1 v2 v3 v4 v5 v6 v7 pb sb lo m w wL j D q A5 c5 u0 u1 u2 u3 wr':=
 ⟨hj,he,Nat.le_trans h.few (Nat.add_le_add_left hkj _),qb h.pool hx,QA h.own fun q hq=>Below.block hx q (Ql h.own q hq).2,qb h.box hx,h.err,fun T e=>⟨(h.ok T e).1,(h.ok T e).2.ext' hx⟩,h.at_,
  fun p h1 h2 h3=>(Below.block hx p (Nat.lt_of_lt_of_le h2 h.size)).trans (h.kept p h1 h2 h3),Nat.le_trans h.size hx.size,Below.trans h.bel (Below.mono hx h.bel.size),h.out.1,(Below.block hx _ (Nat.lt_of_lt_of_le h.out.1 h.size)).trans h.out.2⟩
theorem RpC.more {S:Sto} {lvl:Int} {xs:List It} {gone:Bool} {ini:List Int} {a:Nat} {v1 v2 v3 v4 v5 v6 v7:Value} {pb sb lo m:Nat} {w wL:World} {k:Nat} {D:List Int} {A5:Option Addr} {c5:Nat} {u0 u1 u2 u3:Value} {T:Sto} {wr wa w6:World} {x:Int} {A7:Option Addr} {c7:Nat} (h:RpC S lvl xs gone ini a v1 v2 v3 v4 v5 v6 v7 pb sb lo m w wL k D (.ok T) A5 c5 u0 u1 u2 u3 wr) (hx:Ext wr wa) (hp:pb+1<lo) (nP:w.heap.size<=pb) (hlm:lo<=m) (hms:m<=sb) (hsL:sb<wL.heap.size) (aB:w6.ownsRow lo 3 1 (.slice A7 (D.length+1) c7) (D.length+1) (vS D++[.int .i64 x])) (hg:wa.grownBy w6 (Value.slice A5 D.length c5).ownBlock) (hB:Below lo wa w6) (dW:(Value.slice A7 (D.length+1) c7).ownBlock=(Value.slice A5 D.length c5).ownBlock\/∃ g,(Value.slice A7 (D.length+1) c7).ownBlock=some g/\wa.heap.size<=g) (hk:k<xs.length) (he:Ua lvl gone (xs.take (k+1)) (ini,Jn S (a:Int))=(D++[x],.ok T)):RpC S lvl xs gone ini a v1 v2 v3 v4 v5 v6 v7 pb sb lo m w wL (k+1) (D++[x]) (.ok T) A7 c7 u0 u1 u2 u3 (w6.setCell ⟨pb,7,none⟩ (.slice A7 (D.length+1) c7)):=by
 have hl:(D++[x]).length=D.length+1:=zA3;have hs:=h.size;have oN:=hx.size;have fM:=hB.size;have ho:∀ q,(Value.slice A5 D.length c5).ownBlock=some q->lo<=q/\(q<m\/wL.heap.size<=q):=fun q hq=>⟨(Ql h.own q hq).1,h.at_ q hq⟩
 have nC:∀ q,q<wr.heap.size->(Value.slice A5 D.length c5).ownBlock≠some q->q≠pb->(w6.setCell ⟨pb,7,none⟩ (.slice A7 (D.length+1) c7)).heap[q]?=wr.heap[q]?:=fun q h1 h2 h3 =>
  (zJ _ _ _ _ h3).trans ((hg.block q zO fun e=>h2 e.symm).trans (Below.block hx q h1))
 have hpw:=(zG.1 h.pool).1;refine⟨zO,he,by have:=h.few;omega,?_,?_,?_,h.err,fun T' e=>⟨(h.ok T' e).1,?_⟩,fun g hq=>?_,fun p h1 h2 h3=>?_,zA2,?_,h.out.1,(nC (pb+1) (by have:=h.out.1;omega) (fun e=>by have:=(ho _ e).1;omega) zO).trans h.out.2⟩
 ·rw[hl];exact qi ((hg.block pb zO fun e=>by have:=(ho pb e.symm).1;omega).trans (qb h.pool hx)) 7 _
 ·rw[hl,show vS (D++[x])=vS D++[.int .i64 x] by simp[vS]];exact QA aB fun q hq=>zJ _ _ _ _ (by have:=(Ql aB q hq).1;simp;omega)
 ·exact(nC sb zO (fun e=>by have:=ho sb e;omega) zO).trans h.box
 ·rcases hob:(Value.slice A5 D.length c5).ownBlock with _|g
  ·exact(h.ok T' e).2.keep (zM _) zA2 fun b h1 h2=>nC b h2 (by rw[hob];simp) zO
  ·obtain⟨cur,hc⟩:=Zj h.own hob;exact(h.ok T' e).2.keepT (zM _) zA2 hc zA1 fun b h1 h2 h3=>nC b h2 (by rw[hob];intro e;exact h3 (by simpa using e.symm)) zO
 ·rw[hl] at hq;rcases dW with e|⟨g',e1,e2⟩
  ·exact(ho g (by rw[<-e];exact hq)).2
  ·rw[e1] at hq;cases hq;exact .inr zO
 ·exact(nC p zO (fun e=>by have:=ho p e;omega) zO).trans (h.kept p h1 h2 h3)
 ·exact Below.setCell (Below.trans h.bel (Below.trans (Below.mono hx h.bel.size) (Below.mono hB zO))) (p:=⟨pb,7,none⟩) nP _
theorem RpC.loose {S:Sto} {lvl:Int} {xs:List It} {gone:Bool} {ini:List Int} {a:Nat} {v1 v2 v3 v4 v5 v6 v7:Value} {pb sb lo m:Nat} {w wL:World} {k:Nat} {D:List Int} {A5:Option Addr} {c5:Nat} {u0 u1 u2 u3:Value} {T:Sto} {q':Except Int Sto} {wr wc:World} {x0 x1 x2 x3:Value} {lo':Nat} (h:RpC S lvl xs gone ini a v1 v2 v3 v4 v5 v6 v7 pb sb lo m w wL k D (.ok T) A5 c5 u0 u1 u2 u3 wr) (hx:Ext wr wc) (hp:pb+1<lo) (nP:w.heap.size<=pb) (hlm:lo<=m) (hms:m<=sb) (hsL:sb<wL.heap.size) (aO:wL.heap.size<=lo') (hk:k<xs.length) (he:Ua lvl gone (xs.take (k+1)) (ini,Jn S (a:Int))=(D,q')) (h1:∀ er,q'=.error er->er≠0) (h2:∀ T',q'=.ok T'->qm T'=true/\QF lo' T' (.agg #[x0,x1,x2,x3]) wc):RpC S lvl xs gone ini a v1 v2 v3 v4 v5 v6 v7 pb sb lo m w wL (k+1) D q' A5 c5 x0 x1 x2 x3 ((((wc.setCell ⟨sb,0,none⟩ x0).setCell ⟨sb,1,none⟩ x1).setCell ⟨sb,2,none⟩ x2).setCell ⟨sb,3,none⟩ x3):=by
 have hs:=h.size;have oN:=hx.size;have ho:∀ q,(Value.slice A5 D.length c5).ownBlock=some q->lo<=q/\q<wr.heap.size/\(q<m\/wL.heap.size<=q):=fun q hq=>⟨(Ql h.own q hq).1,(Ql h.own q hq).2,h.at_ q hq⟩
 have nC:∀ q,q<wr.heap.size->q≠sb->((((wc.setCell ⟨sb,0,none⟩ x0).setCell ⟨sb,1,none⟩ x1).setCell ⟨sb,2,none⟩ x2).setCell ⟨sb,3,none⟩ x3).heap[q]?=wr.heap[q]?:=fun q h1 h2=>by have hs:=fun (A:World) (j:Nat) (v:Value)=>zJ A ⟨sb,j,none⟩ v q h2;rw[hs,hs,hs,hs];exact Below.block hx q h1
 have hpw:=(zG.1 h.pool).1;refine⟨zO,he,by have:=h.few;omega,(nC pb hpw zO).trans h.pool,QA h.own fun q hq=>nC q (ho q hq).2.1 (by have:=ho q hq;omega),Xd (qb h.box hx) _ _ _ _,h1,fun T' e=>⟨(h2 T' e).1,(h2 T' e).2.set4 zO zO _ _ _ _⟩,h.at_,fun p h3 h4 h5=>(nC p zO h5).trans (h.kept p h3 h4 h5),zA2,ZW (Below.trans h.bel (Below.mono hx h.bel.size)) zO _ _ _ _,h.out.1,(nC (pb+1) (by have:=h.out.1;omega) zO).trans h.out.2⟩
structure RpI (S:Sto) (lvl:Int) (xs:List It) (gone:Bool) (ini:List Int) (a:Nat) (v1 v2 v3 v4 v5 v6 v7:Value) (pb sb lo m:Nat) (w wL:World) (e i:Value) (wr:World):Prop where
 ex:∃ (k:Nat) (D:List Int) (q:Except Int Sto) (A5:Option Addr) (c5:Nat) (u0 u1 u2 u3:Value),i=.int .i64 (k:Int)/\e=.int .i64 (errI q)/\RpC S lvl xs gone ini a v1 v2 v3 v4 v5 v6 v7 pb sb lo m w wL k D q A5 c5 u0 u1 u2 u3 wr
theorem VQ {R:Ending->World->Prop} {a:Act} {W:World} {b:Nat} {x0 x1 x2 x3 x4 x5 x6 x7 v:Value} (h4:a.tmps[2]?.getD undef=.pointer (some ⟨b,0,none⟩)) (h5:a.tmps[3]?.getD undef=v) (hd:a.defers=[]) (aC:W.heap[b]?=some (.cells #[x0,x1,x2,x3,x4,x5,x6,x7] 32 (0,0))) (hR:R (.returned (.tuple #[.agg #[x0,x1,x2,x3,x4,x5,x6,x7],v])) W):bodyPost prog Tryz.f35 R .ret a W:=by
 refine bodyPost_ret (v:=.tuple #[.agg #[x0,x1,x2,x3,x4,x5,x6,x7],v]) ?_ hd hR;have k:=qa aC;simp[results,results35,go_sem,h4,h5,k]
theorem Zs.front {w:World} {B:Nat} {A:Option Addr} {c:Nat} {ini:List Int} {x:Int} (h:Zs w B (.slice A (ini++[x]).length c) (ini++[x])):Zs w B (.slice A ini.length c) ini/\∃ b off,A=some ⟨b,off,none⟩/\w.cell? ⟨b,off+ini.length,none⟩=some (.int .i64 x):=by obtain⟨A',c',e,h1,h2,hr⟩:=h;cases e;have hl:0<(ini++[x]).length:=zA3;obtain⟨b,off,rfl,hb,hc⟩:=hr.2 hl;simp only[List.length_append,List.length_singleton] at h1;refine⟨⟨_,_,rfl,zO,h2,by simp[vS],fun hn=>⟨b,off,rfl,hb,fun j u hu=>hc j u ?_⟩⟩,b,off,rfl,hc ini.length _ (by simp[vS])⟩;simp only[vS,List.map_append] at hu ⊢;rw[List.getElem?_append_left (List.getElem?_eq_some_iff.1 hu).1];exact hu
set_option maxRecDepth 100000 in
theorem GC (A1:Option Addr) (n1 c1:Nat) (A2:Option Addr) (n2 c2:Nat) (A3:Option Addr) (n3 c3:Nat) (A4:Option Addr) (n4 c4:Nat) (gen root next:Int) (A5:Option Addr) (c5:Nat) (S:Sto) (dead:List Int) (w:World) (h:qX w w.heap.size (.slice A1 n1 c1) (.slice A2 n2 c2) (.slice A3 n3 c3) (.slice A4 n4 c4) S) (hd:Zs w w.heap.size (.slice A5 dead.length c5) dead):Calls prog 35 #[.agg (qH (.slice A1 n1 c1) (.slice A2 n2 c2) (.slice A3 n3 c3) (.slice A4 n4 c4) gen root next (.slice A5 dead.length c5))] w (VD S gen root next dead w):=by
 have HC:=zH (fun W (hx:Ext w W)=>Xc A1 n1 c1 A2 n2 c2 A3 n3 c3 A4 n4 c4 gen root next A5 c5 S dead W (h.ext hx) (hd.ext_ hx));obtain⟨i0,hi,aX,aU,aV⟩:=info_parts Tryz.info_int;replace hi:=zH hi;replace h:=zH h;replace hd:=zH hd;go_enter func35,ntmps35;go_wp2_with fail;generalize aA:World.alloc (World.alloc w _) _=w1;have x1:Ext w w1:=by rw[<-aA];exact(zN _ _).trans (zN _ _)
 have pX:w1.heap[w.heap.size]?=some (.cells (qH (.slice A1 n1 c1) (.slice A2 n2 c2) (.slice A3 n3 c3) (.slice A4 n4 c4) gen root next (.slice A5 dead.length c5)) 32 (0,0)):=by rw[<-aA];exact(zK _ _ _ zA3).trans (zI _ _ _ rfl)
 have yO:w1.heap[w.heap.size+1]?=some (.cells (qH (.slice none 0 0) (.slice none 0 0) (.slice none 0 0) (.slice none 0 0) 0 0 0 (.slice none 0 0)) 32 (0,0)):=by rw[<-aA];exact zI _ _ _ zA3
 have kp1:=qa pX;clear aA;go_wp2_with fail;refine(HC.out w1 x1).mono ?_;clear HC;rintro e w2 ⟨hB,hQ⟩;have x2:Ext w w2:=x1.trans hB;have nU:=qb pX hB;have lF:=qb yO hB;have kp2:=qa nU;have ko2:=qa lF;have fo2:=qe lF;have zo2:w.heap.size+1<w2.heap.size:=(zG.1 lF).1;clear hB pX yO kp1;rcases hQ with ⟨rfl,az⟩|⟨rfl,vs,refs,nodes,hpb,nZ,xP⟩
 ·have az:=zH (show Zm S root next dead from az);go_wp2_with fail;exact VQ (b:=w.heap.size+1) rfl rfl rfl (VP lF _ _ _ _ _ _ _ _) ⟨ji x2 zO _ _ _ _ _ _ _ _,.inl ⟨rfl,az.out⟩⟩
 have aI:=zH (fun e W (hb:Below w.heap.size w W) hx=>(⟨hb,.inr ⟨vs,refs,nodes,hpb,nZ,xP,hx⟩⟩:VD S gen root next dead w e W));rcases List.eq_nil_or_concat dead with h0|⟨ini,at_,h0⟩
 ·subst h0;replace hpb:=zH hpb;clear nZ xP;have hF:Hid (∀ W,Below w.heap.size w W->VD S gen root next [] w (.returned (.tuple #[Vg,.int .i64 6])) W):=zH fun W hb=>aI.out _ W hb (.inl ⟨rfl,rfl⟩);clear aI;go_wp2_with fail;exact VQ (b:=w.heap.size+1) rfl rfl rfl (VP lF _ _ _ _ _ _ _ _) (hF.out _ (ji x2 zO _ _ _ _ _ _ _ _))
 ·rw[List.concat_eq_append] at h0;obtain⟨a,rfl,ha,bK,lvl,xs,hn,-⟩:=KC (hpb.ok at_ (by rw[h0];unfold Zx;simp));have hS:=hpb.may;have dU:ini.length+1<=40:=by have:=hpb.few;rw[h0] at this;simpa using this
  have iY:ZO S (a:Int)=0:=by rw[Xj hS ha bK,if_neg (show ¬ZD S a=0 from fun e=>by unfold qv at hn;rw[if_pos (show (S.now[a]?.getD 0).toNat=0 from e)] at hn;cases hn)]
  have ae:=zH (fun e W (hb:Below w.heap.size w W) (hx:match GB S ini a with
    | .error er=>e=.returned (.tuple #[Vg,.int .i64 er])
    | .ok (D,T)=>∃ u,e=.returned (.tuple #[u,.int .i64 0])/\Jf w.heap.size T gen root next D u W)=>aI.out e W hb (.inr ⟨ini,a,h0,hx⟩))
  clear aI nZ xP hpb;have hnH:=zH hn;subst h0;obtain⟨hI,b5,o5,rfl,hca⟩:=(hd.out.ext_ x2).front;have hlen:(ini++[(a:Int)]).length=ini.length+1:=zA3;rw[hlen] at *;have hcap:ini.length<=c5:=by obtain⟨A,c,e,h1,-,-⟩:=hI;cases e;exact h1
  have hFX:(ini.length:Int)<=(c5:Int):=zO;have hli:((ini.length+1:Nat):Int)-1=(ini.length:Int):=zO;replace hI:=zH hI;clear hlen hd;have HI:=zH (Gb (.slice (some ⟨b5,o5,none⟩) ini.length c5) ini zO w2 hI.out);go_wp2_with fail;refine HI.out.mono ?_;clear HI hI hca;rintro e w3 ⟨u,rfl,aB,hB⟩;obtain⟨A6,c6,rfl,-,-⟩:=qy aB;have dA:Ext w2 w3:=hB;have x3:Ext w w3:=x2.trans dA;have lG:=qb nU hB;have oP:=qb lF hB;have kp3:=qa lG;have fp3:=qe lG;have zp3:=(zG.1 lG).1;replace aB:=zH aB;clear hB nU lF kp2 ko2 fo2;go_upto_region 9 with fail;generalize hw4:World.setCell w3 _ _=w4;have tV:w4.heap[w.heap.size]?=some (.cells (qH (.slice A1 n1 c1) (.slice A2 n2 c2) (.slice A3 n3 c3) (.slice A4 n4 c4) gen root next (.slice A6 ini.length c6)) 32 (0,0)):=by rw[<-hw4];exact qi lG 7 _
  have o4:∀ q,q≠w.heap.size->w4.heap[q]?=w3.heap[q]?:=fun q hq=>by rw[<-hw4];exact zJ _ _ _ _ hq
  have x4:Ext w w4:=by rw[<-hw4];exact Below.setCell x3 (p:=⟨w.heap.size,7,none⟩) (zM _) _
  have z4:w4.heap.size=w3.heap.size:=by rw[<-hw4];simp
  have ro4:=(o4 (w.heap.size+1) zO).trans oP;have wH:=zH (QA aB.out fun q hq=>o4 q (by have:=(Ql aB.out q hq).1;omega));have z34:w2.heap.size<=w4.heap.size:=by have:=dA.size;omega
  have HN:=zH (Yi A1 n1 c1 A2 n2 c2 A3 n3 c3 A4 n4 c4 S (a:Int) w4 (h.out.ext x4));rw[iY,if_pos rfl,Int.toNat_natCast,hn] at HN;have kp4:=qa tV;clear hw4 lG oP kp3 fp3 zp3 aB z4 o4;go_wp2_with fail;refine HN.out.mono ?_;clear HN;rintro e w5 ⟨u,rfl,⟨A9,c9,rfl,aG⟩,hB⟩;have au:Ext w4 w5:=hB;have x5:Ext w w5:=x4.trans au;have wV:=qb tV hB;have ro5:=qb ro4 hB;have hAQ:=zH (QA wH.out fun q hq=>Below.block au q (Ql wH.out q hq).2);have hlt5:=zH (fun q (hq:(Value.slice A6 ini.length c6).ownBlock=some q)=>(Ql wH.out q hq).2);replace aG:=zH aG;clear hB tV ro4 kp4 wH;go_upto_region 10 with fail;generalize mf:World.alloc w5 _=w6;have dV:Ext w5 w6:=by rw[<-mf];exact zN _ _
  have x6:Ext w w6:=x5.trans dV;have ut:w6.heap[w5.heap.size]?=some (.cells #[.int .i64 (lvl:Int),.slice A9 xs.length c9] 49 (0,0)):=by rw[<-mf];exact zI _ _ _ rfl
  have uu:=qb wV dV;have ro6:=qb ro5 dV;have z56:w5.heap.size<w6.heap.size:=(zG.1 ut).1;have z45:=au.size;have kp6:=qa uu;clear mf wV ro5;have hh6:=h.out.ext x6;obtain⟨b3,o3,dF,xZ,hg6⟩:∃ b3 o3,A3=some ⟨b3,o3,none⟩/\n3=256/\w6.cell? ⟨b3,o3+a,none⟩=some (.int .u8 (Qd S.now a:Int)):=by obtain⟨A,c,e,h1,-,hr⟩:=hh6.now;have hl:=(qR hS).2.2.1;cases e;obtain⟨b,off,e,hb,hc⟩:=hr.2 zO;refine⟨b,off,e,hl,hc a _ ?_⟩;rw[List.getElem?_map,zL zO];simp[Qd,zL (show a<S.now.length by omega)]
  subst dF;subst xZ;have hai:(a:Int)<256:=zO;have yu:Hid (((Qd S.now a:Int) == 1)=decide (Qd S.now a=1)):=zH (by rw[Bool.eq_iff_iff,beq_iff_eq,decide_eq_true_iff];omega);obtain⟨gone,hgn⟩:∃ gone,decide (Qd S.now a=1)=gone:=⟨_,rfl⟩
  obtain⟨gv,hgv⟩:∃ gv,Qd S.now a=gv:=⟨_,rfl⟩
  rw[hgv] at hg6 yu;have hgn2:Hid (((gv:Int) == 1)=gone):=zH (by rw[yu.out,<-hgn,hgv]);replace hgn:=zH hgn;clear hgv yu;have HL:=zH (fun W (hx:Ext w W)=>UO A1 n1 c1 A2 n2 c2 (some ⟨b3,o3,none⟩) 256 c3 A4 n4 c4 S (a:Int) W (h.out.ext hx));rw[iY,Int.toNat_natCast] at HL;have hFV:=zH iY;clear hh6 iY hn;go_upto_region 11 with fail;rw[hgn2.out];go_wp2_with fail;refine(HL.out w6 x6).mono ?_;rintro e w7 ⟨u,rfl,hQ,hB⟩;rcases hQ with ⟨hh,-⟩|⟨-,v7,rfl,hT⟩
  ·exact absurd rfl hh
  have wX:Ext w6 w7:=hB;have x7:Ext w w7:=x6.trans wX;have rp7:=qb uu hB;have ro7:=qb ro6 hB;have rn7:=qb ut hB;obtain⟨BB,WW,gg,D3,d3,D4,d4,rfl,-⟩:=id hT;have hm0:qm (qt S (ZZ S.now a))=true:=Gh (T:=S) (a:=(a:Int)) hS (by rw[VK hFV.out,Int.toNat_natCast]);replace hT:=zH hT;replace hm0:=zH hm0;clear hB uu ro6 ut kp6;go_upto_region 12 with fail;generalize yI:World.alloc w7 _=wL;have nV:Ext w7 wL:=by rw[<-yI];exact zN _ _
  have rb8:wL.heap[w7.heap.size]?=some (.cells #[.slice (some ⟨BB,0,none⟩) S.bs.length S.bs.length,.slice (some ⟨WW,0,none⟩) S.ws.length (S.ws.length+1),.slice D3 (ZZ S.now a).length d3,.slice D4 S.last.length d4] 28 (0,0)):=by rw[<-yI];exact zI _ _ _ rfl
  have x8:Ext w wL:=x7.trans nV;have rp8:=qb rp7 nV;have ro8:=qb ro7 nV;have rn8:=qb rn7 nV;have x58:Ext w5 wL:=(dV.trans wX).trans nV;have z78:w7.heap.size<wL.heap.size:=(zG.1 rb8).1;have z67:=wX.size;have hz24:=zH z34;have HIt:Hid (∀ W:World,(∀ p,w4.heap.size<=p->p<w5.heap.size->W.heap[p]?=w5.heap[p]?)->Its W W.heap.size (.slice A9 xs.length c9) xs):=zH fun W hW=>aG.out.keepX (X:=fun q=>q<w4.heap.size) (fun p v hp hv=>by have hb:=World.block_lt_of_cell? w5 p hv;exact(World.cell?_of_block (hW p.block zO hb)).trans hv) fun q h1 h2=>zO;have hI0:RpC S (lvl:Int) xs gone ini a (.slice A1 n1 c1) (.slice A2 n2 c2) (.slice (some ⟨b3,o3,none⟩) 256 c3) (.slice A4 n4 c4) (.int .u32 gen) (.int .i64 root) (.int .u32 next) w.heap.size w7.heap.size w2.heap.size w4.heap.size w wL 0 ini (.ok (qt S (ZZ S.now a))) A6 c6
    (.slice (some ⟨BB,0,none⟩) S.bs.length S.bs.length) (.slice (some ⟨WW,0,none⟩) S.ws.length (S.ws.length+1)) (.slice D3 (ZZ S.now a).length d3) (.slice D4 S.last.length d4) wL:=by
   refine⟨Nat.zero_le _,by rw[List.take_zero,VK hFV.out,Int.toNat_natCast];rfl,zO,rp8,QA hAQ.out fun q hq=>Below.block x58 q (Ql hAQ.out q hq).2,rb8,fun er h=>(by cases h),fun T h=>?_,fun g hg=>.inl (hlt5.out g hg),fun _ _ _ _=>rfl,zM _,x8,(zG.1 ro8).1,rfl⟩;cases h;exact⟨hm0.out,hT.out.keep zO nV.size fun b _ h2=>Below.block nV b h2⟩
  have kn8:=qa rn8;replace hI0:=zH hI0;have hro8:=zH ro8;have nN:xs.length<=5:=by have:=zt hnH.out;omega
  replace nN:=zH nN;clear yI rp7 ro7 rn7 hT hm0 aG hAQ hlt5 rp8 ro8 rb8 HL;go_wp2_with fail;go_loopw [11,64] (fun e i wr=>RpI S (lvl:Int) xs gone ini a (.slice A1 n1 c1) (.slice A2 n2 c2) (.slice (some ⟨b3,o3,none⟩) 256 c3) (.slice A4 n4 c4) (.int .u32 gen) (.int .i64 root) (.int .u32 next) w.heap.size w7.heap.size w2.heap.size w4.heap.size w wL e i wr) (fun _ i _=>xs.length-(intOf i).toNat)
  case atStart=>exact⟨⟨_,_,_,_,_,_,_,_,_,rfl,rfl,hI0.out⟩⟩
  case round =>
   obtain⟨k,D,q,B5,d5,u0,u1,u2,u3,rfl,rfl,hR⟩:=hrel.ex;clear hI0 hrel;have rn:=(hR.kept w5.heap.size zO zO zO).trans rn8;have kn:=qa rn;have rb:=hR.box;have kb:=qa rb;have rp:=hR.pool;have kp:=qa rp;have zwr:=hR.size;by_cases hkl:k<xs.length
   ·obtain⟨x,hx⟩:∃ x,xs[k]=x:=⟨_,rfl⟩
    have iD:=qfo (lvl:Int) gone xs k hkl (ini,Jn S (a:Int));rw[hR.eq,hx] at iD;have hIt:=HIt.out wr (fun p h1 h2=>(hR.kept p h1 (by have:=x58.size;omega) zO).trans (Below.block x58 p h2));obtain⟨b9,o9,rfl,-⟩:=hIt.at_.2.2.2 zO;obtain⟨A',c',d0,d1,d2,d3,d4,-⟩:=hIt.item k hkl;rw[hx] at d0 d1 d2 d3 d4;have hn5:=nN.out;have eF:(k:Int)<(xs.length:Int):=zO;have hz5:w5.heap.size<wr.heap.size:=(zG.1 rn).1;have hzp:w.heap.size<wr.heap.size:=(zG.1 rp).1;have hzb:w7.heap.size<wr.heap.size:=(zG.1 rb).1;have lU:=zH (show w.heap.size+1<w2.heap.size/\w2.heap.size<=w4.heap.size/\w4.heap.size<=w7.heap.size/\w7.heap.size<wL.heap.size by omega);replace iD:=zH iD;replace hR:=zH hR;obtain⟨ev,uP⟩:∃ ev,errI q=ev:=⟨_,rfl⟩
    rw[uP];clear hx hIt rn rb rp HIt x1 x2 x3 x4 x5 x6 x7 x8 dA au dV wX nV x58 kn8 zwr z78 z67 z56 z45 z34 zo2 dU hcap hFX hli;rcases q with er|T
    ·have aN:(ev != 0)=true:=by rw[bne_iff_ne,<-uP];exact hR.out.err er rfl
     replace uP:=zH uP;go_wp2_with fail;go_roundw
     case rel=>exact⟨⟨k+1,D,.error er,B5,d5,u0,u1,u2,u3,by go_num,by rw[uP.out],hR.out.next (zN _ _) zO zO (by rw[iD.out];rfl)⟩⟩
     case measure=>simp[intOf];omega
    ·obtain rfl:ev=0:=uP.symm;clear uP;by_cases hsk:gone=false\/x.r=0
     ·have hE:=zH (hR.out.next (wr':=wr) (Ext.refl _) (j:=k+1) zO zO (by rw[iD.out,qfn _ _ _ hsk]));clear hR iD;by_cases hg:gone=false
      ·subst hg;go_wp2_with fail;go_roundw
       case rel=>exact⟨⟨k+1,D,.ok T,B5,d5,u0,u1,u2,u3,by go_num,rfl,hE.out.next (zN _ _) zO (zM _) hE.out.eq⟩⟩
       case measure=>simp[intOf];omega
      ·obtain rfl:gone=true:=by simpa using hg
       have hr0:x.r=0:=hsk.resolve_left hg;clear hsk hg;go_wp2_with fail;go_roundw
       case rel=>exact⟨⟨k+1,D,.ok T,B5,d5,u0,u1,u2,u3,by go_num,rfl,hE.out.next (zN _ _) zO (zM _) hE.out.eq⟩⟩
       case measure=>simp[intOf];omega
     ·obtain⟨rfl,hr0⟩:gone=true/\x.r≠0:=by simpa using hsk
      have lm:(x.r == 0)=false:=by rw[beq_eq_false_iff_ne];exact hr0
      by_cases hlv:0<(lvl:Int)
      ·have ik:decide (0<lvl)=true:=decide_eq_true zO;have hlv2:0<lvl:=zO;have xq:=zH (iD.out.trans (qfm D T hsk hlv));clear iD;go_upto_region 18 with fail;generalize gm:World.alloc wr _=wa;have xa:Ext wr wa:=by rw[<-gm];exact zN _ _
       have ri:wa.heap[wr.heap.size]?=some (.cells #[.int .u8 x.k,.int .u32 x.i,.int .u32 x.o,.int .i64 x.r,.slice A' x.val.length c'] 68 (0,0)):=by rw[<-gm];exact zI _ _ _ rfl
       have ki:=qa ri;have rpa:=qb hR.out.pool xa;have kpa:=qa rpa;have hoa:=zH (QA hR.out.own fun q hq=>Below.block xa q (Ql hR.out.own q hq).2);have hfw:=hR.out.few;have hzL:=hR.out.size;clear gm kp kb kn d0 d1 d2 d3 d4 ri;go_wp2_with (at_builtin;refine qI ?_);refine Qh.go (zZ wa rfl (.tmp 92) (.tmp 95) 30 rfl w2.heap.size 3 i0 _ 1 8 underlying30 hi.out aX aU aV rfl zA1 (.slice B5 D.length d5) D.length (vS D) zE hoa.out #[.int .i64 x.r] zE rfl zA8 zO zA1 (by have:=lU.out;have:=xa.size;omega) ?_);intro v' w9 aB hg hB dW;obtain⟨A7,c7,rfl,-,-⟩:=qy aB;have hpo:w9.heap[w.heap.size]?=wa.heap[w.heap.size]?:=hg.block _ (by have:=xa.size;omega) fun e=>by have:=(Ql hoa.out _ e.symm).1;have:=lU.out;omega
       have rp9:=hpo.trans rpa;have kp9:=qa rp9;have fp9:=qe rp9;have zp9:=(zG.1 rp9).1;have hF:=zH (hR.out.more xa (by have:=lU.out;omega) (zM _) (by have:=lU.out;omega) (by have:=lU.out;omega) (by have:=lU.out;omega) aB hg hB dW hkl xq.out);clear aB hg hB dW hR hpo kpa ki hoa rpa;go_wp2_with fail;go_roundw
       case rel=>exact⟨⟨k+1,D++[x.r],.ok T,A7,c7,u0,u1,u2,u3,by go_num,rfl,hF.out⟩⟩
       case measure=>simp[intOf];omega
      ·have ik:decide (0<lvl)=false:=decide_eq_false zO;have hlv2:¬0<lvl:=zO;have xq:=zH (iD.out.trans (qfl D T hsk hlv));have hmT:=(hR.out.ok T rfl).1;have hTT:=(hR.out.ok T rfl).2;have iy:=hTT.newSto (za hmT);obtain⟨BB',WW',gg',E3,e3,E4,e4,e,-⟩:=id hTT;simp only[Value.agg.injEq,Array.mk.injEq,List.cons.injEq,and_true] at e;obtain⟨rfl,rfl,rfl,rfl⟩:=e;have iy:=VN iy;have HLo:=zH (fun W (hx:Ext wr W)=>UO _ _ _ _ _ _ _ _ _ _ _ _ T x.r W ((iy wr (KH fun _ _ _=>rfl)).ext hx));clear iD hTT iy;go_upto_region 15 with fail;generalize gm:World.alloc wr _=wa;have xa:Ext wr wa:=by rw[<-gm];exact zN _ _
       have ri:wa.heap[wr.heap.size]?=some (.cells #[.int .u8 x.k,.int .u32 x.i,.int .u32 x.o,.int .i64 x.r,.slice A' x.val.length c'] 68 (0,0)):=by rw[<-gm];exact zI _ _ _ rfl
       have ki:=qa ri;have rba:=qb hR.out.box xa;have kba:=qa rba;have hzL:=hR.out.size;clear gm kp kb kn d0 d1 d2 d3 d4 ri;go_wp2_with fail;refine(HLo.out wa xa).mono ?_;clear HLo;rintro e wb ⟨u,rfl,hQ,hB⟩;have xb:Ext wa wb:=hB;have xrb:=xa.trans xb;have rbb:=qb rba hB;have kbb:=qa rbb;have fbb:=qe rbb;have zbb:=(zG.1 rbb).1;have hgo:=lU.out;have hzx:=xa.size;clear hB rba kba ki;rcases hQ with ⟨aN,rfl⟩|⟨h0,v,rfl,hT⟩
       ·have hF:=fun x0 x1 x2 x3=>hR.out.loose (q':=.error (ZO T x.r)) (x0:=x0) (x1:=x1) (x2:=x2) (x3:=x3) xrb zO (zM _) zO zO zO (zM _) hkl (by rw[xq.out,Gg aN]) (fun er e=>by cases e;exact aN) (fun T' e=>by cases e);generalize ZO T x.r=er at *;replace hF:=zH hF;clear hR xq hgo;go_wp2_with fail;go_roundw
        case rel=>exact⟨⟨k+1,D,.error er,B5,d5,_,_,_,_,by go_num,rfl,hF.out _ _ _ _⟩⟩
        case measure=>simp[intOf];omega
       ·obtain⟨BB,WW,gg,G3,g3,G4,g4,rfl,-⟩:=id hT;have hF:=zH (hR.out.loose (q':=.ok (qt T (ZZ T.now x.r.toNat))) xrb zO (zM _) zO zO zO (show wL.heap.size<=wa.heap.size by omega) hkl (by rw[xq.out,VK h0]) (fun er e=>by cases e) (fun T' e=>by cases e;exact⟨Gh hmT (VK h0),hT⟩));clear hR xq hgo hT;go_wp2_with fail;go_roundw
        case rel=>exact⟨⟨k+1,D,.ok (qt T (ZZ T.now x.r.toNat)),B5,d5,_,_,_,_,by go_num,rfl,hF.out⟩⟩
        case measure=>simp[intOf];omega
   ·obtain rfl:k=xs.length:=by have:=hR.le;omega
    have he:=hR.eq;rw[List.take_length] at he;have hE:=fun (r:Except Int (List Int×Sto)) (h:(match ((D,q):List Int×Except Int Sto) with
      |(_,.error _)=>.error 8
      |(D,.ok T)=>if 40<D.length then .error 9 else .ok (D,T))=r)=>(show GB S ini a=r by
     unfold GB;rw[hnH.out];simp only;rw[hgn.out,he];exact h)
    have lq:=hR.out.2.trans hro8.out;have ko:=qa lq;have fo:=qe lq;have zo:=(zG.1 lq).1;have lU:w.heap.size+1<w2.heap.size/\w2.heap.size<=w4.heap.size/\w4.heap.size<=w7.heap.size/\w7.heap.size<wL.heap.size:=zO;replace lU:=zH lU;replace hR:=zH hR;obtain⟨ev,uP⟩:∃ ev,errI q=ev:=⟨_,rfl⟩
    rw[uP];clear rn rb rp HIt x1 x2 x3 x4 x5 x6 x7 x8 dA au dV wX nV x58 kn8 zwr z78 z67 z56 z45 z34 zo2 dU hcap hFX hli kn;rcases q with er|T
    ·have aN:(ev != 0)=true:=by rw[bne_iff_ne,<-uP];exact hR.out.err er rfl
     have hF:Hid (∀ W,Below w.heap.size w W->VD S gen root next (ini++[(a:Int)]) w (.returned (.tuple #[Vg,.int .i64 8])) W):=zH fun W hb=>ae.out _ W hb (by rw[hE _ rfl]);have dO:=zH hR.out.bel;clear uP hE ae hR;go_wp2_with fail;exact VQ (b:=w.heap.size+1) rfl rfl rfl (VP lq _ _ _ _ _ _ _ _) (hF.out _ (ji dO.out zO _ _ _ _ _ _ _ _))
    ·obtain rfl:ev=0:=uP.symm;clear uP he;have rp:=hR.out.pool;have kp:=qa rp;have fp:=qe rp;have zp:=(zG.1 rp).1;have rb:=hR.out.box;have kb:=qa rb;have hmT:=(hR.out.ok T rfl).1;have hTT:=(hR.out.ok T rfl).2;have hfw:=hR.out.few;have dO:=zH hR.out.bel;have aB:=zH hR.out.own;clear hR;by_cases h40:40<D.length
     ·have h41:decide ((40:Int)<(D.length:Int))=true:=decide_eq_true zO;have h42:decide (40<D.length)=true:=decide_eq_true h40;have hF:Hid (∀ W,Below w.heap.size w W->VD S gen root next (ini++[(a:Int)]) w (.returned (.tuple #[Vg,.int .i64 9])) W):=zH fun W hb=>ae.out _ W hb (by rw[hE (.error 9) (if_pos h40)]);clear hE ae hTT aB rb kb;go_wp2_with fail;exact VQ (b:=w.heap.size+1) rfl rfl rfl (VP lq _ _ _ _ _ _ _ _) (hF.out _ (ji dO.out zO _ _ _ _ _ _ _ _))
     ·have h41:decide ((40:Int)<(D.length:Int))=false:=decide_eq_false zO;have h42:decide (40<D.length)=false:=decide_eq_false h40;have hF:Hid (∀ W u,Below w.heap.size w W->Jf w.heap.size T gen root next D u W->VD S gen root next (ini++[(a:Int)]) w (.returned (.tuple #[u,.int .i64 0])) W):=zH fun W u hb hu=>ae.out _ W hb (by rw[hE (.ok (D,T)) (if_neg h40)];exact⟨u,rfl,hu⟩);have iy:=hTT.newSto (za hmT);obtain⟨BB',WW',gg',E3,e3,E4,e4,e,-⟩:=id hTT;simp only[Value.agg.injEq,Array.mk.injEq,List.cons.injEq,and_true] at e;obtain⟨rfl,rfl,rfl,rfl⟩:=e;have iy:=zH (VN iy);clear hE ae hTT;go_upto_region 25 with fail;generalize hw9:World.setCell (World.setCell (World.setCell (World.setCell wr _ _) _ _) _ _) _ _=w9;have o9:∀ q,q≠w.heap.size->w9.heap[q]?=wr.heap[q]?:=fun q hq=>by rw[<-hw9];have hs:=fun (A:World) (j:Nat) (v:Value)=>zJ A ⟨w.heap.size,j,none⟩ v q hq;rw[hs,hs,hs,hs]
      have z9:w9.heap.size=wr.heap.size:=by rw[<-hw9];simp
      have rp9:w9.heap[w.heap.size]?=some (.cells (qH (.slice (some ⟨BB',0,none⟩) T.bs.length T.bs.length) (.slice (some ⟨WW',0,none⟩) T.ws.length (T.ws.length+1)) (.slice E3 T.now.length e3) (.slice E4 T.last.length e4) gen root next (.slice B5 D.length d5)) 32 (0,0)):=by rw[<-hw9];exact qi (qi (qi (qi rp 0 _) 1 _) 2 _) 3 _
      have x9:Below w.heap.size w w9:=by rw[<-hw9];exact ZW dO.out (zM _) _ _ _ _
      have ro9:=(o9 (w.heap.size+1) zO).trans lq;have kp9:=qa rp9;have ko9:=qa ro9;have fo9:=qe ro9;have zo9:w.heap.size+1<w9.heap.size:=(zG.1 ro9).1;have z9H:=zH z9;clear hw9 rp kp fp zp rb kb lq ko fo zo z9;go_wp2_with fail;refine VQ (b:=w.heap.size+1) rfl rfl rfl (VP ro9 _ _ _ _ _ _ _ _) (hF.out _ _ (ji x9 zO _ _ _ _ _ _ _ _) ⟨_,_,_,_,_,_,_,_,_,_,rfl,fun C hC=>?_⟩);have hg:=lU.out;have z9:=z9H.out;have aZ:=fun (k:Nat) (h1:k≠w.heap.size) (h2:k≠w.heap.size+1)=>(jK (w:=w9) (b:=w.heap.size+1) h2 (.slice (some ⟨BB',0,none⟩) T.bs.length T.bs.length) (.slice (some ⟨WW',0,none⟩) T.ws.length (T.ws.length+1)) (.slice E3 T.now.length e3) (.slice E4 T.last.length e4) (.int .u32 gen) (.int .i64 root) (.int .u32 next) (.slice B5 D.length d5)).trans (o9 k h1);rw[Ke,z9];have q1:=iy.out C fun q u h1 h2 h3=>hC q u zO (by rw[Ke];omega) ((QR (aZ q.block zO zO)).trans h3);have q2:=(Zs.of_ownT aB.out).pos (Zb.of_own aB.out) (C:=C) fun q u h1 h2 h3=>hC q u zO (by rw[Ke];omega) ((QR (aZ q.block zO zO)).trans h3);exact⟨q1,q2⟩
set_option maxRecDepth 100000 in
theorem qgT (A1:Option Addr) (n1 c1:Nat) (A2:Option Addr) (n2 c2:Nat) (A3:Option Addr) (n3 c3:Nat) (A4:Option Addr) (n4 c4:Nat) (y5 y6 y7 y8:Value) (S:Sto) (a:Nat) (xs:List It) (iY:ZO S (a:Int)=0) (hn:qv S a=some (0,xs)) (pb tb fb mb:Nat) (w:World) (h:qX w w.heap.size (.slice A1 n1 c1) (.slice A2 n2 c2) (.slice A3 n3 c3) (.slice A4 n4 c4) S) (rp:w.heap[pb]?=some (.cells #[.slice A1 n1 c1,.slice A2 n2 c2,.slice A3 n3 c3,.slice A4 n4 c4,y5,y6,y7,y8] 32 (0,0))) (rt:w.heap[tb]?=some (.cells #[.map (some mb)] 122 (0,0))) (hm:QU w mb fun _=>none):Calls prog 77 #[.int .i64 (a:Int),.pointer (some ⟨tb,0,none⟩),.pointer (some ⟨pb,0,none⟩),.pointer (some ⟨fb,0,none⟩)] w (fun e W=>e=.returned (.int .i64 1)/\w.grownBy W (some mb)):=by
 have HN:=zH (Yi A1 n1 c1 A2 n2 c2 A3 n3 c3 A4 n4 c4 S (a:Int) w h);rw[iY,if_pos rfl,Int.toNat_natCast,hn] at HN;have kp:=qa rp;have kt:=qa rt;have dO:mb<w.heap.size:=by obtain⟨es,cl,hb,-⟩:=hm;exact(zG.1 hb).1
 have aX:(zeroValue 3).run prog w=.ok (.int .i64 0) w:=by obtain⟨i0,hi,aX,aU,aV⟩:=info_parts Tryz.info_int;simp[zeroValue,typeInfo,hi,aX]
 clear h iY hn;go_enter func77,ntmps77;go_wp2_with (at_lookup;refine qI ?_);refine Qh.go (Vl _ rfl (.tmp 14) (.tmp 15) 122 rfl underlying122 underlying3 aX rfl rfl hm ?_);go_wp2_with fail;refine HN.out.mono ?_;clear HN;rintro e w2 ⟨u,rfl,⟨A9,c9,rfl,-⟩,hB⟩;have x2:Ext w w2:=hB;have rt2:=qb rt hB;have iP:=hm.of_heap (hB.block mb dO);have kt2:=qa rt2;clear hB kp kt;go_upto_region 6 with fail;generalize aK:World.alloc w2 _=w3;have dA:Ext w2 w3:=by rw[<-aK];exact zN _ _
 have rn3:w3.heap[w2.heap.size]?=some (.cells #[.int .i64 0,.slice A9 xs.length c9] 49 (0,0)):=by rw[<-aK];exact zI _ _ _ rfl
 have kn3:=qa rn3;have kt3:=qa (qb rt2 dA);have sH:=iP.of_heap (dA.block mb (Nat.lt_of_lt_of_le dO x2.size));have x3:=zH (x2.trans dA);clear aK rn3 rt2 kt2 iP x2 dA hm rt rp aX;go_wp2_with (at_mapUpdate;refine qI ?_);refine Qh.go (jf _ rfl (.tmp 45) (.tmp 46) (.tmp 47) 122 rfl underlying122 underlying3 rfl rfl rfl sH ?_);intro w4 hm4 hg4;clear sH hm4 kn3 kt3;go_wp2_with fail;go_ret;exact⟨rfl,World.grownBy.trans ((zv x3.out _)) hg4⟩
theorem qdo {R:Ending->World->Prop} {a:Act} {W:World} {u v:Value} (h4:a.tmps[2]?.getD undef=u) (h5:a.tmps[3]?.getD undef=v) (hd:a.defers=[]) (hR:R (.returned (.tuple #[u,v])) W):bodyPost prog Tryz.f37 R .ret a W:=by refine bodyPost_ret (v:=.tuple #[u,v]) ?_ hd hR;simp[results,results37,go_sem,h4,h5]
set_option maxRecDepth 100000 in
theorem qaP (A1:Option Addr) (n1 c1:Nat) (A2:Option Addr) (n2 c2:Nat) (A3:Option Addr) (n3 c3:Nat) (A4:Option Addr) (n4 c4:Nat) (gen root next:Int) (A5:Option Addr) (c5:Nat) (S:Sto) (dead:List Int) (w:World) (h:qX w w.heap.size (.slice A1 n1 c1) (.slice A2 n2 c2) (.slice A3 n3 c3) (.slice A4 n4 c4) S) (hd:Zs w w.heap.size (.slice A5 dead.length c5) dead) (hq:∀ W e W',KT S root next dead W e W'->e=.returned (.int .i64 0)) (hPE:dead=[]\/∃ (a:Nat) (xs:List It),dead=[(a:Int)]/\ZO S (a:Int)=0/\qv S a=some (0,xs)):Calls prog 37 #[.agg (qH (.slice A1 n1 c1) (.slice A2 n2 c2) (.slice A3 n3 c3) (.slice A4 n4 c4) gen root next (.slice A5 dead.length c5))] w (Ret (.tuple #[.int .i64 (dead.length:Int),.int .i64 0]) w):=by
 have HC:=zH (fun W (hx:Ext w W)=>Xc A1 n1 c1 A2 n2 c2 A3 n3 c3 A4 n4 c4 gen root next A5 c5 S dead W (h.ext hx) (hd.ext_ hx));have hmf:∀ (fn:Fn) (first cap:Array Value) (w:World),(Instr.makeFunc fn first cap).run prog w=.ok (.func fn first cap) w:=fun _ _ _ _=>rfl;replace hq:=zH hq;replace h:=zH h;replace hd:=zH hd;go_enter func37,ntmps37;go_wp2_with fail;generalize aA:World.alloc w _=w1;have x1:Ext w w1:=by rw[<-aA];exact zN _ _
 have pX:w1.heap[w.heap.size]?=some (.cells (qH (.slice A1 n1 c1) (.slice A2 n2 c2) (.slice A3 n3 c3) (.slice A4 n4 c4) gen root next (.slice A5 dead.length c5)) 32 (0,0)):=by rw[<-aA];exact zI _ _ _ rfl
 have kp1:=qa pX;clear aA;go_wp2_with fail;refine(HC.out w1 x1).mono ?_;clear HC;intro e w2 hQ;have hB:Ext w1 w2:=hQ.1;obtain rfl:=hq.out _ _ _ hQ;have x2:Ext w w2:=x1.trans hB;have nU:=qb pX hB;clear hB hQ hq pX kp1 x1;have hmm:=fun W=>run_mm 122 W;go_upto_region 7 with fail;generalize aK:World.alloc (World.alloc (World.alloc w2 _) _) _=w3;have dA:Ext w2 w3:=by rw[<-aK];exact((zN _ _).trans (zN _ _)).trans (zN _ _)
 have x3:Ext w w3:=x2.trans dA;have lG:=qb nU dA;have hmt:QU w3 w2.heap.size fun _=>none:=(QU.empty w2).of_heap (by rw[<-aK];exact(zK _ _ _ zA2).trans (zK _ _ _ zA3));have rt3:w3.heap[w2.heap.size+1]?=some (.cells #[.map (some w2.heap.size)] 122 (0,0)):=by rw[<-aK];exact(zK _ _ _ zA3).trans (zI _ _ _ zA3)
 have rf3:w3.heap[w2.heap.size+1+1]?=some (.cells #[.func (.func 77) #[] #[.pointer (some ⟨w2.heap.size+1,0,none⟩),.pointer (some ⟨w.heap.size,0,none⟩),.pointer (some ⟨w2.heap.size+1+1,0,none⟩)]] 123 (0,0)):=by rw[<-aK];exact zI _ _ _ zA3
 have kp3:=qa lG;have kf3:=qa rf3;have z2:=x2.size;clear aK nU dA hmm;rcases hPE with rfl|⟨a,xs,rfl,iY,hn⟩
 ·go_wp2_with fail;refine wp_loop_rounds 1 ?_;rw[rounds_succ];go_wp2_with fail;exact qdo rfl rfl rfl ⟨rfl,x3⟩
 ·obtain⟨A,c,e,h1,-,hr⟩:=hd.out.ext_ x3;cases e;obtain⟨b,off,rfl,hb,hc⟩:=hr.2 zA3;have dC:=hc 0 _ rfl;rw[Nat.add_zero] at dC;have HL:=zH (qgT A1 n1 c1 A2 n2 c2 A3 n3 c3 A4 n4 c4 (.int .u32 gen) (.int .i64 root) (.int .u32 next) (.slice (some ⟨b,off,none⟩) 1 c5) S a xs iY hn w.heap.size (w2.heap.size+1) (w2.heap.size+1+1) w2.heap.size w3 (h.out.ext x3) lG rt3 hmt);clear hr hc hb h1 hmt rt3;go_wp2_with fail;refine wp_loop_rounds 2 ?_;rw[rounds_succ];go_wp2_with fail;refine HL.out.mono ?_;clear HL;rintro e w4 ⟨rfl,hg⟩;have x4:Below w.heap.size w w4:=Below.grown x3 hg x3.size (fun k hk=>by cases hk;exact z2);clear kp3 kf3 lG rf3 hg dC;go_wp2_with fail;rw[rounds_succ];go_wp2_with fail;exact qdo rfl rfl rfl ⟨rfl,x4⟩

def putN (S:Sto) (a:Nat) (x:It):Except Int (Nat×Sto):=match qv S a with
 |none=>.error 8
 |some (lvl,xs)=>To S lvl.toNat xs a x
def heldS (S:Sto) (a:Int):Sto:=qt S (KQ S.now a.toNat 1)
def rootV (v:Vol) (r:Nat):Vol:=⟨v.id,(r:Int),v.fz,v.frm⟩
section
variable {W C:World} {b:Nat} {u0 u1 u2 u3 u4 u5 u6 u7 x0 x1 x2 x3 x4 x5 x6 x7 y0 y1 y2 y3 z ev q0:Value} {tyP tyV mi pY:TypeId} {cs ds:Array Value}
end



theorem JC.stack {ks rs:Nat->List Nat} {R:List Nat} {M:Nat->Bool} {refs:Nat->Nat} {s s':List Nat} (h:JC ks rs R M refs s) (hs:∀ x,x∈s↔x∈s'):JC ks rs R M refs s':=
 ⟨h.reach,fun a ha=>h.stk a ((hs a).2 ha),fun a ha=>(h.root a ha).imp id (hs a).1,fun a ha b hb=>(h.kids a ha b hb).imp id (hs b).1,h.sum⟩
def Uh (S:Sto):Nat->List Nat->List Nat->List Nat->Option (List Nat×List Nat)
 |_,[],met,refs=>some (met,refs)
 |0,_ :: _,_,_=>none
 |f+1,a :: s,met,refs=>if met.contains a then Uh S f s met refs else if a<256 then Uh S f (vE S a++s) (a :: met) (vJ S a++refs) else none
def Gm (met:List Nat):Nat->Bool:=fun a=>met.contains a
theorem qgX (a:Nat) (met:List Nat):Gm (a :: met)=Kz (Gm met) a:=by
 funext b;unfold Gm Kz;by_cases h:b=a
 ·subst h;simp
 ·rw[if_neg h];simp[h]
theorem GT {S:Sto} {R:List Nat}:∀ (f:Nat) (s met refs:List Nat) {met' refs':List Nat},JC (vE S) (vJ S) R (Gm met) (fun b=>refs.count b) s->Uh S f s met refs=some (met',refs')->JC (vE S) (vJ S) R (Gm met') (fun b=>refs'.count b) []
 |0,[],met,refs,met',refs',h,e=>by simp only[Uh,Option.some.injEq,Prod.mk.injEq] at e;obtain⟨rfl,rfl⟩:=e;exact h
 |f+1,[],met,refs,met',refs',h,e=>by simp only[Uh,Option.some.injEq,Prod.mk.injEq] at e;obtain⟨rfl,rfl⟩:=e;exact h
 |0,_ :: _,met,refs,met',refs',h,e=>by cases e
 |f+1,a :: s,met,refs,met',refs',h,e=>by
  have h1:JC (vE S) (vJ S) R (Gm met) (fun b=>refs.count b) (s++[a]):=h.stack fun x=>by simp[or_comm]
  simp only[Uh] at e;split at e
  ·rename_i hm;exact GT f s met refs (h1.again hm) e
  ·rename_i hm;split at e
   ·rename_i hl;have h2:=h1.new (refs':=fun b=>(vJ S a++refs).count b) (by unfold Gm;simpa using hm) hl (fun b=>by simp only[List.count_append];omega);rw[<-qgX] at h2;exact GT f _ _ _ (h2.stack fun x=>by simp[or_comm]) e
   ·cases e
theorem JC.start (ks rs:Nat->List Nat) (R:List Nat):JC ks rs R (Gm []) (fun b=>R.count b) R:=by
 have h0:∀ b n,Tq rs (Gm []) b n=0:=fun b n=>by
  induction n with
  |zero=>rfl
  |succ n ih=>unfold Tq;rw[ih];rfl
 exact { reach:=fun a h=>(by cases h),stk:=fun a ha=>.base ha,root:=fun a ha=>.inr ha,kids:=fun a h=>(by cases h),sum:=fun b=>by rw[h0];rfl }
def YZ (met:List Nat):Nat->Nat:=fun a=>if met.contains a then 1 else 0
theorem qfd (met:List Nat):VM (YZ met)=Gm met:=by funext a;unfold VM YZ Gm;cases met.contains a <;> rfl
theorem qey {S:Sto} {R met refs:List Nat} {f:Nat} (hR:R≠[]) (h:Uh S f R [] R=some (met,refs)):Qv S R (fun b=>refs.count b) (YZ met):=by
 have h1:=GT f R [] R (JC.start _ _ R) h;refine⟨jH.walk.2 (by rw[qfd];exact h1),fun a=>?_⟩;have h2:=GR (VM (YZ met)) 256;have h3:YZ met a<=1:=by unfold YZ;split <;> omega
 have h4:0<R.length:=List.length_pos_iff.2 hR;omega
def jU (S:Sto) (root next:Int) (dead:List Int):Option (List Vol×List Nat×List Nat):=
 if qm S && decide (dead.length<=40) && okL S (-1) root then match Tt S root next with
  |none=>none
  |some vs=>if (Zx root dead vs).all (fun r=>okL S (-1) r) then match Uh S 2000 (Zg root dead vs) [] (Zg root dead vs) with
   |none=>none
   |some (met,refs)=>if qbC S (fun b=>refs.count b) then some (vs,met,refs) else none
   else none
 else none
theorem KG {S:Sto} {root next:Int} {dead:List Int} {vs:List Vol} {met refs:List Nat} (h:jU S root next dead=some (vs,met,refs)):Zd S root next dead vs/\Qv S (Zg root dead vs) (fun b=>refs.count b) (YZ met)/\Zz S (fun b=>refs.count b):=by
 unfold jU at h;split at h
 ·rename_i h1;simp only[Bool.and_eq_true,decide_eq_true_eq] at h1;split at h
  ·cases h
  ·rename_i vs' hv;split at h
   ·rename_i h2;split at h
    ·cases h
    ·rename_i met' refs' hw;split at h
     ·rename_i h3;simp only[Option.some.injEq,Prod.mk.injEq] at h;obtain⟨rfl,rfl,rfl⟩:=h;exact⟨⟨h1.1.1,h1.1.2,h1.2,hv,fun r hr=>List.all_eq_true.1 h2 r hr⟩,qey (by unfold Zg Zx;simp) hw,(qdb _ _).1 h3⟩
     ·cases h
   ·cases h
 ·cases h
theorem Zd.unique {S:Sto} {root next:Int} {dead:List Int} {vs vs':List Vol} {refs nodes refs' nodes':Nat->Nat} (h:Zd S root next dead vs) (hc:Qv S (Zg root dead vs) refs nodes) (h':Zd S root next dead vs') (hc':Qv S (Zg root dead vs') refs' nodes'):vs'=vs/\refs'=refs/\VM nodes'=VM nodes:=by obtain rfl:=Zd.same h h';obtain⟨e1,e2⟩:=jH.same hc'.mkd hc.mkd;exact⟨rfl,e2,e1⟩




section
variable {gb:Nat} {c0 c1 c2 c3 c4 c5 c6 c7:Value} {er:Int}
end
def snapV (next:Int) (v:Vol) (fz:Bool) (id:Int):Vol:=⟨next,v.root,fz,id⟩
def frzV (v:Vol) (fz:Bool):Vol:=⟨v.id,v.root,fz,v.frm⟩
def CreEnd (bp be ba:Nat) (cs:Array Value) (a e:Int) (S:Sto) (W W':World):Prop:=kX bp be ba W W' /\
 ((e=0/\Jj S=0/\W'.heap[bp]?=some (.cells cs 32 (0,0))/\W'.heap[be]?=some (.cells #[.int .i64 0] 36 (0,0))/\W'.heap[ba]?=some (.cells #[.int .u32 a] 29 (0,0))) \/
  ∃ e',e'≠0/\((e=0/\e'=Jj S)\/(e≠0/\e'=e))/\W'.heap[bp]?=some (.cells GY 32 (0,0))/\W'.heap[be]?=some (.cells #[.int .i64 e'] 36 (0,0))/\W'.heap[ba]?=some (.cells #[.int .u32 0] 29 (0,0)))
set_option maxRecDepth 100000 in
theorem cre1_any (bp be ba:Nat) (h12:bp≠be) (h13:bp≠ba) (h23:be≠ba) (A1:Option Addr) (n1 c1:Nat) (A2:Option Addr) (n2 c2:Nat) (A3:Option Addr) (n3 c3:Nat) (A4:Option Addr) (n4 c4:Nat) (gen root next:Int) (v5:Value) (a e:Int) (S:Sto) (u:FrameMode) (w:World) (hp:w.heap[bp]?=some (.cells (qH (.slice A1 n1 c1) (.slice A2 n2 c2) (.slice A3 n3 c3) (.slice A4 n4 c4) gen root next v5) 32 (0,0))) (he:w.heap[be]?=some (.cells #[.int .i64 e] 36 (0,0))) (ha:w.heap[ba]?=some (.cells #[.int .u32 a] 29 (0,0))) (h:e=0->qX w w.heap.size (.slice A1 n1 c1) (.slice A2 n2 c2) (.slice A3 n3 c3) (.slice A4 n4 c4) S):CallsD prog 126 #[.pointer (some ⟨bp,0,none⟩),.pointer (some ⟨be,0,none⟩),.pointer (some ⟨ba,0,none⟩)] u w (fun x u' w'=>u'=u/\x=.returned (.tuple #[])/\CreEnd bp be ba (qH (.slice A1 n1 c1) (.slice A2 n2 c2) (.slice A3 n3 c3) (.slice A4 n4 c4) gen root next v5) a e S w w'):=by
 have HR:=qhh bp be h12 A1 n1 c1 A2 n2 c2 A3 n3 c3 A4 n4 c4 gen root next v5 e S w hp he h
 clear h hp he;go_enter_d func126,ntmps126;go_wp2_with fail;refine HR.mono ?_;rintro x w2 ⟨rfl,hT,⟨h0,hE,nP,ig⟩|⟨e',h0,hE,nP,ig⟩⟩
 ·have bK:=(hT.same ba (zG.1 ha).1 (Ne.symm h13) (Ne.symm h23)).trans ha;have ke2:=qa ig;have hz:=zH h0;clear h0;go_wp2_with fail;go_end0;exact⟨rfl,kX.of_two hT,.inl ⟨hz.out,hE,nP,ig,bK⟩⟩
 ·have bK:=(hT.same ba (zG.1 ha).1 (Ne.symm h13) (Ne.symm h23)).trans ha;have ke2:=qa ig;have ka2:=qa bK;have fa2:=qe bK;have b1:(e' != 0)=true:=by rw[bne_iff_ne];exact h0
  replace h0:=zH h0;replace hE:=zH hE;go_wp2_with fail;go_end0;exact⟨rfl,(kX.of_two hT).set _,.inr ⟨e',h0.out,hE.out,(zJ _ _ _ _ h13).trans nP,(zJ _ _ _ _ h23).trans ig,qi bK 0 _⟩⟩
structure VA (n:Nat) (A:Array Bool) (m:Nat):Prop where
 size:A.size=n
 at_:∀ j,j<n->A[j]?=some (m.testBit j)
 out:∀ j,n<=j->m.testBit j=false
theorem VA.none_ (n:Nat):VA n (Array.replicate n false) 0:=
 ⟨zA3,fun j hj=>by rw[Array.getElem?_replicate,if_pos hj,Nat.zero_testBit],fun j _=>Nat.zero_testBit j⟩
theorem VA.getT {n m:Nat} {A:Array Bool} (h:VA n A m) {j:Nat} (hj:j<n) (d:Bool):A.getD j d=m.testBit j:=by rw[Array.getD_eq_getD_getElem?,h.at_ j hj];rfl
theorem VA.set {n m:Nat} {A:Array Bool} (h:VA n A m) {k:Nat} (hk:k<n):VA n (A.setIfInBounds k true) (m ||| 2 ^ k):=by
 refine⟨by simpa using h.size,fun j hj=>?_,fun j hj=>?_⟩
 ·rw[Nat.testBit_or,Nat.testBit_two_pow];by_cases e:k=j
  ·subst e;rw[Array.getElem?_setIfInBounds_self_of_lt (by rw[h.size];exact hk)];simp
  ·rw[Array.getElem?_setIfInBounds_ne e,h.at_ j hj];simp[e]
 ·rw[Nat.testBit_or,Nat.testBit_two_pow,h.out j hj];simp;omega
def freeN (ops:Array Oper) (oi:Oper) (k m:Nat):Nat->List Oper->Bool
 |_,[]=>true
 |j,oj :: r=>(j == k || m.testBit j || oj.after.any (fun e=>Region.binds .any e && e.on == k) || oi.apart ops oj) && freeN ops oi k m (j+1) r
theorem UU {ops:Array Oper} {oi:Oper} {k m:Nat}:∀ (l:List Oper) (j:Nat),freeN ops oi k m j l=true->∀ i o,l[i]?=some o->(j+i == k || m.testBit (j+i) || o.after.any (fun e=>Region.binds .any e && e.on == k) || oi.apart ops o)=true
 | [],_,_,i,o,h=>by simp at h
 |x :: r,j,h,i,o,ho=>by
  simp only[freeN,Bool.and_eq_true] at h;rcases i with _|i
  ·simp only[List.getElem?_cons_zero,Option.some.injEq] at ho;subst ho;exact h.1
  ·have:=UU r (j+1) h.2 i o (by simpa using ho)
   rwa [show j+1+i=j+(i+1) by omega] at this
def lexN (l:List Oper) (fin:Nat):List Nat->Nat->Bool
 | [],m=>m == fin
 |k :: r,m=>!m.testBit k && (match l[k]? with
  |some o=>o.after.toList.all (fun e=>!Region.binds .any e || m.testBit e.on) && freeN l.toArray o k m 0 l
  |none=>false) && lexN l fin r (m ||| 2 ^ k)
theorem qaQ {l:List Oper} {L:Array Bool} {fin:Nat} (hL:VA l.length L fin):∀ (ks:List Nat) (A:Array Bool) (m:Nat),VA l.length A m->lexN l fin ks m=true->Zp l.toArray L ks A=true
 | [],A,m,hA,h=>by
  simp only[lexN,beq_iff_eq] at h;subst h;simp only[Zp,beq_iff_eq];refine Array.ext_getElem? fun j=>?_;by_cases hj:j<l.length
  ·rw[hA.at_ j hj,hL.at_ j hj]
  ·rw[Array.getElem?_eq_none (by rw[hA.size];omega),Array.getElem?_eq_none (by rw[hL.size];omega)]
 |k :: r,A,m,hA,h=>by
  simp only[lexN,Bool.and_eq_true,Bool.not_eq_true'] at h;obtain⟨⟨h0,h1⟩,h2⟩:=h;split at h1
  ·rename_i o ho;simp only[Bool.and_eq_true] at h1;obtain⟨h1,h3⟩:=h1;have hk:k<l.length:=(List.getElem?_eq_some_iff.1 ho).1;have hoA:l.toArray[k]?=some o:=by simpa using ho
   simp only[Zp,Bool.and_eq_true];refine⟨⟨?_,?_⟩,qaQ hL r _ _ (hA.set hk) h2⟩
   ·have:k∈Region.ready .any l.toArray A:=mem_ready.2 ⟨by rw[hA.getT hk,h0],o,hoA,fun e he hb=>by
     have h4:=List.all_eq_true.1 h1 e (by simpa using he);rw[hb] at h4;simp only[Bool.not_true,Bool.false_or] at h4;by_cases hj:e.on<l.length
     ·rw[hA.getT hj,h4]
     ·rw[hA.out e.on zO] at h4;cases h4⟩
    simpa using this
   ·unfold Region.free;rw[hoA];simp only[List.all_eq_true,List.mem_range];intro j hj;have hj':j<l.length:=by simpa using hj
    have h4:=UU l 0 h3 j l[j] (zL hj');rw[Nat.zero_add] at h4;rw[hA.getT hj',List.getElem?_toArray,zL hj'];simp only;simp only[Bool.or_eq_true] at h4 ⊢;rcases h4 with ((h4|h4)|h4)|h4
    ·exact .inl (.inl h4)
    ·exact .inl (.inr h4)
    ·exact .inr (.inl h4)
    ·exact .inr (.inr h4)
  ·cases h1
theorem VA.listed (n m:Nat) (h:m<=n):VA n (QK n m) (2 ^ m-1):=by
 refine⟨by simp[QK],fun j hj=>?_,fun j hj=>?_⟩
 ·unfold QK;rw[List.getElem?_toArray,List.getElem?_map,List.getElem?_range hj,Nat.testBit_two_pow_sub_one];rfl
 ·rw[Nat.testBit_two_pow_sub_one];simp;omega
theorem qgw {P:Program} {l:List Oper} {Q:Exit->Act->World->Prop} {fuel:Nat} {a:Act} {w W:World} (R:Rel) (H:Nat->Option qS) (M:List Bool) (t:Nat) (hs:Region.noSelect l.toArray=true) (ht:qdY l.toArray (QK l.length (l.length-t)) ((qp 0 l M).map (·.1))=true) (dC:KY l.toArray (Array.replicate l.length false)=true) (hB:lexN l (2 ^ (l.length-t)-1) ((qp 0 l M).map (·.1)) 0=true) (lu:Ts l.toArray t (l.length-t) (QK l.length (l.length-t))=true) (hfu:fuel=(qp 0 l M).length+t) (nS:(l.drop (l.length-t)).length=t) (hH:∀ i h,H i=some h->∀ p,qB R (h.φ p)) (hW:R.r w W) (h:∀ K:Act->qJ->Prop,(∀ a' F',(∀ W,R.r w W->(∀ k,F' k W)->wpList P l.toArray Q (l.drop (l.length-t)) a' W)->K a' F')->Zy R P l.toArray w H K (qp 0 l M) a (fun _ _=>True)):wpAny P .any l.toArray Q fuel (Array.replicate l.length false) a W:=
 qP R H M t hs ht dC (qaQ (VA.listed _ _ (Nat.sub_le _ _)) _ _ _ (VA.none_ _) hB) lu hfu nS hH hW h
end Go.Proofs.YtpbniokljofedaaGreat
