/- Texts FreeL, FreeP, Twin3, Twin8, RTake, BMake, PushR, BMake2, joined. -/
import Derived.RangeFuncNested
import Derived.RangeFuncLeaves
import Derived.Test.YtpbniokljofedaaGreatZE07
import Derived.Test.YtpbniokljofedaaGreatZE10
import Derived.Test.YtpbniokljofedaaGreatZE13
import Derived.Test.YtpbniokljofedaaGreatZE15
import Derived.Test.YtpbniokljofedaaGreatZE17
import Derived.Test.YtpbniokljofedaaGreatZE18
set_option linter.unusedSimpArgs false
set_option linter.unusedVariables false
set_option maxHeartbeats 8000000
set_option maxRecDepth 100000
namespace Go.Proofs.YtpbniokljofedaaGreat
open Go.RowKit Go.Shelf
attribute [local go_sem] Oper.semAt_some
theorem qgs (n:Nat) (hn:1≤n) (bs n₀:Nat) (v1 v2 v3 v4:Value) (S:Sto) (hS:qo S=true) (w:World) (hbs:bs<n₀) (hn₀:n₀≤w.heap.size)
  (hrow:w.heap[bs]?=some (.cells #[v1,v2,v3,v4] 28 (0,0))) (hst:qT w n₀ v1 v2 v3 v4 S) :
  SeqStopsK Fence.wide n Tryz.prog 175 #[.pointer (some ⟨bs,0,none⟩)] (fun x:Nat=>#[.int .i64 (x:Int)]) (Below n₀) (fun ys=>ys=QU S) (fun pre=>pre <+: QU S) 256 w:=fun l J Jx W hW hJ _ hY h0 =>
 free_in n hn l bs n₀ v1 v2 v3 v4 S hS J Jx hY (fun pre W1 W2 h hx=>hJ pre W1 W2 none h ⟨hx.os,hx.tape,hx.output,hx.size,fun k hk _=>hx.block k hk⟩ (fun _ e=>by cases e)) W hbs (Nat.le_trans hn₀ hW.size) ((hW.block bs (Nat.lt_of_lt_of_le hbs hn₀)).trans hrow) (hst.below (Below.mono hW hn₀)) h0
theorem XO {w:World} {B:Nat} {e:TypeId} {size:Nat} {v:Value} {n:Nat} {xs:List Value} (h:w.ownsRow B e size v n xs):∀ g,v.ownBlock=some g→∃ c fz,w.heap[g]?=some (.cells c e fz):=by
 intro g hg
 rcases h.2 with ⟨rfl,_⟩|⟨b,cap,cur,rfl,_,h2,_⟩
 ·simp[Value.ownBlock] at hg
 ·simp[Value.ownBlock] at hg
  subst hg
  exact⟨cur,(0,0),h2⟩
theorem own_down {w:World} {B B':Nat} {e:TypeId} {size:Nat} {v:Value} {n:Nat} {xs:List Value} (h:w.ownsRow B e size v n xs) (hb:B'≤B):w.ownsRow B' e size v n xs:=by
 rcases h with ⟨h1,h2|⟨g,cap,cur,e1,h3,h4⟩⟩
 ·exact⟨h1,.inl h2⟩
 ·exact⟨h1,.inr ⟨g,cap,cur,e1,by omega,h4⟩⟩
theorem qcx {w:World} {B:Nat} {e:TypeId} {size:Nat} {v:Value} {n:Nat} {xs:List Value} (h:w.ownsRow B e size v n xs) {D:Nat} {o:Obj} (hD:w.heap[D]?=some o) (ho:o.isCells=false):v.ownBlock=none∨v.ownBlock≠some D:=by
 refine .inr fun hv=>?_
 obtain⟨c,fz,h3⟩:=XO h D hv
 rw[hD] at h3
 cases h3
 cases ho
theorem UA {B:Nat} {W W':World} {row:Option Nat} (hg:W.grownBy W' row) (hr:∀ g,row=some g→B≤g) (hB:B≤W.heap.size:=by omega):Below B W W':=(Below.refl _ _).grown hg hB (fun k e=>hr k e)
theorem Ue {w w':World} {B:Nat} {e:TypeId} {size:Nat} {v:Value} {n:Nat} {xs:List Value} (h:w.ownsRow B e size v n xs) (hg:w.grownBy w' v.ownBlock):KeepsOthers w w':=⟨hg.size,fun k o hk ho=>(hg.block k (zG.1 hk).1 (fun e1=>by
 obtain⟨c,fz,h3⟩:=XO h k e1.symm
 rw[hk] at h3
 cases h3
 cases ho)).trans hk⟩
theorem qcF {B:Nat} (b base:Nat) (ty ety:TypeId):OwnFrom B (fun (pre:List Nat) W=>∃ v,W.heap[b]?=some (.cells #[v] ty (0,0))∧W.ownsRow base ety 1 v pre.length (jG pre)):=fun s A C row ⟨v,h1,h2⟩ hg hr =>
 ⟨v,Qv (β:=Unit) _ _ _ _ () A C row h1 hg hr,h2.kept hg (by
  rcases hv:v.ownBlock with _|g
  ·exact .inl rfl
  ·refine .inr fun e=>?_
   obtain⟨_,o,ho,hc⟩:=hr g e.symm
   rcases XO h2 g hv with ⟨c,fz,h3⟩
   rw[ho] at h3
   cases h3
   cases hc)⟩
theorem qch (n:Nat) (h3:3≤n) (bs:Nat) (v1 v2 v3 v4:Value) (S:Sto) (hS:qo S=true) (w:World) (hbs:bs<w.heap.size) (hrow:w.heap[bs]?=some (.cells #[v1,v2,v3,v4] 28 (0,0))) (hst:qT w w.heap.size v1 v2 v3 v4 S) :
  CallsIn Fence.wide n Tryz.prog 174 #[.slice none 0 0,.func (.func 175) #[] #[.pointer (some ⟨bs,0,none⟩)]] w fun e W'=>∃ v,e=.returned v∧Below w.heap.size w W'∧W'.ownsRow (w.heap.size+1) 3 1 v (QU S).length (jG (QU S)):=by
 have h1:1≤n:=by omega
 refine callsIn_of_wp_marks Tryz.func174 rfl trivial ?_ rfl
 simp only[Tryz.ntmps174,List.size_toArray,List.length_cons,List.length_nil,Nat.reduceAdd,Nat.reduceSub,Array.replicate_succ,Array.replicate_zero,List.push_toArray,List.append_toArray,List.nil_append,List.cons_append]
 gi_wp2_with fail
 have x1:Ext w (w.alloc (.cells #[.slice none 0 0] 30)):=zN _ _
 obtain⟨i0,hi,hz0,hz1,hz2⟩:=info_parts Tryz.info_int
 refine wpIn_rangeFunc_ownH rfl h1 (gf:=175) (lb:=#[.pointer (some ⟨bs,0,none⟩)]) rfl trivial (enters_of Tryz.func175 (by kernel_rfl) rfl)
  (qgs (n-1) (by omega) bs w.heap.size v1 v2 v3 v4 S hS _ hbs (by simp) (qb hrow x1) (hst.below x1)) Below.trans (belowK_b (by simp)) (Below.refl _ _) (fun _=>rfl)
  (fun pre W=>(∃ v,W.heap[w.heap.size]?=some (.cells #[v] 30 (0,0))∧W.ownsRow (w.heap.size+1) 3 1 v pre.length (jG pre))∧Below w.heap.size w W)
  (fun _ _ _=>False)
  (OwnFrom.and (qcF _ _ _ _) (ownFrom_below (zM _) (by simp)))
  (fun _ _ _ _ _ hs _ _=>hs)
  ⟨⟨.slice none 0 0,zI _ _ _ rfl,World.ownsRow_nil _ _ _ _⟩,x1⟩
  (fun x a' _=>a'={ tmps:=#[.slice none 0 0,.func (.func 175) #[] #[.pointer (some ⟨bs,0,none⟩)],.pointer (some ⟨w.heap.size,0,none⟩),undef,.slice none 0 0,.int .i64 (x:Int),.func (.func 175) #[] #[.pointer (some ⟨bs,0,none⟩)],.int .i64 (x:Int),undef,undef,undef,undef,undef],defers:=[] })
  (fun x a'=>kL _ _) ?assign ?body ?done ?stop
 case assign =>
  rintro l pre x W K hI hK
  gi_wp2_with fail
  exact hK _ _ (KeepsFrom.refl _ _) (Below.refl _ _) hI rfl
 case body =>
  rintro l pre x a' W hl - ⟨⟨v,hr,hown⟩,hB⟩ rfl hpl
  have kr:=qa hr
  have zb:w.heap.size<W.heap.size:=(zG.1 hr).1
  have hne:v.ownBlock≠some w.heap.size:=fun e=>by have:=(QV hown _ e).1;omega
  obtain⟨Av,cv,rfl,-,-⟩:=qw hown
  gi_wp2_with (gi_at_builtin;refine YO ?_)
  refine QA.go (YK W rfl (.tmp 8) (.tmp 10) 30 rfl (w.heap.size+1) 3 i0 _ 1 8 Tryz.underlying30 hi hz0 hz1 hz2 rfl (by decide) (.slice Av pre.length cv) pre.length _ (by exact rfl) hown #[.int .i64 (x:Int)] (by exact rfl) rfl (by simp[Value.oneCell']) (by omega) (by decide) (by omega) ?_)
  intro v' W3 hown3 hg hat
  have hg0:∀ g,(Value.slice Av pre.length cv).ownBlock=some g→w.heap.size+1≤g:=fun g e=>(QV hown _ e).1
  have hr3:W3.heap[w.heap.size]?=_:=(hg.block _ zb (fun e=>hne e.symm)).trans hr
  have kr3:=qa hr3
  have fr3:=qd hr3
  have hB3:Below w.heap.size W W3:=UA hg fun g e=>by have:=hg0 g e;omega
  have zb3:w.heap.size<W3.heap.size:=(zG.1 hr3).1
  have hg3:∀ g,v'.ownBlock=some g→w.heap.size+1≤g:=fun g e=>(QV hown3 _ e).1
  have hkeep:KeepsOthers W W3:=Ue hown hg
  replace hg:=zH hg
  replace hown:=zH hown
  replace hat:=zH hat
  obtain⟨Av',cv',rfl,-,-⟩:=qw hown3
  replace hown3:=zH hown3
  gi_wp2_with fail
  refine⟨(hkeep.trans (KeepsOthers.setCell _ _ _)).from _,hB3.setCell (p:=⟨w.heap.size,0,none⟩) (zM _) _,⟨_,qi hr3 0 _,?_⟩,hB.trans (hB3.setCell (p:=⟨w.heap.size,0,none⟩) (zM _) _)⟩
  rw[List.length_append,List.length_singleton,Kd]
  exact hown3.out.kept (grownBy_setCell' _ _ _) (.inr fun e=>by have:=hg3 _ e;omega)
 case done =>
  rintro D ys W hD rfl ⟨⟨v,hr,hown⟩,hB⟩ hK
  have kr:=qa hr
  gi_wp2_with fail
  refine⟨by simp,.inl ⟨_,_,rfl,run_takeDeferred hK,?_⟩⟩
  exact⟨_,results_tmp rfl _ _ _,v,rfl,hB.trans (belowK_b (w:=w) (zM _) W D _ _ (by simp at hD;omega) hK rfl rfl),hown.kept (grownBy_putObj' W D _) (qcx hown hK rfl)⟩
 case stop =>
  rintro D c pre W _ _ h _
  exact h.elim
def RFreeQ (S:Sto) (w:World) (e:Ending) (w':World):Prop:=Below w.heap.size w w' ∧
 ((qo S=false∧e=.returned (.tuple #[.slice none 0 0,.int .i64 8]))∨(qo S=true∧∃ v,e=.returned (.tuple #[v,.int .i64 0])∧w'.ownsRow w.heap.size 3 1 v (QU S).length (jG (QU S))))
theorem qdO (bs:Nat) (v1 v2 v3 v4:Value) (S:Sto) (hS:qo S=true) (w:World) (hbs:bs<w.heap.size) (hrow:w.heap[bs]?=some (.cells #[v1,v2,v3,v4] 28 (0,0))) (hst:qT w w.heap.size v1 v2 v3 v4 S) :
  Calls Tryz.prog 160 #[.func (.func 175) #[] #[.pointer (some ⟨bs,0,none⟩)]] w fun e W'=>∃ v,e=.returned v∧Below w.heap.size w W'∧W'.ownsRow (w.heap.size+1) 3 1 v (QU S).length (jG (QU S)):=by
 go_enter Tryz.func160,Tryz.ntmps160
 go_wp2_with fail
 refine((callsIn_wide (n:=3)).1 (qch 3 (by omega) bs v1 v2 v3 v4 S hS w hbs hrow hst)).mono ?_
 rintro e w2 ⟨v,rfl,hB,hown⟩
 obtain⟨A,c,rfl,-,-⟩:=qw hown
 replace hown:=zH hown
 go_wp2_with fail
 go_ret
 exact⟨_,rfl,hB,hown.out⟩
theorem qfx (A1:Option Addr) (n1 c1:Nat) (A2:Option Addr) (n2 c2:Nat) (A3:Option Addr) (n3 c3:Nat) (A4:Option Addr) (n4 c4:Nat) (w:World) :
  Calls Tryz.prog 161 #[Qa A1 n1 c1 A2 n2 c2 A3 n3 c3 A4 n4 c4] w (fun e w'=>e=.returned (.func (.func 175) #[] #[.pointer (some ⟨w.heap.size,0,none⟩)])∧w'=w.alloc (.cells #[.slice A1 n1 c1,.slice A2 n2 c2,.slice A3 n3 c3,.slice A4 n4 c4] 28)):=by
 go_enter Tryz.func161,Tryz.ntmps161
 go_wp2
 go_ret
 exact⟨rfl,rfl⟩
theorem qbu {R:Ending→World→Prop} {a:Act} {W:World} {u v:Value} (h2:a.tmps[2]?.getD undef=u) (h3:a.tmps[3]?.getD undef=v) (hd:a.defers=[]) (hR:R (.returned (.tuple #[u,v])) W):bodyPost Tryz.prog Tryz.f118 R .ret a W:=by
 refine bodyPost_ret (v:=.tuple #[u,v]) ?_ hd hR
 simp[results,Tryz.results118,go_sem,h2,h3]
theorem Tz (A1:Option Addr) (n1 c1:Nat) (A2:Option Addr) (n2 c2:Nat) (A3:Option Addr) (n3 c3:Nat) (A4:Option Addr) (n4 c4:Nat) (S:Sto) (w:World) (h:qT w w.heap.size (.slice A1 n1 c1) (.slice A2 n2 c2) (.slice A3 n3 c3) (.slice A4 n4 c4) S) :
  Calls Tryz.prog 118 #[Qa A1 n1 c1 A2 n2 c2 A3 n3 c3 A4 n4 c4] w (RFreeQ S w):=by
 have HC:=zH (fun W (hx:Ext w W)=>jV A1 n1 c1 A2 n2 c2 A3 n3 c3 A4 n4 c4 S W (h.ext hx))
 replace h:=zH h
 go_enter Tryz.func118,Tryz.ntmps118
 go_wp2_with fail
 generalize hw1:(World.alloc w _)=w1
 have x1:Ext w w1:=by rw[←hw1];exact zN _ _
 have r1:w1.heap[w.heap.size]?=some (.cells #[.slice A1 n1 c1,.slice A2 n2 c2,.slice A3 n3 c3,.slice A4 n4 c4] 28 (0,0)):=by rw[←hw1];exact zI _ _ _ rfl
 clear hw1
 refine(HC.out w1 x1).mono ?_
 clear HC
 rintro e w2 ⟨rfl,hB⟩
 have x2:Ext w w2:=x1.trans hB
 have r2:=qb r1 hB
 have k2:=qa r2
 clear hB r1 x1
 rcases hS:qo S with _|_
 ·rw[jU rfl]
  replace hS:=zH hS
  go_wp2_with fail
  exact qbu rfl rfl rfl ⟨x2,.inl ⟨hS.out,rfl⟩⟩
 ·rw[Jv rfl]
  go_wp2_with fail
  refine(qfx A1 n1 c1 A2 n2 c2 A3 n3 c3 A4 n4 c4 w2).mono ?_
  rintro e w3 ⟨rfl,rfl⟩
  have x3:Ext w2 (w2.alloc (.cells #[.slice A1 n1 c1,.slice A2 n2 c2,.slice A3 n3 c3,.slice A4 n4 c4] 28)):=zN _ _
  have r3:(w2.alloc (.cells #[.slice A1 n1 c1,.slice A2 n2 c2,.slice A3 n3 c3,.slice A4 n4 c4] 28)).heap[w2.heap.size]?=_:=zI _ _ _ rfl
  have h3:=h.out.ext (x2.trans x3)
  generalize hw3:w2.alloc _=w3 at *
  have s3:w2.heap.size<w3.heap.size:=(zG.1 r3).1
  go_wp2_with fail
  refine(qdO w2.heap.size _ _ _ _ S hS w3 s3 r3 h3).mono ?_
  rintro e w4 ⟨v,rfl,hB4,hown⟩
  obtain⟨A,c,rfl,-,-⟩:=qw hown
  have HR:RFreeQ S w (.returned (.tuple #[.slice A (QU S).length c,.int .i64 0])) w4:=⟨Ext.trans (x2.trans x3) hB4,.inr ⟨hS,_,rfl,own_down hown (by have:=(x2.trans x3).size;omega)⟩⟩
  replace HR:=zH HR
  replace hown:=zH hown
  replace hS:=zH hS
  clear hw3 r3 r2 k2
  go_wp2_with fail
  exact qbu rfl rfl rfl HR.out
end Go.Proofs.YtpbniokljofedaaGreat
namespace Go.Proofs.YtpbniokljofedaaGreat
open Go.RowKit
section
variable {F0:Fence} {P:Program} {ops:Array Oper} {n:Nat}
end


end Go.Proofs.YtpbniokljofedaaGreat
namespace Go.Proofs.YtpbniokljofedaaGreat
open Go.RowKit Go.Shelf
attribute [local go_sem] Oper.semAt_some
def QY (S:Sto):Nat:=(QU S).headD 0
def Ye (S:Sto) (a:Nat) (data:List UInt8):Sto:=⟨S.bs,S.ws++[((a:Int),data)],S.now.set a 1,S.last⟩
theorem KeepsOthers.of_ext {W W':World} (h:Ext W W'):KeepsOthers W W':=⟨h.size,fun k _ hk _=>(h.block k (zG.1 hk).1).trans hk⟩
theorem GV {w W:World} {x0 x1 x2 x3 y z:Value} {ty1 ty2 ty3:TypeId} {u0 u1 u2 u3 u5 u6:Value} (r4:W.heap[w.heap.size+2]?=some (.cells #[u0,u1,u2,u3] ty1 (0,0))) (r5:W.heap[w.heap.size+3]?=some (.cells #[u5] ty2 (0,0))) (r6:W.heap[w.heap.size+4]?=some (.cells #[u6] ty3 (0,0))) {C:World}
  (hC:C=((((((W.setCell ⟨w.heap.size+1+1,0,none⟩ x0).setCell ⟨w.heap.size+1+1,1,none⟩ x1).setCell ⟨w.heap.size+1+1,2,none⟩ x2).setCell ⟨w.heap.size+1+1,3,none⟩ x3).setCell ⟨w.heap.size+1+1+1,0,none⟩ y).setCell ⟨w.heap.size+1+1+1+1,0,none⟩ z)) :
  C.heap[w.heap.size+2]?=some (.cells #[x0,x1,x2,x3] ty1 (0,0))∧C.heap[w.heap.size+3]?=some (.cells #[y] ty2 (0,0))∧C.heap[w.heap.size+4]?=some (.cells #[z] ty3 (0,0))∧(∀ {B:Nat} {w0:World},B≤w.heap.size+2→Below B w0 W→Below B w0 C)∧C.heap.size=W.heap.size∧(∀ k,w.heap.size+5≤k→C.heap[k]?=W.heap[k]?)∧KeepsOthers W C:=by
 subst hC
 have hs:=fun (A:World) (b j:Nat) (v:Value) (k:Nat) (hk:k≠b)=>zJ A ⟨b,j,none⟩ v k hk
 refine⟨?_,?_,?_,fun hB h=>?_,by simp,fun k hk=>?_,?_⟩
 ·rw[hs _ _ _ _ _ (by omega),hs _ _ _ _ _ (by omega)]
  exact vw r4 x0 x1 x2 x3
 ·rw[hs _ _ _ _ _ (by omega)]
  refine qi (t:=ty2) (cs:=#[u5]) ?_ 0 y
  rw[hs _ _ _ _ _ (by omega),hs _ _ _ _ _ (by omega),hs _ _ _ _ _ (by omega),hs _ _ _ _ _ (by omega)]
  exact r5
 ·refine qi (t:=ty3) (cs:=#[u6]) ?_ 0 z
  rw[hs _ _ _ _ _ (by omega),hs _ _ _ _ _ (by omega),hs _ _ _ _ _ (by omega),hs _ _ _ _ _ (by omega),hs _ _ _ _ _ (by omega)]
  exact r6
 ·exact Below.setCell (Below.setCell (zy h (b:=w.heap.size+1+1) (by omega) x0 x1 x2 x3) (p:=⟨w.heap.size+1+1+1,0,none⟩) (by simp;omega) _) (p:=⟨w.heap.size+1+1+1+1,0,none⟩) (by simp;omega) _
 ·rw[hs _ _ _ _ _ (by omega),hs _ _ _ _ _ (by omega),hs _ _ _ _ _ (by omega),hs _ _ _ _ _ (by omega),hs _ _ _ _ _ (by omega),hs _ _ _ _ _ (by omega)]
 ·exact(((((KeepsOthers.setCell _ _ _).trans (KeepsOthers.setCell _ _ _)).trans (KeepsOthers.setCell _ _ _)).trans (KeepsOthers.setCell _ _ _)).trans (KeepsOthers.setCell _ _ _)).trans (KeepsOthers.setCell _ _ _)
end Go.Proofs.YtpbniokljofedaaGreat
namespace Go.Proofs.YtpbniokljofedaaGreat
open Go.RowKit
def JB (t:List UInt8) (a:Nat):Except Int (List UInt8):=if a=0 then .ok t else if Qj t a=0 then .error 6 else if Qj t a=255 then .error 70 else .ok (jg t a 1)
def ZL:List Nat→List UInt8→Except Int (List UInt8)
 | [],t=>.ok t
 |a :: r,t=>match JB t a with
  | .error e=>.error e
  | .ok t'=>ZL r t'
theorem JK:∀ (l r:List Nat) (t:List UInt8),ZL (l++r) t=match ZL l t with
  | .error e=>.error e
  | .ok t'=>ZL r t'
 | [],_,_=>rfl
 |a :: l,r,t=>by
  simp only[List.cons_append,ZL]
  cases JB t a with
  |error e=>rfl
  |ok t'=>exact JK l r t'
theorem Gv (a:Nat) (t:List UInt8):ZL [a] t=JB t a:=by
 simp only[ZL]
 cases JB t a <;> rfl
def qX (its:List It):List Nat:=its.map fun x=>x.r.toNat
theorem Vr {its:List It} {k:Nat} (hk:k<its.length):qX (its.take (k+1))=qX (its.take k)++[(its[k].r).toNat]:=by
 unfold qX
 rw[List.take_succ_eq_append_getElem hk,List.map_append]
 rfl
theorem qgd {its:List It} (k:Nat):qX its=qX (its.take k)++qX (its.drop k):=by
 unfold qX
 rw[←List.map_append,List.take_append_drop]
theorem qfl {its:List It} {k:Nat} (hk:k<its.length) {t t':List UInt8} {e:Int} (h:ZL (qX (its.take k)) t=.ok t') (h1:JB t' (its[k].r).toNat=.error e):ZL (qX its) t=.error e:=by
 rw[qgd (its:=its) (k+1),JK,Vr hk,JK,h]
 simp only[Gv,h1]
theorem qej {its:List It} {k:Nat} (hk:k<its.length) {t t' t'':List UInt8} (h:ZL (qX (its.take k)) t=.ok t') (h1:JB t' (its[k].r).toNat=.ok t''):ZL (qX (its.take (k+1))) t=.ok t'':=by
 rw[Vr hk,JK,h]
 simp only[Gv,h1]
def Zq (S:Sto) (lvl:Int) (its:List It):Except Int (Nat×Sto):=
 if Qg lvl its=true then
  match ZL (qX its) S.now with
  | .error e=>.error e
  | .ok t=>if QU (qy S t)=[]∨S.ws.length=4096 then .error 9 else .ok (QY (qy S t),Ye (qy S t) (QY (qy S t)) (jo (Za lvl its)))
 else .error 8
section
variable {D:Nat→Prop} {B lo b g:Nat} {k:Option Nat} {S:Sto} {w W:World}
theorem Bch.lens (h:Bch D B lo b g k S w):S.now.length=256∧S.last.length=256:=by
 obtain⟨A1,n1,c1,v2,c3,A4,c4,hr,ho,-,-,h4⟩:=h.ex
 have:=ho.1
 have h5:=h4.at_.1
 exact⟨by simpa using this,h5.symm⟩
theorem Bch.cells (h:Bch D B lo b g k S w):∃ A1 n1 c1 v2 c3 A4 c4,(∀ i,w.cell? ⟨b,i,none⟩=#[.slice A1 n1 c1,v2,.slice (some ⟨g,0,none⟩) 256 c3,.slice A4 256 c4][i]?)∧(∀ a,a<256→w.cell? ⟨g,a,none⟩=some (.int .u8 (zO S a:Int)))∧(∀ a,w.frozen? ⟨g,a,none⟩=false):=by
 obtain⟨A1,n1,c1,v2,c3,A4,c4,hr,ho,-,-,-⟩:=h.ex
 obtain⟨h1,h2,-,-⟩:=Zg ho
 exact⟨A1,n1,c1,v2,c3,A4,c4,qa hr,h1,h2⟩
end
theorem Xo {R:Ending→World→Prop} {a:Act} {W:World} {v:Value} (h4:a.tmps[4]?.getD undef=v) (hd:a.defers=[]) (hR:R (.returned v) W):bodyPost Tryz.prog Tryz.f156 R .ret a W:=by
 refine bodyPost_ret (v:=v) ?_ hd hR
 simp[results,Tryz.results156,go_sem,h4]
theorem qgr (D:Nat→Prop) (B lo b g:Nat) (k:Option Nat) (S:Sto) (a:Nat) (ha:a<256) (w:World) (h:Bch D B lo b g k S w) :
  Calls Tryz.prog 156 #[.pointer (some ⟨b,0,none⟩),.int .i64 (a:Int)] w fun e W=>qY lo b g k w W ∧
   ((Qj S.now a=0∧e=.returned (.int .i64 6))∨(Qj S.now a=255∧e=.returned (.int .i64 70))∨(Qj S.now a≠0∧Qj S.now a≠255∧e=.returned (.int .i64 0)∧Bch D B lo b g k (qy S (jg S.now a 1)) W)):=by
 obtain⟨A1,n1,c1,v2,c3,A4,c4,kr,hk,hf⟩:=h.cells
 have hka:=hk a ha
 have hfa:=hf a
 have hT:Hid (jg S.now a 1=S.now.set a (UInt8.ofNat (Qj S.now a+1))):=rfl
 have hset:=zH (h.count ha (UInt8.ofNat (Qj S.now a+1)))
 have hcn:zO S a=Qj S.now a:=rfl
 have hc2:=(S.now[a]?.getD 0).toNat_lt
 have hc:Qj S.now a=(S.now[a]?.getD 0).toNat:=rfl
 rw[hcn] at hka
 rw[←hc] at hc2
 have hwv:=qcG (Qj S.now a+1)
 generalize Qj S.now a=nv at *
 clear hk hf hc hcn h
 by_cases h0:nv=0
 ·subst h0
  clear hset hT hwv
  go_enter Tryz.func156,Tryz.ntmps156
  go_wp2_with fail
  exact Xo rfl rfl ⟨qY.refl _ _ _ _ _,.inl ⟨by trivial,rfl⟩⟩
 ·have hz1:((nv:Int) == 0)=false:=by rw[beq_eq_false_iff_ne];omega
  have hz2:decide (nv=0)=false:=decide_eq_false (by omega)
  by_cases h1:nv=255
  ·subst h1
   clear hset hT hwv
   go_enter Tryz.func156,Tryz.ntmps156
   go_wp2_with fail
   exact Xo rfl rfl ⟨qY.refl _ _ _ _ _,.inr (.inl ⟨by trivial,rfl⟩)⟩
  ·have hz3:((nv:Int) == 255)=false:=by rw[beq_eq_false_iff_ne];omega
   have hz4:decide (nv=255)=false:=decide_eq_false (by omega)
   replace h0:=zH h0
   replace h1:=zH h1
   rw[show ((nv+1:Nat):Int)=(nv:Int)+1 from rfl] at hwv
   go_enter Tryz.func156,Tryz.ntmps156
   go_wp2_with fail
   refine Xo rfl rfl ⟨hset.out.2,.inr (.inr ⟨h0.out,h1.out,rfl,?_⟩)⟩
   rw[hT.out]
   exact hset.out.1
theorem Ur (D:Nat→Prop) (B lo b g:Nat) (k:Option Nat) (S:Sto) (a:Nat) (ha:a<256) (w:World) (h:Bch D B lo b g k S w) :
  Calls Tryz.prog 133 #[.pointer (some ⟨b,0,none⟩),.int .i64 (a:Int)] w fun e W=>qY lo b g k w W ∧
   ((Qj S.now a=0∧e=.returned (.int .i64 6))∨(Qj S.now a≠0∧e=.returned (.int .i64 0)∧Bch D B lo b g k (qy S (kh S.now a)) W)):=by
 obtain⟨A1,n1,c1,v2,c3,A4,c4,kr,hk,hf⟩:=h.cells
 have hka:=hk a ha
 have hfa:=hf a
 have hT:Hid (kh S.now a=S.now.set a (UInt8.ofNat (Qj S.now a-1))):=rfl
 have hset:=zH (h.count ha (UInt8.ofNat (Qj S.now a-1)))
 have hcn:zO S a=Qj S.now a:=rfl
 have hc2:=(S.now[a]?.getD 0).toNat_lt
 have hc:Qj S.now a=(S.now[a]?.getD 0).toNat:=rfl
 rw[hcn] at hka
 rw[←hc] at hc2
 generalize Qj S.now a=nv at *
 clear hk hf hc hcn h
 by_cases h0:nv=0
 ·subst h0
  clear hset hT
  go_enter Tryz.func133,Tryz.ntmps133
  go_wp2_with fail
  exact GZ rfl rfl ⟨qY.refl _ _ _ _ _,.inl ⟨by trivial,rfl⟩⟩
 ·have hz1:((nv:Int) == 0)=false:=by rw[beq_eq_false_iff_ne];omega
  have hz2:decide (nv=0)=false:=decide_eq_false (by omega)
  have hwv:=qgM (n:=nv) (by omega) hc2
  replace h0:=zH h0
  go_enter Tryz.func133,Tryz.ntmps133
  go_wp2_with fail
  refine GZ rfl rfl ⟨hset.out.2,.inr ⟨h0.out,rfl,?_⟩⟩
  rw[hT.out]
  exact hset.out.1
theorem qaA {P:Program} (w:World) (t ty:TypeId) (e:TypeId) (i:TypeInfo) (z:Value) (size bytes:Nat) (ht:P.underlying t=some (.slice e)) (hi:P.info? e=some i) (hz:i.zero=some z)
  (hsize:i.size=size) (hby:i.bytes=bytes) (hzs:z.cells.size=size) (hsz:0<size)
  (B:Nat) (A:Option Addr) (n:Nat) (xs:List Value) (hr:Rd w B size A n xs) (cs:Array Value) (hl:cs.size=size) (h1:∀ u∈cs.toList,u.oneCell'=true)
  (hn:n<1073741824) (hbytes:bytes≤65536) :
  ∃ v' w',(Builtin.append_ #[t,t] ty #[.slice A n n,.slice (some ⟨w.heap.size,0,none⟩) 1 1]).run P (w.alloc (.cells cs e))=.ok v' w'∧w'.ownsRow (w.heap.size+1) e size v' (n+1) (xs++cs.toList)∧Ext w w'∧v'.ownBlock=some (w.heap.size+1):=by
 have hb:(n+1)*bytes≤140737488355328:=Nat.le_trans (Nat.mul_le_mul_left _ hbytes) (by omega)
 have hm:n+1≤maxLen:=by unfold maxLen;omega
 have hm2:((n+1:Nat):Int)≤9223372036854775807:=by omega
 rcases A with _|ad
 ·have hn0:n=0:=by
   rcases Nat.eq_zero_or_pos n with h0|h0
   ·exact h0
   ·obtain⟨b,off,h,_⟩:=hr.2 h0
    cases h
  subst hn0
  have hx:xs=[]:=List.eq_nil_of_length_eq_zero (by simpa using hr.1)
  subst hx
  obtain⟨v',w',hrun,h2,h3,h4,h5⟩:=run_append_own_at (P:=P) (w.alloc (.cells cs e)) (w.heap.size+1) t ty e i z size bytes ht hi hz hsize hby hzs hsz (.slice none 0 0) 0 [] (World.ownsRow_nil _ _ _ _) ⟨w.heap.size,0,none⟩ 1 1 cs.toList
   (by rw[Array.length_toList];omega) (KG w cs e) h1 hm hb (by simp)
  refine⟨v',w',hrun,h2,Ext.trans (zN w (.cells cs e)) ((Below.refl _ _).grown h3 (zM _) (fun k hk=>by cases hk)),?_⟩
  rcases h5 with h5|h5
  ·exfalso
   rcases h2.2 with ⟨e0,_⟩|⟨g,cap,cur,e0,_⟩
   ·have:=(h4.1 e0).2
    omega
   ·rw[e0] at h5
    cases h5
  ·rw[h5];simp
 ·have hcells:∀ j u,xs[j]?=some u→w.cell? (ad.add j)=some u:=by
   intro j u hu
   rcases Nat.eq_zero_or_pos n with h0|h0
   ·subst h0
    have hx:xs=[]:=List.eq_nil_of_length_eq_zero (by simpa using hr.1)
    subst hx
    simp at hu
   ·obtain⟨b,off,h,_⟩:=hr.2 h0
    injection h with h
    subst h
    exact hr.adds h0 j u hu
  subst hsize
  subst hby
  have hr':=run_append_grow (P:=P) (w.alloc (.cells cs e)) t ty e i z ht hi hz ad n n xs hr.1 (fun j u hu=>Ext.cell (zN w _) (hcells j u hu)) ⟨w.heap.size,0,none⟩ 1 1 cs.toList (by rw[Array.length_toList];omega) (KG w cs e) (by omega) hm2 (growslice_fits (by omega) hb)
  refine⟨_,_,hr',?_,(zN w _).trans ((Ext.drew _).trans (zN _ _)),by simp[Value.ownBlock]⟩
  have hge:=grownCap_ge (w.alloc (.cells cs e)) (n+1) n e
  have hcm:grownCap (w.alloc (.cells cs e)) (n+1) n e≤maxLen:=grownCap_le_maxLen _ (n+1) n e hm
  have hlen:(xs++cs.toList).length=(n+1)*i.size:=by rw[List.length_append,hr.1,Array.length_toList,hl,Nat.add_mul,Nat.one_mul]
  refine⟨hlen,.inr ⟨_,_,_,rfl,by simp,heap_alloc_new (w.alloc (.cells cs e)).drew _,hge,hcm,?_,?_⟩⟩
  ·simp only[Array.size_append,List.size_toArray,size_zeroCells,hzs,hr.1,Array.length_toList,hl]
   rw[←Nat.succ_mul,←Nat.add_mul]
   congr 1
   omega
  ·simp only[Array.toList_append,List.append_assoc]
   rw[←List.append_assoc,←hlen]
   exact List.take_left
theorem WsB.push {D:Nat→Prop} {B lo b g:Nat} {k:Option Nat} {v:Value} {ws:List (Int×List UInt8)} {w:World} (h:WsB D B lo b g k v ws w) (hlo:lo≤w.heap.size) (hk:∀ q,k=some q→¬(q<B∨D q)) (hws:ws.length<1073741824) (at_:Int) (A0:Option Addr) (c0:Nat) (l:List UInt8) (hd:∀ C,Qd (Xk B D) w C→Bys C C.heap.size (.slice A0 l.length c0) l) (ty:TypeId) :
  ∃ v' w' k',(Builtin.append_ #[23,23] ty #[v,.slice (some ⟨w.heap.size,0,none⟩) 1 1]).run Tryz.prog (w.alloc (.cells #[.int .i64 at_,.slice A0 l.length c0] 130))=.ok v' w'∧WsB D B lo b g k' v' (ws++[(at_,l)]) w'∧qY lo b g k w w'∧Zl w.heap.size k k' ∧
   (∀ q,q<w.heap.size→k≠some q→w'.heap[q]?=w.heap[q]?):=by
 obtain⟨i0,hi,hz0,hz1,hz2⟩:=info_parts Tryz.info_write
 obtain⟨ps,rfl,hw,hp⟩:=h
 have h1:∀ u∈(#[.int .i64 at_,.slice A0 l.length c0]:Array Value).toList,u.oneCell'=true:=by simp[Value.oneCell']
 rw[List.length_map] at hws hw
 have fin:∀ (v':Value) (w':World) (k':Option Nat),w'.ownsRow lo 130 2 v' (ps.length+1) (jj ps++[.int .i64 at_,.slice A0 l.length c0])→(∃ q,v'.ownBlock=some q∧k'=some q)→(∀ q,q<w.heap.size→k≠some q→w'.heap[q]?=w.heap[q]?)→WsB D B lo b g k' v' (ps.map (·.1)++[(at_,l)]) w':=fun v' w' k' ho ⟨q,hq1,hq2⟩ hR=>by
  have hX:Qd (Xk B D) w w':=Xk.keep fun q hq h1=>hR q hq fun e=>hk q e h1
  refine⟨ps++[((at_,l),.slice A0 l.length c0)],by simp,.inr ⟨q,hq2,hq1,by rw[qdl];simpa using ho⟩,fun p hpm=>?_⟩
  rcases List.mem_append.1 hpm with hpm|hpm
  ·exact⟨(hp p hpm).1,fun C hC=>(hp p hpm).2 C (hX.trans hC fun _ _ h=>h)⟩
  ·obtain rfl:p=((at_,l),.slice A0 l.length c0):=by simpa using hpm
   exact⟨⟨A0,c0,rfl⟩,fun C hC=>hd C (hX.trans hC fun _ _ h=>h)⟩
 rcases hw with ⟨rfl,hm,A,rfl,hr⟩|⟨q,rfl,hq,ho⟩
 ·obtain⟨v',w',hrun,h2,hx,hb⟩:=qaA (P:=Tryz.prog) w 23 ty 130 i0 (.agg #[.int .i64 0,.slice none 0 0]) 2 32 Tryz.underlying23 hi hz0 hz1 hz2 rfl (by decide) B A ps.length (jj ps) hr #[.int .i64 at_,.slice A0 l.length c0] rfl h1 hws (by decide)
  have hN:Zl w.heap.size none (some (w.heap.size+1)):=fun q hq=>.inr (by cases hq;omega)
  have hB:qY lo b g none w w':=qY.of_ext hx hlo
  exact⟨v',w',some (w.heap.size+1),hrun,fin v' w' _ (QE h2 (by omega)) ⟨_,hb,rfl⟩ (fun q hq _=>Below.block hx q hq),hB,hN,fun q hq _=>Below.block hx q hq⟩
 ·obtain⟨v',w',hrun,h2,h3,_,h5⟩:=run_append_own_at (P:=Tryz.prog) (w.alloc (.cells #[.int .i64 at_,.slice A0 l.length c0] 130)) lo 23 ty 130 i0 (.agg #[.int .i64 0,.slice none 0 0]) 2 32 Tryz.underlying23 hi hz0 hz1 hz2 rfl (by decide) v ps.length (jj ps) (ho.alloc _) ⟨w.heap.size,0,none⟩ 1 1 [.int .i64 at_,.slice A0 l.length c0]
   rfl (KG w #[.int .i64 at_,.slice A0 l.length c0] 130) h1 (by unfold maxLen;omega) (by omega) (by simp;omega)
  have hlq:=(QV ho q hq).1
  rw[hq] at h3 h5
  have hB:Below lo w w':=Below.trans (Below.mono (zN w _) hlo) ((Below.refl lo _).grown h3 (by simp;omega) (fun k hk=>by cases hk;exact hlq))
  have hrow:∀ q',q'<w.heap.size→(some q≠some q')→w'.heap[q']?=w.heap[q']?:=fun q' h1 hne=>(h3.block q' (by simp;omega) (fun e=>hne e.symm)).trans (zK w _ q' h1)
  have hK:qY lo b g (some q) w w':=⟨hB,fun q' h1 hn=>hrow q' h1 fun e=>hn (.inr (.inr e))⟩
  rcases h5 with h5|h5
  ·exact⟨v',w',some q,hrun,fin v' w' _ h2 ⟨q,h5,rfl⟩ hrow,hK,Zl.refl _ _,hrow⟩
  ·have hN:Zl w.heap.size (some q) (some (w.heap.size+1)):=fun q' hq'=>.inr (by cases hq';omega)
   exact⟨v',w',some (w.heap.size+1),hrun,fin v' w' _ h2 ⟨_,by rw[h5];simp,rfl⟩ hrow,hK,hN,hrow⟩
theorem qcK {ops:Array Oper} {rest:List Oper} {o:Oper} {a:Act} {Q:Exit→Act→World→Prop} (hgd:o.guard=none) (s x:Operand) (ho:o.op=.call { callee:=.builtin .append,args:=#[s,x],argTypes:=#[23,23] })
  {D:Nat→Prop} {B lo b g:Nat} {k:Option Nat} {v:Value} {ws:List (Int×List UInt8)} {w:World} (hs:a.eval s=v) (hx:a.eval x=.slice (some ⟨w.heap.size,0,none⟩) 1 1) (h:WsB D B lo b g k v ws w) (hlo:lo≤w.heap.size) (hk:∀ q,k=some q→¬(q<B∨D q)) (hws:ws.length<1073741824)
  (at_:Int) (A0:Option Addr) (n0 c0:Nat) (l:List UInt8) (hn0:n0=l.length) (hd:∀ C,Qd (Xk B D) w C→Bys C C.heap.size (.slice A0 n0 c0) l)
  (hK:∀ v' w' k',WsB D B lo b g k' v' (ws++[(at_,l)]) w'→qY lo b g k w w'→Zl w.heap.size k k'→(∀ q,q<w.heap.size→k≠some q→w'.heap[q]?=w.heap[q]?)→wpList Tryz.prog ops Q rest (a.put o.dst v') w') :
  wpList Tryz.prog ops Q (o :: rest) a (w.alloc (.cells #[.int .i64 at_,.slice A0 n0 c0] 130)):=by
 subst hn0
 refine wpList_plain hgd fun K hKK=>?_
 obtain⟨v',w',k',hrun,h1,h2,h3,h4⟩:=h.push hlo hk hws at_ A0 c0 l hd o.type
 unfold Oper.wp execOp
 simp only[ho,resolve,invoke,builtin,Sem.run_bind,Sem.run_pure,Result.andThen_ok,List.map_toArray,List.map_cons,List.map_nil,hs,hx,hrun]
 exact hKK _ _ (hK v' w' k' h1 h2 h3 h4)
theorem Bch.put {D:Nat→Prop} {B lo b g:Nat} {k k':Option Nat} {S:Sto} {w W:World} (h:Bch D B lo b g k S w) {A1:Option Addr} {n1 c1 c3 c4:Nat} {A4:Option Addr} {v2 v':Value} (hr:w.heap[b]?=some (.cells #[.slice A1 n1 c1,v2,.slice (some ⟨g,0,none⟩) 256 c3,.slice A4 256 c4] 191 (0,0))) (ho:w.ownsRow lo 5 1 (.slice (some ⟨g,0,none⟩) 256 c3) 256 (S.now.map bv))
  (hb:Bls w B (.slice A1 n1 c1) S.bs) (hl:Bys w B (.slice A4 256 c4) S.last) {f:Nat} {l:List UInt8} (hf:f<256) (hw:WsB D B lo b g k' v' (S.ws++[((f:Int),l)]) W) (hB:qY lo b g k w W) (hN:Zl w.heap.size k k') (hrows:∀ q,q<w.heap.size→k≠some q→W.heap[q]?=w.heap[q]?) :
  Bch D B lo b g k' ⟨S.bs,S.ws++[((f:Int),l)],S.now.set f 1,S.last⟩ ((W.setCell ⟨b,1,none⟩ v').setCell ⟨g,f,none⟩ (.int .u8 1))∧qY lo b g k w ((W.setCell ⟨b,1,none⟩ v').setCell ⟨g,f,none⟩ (.int .u8 1)):=by
 obtain⟨hlb,hzb,hlg,hzg,hgb,hlw,hkq⟩:=h.size
 have hbl:=h.blo
 have hkd:=h.offk
 have hzW:=hB.below.size
 have hrb:=(hrows b hzb fun e=>(hkq b e).2.2.1 rfl).trans hr
 have hkq':∀ q,k'=some q→q≠b∧q≠g:=fun q hq=>(hN q hq).elim (fun e=>(hkq q e).2.2) fun e=>by omega
 have st:∀ q,q≠b→q≠g→((W.setCell ⟨b,1,none⟩ v').setCell ⟨g,f,none⟩ (.int .u8 1)).heap[q]?=W.heap[q]?:=fun q h1 h2=>(zJ _ _ _ _ h2).trans (zJ _ _ _ _ h1)
 have hB1:Below lo W ((W.setCell ⟨b,1,none⟩ v').setCell ⟨g,f,none⟩ (.int .u8 1)):=Below.setCell (Below.setCell (Below.refl _ _) (p:=⟨b,1,none⟩) hlb _) (p:=⟨g,f,none⟩) hlg _
 have hB2:Below lo w ((W.setCell ⟨b,1,none⟩ v').setCell ⟨g,f,none⟩ (.int .u8 1)):=hB.below.trans hB1
 have hX:Qd (Xk B D) W ((W.setCell ⟨b,1,none⟩ v').setCell ⟨g,f,none⟩ (.int .u8 1)):=Xk.keep fun q _ hq=>st q (fun e=>hkd b (.inl rfl) (e ▸ hq)) (fun e=>hkd g (.inr (.inl rfl)) (e ▸ hq))
 have ho1:=Zb ho (w':=W) fun q hq=>by cases hq;exact hrows g hzg fun e=>(hkq g e).2.2.2 rfl
 have ho2:=UZ (qcX (k:=1) (v:=v') ho1 hgb) (k:=f) hf 1
 refine⟨⟨hlb,hbl,fun q hq=>⟨(h.dB q hq).1,by have:=(h.dB q hq).2.1;simp;omega,fun hx=>?_⟩,A1,n1,c1,v',c3,A4,c4,(zJ _ _ _ _ fun e=>hgb e.symm).trans (qi hrb 1 v'),ho2,?_,hb.below (Below.mono hB2 hbl),hl.below (Below.mono hB2 hbl)⟩,⟨hB2,fun q hq hn=>(st q (fun e=>hn (.inl e)) (fun e=>hn (.inr (.inl e)))).trans (hB.rows q hq hn)⟩⟩
 ·exact(h.dB q hq).2.2 (B3.of_new hN q (h.dB q hq).2.1 hx)
 ·obtain⟨ps,e,hc,hp⟩:=hw
  refine⟨ps,e,?_,fun p hpm=>⟨(hp p hpm).1,fun C hC=>(hp p hpm).2 C (hX.trans hC fun _ _ h=>h)⟩⟩
  rcases hc with ⟨e1,hm,A,e2,hrd⟩|⟨q,e1,e2,how⟩
  ·exact .inl ⟨e1,hm,A,e2,hrd.below (Below.mono hB1 hbl)⟩
  ·exact .inr ⟨q,e1,e2,Zb how fun q' hq'=>by
    rw[e2] at hq'
    cases hq'
    exact st q (hkq' q e1).1 (hkq' q e1).2⟩
theorem or_none (a b:Nat) (ha:a<256) (hb:b<256):(bits .or .u8 (a:Int) (b:Int) != 0)=!(decide (a=0) && decide (b=0)):=by
 rw[←qgV a b ha hb]
 rfl
theorem first_eq {S:Sto} {f:Nat} (hf:f<256) (h:ZS S f=true) (hmin:∀ k,8≤k→k<f→ZS S k=false):QU S≠[]∧QY S=f:=by
 have e:∃ l,QU S=f :: l:=by
  unfold QU
  have h0:jN S f=[]:=by
   unfold jN
   rw[List.filter_eq_nil_iff]
   intro k hk
   have hkf:k<f:=by simpa using hk
   rcases Nat.lt_or_ge k 8 with h8|h8
   ·unfold ZS;simp;omega
   ·rw[hmin k h8 hkf];decide
  have h1:=KC S f
  rw[if_pos h,h0] at h1
  obtain⟨t,ht⟩:=GS S (show f+1≤256 by omega)
  exact⟨t,by rw[←ht,h1];rfl⟩
 obtain⟨l,e⟩:=e
 exact⟨by rw[e];simp,by unfold QY;rw[e];rfl⟩
theorem qhI {S:Sto} (h:∀ k,8≤k→k<256→ZS S k=false):QU S=[]:=by
 unfold QU jN
 rw[List.filter_eq_nil_iff]
 intro k hk
 have hkf:k<256:=by simpa using hk
 rcases Nat.lt_or_ge k 8 with h8|h8
 ·unfold ZS;simp;omega
 ·rw[h k h8 hkf];decide
theorem IsB.keepX {X:Nat→Prop} {lo n:Nat} {l:List UInt8} {v:Value} {w C:World} (h:IsB lo n l v w) (hk:Qd X w C) (hX:∀ q,lo≤q→q<w.heap.size→¬X q):Bys C C.heap.size v l:=by
 obtain⟨A,c,e,⟨A',c',e',hc,hm,hr⟩,hf⟩:=h
 refine⟨A',c',e',hc,hm,hr.1,fun hn=>?_⟩
 obtain⟨b,off,e2,hb,hcell⟩:=hr.2 hn
 subst e2
 have hlo:=hf ⟨b,off,none⟩ _ _ e'
 have hl:0<(l.map bv).length:=by simpa using hn
 exact⟨b,off,rfl,World.block_lt_of_cell? C ⟨b,off+0,none⟩ (hk _ _ (hX b hlo hb) (hcell 0 _ (zL hl))),fun j u hu=>hk _ _ (hX b hlo hb) (hcell j u hu)⟩
theorem WsB.slice {D:Nat→Prop} {B lo b g:Nat} {k:Option Nat} {v:Value} {ws:List (Int×List UInt8)} {w:World} (h:WsB D B lo b g k v ws w):∃ A c,v=.slice A ws.length c:=by
 obtain⟨ps,e,hc,_⟩:=h
 rcases hc with ⟨_,_,A,e2,_⟩|⟨q,_,_,how⟩
 ·exact⟨A,_,e2⟩
 ·obtain⟨A,c,e,_⟩:=qw how
  exact⟨A,c,e⟩
def KP (D:Nat→Prop) (B lo b g:Nat) (k:Option Nat) (S:Sto) (lvl:Int) (its:List It) (w:World) (e:Ending) (W:World):Prop:=qY lo b g k w W ∧
 match Zq S lvl its with
 | .error er=>e=.returned (.tuple #[.int .i64 0,.int .i64 er])
 | .ok (f,S')=>e=.returned (.tuple #[.int .i64 (f:Int),.int .i64 0])∧∃ k' D',Zl w.heap.size k k'∧Ks w.heap.size D D'∧Bch D' B lo b g k' S' W
theorem KP.bad {D:Nat→Prop} {B lo b g:Nat} {k:Option Nat} {S:Sto} {lvl:Int} {its:List It} {w W:World} {er:Int} (h:Zq S lvl its=.error er) (hB:qY lo b g k w W):KP D B lo b g k S lvl its w (.returned (.tuple #[.int .i64 0,.int .i64 er])) W:=by
 refine⟨hB,?_⟩
 rw[h]
theorem KP.good {D D':Nat→Prop} {B lo b g:Nat} {k k':Option Nat} {S S':Sto} {lvl:Int} {its:List It} {w W:World} {f:Nat} (h:Zq S lvl its=.ok (f,S')) (hB:qY lo b g k w W) (hN:Zl w.heap.size k k') (hD:Ks w.heap.size D D') (hb:Bch D' B lo b g k' S' W):KP D B lo b g k S lvl its w (.returned (.tuple #[.int .i64 (f:Int),.int .i64 0])) W:=by
 refine⟨hB,?_⟩
 rw[h]
 exact⟨rfl,k',D',hN,hD,hb⟩
theorem vM {R:Ending→World→Prop} {a:Act} {W:World} {u v:Value} (h4:a.tmps[4]?.getD undef=u) (h5:a.tmps[5]?.getD undef=v) (hd:a.defers=[]) (hR:R (.returned (.tuple #[u,v])) W):bodyPost Tryz.prog Tryz.f142 R .ret a W:=by
 refine bodyPost_ret (v:=.tuple #[u,v]) ?_ hd hR
 simp[results,Tryz.results142,go_sem,h4,h5]
theorem qbA (D:Nat→Prop) (B lo b g:Nat) (k:Option Nat) (S:Sto) (lvl:Int) (A:Option Addr) (n c:Nat) (its:List It) (hio:∀ x∈its,jd x) (hws:S.ws.length≤4096) (w:World) (h:Bch D B lo b g k S w) (hx:Vl (B3 b g k) w (.slice A n c) its) :
  Calls Tryz.prog 142 #[.pointer (some ⟨b,0,none⟩),jm lvl A n c] w (KP D B lo b g k S lvl its w):=by
 obtain⟨hlb,hzb,hlg,hzg,hgb,hlw,hkq⟩:=h.size
 have hb3:=h.b3
 obtain⟨hnn,-,-,hA⟩:=hx.now.at_
 subst hnn
 cases hm:Qg lvl its
 case false =>
  have hE:=zH (show Zq S lvl its=.error 8 by unfold Zq;rw[hm];rfl)
  have hW:=zH (fun W (hw:Ext w W)=>qgg lvl A its.length c its W (hx.now.ext hw) hm)
  replace hx:=zH hx
  replace h:=zH h
  clear hA hm hkq hb3
  go_enter Tryz.func142,Tryz.ntmps142
  go_wp2_with fail
  generalize hw1:World.alloc _ _=w1
  have x1:Ext w w1:=by rw[←hw1];exact zN _ _
  clear hw1
  refine(hW.out w1 x1).mono ?_
  rintro e w2 ⟨rfl,hB⟩
  have x2:Ext w w2:=x1.trans hB
  clear hB x1 hW
  go_wp2_with fail
  exact vM rfl rfl rfl (KP.bad hE.out (qY.of_ext x2 hlw))
 case true =>
  have hE:Hid (Zq S lvl its=match ZL (qX its) S.now with
   | .error e=>.error e
   | .ok t=>if QU (qy S t)=[]∨S.ws.length=4096 then .error 9 else .ok (QY (qy S t),Ye (qy S t) (QY (qy S t)) (jo (Za lvl its)))):=zH (by unfold Zq;rw[hm];rfl)
  obtain⟨hl1,hl2,hl5,hib⟩:=jR hm
  have hW:=zH (fun W (hw:Ext w W)=>GP lvl A its.length c its W (hx.now.ext hw) hm hio)
  have hX:=zH hx
  have hsl:=zH (vK (b:=Za lvl its) (by
   have:=kM lvl its.length its.length hio hl5
   rw[Ki] at this
   omega))
  replace hA:=zH hA
  replace hib:=zH hib
  replace hio:=zH hio
  replace h:=zH h
  replace hb3:=zH hb3
  replace hkq:=zH hkq
  replace hws:=zH hws
  clear hx hm hl1 hl2
  go_enter Tryz.func142,Tryz.ntmps142
  go_wp2_with fail
  generalize hw1:World.alloc _ _=w1
  have x1:Ext w w1:=by rw[←hw1];exact zN _ _
  have p1:w1.heap[w.heap.size]?=some (.cells #[.int .i64 lvl,.slice A its.length c] 49 (0,0)):=by rw[←hw1];exact zI _ _ _ rfl
  clear hw1
  refine(hW.out w1 x1).mono ?_
  rintro e w2 ⟨u,rfl,⟨u,rfl,hu⟩,hB⟩
  have hB:Ext w1 w2:=hB
  have x2:Ext w w2:=x1.trans hB
  have p2:=qb p1 hB
  have kp:=qa p2
  have z1:w.heap.size<w1.heap.size:=(zG.1 p1).1
  have z12:=hB.size
  obtain⟨A0,c0,rfl,hu1,hu2⟩:=hu
  have hu:IsB w1.heap.size 128 (jo (Za lvl its)) (.slice A0 128 c0) w2:=⟨A0,c0,rfl,hu1,hu2⟩
  replace hu:=zH hu
  clear hB x1 p1 hW hu1 hu2
  go_wp2_with fail
  go_loopw [21] (fun i wr=>∃ (j:Nat) (t:List UInt8),j≤its.length∧i=.int .i64 (j:Int)∧ZL (qX (its.take j)) S.now=.ok t∧Bch D B lo b g k (qy S t) wr∧qY lo b g k w2 wr) (fun i _=>its.length-(intOf i).toNat)
  case atStart=>exact⟨0,S.now,Nat.zero_le _,rfl,rfl,h.out.ext x2,qY.refl _ _ _ _ _⟩
  case round =>
   obtain⟨j,t,hj,rfl,hsh,hbc,hbk⟩:=hrel
   have hxr:=hX.out.trans ((Qd.of_ext (X:=B3 b g k) x2).trans hbk.keepX fun _ _ h=>h) (fun _ _ h=>h)
   by_cases hlt:j<its.length
   ·obtain⟨bi,off,rfl,hbi⟩:=hA.out (by omega)
    obtain⟨A',c',d0,d1,d2,d3,d4,-⟩:=hxr.now.item j hlt
    have hr8:=hib.out its[j] (List.getElem_mem hlt)
    have hrr:its[j].r=0∨(8≤its[j].r∧its[j].r<256):=by unfold itB at hr8;simp at hr8;exact hr8.1
    have hbad:=zH (fun e h1=>qfl hlt (e:=e) hsh h1)
    have hmore:=zH (fun t' h1=>qej hlt (t'':=t') hsh h1)
    generalize its[j]=x at *
    have hwk:=zH (IntWalk.wrap64_in ((j:Int)+1) (by omega))
    replace hsh:=zH hsh
    replace hxr:=zH hxr
    clear hbi hr8
    rcases hrr with hr0|hr1
    ·have hsh2:=zH (hmore.out t (by rw[hr0];simp[JB]))
     rw[hr0] at d3
     have hz0:=hbc.size.2.2.2.2.2.1
     replace hbc:=zH hbc
     replace hbk:=zH hbk
     clear hr0 hbad hmore kp
     go_wp2_with fail
     try rw[hwk.out]
     refine⟨⟨j+1,t,by omega,rfl,hsh2.out,hbc.out.ext (zN _ _),hbk.out.trans (qY.of_ext (zN _ _) hz0) (Zl.refl _ _)⟩,?_⟩
     simp[intOf]
     omega
    ·obtain⟨a,hra⟩:∃ a:Nat,x.r=(a:Int):=⟨x.r.toNat,by omega⟩
     have ha8:8≤a:=by omega
     have ha9:a<256:=by omega
     have hsa:(x.r).toNat=a:=by omega
     rw[hra] at d3
     rw[hsa] at hbad hmore
     have hs1:Hid (JB t a=if Qj t a=0 then .error 6 else if Qj t a=255 then .error 70 else .ok (jg t a 1)):=zH (by unfold JB;rw[if_neg (by omega)])
     have hza:((a:Int) == 0)=false:=by rw[beq_eq_false_iff_ne];omega
     have hzb2:decide (a=0)=false:=decide_eq_false (by omega)
     have hz0:=hbc.size.2.2.2.2.2.1
     have HS:=zH (fun W (hW:Ext wr W)=>qgr D B lo b g k (qy S t) a ha9 W (hbc.ext hW))
     replace hbc:=zH hbc
     replace hbk:=zH hbk
     clear kp hr1 hsa hra
     go_wp2_with fail
     generalize hwa:World.alloc _ _=wa
     have xa:Ext wr wa:=by rw[←hwa];exact zN _ _
     have ra:wa.heap[wr.heap.size]?=some (.cells #[.int .u8 x.k,.int .u32 x.i,.int .u32 x.o,.int .i64 (a:Int),.slice A' x.val.length c'] 68 (0,0)):=by rw[←hwa];exact zI _ _ _ rfl
     have ka:=qa ra
     clear hwa d0 d1 d2 d3 d4
     go_wp2_with fail
     refine(HS.out wa xa).mono ?_
     rintro e wsh ⟨hk2,hcase⟩
     have hk3:=hbk.out.trans ((qY.of_ext xa hz0).trans hk2 (Zl.refl _ _)) (Zl.refl _ _)
     clear HS hk2 ka ra xa
     rcases hcase with ⟨hc0,rfl⟩|⟨hc0,rfl⟩|⟨hc0,hc1,rfl,hb3⟩
     ·have hEE:=zH (show Zq S lvl its=.error 6 by rw[hE.out,hbad.out 6 (by rw[hs1.out,if_pos hc0])])
      clear hE hbad hmore hs1 hc0
      go_wp2_with fail
      exact vM rfl rfl rfl (KP.bad hEE.out ((qY.of_ext x2 hlw).trans hk3 (Zl.refl _ _)))
     ·have hEE:=zH (show Zq S lvl its=.error 70 by rw[hE.out,hbad.out 70 (by rw[hs1.out,if_neg (by omega),if_pos hc0])])
      clear hE hbad hmore hs1 hc0
      go_wp2_with fail
      exact vM rfl rfl rfl (KP.bad hEE.out ((qY.of_ext x2 hlw).trans hk3 (Zl.refl _ _)))
     ·have IR:∃ (j':Nat) (t':List UInt8),j'≤its.length∧Value.int .i64 ((j:Int)+1)=.int .i64 (j':Int)∧ZL (qX (its.take j')) S.now=.ok t'∧Bch D B lo b g k (qy S t') wsh∧qY lo b g k w2 wsh:=
       ⟨j+1,jg t a 1,by omega,rfl,hmore.out _ (by rw[hs1.out,if_neg hc0,if_neg hc1]),hb3,hk3⟩
      replace IR:=zH IR
      clear hE hbad hmore hs1 hc0 hc1 hb3 hk3 hbk hbc
      go_wp2_with fail
      try rw[hwk.out]
      refine⟨IR.out,?_⟩
      simp[intOf]
      omega
   ·obtain rfl:j=its.length:=by omega
    rw[List.take_length] at hsh
    rw[hsh] at hE
    have hE:Hid (Zq S lvl its=if QU (qy S t)=[]∨S.ws.length=4096 then .error 9 else .ok (QY (qy S t),Ye (qy S t) (QY (qy S t)) (jo (Za lvl its)))):=hE
    have hEw:Hid ((qy S t).ws.length=S.ws.length):=rfl
    rw[←hEw.out] at hE hws
    generalize qy S t=S' at *
    have hbk0:=(qY.of_ext (b:=b) (g:=g) (k:=k) x2 hlw).trans hbk (Zl.refl _ _)
    obtain⟨D',hD'⟩:∃ D':Nat→Prop,D'=fun q=>D q∨(w1.heap.size≤q∧q<w2.heap.size):=⟨_,rfl⟩
    have hb3:=hb3.out
    have hzw:=h.out.size.2.2.2.2.2.1
    have hux:=zH (fun C (hC:Qd (Xk B D') wr C)=>hu.out.keepX (X:=fun q=>B3 b g k q∨Xk B D' q) ((hbk.keepX.mono fun q _ h=>.inl h).trans hC fun _ _ h=>.inr h) (fun q h1 h2=>by
     rintro (hx|hx)
     ·have:=(hb3 q hx).2
      omega
     ·exact hx.2 (by rw[hD'];exact .inr ⟨h1,h2⟩)))
    have hDD:∀ q,D q→D' q:=fun q hq=>by rw[hD'];exact .inl hq
    have hDn:Ks w.heap.size D D':=fun q hq=>by rw[hD'] at hq;exact hq.imp id fun h=>by omega
    have hDb:∀ W,Ext wr W→∀ q,D' q→lo≤q∧q<W.heap.size∧¬B3 b g k q:=fun W hW q hq=>by
     have hz:=hW.size
     have hz2:=hbk.below.size
     rw[hD'] at hq
     rcases hq with hq|⟨h1,h2⟩
     ·have:=hbc.dB q hq
      exact⟨this.1,by omega,this.2.2⟩
     ·exact⟨by omega,by omega,fun hx=>by have:=(hb3 q hx).2;omega⟩
    have hkD:∀ q,k=some q→¬(q<B∨D' q):=fun q hq hx=>hx.elim (fun h1=>h.out.off q h1 (.inr (.inr hq))) fun h1=>(hDb wr (Ext.refl _) q h1).2.2 (.inr (.inr hq))
    replace hDb:=zH hDb
    replace hDn:=zH hDn
    replace hDD:=zH hDD
    replace hkD:=zH hkD
    clear hD' hb3 hzw
    obtain⟨A1,n1,c1,v2,c3,A4,c4,hr,ho,hwb,hb1,hb4⟩:=hbc.ex
    obtain⟨hlen,hlen4⟩:=hbc.lens
    obtain⟨hkn,hfn,-,-⟩:=Zg ho
    obtain⟨b4,o4,rfl,hb4lt,hk4⟩:∃ b4 o4,A4=some ⟨b4,o4,none⟩∧b4<B∧∀ a,a<256→wr.cell? ⟨b4,o4+a,none⟩=some (.int .u8 (kz S' a:Int)):=by
     obtain⟨A',c',e,_,_,hrd⟩:=hb4
     simp only[Value.slice.injEq] at e
     obtain⟨rfl,_,rfl⟩:=e
     obtain⟨b4,o4,e,h1,h2⟩:=hrd.2 (by omega)
     exact⟨b4,o4,e,h1,fun a ha=>h2 a _ (by rw[List.getElem?_map,zL (by omega)];simp[kz,zL (show a<S'.last.length by omega)])⟩
    have hkn:Hid (∀ a,a<256→wr.cell? ⟨g,a,none⟩=some (.int .u8 (zO S' a:Int))):=zH hkn
    have hk4:=zH hk4
    have hfr:Hid (∀ k,8≤k→(bits .or .u8 (zO S' k:Int) (kz S' k:Int) != 0)=!ZS S' k):=zH fun k h8=>by
     rw[or_none _ _ (qhc S' k) (qec S' k)]
     unfold ZS
     rw[decide_eq_true h8,Bool.true_and]
    obtain⟨A2,c2,rfl⟩:=hwb.slice
    have h5g:=h.out.size
    have hkq2:=hbc.size.2.2.2.2.2.2
    replace hkq2:=zH hkq2
    have h0:=h
    clear kp hu hxr hX hA hib hio h hbk hsh hEw p2 hkq h5g
    replace hbc:=zH hbc
    replace hwb:=zH hwb
    replace ho:=zH ho
    replace hb1:=zH hb1
    replace hb4:=zH hb4
    replace hbk0:=zH hbk0
    replace hfn:=zH hfn
    replace hlen:=zH hlen
    replace hlen4:=zH hlen4
    have hwx:=zH (Ext.refl wr)
    generalize hwm:wr=wm at *
    clear hwm
    go_wp2_with fail
    go_loopw [4] (fun i wr=>∃ k:Nat,8≤k∧k≤256∧i=.int .i64 (k:Int)∧(∀ j,8≤j→j<k→ZS S' j=false)∧Ext wm wr) (fun i _=>256-(intOf i).toNat)
    case atStart=>exact⟨8,zM _,by omega,rfl,fun _ _ h=>by omega,Ext.refl _⟩
    case round =>
     obtain⟨f,h8,hf,rfl,hmin,hE2⟩:=hrel
     replace hmin:=zH hmin
     have r2:=qb hr hE2
     by_cases hlt:f<256
     ·have g1:∀ W,ql.r wr W→∀ i,W.cell? ⟨b,i,none⟩=#[.slice A1 n1 c1,.slice A2 S'.ws.length c2,.slice (some ⟨g,0,none⟩) 256 c3,.slice (some ⟨b4,o4,none⟩) 256 c4][i]?:=fun W h=>qa (qb r2 h)
      have g2:∀ W,ql.r wr W→W.cell? ⟨g,f,none⟩=some (.int .u8 (zO S' f:Int)):=fun W h=>Ext.cell (hE2.trans h) (hkn.out f hlt)
      have g3:∀ W,ql.r wr W→W.cell? ⟨b4,o4+f,none⟩=some (.int .u8 (kz S' f:Int)):=fun W h=>Ext.cell (hE2.trans h) (hk4.out f hlt)
      have hbit:=hfr.out f h8
      generalize zO S' f=nw at *
      generalize kz S' f=lw at *
      have d1:decide ((f:Int)<256)=true:=decide_eq_true (by omega)
      have d2:decide (f<256)=true:=decide_eq_true hlt
      have hwk:=zH (IntWalk.wrap64_in ((f:Int)+1) (by omega))
      have hmin2:=zH (fun (h:ZS S' f=false)=>(fun j hj (hlt:j<f+1)=>(Nat.lt_or_ge j f).elim (fun h1=>hmin.out j hj h1) fun h1=>by rw[show j=f by omega];exact h:∀ j,8≤j→j<f+1→ZS S' j=false))
      have hfirst:=zH (fun (h:ZS S' f=true)=>first_eq hlt h hmin.out)
      generalize ZS S' f=fb at *
      have e0:=zH hE2
      clear hE2
      go_upto_region 13 with fail
      refine qm (by kernel_rfl) ?_
      refine qO (w:=wr) ql (qE []) (List.replicate 22 true) 0 (by kernel_rfl) (by kernel_rfl) (by kernel_rfl) (by kernel_rfl) (by kernel_rfl) (by kernel_rfl) (by kernel_rfl) ?st (Rel.drew _ _) ?walk
      case st=>exact qk (fun _ h=>by cases h)
      case walk =>
       intro K hK
       dsimp only[qp,List.replicate]
       repeat ((first|(refine qe ?_ (by rfl) (by rfl) (fun W hW _=>⟨W,?_,Rel.refl _ W⟩) ?_;rotate_left;(first|(go_simp;with_reducible rfl)|(go_simp;done)))|(refine qh (by rfl) ?_));try simp only[Act.put,qj,qf,qc,qg,zA,zB,zC])
       refine qe (.pointer (some ⟨g,f,none⟩)) (by rfl) (by rfl) (fun W hW _=>⟨W,?_,Rel.refl _ W⟩) ?_
       ·go_simp
        intro hge
        exfalso
        omega
       simp only[Act.put,qj,qf,qc,qg,zA,zB,zC]
       repeat ((first|(refine qe ?_ (by rfl) (by rfl) (fun W hW _=>⟨W,?_,Rel.refl _ W⟩) ?_;rotate_left;(first|(go_simp;with_reducible rfl)|(go_simp;done)))|(refine qh (by rfl) ?_));try simp only[Act.put,qj,qf,qc,qg,zA,zB,zC])
       refine qe (.pointer (some ⟨b4,o4+f,none⟩)) (by rfl) (by rfl) (fun W hW _=>⟨W,?_,Rel.refl _ W⟩) ?_
       ·go_simp
        intro hge
        exfalso
        omega
       simp only[Act.put,qj,qf,qc,qg,zA,zB,zC]
       repeat ((first|(refine qe ?_ (by rfl) (by rfl) (fun W hW _=>⟨W,?_,Rel.refl _ W⟩) ?_;rotate_left;(first|(go_simp;with_reducible rfl)|(go_simp;done)))|(refine qh (by rfl) ?_));try simp only[Act.put,qj,qf,qc,qg,zA,zB,zC])
       refine qt (hK _ _ fun W hW hF=>?_)
       clear hF hK g1 g2 g3
       have hW:Ext wr W:=hW
       have xE:Ext wm W:=e0.out.trans hW
       clear e0 hW
       dsimp only[List.drop,List.length_cons,List.length_nil,Nat.reduceAdd,Nat.reduceSub]
       cases fb
       ·have IR:∃ k':Nat,8≤k'∧k'≤256∧Value.int .i64 ((f:Int)+1)=.int .i64 (k':Int)∧(∀ j,8≤j→j<k'→ZS S' j=false)∧Ext wm W:=⟨f+1,by omega,by omega,rfl,hmin2.out rfl,xE⟩
        replace IR:=zH IR
        clear xE hmin hmin2 hfirst
        go_wp2
        refine Qo ?_
        go_wp2_with fail
        try rw[hwk.out]
        refine⟨IR.out,?_⟩
        simp[intOf]
        omega
       ·have hne:=zH (hfirst.out rfl).1
        have hfs:=zH (hfirst.out rfl).2
        clear hmin hmin2 hfirst hbit hkn hk4 hfr d1 d2
        have r3:=qb hr xE
        have k3:=qa r3
        have f3:=qd r3
        have e1:((f:Int) == 256)=false:=by rw[beq_eq_false_iff_ne];omega
        have e2:decide (f=256)=false:=decide_eq_false (by omega)
        have e3:((256:Int) == (f:Int))=false:=by rw[beq_eq_false_iff_ne];omega
        by_cases hw4:S'.ws.length=4096
        ·have hEE:=zH (show Zq S lvl its=.error 9 by rw[hE.out,if_pos (.inr hw4)])
         have hl1:((S'.ws.length:Int) == 4096)=true:=by rw[beq_iff_eq];omega
         have hl2:decide (S'.ws.length=4096)=true:=decide_eq_true hw4
         replace hw4:=zH hw4
         replace xE:=zH xE
         go_wp2
         refine Qo ?_
         go_wp2_with fail
         exact vM rfl rfl rfl (KP.bad hEE.out (hbk0.out.trans (qY.of_ext xE.out hbc.out.size.2.2.2.2.2.1) (Zl.refl _ _)))
        ·have hEE:=zH (show Zq S lvl its=.ok (f,Ye S' f (jo (Za lvl its))) by rw[hE.out,if_neg (fun h=>h.elim hne.out hw4),hfs.out])
         have hl1:((S'.ws.length:Int) == 4096)=false:=by rw[beq_eq_false_iff_ne];omega
         have hl2:decide (S'.ws.length=4096)=false:=decide_eq_false hw4
         replace hw4:=zH hw4
         have xw:=zH xE
         have zW:=xE.size
         have zwm:=hbc.out.size.2.2.2.2.2.1
         have hbW:=zH ((hbc.out.ext xE).mono hDD.out (hDb.out W (hwx.out.trans xE)))
         clear xE
         go_wp2
         refine Qo ?_
         go_wp2_with (at_builtin;refine qZ ?_)
         have zBlo:=h0.out.blo
         refine QA.go (qcK rfl (.tmp 78) (.tmp 82) rfl rfl rfl ((hwb.out.mono hDD.out).ext xw.out (by omega)) (by omega) hkD.out (by have:=hws.out;omega) (f:Int) A0 128 c0 (jo (Za lvl its)) hsl.out.symm (fun C hC=>hux.out C ((Qd.of_ext (hwx.out.trans xw.out)).trans hC fun _ _ h=>h)) ?_)
         intro v4 w4 k4 hW4 hK4 hN4 hrows4
         obtain⟨A5,c5,rfl⟩:=hW4.slice
         rw[List.length_append,List.length_singleton] at hW4
         have r4:=(hrows4 b (zG.1 r3).1 fun e=>(hkq2.out b e).2.2.1 rfl).trans r3
         have kr4:=qa r4
         have fr4:=qd r4
         have oW:=QT ho.out xw.out
         have o4:=Zb oW (w':=w4) fun q hq=>by cases hq;exact hrows4 g (QV oW g rfl).2 fun e=>(hkq2.out g e).2.2.2 rfl
         have kg4:=(Zg o4).1 f hlt
         have fg4:=(Zg o4).2.1 f
         have hgb':g≠b:=hbc.out.size.2.2.2.2.1
         have P:=zH (Bch.put hbW.out r3 oW (hb1.out.below (Below.mono xw.out (by omega))) (hb4.out.below (Below.mono xw.out (by omega))) hlt hW4 hK4 hN4 hrows4)
         have hAll:Hid (qY lo b g k w _):=zH (hbk0.out.trans ((qY.of_ext xw.out zwm).trans P.out.2 (Zl.refl _ _)) (Zl.refl _ _))
         replace hN4:=zH hN4
         clear o4 oW hrows4 hW4 r3 k3 f3 hK4
         go_wp2_with fail
         exact vM rfl rfl rfl (KP.good hEE.out hAll.out (hN4.out.mono (by have:=hbk0.out.below.size;omega)) hDn.out P.out.1)
     ·have d1:decide ((f:Int)<256)=false:=decide_eq_false (by omega)
      have d2:decide (f<256)=false:=decide_eq_false (by omega)
      have e1:((f:Int) == 256)=true:=by rw[beq_iff_eq];omega
      have e2:decide (f=256)=true:=decide_eq_true (by omega)
      have hf6:f=256:=by omega
      have hEE:=zH (show Zq S lvl its=.error 9 by rw[hE.out,if_pos (.inl (qhI fun j h8 hj=>hmin.out j h8 (by omega)))])
      have e0:=zH hE2
      replace hf6:=zH hf6
      clear hE2 hkn hk4 hfr hmin r2
      go_upto_region 13 with fail
      refine qm (by kernel_rfl) ?_
      refine qO (w:=wr) ql (qE []) (List.replicate 22 true) 0 (by kernel_rfl) (by kernel_rfl) (by kernel_rfl) (by kernel_rfl) (by kernel_rfl) (by kernel_rfl) (by kernel_rfl) ?st (Rel.drew _ _) ?walk
      case st=>exact qk (fun _ h=>by cases h)
      case walk =>
       intro K hK
       dsimp only[qp,List.replicate]
       repeat ((first|(refine qe ?_ (by rfl) (by rfl) (fun W hW _=>⟨W,?_,Rel.refl _ W⟩) ?_;rotate_left;(first|(go_simp;with_reducible rfl)|(go_simp;done)))|(refine qh (by rfl) ?_));try simp only[Act.put,qj,qf,qc,qg,zA,zB,zC])
       refine qt (hK _ _ fun W hW hF=>?_)
       clear hF hK
       have hW:Ext wr W:=hW
       have xE:Ext wm W:=e0.out.trans hW
       clear e0 hW
       dsimp only[List.drop,List.length_cons,List.length_nil,Nat.reduceAdd,Nat.reduceSub]
       replace xE:=zH xE
       go_wp2
       refine Qo ?_
       go_wp2_with fail
       exact vM rfl rfl rfl (KP.bad hEE.out (hbk0.out.trans (qY.of_ext xE.out hbc.out.size.2.2.2.2.2.1) (Zl.refl _ _)))
end Go.Proofs.YtpbniokljofedaaGreat
