/- Texts FreeL, FreeP, Twin3, Twin8, RTake, BMake, PushR, BMake2, joined. -/
import Derived.RangeFuncNested
import Derived.RangeFuncLeaves
import Derived.Test.YtpbniokljofedaaGreatZG06
import Derived.Test.YtpbniokljofedaaGreatZG10
import Derived.Test.YtpbniokljofedaaGreatZG11
import Derived.Test.YtpbniokljofedaaGreatZG13
import Derived.Test.YtpbniokljofedaaGreatZG16
import Derived.Test.YtpbniokljofedaaGreatZG17
set_option linter.unusedSimpArgs false
set_option linter.unusedVariables false
set_option maxHeartbeats 8000000
open Go.Proofs.Tryz
namespace Go.Proofs.YtpbniokljofedaaGreat
open Go.RowKit Go.Shelf
attribute [local go_sem] Oper.semAt_some
theorem qhg (n:Nat) (hn:1<=n) (bs n₀:Nat) (v1 v2 v3 v4:Value) (S:Sto) (hS:qm S=true) (w:World) (uD:bs<n₀) (hn₀:n₀<=w.heap.size) (aF:w.heap[bs]?=some (.cells #[v1,v2,v3,v4] 28 (0,0))) (aI:qU w n₀ v1 v2 v3 v4 S):SeqStopsK Fence.wide n prog 175 #[.pointer (some ⟨bs,0,none⟩)] (fun x:Nat=>#[.int .i64 (x:Int)]) (Below n₀) (fun ys=>ys=Zb S) (fun pre=>pre <+: Zb S) 256 w:=fun l J Jx W hW hJ _ hY h0 =>
 free_in n hn l bs n₀ v1 v2 v3 v4 S hS J Jx hY (fun pre W1 W2 h hx=>hJ pre W1 W2 none h ⟨hx.os,hx.tape,hx.output,hx.size,fun k hk _=>hx.block k hk⟩ (fun _ e=>by cases e)) W uD (Nat.le_trans hn₀ hW.size) ((hW.block bs (Nat.lt_of_lt_of_le uD hn₀)).trans aF) (aI.below (Below.mono hW hn₀)) h0
theorem Ur {w:World} {B:Nat} {e:TypeId} {size:Nat} {v:Value} {n:Nat} {xs:List Value} (h:w.ownsRow B e size v n xs):∀ g,v.ownBlock=some g->∃ c fz,w.heap[g]?=some (.cells c e fz):=by
 intro g hg;rcases h.2 with ⟨rfl,_⟩|⟨b,cap,cur,rfl,_,h2,_⟩
 ·simp[Value.ownBlock] at hg
 ·simp[Value.ownBlock] at hg;subst hg;exact⟨cur,(0,0),h2⟩
theorem own_down {w:World} {B B':Nat} {e:TypeId} {size:Nat} {v:Value} {n:Nat} {xs:List Value} (h:w.ownsRow B e size v n xs) (hb:B'<=B):w.ownsRow B' e size v n xs:=by
 rcases h with ⟨h1,h2|⟨g,cap,cur,e1,h3,h4⟩⟩
 ·exact⟨h1,.inl h2⟩
 ·exact⟨h1,.inr ⟨g,cap,cur,e1,zO,h4⟩⟩
theorem qei {w:World} {B:Nat} {e:TypeId} {size:Nat} {v:Value} {n:Nat} {xs:List Value} (h:w.ownsRow B e size v n xs) {D:Nat} {o:Obj} (hD:w.heap[D]?=some o) (ho:o.isCells=false):v.ownBlock=none\/v.ownBlock≠some D:=by refine .inr fun hv=>?_;obtain⟨c,fz,h3⟩:=Ur h D hv;rw[hD] at h3;cases h3;cases ho
theorem Gv {B:Nat} {W W':World} {row:Option Nat} (hg:W.grownBy W' row) (hr:∀ g,row=some g->B<=g) (hB:B<=W.heap.size:=by omega):Below B W W':=(Below.refl _ _).grown hg hB (fun k e=>hr k e)
theorem GK {w w':World} {B:Nat} {e:TypeId} {size:Nat} {v:Value} {n:Nat} {xs:List Value} (h:w.ownsRow B e size v n xs) (hg:w.grownBy w' v.ownBlock):KeepsOthers w w':=⟨hg.size,fun k o hk ho=>(hg.block k (zG.1 hk).1 (fun e1=>by obtain⟨c,fz,h3⟩:=Ur h k e1.symm;rw[hk] at h3;cases h3;cases ho)).trans hk⟩
theorem qeg {B:Nat} (b base:Nat) (ty ety:TypeId):OwnFrom B (fun (pre:List Nat) W=>∃ v,W.heap[b]?=some (.cells #[v] ty (0,0))/\W.ownsRow base ety 1 v pre.length (Ja pre)):=fun s A C row ⟨v,h1,h2⟩ hg hr =>
 ⟨v,Qz (β:=Unit) _ _ _ _ () A C row h1 hg hr,h2.kept hg (by
  rcases hv:v.ownBlock with _|g
  ·exact .inl rfl
  ·refine .inr fun e=>?_;obtain⟨_,o,ho,hc⟩:=hr g e.symm;rcases Ur h2 g hv with ⟨c,fz,h3⟩;rw[ho] at h3;cases h3;cases hc)⟩
set_option maxRecDepth 100000 in
theorem qdu (n:Nat) (h3:3<=n) (bs:Nat) (v1 v2 v3 v4:Value) (S:Sto) (hS:qm S=true) (w:World) (uD:bs<w.heap.size) (aF:w.heap[bs]?=some (.cells #[v1,v2,v3,v4] 28 (0,0))) (aI:qU w w.heap.size v1 v2 v3 v4 S):CallsIn Fence.wide n prog 174 #[.slice none 0 0,.func (.func 175) #[] #[.pointer (some ⟨bs,0,none⟩)]] w fun e W'=>∃ v,e=.returned v/\Below w.heap.size w W'/\W'.ownsRow (w.heap.size+1) 3 1 v (Zb S).length (Ja (Zb S)):=by
 have h1:1<=n:=zO;refine callsIn_of_wp_marks func174 rfl trivial ?_ rfl;simp only[ntmps174,List.size_toArray,List.length_cons,List.length_nil,Nat.reduceAdd,Nat.reduceSub,Array.replicate_succ,Array.replicate_zero,List.push_toArray,List.append_toArray,List.nil_append,List.cons_append]
 gi_wp2_with fail
 have x1:Ext w (w.alloc (.cells #[.slice none 0 0] 30)):=zN _ _;obtain⟨i0,hi,ag,aU,aW⟩:=info_parts Tryz.info_int;refine wpIn_rangeFunc_ownH rfl h1 (gf:=175) (lb:=#[.pointer (some ⟨bs,0,none⟩)]) rfl trivial (enters_of func175 zQ rfl)
  (qhg (n-1) zO bs w.heap.size v1 v2 v3 v4 S hS _ uD zA2 (qb aF x1) (aI.below x1)) Below.trans (belowK_b zA2) (Below.refl _ _) (fun _=>rfl)
  (fun pre W=>(∃ v,W.heap[w.heap.size]?=some (.cells #[v] 30 (0,0))/\W.ownsRow (w.heap.size+1) 3 1 v pre.length (Ja pre))/\Below w.heap.size w W)
  (fun _ _ _=>False)
  (OwnFrom.and (qeg _ _ _ _) (ownFrom_below (zM _) zA2))
  (fun _ _ _ _ _ hs _ _=>hs)
  ⟨⟨.slice none 0 0,zI _ _ _ rfl,World.ownsRow_nil _ _ _ _⟩,x1⟩
  (fun x a' _=>a'={ tmps:=#[.slice none 0 0,.func (.func 175) #[] #[.pointer (some ⟨bs,0,none⟩)],.pointer (some ⟨w.heap.size,0,none⟩),undef,.slice none 0 0,.int .i64 (x:Int),.func (.func 175) #[] #[.pointer (some ⟨bs,0,none⟩)],.int .i64 (x:Int),undef,undef,undef,undef,undef],defers:=[] })
  (fun x a'=>Yj _ _) ?assign ?body ?done ?stop
 case assign =>
  rintro l pre x W K hI hK
  gi_wp2_with fail
  exact hK _ _ (KeepsFrom.refl _ _) (Below.refl _ _) hI rfl
 case body =>
  rintro l pre x a' W hl - ⟨⟨v,hr,aB⟩,hB⟩ rfl bQ;have kr:=qa hr;have zb:w.heap.size<W.heap.size:=(zG.1 hr).1;have aG:v.ownBlock≠some w.heap.size:=fun e=>by have:=(QM aB _ e).1;omega
  obtain⟨Av,cv,rfl,-,-⟩:=qz aB
  gi_wp2_with (gi_at_builtin;refine Kk ?_)
  refine QC.go (Kj W rfl (.tmp 8) (.tmp 10) 30 rfl (w.heap.size+1) 3 i0 _ 1 8 underlying30 hi ag aU aW rfl zD (.slice Av pre.length cv) pre.length _ zE aB #[.int .i64 (x:Int)] zE rfl zA7 zO zD zO ?_);intro v' W3 dH hg fG;have hg0:∀ g,(Value.slice Av pre.length cv).ownBlock=some g->w.heap.size+1<=g:=fun g e=>(QM aB _ e).1;have tJ:W3.heap[w.heap.size]?=_:=(hg.block _ zb (fun e=>aG e.symm)).trans hr;have kr3:=qa tJ;have fr3:=qe tJ;have wF:Below w.heap.size W W3:=Gv hg fun g e=>by have:=hg0 g e;omega
  have hg3:∀ g,v'.ownBlock=some g->w.heap.size+1<=g:=fun g e=>(QM dH _ e).1;have mr:KeepsOthers W W3:=GK aB hg;replace hg:=zH hg;replace aB:=zH aB;replace fG:=zH fG;obtain⟨Av',cv',rfl,-,-⟩:=qz dH;replace dH:=zH dH
  gi_wp2_with fail
  refine⟨(mr.trans (KeepsOthers.setCell _ _ _)).from _,wF.setCell (p:=⟨w.heap.size,0,none⟩) (zM _) _,⟨_,qi tJ 0 _,?_⟩,hB.trans (wF.setCell (p:=⟨w.heap.size,0,none⟩) (zM _) _)⟩;rw[List.length_append,List.length_singleton,KV];exact dH.out.kept (grownBy_setCell' _ _ _) (.inr fun e=>by have:=hg3 _ e;omega)
 case done =>
  rintro D ys W hD rfl ⟨⟨v,hr,aB⟩,hB⟩ hK;have kr:=qa hr
  gi_wp2_with fail
  refine⟨zA2,.inl ⟨_,_,rfl,run_takeDeferred hK,?_⟩⟩;exact⟨_,results_tmp rfl _ _ _,v,rfl,hB.trans (belowK_b (w:=w) (zM _) W D _ _ (by simp at hD;omega) hK rfl rfl),aB.kept (grownBy_putObj' W D _) (qei aB hK rfl)⟩
 case stop =>rintro D c pre W _ _ h _;exact h.elim
def RFreeQ (S:Sto) (w:World) (e:Ending) (w':World):Prop:=Below w.heap.size w w' /\
 ((qm S=false/\e=.returned (.tuple #[.slice none 0 0,.int .i64 8]))\/(qm S=true/\∃ v,e=.returned (.tuple #[v,.int .i64 0])/\w'.ownsRow w.heap.size 3 1 v (Zb S).length (Ja (Zb S))))
set_option maxRecDepth 100000 in
theorem qfl (bs:Nat) (v1 v2 v3 v4:Value) (S:Sto) (hS:qm S=true) (w:World) (uD:bs<w.heap.size) (aF:w.heap[bs]?=some (.cells #[v1,v2,v3,v4] 28 (0,0))) (aI:qU w w.heap.size v1 v2 v3 v4 S):Calls prog 160 #[.func (.func 175) #[] #[.pointer (some ⟨bs,0,none⟩)]] w fun e W'=>∃ v,e=.returned v/\Below w.heap.size w W'/\W'.ownsRow (w.heap.size+1) 3 1 v (Zb S).length (Ja (Zb S)):=by
 go_enter func160,ntmps160;go_wp2_with fail;refine((callsIn_wide (n:=3)).1 (qdu 3 zO bs v1 v2 v3 v4 S hS w uD aF aI)).mono ?_;rintro e w2 ⟨v,rfl,hB,aB⟩;obtain⟨A,c,rfl,-,-⟩:=qz aB;replace aB:=zH aB;go_wp2_with fail;go_ret;exact⟨_,rfl,hB,aB.out⟩
theorem qhe (A1:Option Addr) (n1 c1:Nat) (A2:Option Addr) (n2 c2:Nat) (A3:Option Addr) (n3 c3:Nat) (A4:Option Addr) (n4 c4:Nat) (w:World):Calls prog 161 #[Qd A1 n1 c1 A2 n2 c2 A3 n3 c3 A4 n4 c4] w (fun e w'=>e=.returned (.func (.func 175) #[] #[.pointer (some ⟨w.heap.size,0,none⟩)])/\w'=w.alloc (.cells #[.slice A1 n1 c1,.slice A2 n2 c2,.slice A3 n3 c3,.slice A4 n4 c4] 28)):=by
 go_enter func161,ntmps161;go_wp2;go_ret;exact⟨rfl,rfl⟩
theorem qdj {R:Ending->World->Prop} {a:Act} {W:World} {u v:Value} (h2:a.tmps[2]?.getD undef=u) (h3:a.tmps[3]?.getD undef=v) (hd:a.defers=[]) (hR:R (.returned (.tuple #[u,v])) W):bodyPost prog Tryz.f118 R .ret a W:=by refine bodyPost_ret (v:=.tuple #[u,v]) ?_ hd hR;simp[results,results118,go_sem,h2,h3]
set_option maxRecDepth 100000 in
theorem Gh (A1:Option Addr) (n1 c1:Nat) (A2:Option Addr) (n2 c2:Nat) (A3:Option Addr) (n3 c3:Nat) (A4:Option Addr) (n4 c4:Nat) (S:Sto) (w:World) (h:qU w w.heap.size (.slice A1 n1 c1) (.slice A2 n2 c2) (.slice A3 n3 c3) (.slice A4 n4 c4) S):Calls prog 118 #[Qd A1 n1 c1 A2 n2 c2 A3 n3 c3 A4 n4 c4] w (RFreeQ S w):=by
 have HC:=zH (fun W (hx:Ext w W)=>Jw A1 n1 c1 A2 n2 c2 A3 n3 c3 A4 n4 c4 S W (h.ext hx));replace h:=zH h;go_enter func118,ntmps118;go_wp2_with fail;generalize aA:(World.alloc w _)=w1;have x1:Ext w w1:=by rw[<-aA];exact zN _ _
 have r1:w1.heap[w.heap.size]?=some (.cells #[.slice A1 n1 c1,.slice A2 n2 c2,.slice A3 n3 c3,.slice A4 n4 c4] 28 (0,0)):=by rw[<-aA];exact zI _ _ _ rfl
 clear aA;refine(HC.out w1 x1).mono ?_;clear HC;rintro e w2 ⟨rfl,hB⟩;have x2:Ext w w2:=x1.trans hB;have r2:=qb r1 hB;have k2:=qa r2;clear hB r1 x1;rcases hS:qm S with _|_
 ·rw[Jp rfl];replace hS:=zH hS;go_wp2_with fail;exact qdj rfl rfl rfl ⟨x2,.inl ⟨hS.out,rfl⟩⟩
 ·rw[JM rfl];go_wp2_with fail;refine(qhe A1 n1 c1 A2 n2 c2 A3 n3 c3 A4 n4 c4 w2).mono ?_;rintro e w3 ⟨rfl,rfl⟩;have x3:Ext w2 (w2.alloc (.cells #[.slice A1 n1 c1,.slice A2 n2 c2,.slice A3 n3 c3,.slice A4 n4 c4] 28)):=zN _ _;have r3:(w2.alloc (.cells #[.slice A1 n1 c1,.slice A2 n2 c2,.slice A3 n3 c3,.slice A4 n4 c4] 28)).heap[w2.heap.size]?=_:=zI _ _ _ rfl;have h3:=h.out.ext (x2.trans x3);generalize aO:w2.alloc _=w3 at *;have s3:w2.heap.size<w3.heap.size:=(zG.1 r3).1;go_wp2_with fail;refine(qfl w2.heap.size _ _ _ _ S hS w3 s3 r3 h3).mono ?_;rintro e w4 ⟨v,rfl,bV,aB⟩;obtain⟨A,c,rfl,-,-⟩:=qz aB;have HR:RFreeQ S w (.returned (.tuple #[.slice A (Zb S).length c,.int .i64 0])) w4:=⟨Ext.trans (x2.trans x3) bV,.inr ⟨hS,_,rfl,own_down aB (by have:=(x2.trans x3).size;omega)⟩⟩
  replace HR:=zH HR;replace aB:=zH aB;replace hS:=zH hS;clear aO r3 r2 k2;go_wp2_with fail;exact qdj rfl rfl rfl HR.out
end Go.Proofs.YtpbniokljofedaaGreat
namespace Go.Proofs.YtpbniokljofedaaGreat
open Go.RowKit
section
variable {F0:Fence} {P:Program} {ops:Array Oper} {n:Nat}
end


end Go.Proofs.YtpbniokljofedaaGreat
namespace Go.Proofs.YtpbniokljofedaaGreat
open Go.RowKit Go.Shelf
attribute [local go_sem] Oper.semAt_some
def zh (S:Sto):Nat:=(Zb S).headD 0
def vc (S:Sto) (a:Nat) (data:List UInt8):Sto:=⟨S.bs,S.ws++[((a:Int),data)],S.now.set a 1,S.last⟩
theorem KeepsOthers.of_ext {W W':World} (h:Ext W W'):KeepsOthers W W':=⟨h.size,fun k _ hk _=>(h.block k (zG.1 hk).1).trans hk⟩
theorem qbx {w W:World} {x0 x1 x2 x3 y z:Value} {yJ oL iU:TypeId} {u0 u1 u2 u3 u5 u6:Value} (r4:W.heap[w.heap.size+2]?=some (.cells #[u0,u1,u2,u3] yJ (0,0))) (r5:W.heap[w.heap.size+3]?=some (.cells #[u5] oL (0,0))) (r6:W.heap[w.heap.size+4]?=some (.cells #[u6] iU (0,0))) {C:World} (hC:C=((((((W.setCell ⟨w.heap.size+1+1,0,none⟩ x0).setCell ⟨w.heap.size+1+1,1,none⟩ x1).setCell ⟨w.heap.size+1+1,2,none⟩ x2).setCell ⟨w.heap.size+1+1,3,none⟩ x3).setCell ⟨w.heap.size+1+1+1,0,none⟩ y).setCell ⟨w.heap.size+1+1+1+1,0,none⟩ z)):C.heap[w.heap.size+2]?=some (.cells #[x0,x1,x2,x3] yJ (0,0))/\C.heap[w.heap.size+3]?=some (.cells #[y] oL (0,0))/\C.heap[w.heap.size+4]?=some (.cells #[z] iU (0,0))/\(∀ {B:Nat} {w0:World},B<=w.heap.size+2->Below B w0 W->Below B w0 C)/\C.heap.size=W.heap.size/\(∀ k,w.heap.size+5<=k->C.heap[k]?=W.heap[k]?)/\KeepsOthers W C:=by
 subst hC;have hs:=fun (A:World) (b j:Nat) (v:Value) (k:Nat) (hk:k≠b)=>zJ A ⟨b,j,none⟩ v k hk;refine⟨?_,?_,?_,fun hB h=>?_,zA2,fun k hk=>?_,?_⟩
 ·rw[hs _ _ _ _ _ zO,hs _ _ _ _ _ zO];exact Vm r4 x0 x1 x2 x3
 ·rw[hs _ _ _ _ _ zO];refine qi (t:=oL) (cs:=#[u5]) ?_ 0 y;rw[hs _ _ _ _ _ zO,hs _ _ _ _ _ zO,hs _ _ _ _ _ zO,hs _ _ _ _ _ zO];exact r5
 ·refine qi (t:=iU) (cs:=#[u6]) ?_ 0 z;rw[hs _ _ _ _ _ zO,hs _ _ _ _ _ zO,hs _ _ _ _ _ zO,hs _ _ _ _ _ zO,hs _ _ _ _ _ zO];exact r6
 ·exact Below.setCell (Below.setCell (Zf h (b:=w.heap.size+1+1) zO x0 x1 x2 x3) (p:=⟨w.heap.size+1+1+1,0,none⟩) zA1 _) (p:=⟨w.heap.size+1+1+1+1,0,none⟩) zA1 _
 ·rw[hs _ _ _ _ _ zO,hs _ _ _ _ _ zO,hs _ _ _ _ _ zO,hs _ _ _ _ _ zO,hs _ _ _ _ _ zO,hs _ _ _ _ _ zO]
 ·exact(((((KeepsOthers.setCell _ _ _).trans (KeepsOthers.setCell _ _ _)).trans (KeepsOthers.setCell _ _ _)).trans (KeepsOthers.setCell _ _ _)).trans (KeepsOthers.setCell _ _ _)).trans (KeepsOthers.setCell _ _ _)
end Go.Proofs.YtpbniokljofedaaGreat
namespace Go.Proofs.YtpbniokljofedaaGreat
open Go.RowKit
def JR (t:List UInt8) (a:Nat):Except Int (List UInt8):=if a=0 then .ok t else if qZ t a=0 then .error 6 else if qZ t a=255 then .error 70 else .ok (jo t a 1)
def ZC:List Nat->List UInt8->Except Int (List UInt8)
 | [],t=>.ok t
 |a :: r,t=>match JR t a with
  | .error e=>.error e
  | .ok t'=>ZC r t'
theorem vz:∀ (l r:List Nat) (t:List UInt8),ZC (l++r) t=match ZC l t with
  | .error e=>.error e
  | .ok t'=>ZC r t'
 | [],_,_=>rfl
 |a :: l,r,t=>by
  simp only[List.cons_append,ZC];cases JR t a with
  |error e=>rfl
  |ok t'=>exact vz l r t'
theorem qbK (a:Nat) (t:List UInt8):ZC [a] t=JR t a:=by simp only[ZC];cases JR t a <;> rfl
def qT (its:List It):List Nat:=its.map fun x=>x.r.toNat
theorem kM {its:List It} {k:Nat} (hk:k<its.length):qT (its.take (k+1))=qT (its.take k)++[(its[k].r).toNat]:=by unfold qT;rw[List.take_succ_eq_append_getElem hk,List.map_append];rfl
theorem qhU {its:List It} (k:Nat):qT its=qT (its.take k)++qT (its.drop k):=by unfold qT;rw[<-List.map_append,List.take_append_drop]
theorem qid {its:List It} {k:Nat} (hk:k<its.length) {t t':List UInt8} {e:Int} (h:ZC (qT (its.take k)) t=.ok t') (h1:JR t' (its[k].r).toNat=.error e):ZC (qT its) t=.error e:=by rw[qhU (its:=its) (k+1),vz,kM hk,vz,h];simp only[qbK,h1]
theorem qgp {its:List It} {k:Nat} (hk:k<its.length) {t t' t'':List UInt8} (h:ZC (qT (its.take k)) t=.ok t') (h1:JR t' (its[k].r).toNat=.ok t''):ZC (qT (its.take (k+1))) t=.ok t'':=by rw[kM hk,vz,h];simp only[qbK,h1]
def Zz (S:Sto) (lvl:Int) (its:List It):Except Int (Nat×Sto):=
 if Qb lvl its=true then
  match ZC (qT its) S.now with
  | .error e=>.error e
  | .ok t=>if Zb (qy S t)=[]\/S.ws.length=4096 then .error 9 else .ok (zh (qy S t),vc (qy S t) (zh (qy S t)) (Zh (Qq lvl its)))
 else .error 8
section
variable {D:Nat->Prop} {B lo b g:Nat} {k:Option Nat} {S:Sto} {w W:World}
theorem Bch.lens (h:Bch D B lo b g k S w):S.now.length=256/\S.last.length=256:=by obtain⟨A1,n1,c1,v2,c3,A4,c4,hr,ho,-,-,h4⟩:=h.ex;have:=ho.1;have h5:=h4.at_.1;exact⟨by simpa using this,h5.symm⟩
theorem Bch.cells (h:Bch D B lo b g k S w):∃ A1 n1 c1 v2 c3 A4 c4,(∀ i,w.cell? ⟨b,i,none⟩=#[.slice A1 n1 c1,v2,.slice (some ⟨g,0,none⟩) 256 c3,.slice A4 256 c4][i]?)/\(∀ a,a<256->w.cell? ⟨g,a,none⟩=some (.int .u8 (Zj S a:Int)))/\(∀ a,w.frozen? ⟨g,a,none⟩=false):=by obtain⟨A1,n1,c1,v2,c3,A4,c4,hr,ho,-,-,-⟩:=h.ex;obtain⟨h1,h2,-,-⟩:=Zu ho;exact⟨A1,n1,c1,v2,c3,A4,c4,qa hr,h1,h2⟩
end
theorem Th {R:Ending->World->Prop} {a:Act} {W:World} {v:Value} (h4:a.tmps[4]?.getD undef=v) (hd:a.defers=[]) (hR:R (.returned v) W):bodyPost prog Tryz.f156 R .ret a W:=by refine bodyPost_ret (v:=v) ?_ hd hR;simp[results,results156,go_sem,h4]
set_option maxRecDepth 100000 in
theorem qgR (D:Nat->Prop) (B lo b g:Nat) (k:Option Nat) (S:Sto) (a:Nat) (ha:a<256) (w:World) (h:Bch D B lo b g k S w):Calls prog 156 #[.pointer (some ⟨b,0,none⟩),.int .i64 (a:Int)] w fun e W=>Qe lo b g k w W /\
   ((qZ S.now a=0/\e=.returned (.int .i64 6))\/(qZ S.now a=255/\e=.returned (.int .i64 70))\/(qZ S.now a≠0/\qZ S.now a≠255/\e=.returned (.int .i64 0)/\Bch D B lo b g k (qy S (jo S.now a 1)) W)):=by
 obtain⟨A1,n1,c1,v2,c3,A4,c4,kr,hk,hf⟩:=h.cells;have hka:=hk a ha;have hfa:=hf a;have hT:Hid (jo S.now a 1=S.now.set a (UInt8.ofNat (qZ S.now a+1))):=rfl;have eH:=zH (h.count ha (UInt8.ofNat (qZ S.now a+1)));have lD:Zj S a=qZ S.now a:=rfl;have bP:=(S.now[a]?.getD 0).toNat_lt;have hc:qZ S.now a=(S.now[a]?.getD 0).toNat:=rfl;rw[lD] at hka;rw[<-hc] at bP;have hwv:=qer (qZ S.now a+1);generalize qZ S.now a=nv at *;clear hk hf hc lD h;by_cases h0:nv=0
 ·subst h0;clear eH hT hwv;go_enter func156,ntmps156;go_wp2_with fail;exact Th rfl rfl ⟨Qe.refl _ _ _ _ _,.inl ⟨by trivial,rfl⟩⟩
 ·have aU:((nv:Int) == 0)=false:=by rw[beq_eq_false_iff_ne];omega
  have aW:decide (nv=0)=false:=decide_eq_false zO;by_cases h1:nv=255
  ·subst h1;clear eH hT hwv;go_enter func156,ntmps156;go_wp2_with fail;exact Th rfl rfl ⟨Qe.refl _ _ _ _ _,.inr (.inl ⟨by trivial,rfl⟩)⟩
  ·have hz3:((nv:Int) == 255)=false:=by rw[beq_eq_false_iff_ne];omega
   have hz4:decide (nv=255)=false:=decide_eq_false zO;replace h0:=zH h0;replace h1:=zH h1;rw[show ((nv+1:Nat):Int)=(nv:Int)+1 from rfl] at hwv;go_enter func156,ntmps156;go_wp2_with fail;refine Th rfl rfl ⟨eH.out.2,.inr (.inr ⟨h0.out,h1.out,rfl,?_⟩)⟩;rw[hT.out];exact eH.out.1
set_option maxRecDepth 100000 in
theorem Gx (D:Nat->Prop) (B lo b g:Nat) (k:Option Nat) (S:Sto) (a:Nat) (ha:a<256) (w:World) (h:Bch D B lo b g k S w):Calls prog 133 #[.pointer (some ⟨b,0,none⟩),.int .i64 (a:Int)] w fun e W=>Qe lo b g k w W /\
   ((qZ S.now a=0/\e=.returned (.int .i64 6))\/(qZ S.now a≠0/\e=.returned (.int .i64 0)/\Bch D B lo b g k (qy S (kZ S.now a)) W)):=by
 obtain⟨A1,n1,c1,v2,c3,A4,c4,kr,hk,hf⟩:=h.cells;have hka:=hk a ha;have hfa:=hf a;have hT:Hid (kZ S.now a=S.now.set a (UInt8.ofNat (qZ S.now a-1))):=rfl;have eH:=zH (h.count ha (UInt8.ofNat (qZ S.now a-1)));have lD:Zj S a=qZ S.now a:=rfl;have bP:=(S.now[a]?.getD 0).toNat_lt;have hc:qZ S.now a=(S.now[a]?.getD 0).toNat:=rfl;rw[lD] at hka;rw[<-hc] at bP;generalize qZ S.now a=nv at *;clear hk hf hc lD h;by_cases h0:nv=0
 ·subst h0;clear eH hT;go_enter func133,ntmps133;go_wp2_with fail;exact qaM rfl rfl ⟨Qe.refl _ _ _ _ _,.inl ⟨by trivial,rfl⟩⟩
 ·have aU:((nv:Int) == 0)=false:=by rw[beq_eq_false_iff_ne];omega
  have hwv:=qjs (n:=nv) zO bP;replace h0:=zH h0;go_enter func133,ntmps133;go_wp2_with fail;refine qaM rfl rfl ⟨eH.out.2,.inr ⟨h0.out,rfl,?_⟩⟩;rw[hT.out];exact eH.out.1
theorem qcs {P:Program} (w:World) (t ty:TypeId) (e:TypeId) (i:TypeInfo) (z:Value) (size bytes:Nat) (ht:P.underlying t=some (.slice e)) (hi:P.info? e=some i) (hz:i.zero=some z) (eF:i.size=size) (aQ:i.bytes=bytes) (xU:z.cells.size=size) (hsz:0<size) (B:Nat) (A:Option Addr) (n:Nat) (xs:List Value) (hr:Rd w B size A n xs) (cs:Array Value) (hl:cs.size=size) (h1:∀ u∈cs.toList,u.oneCell'=true) (hn:n<1073741824) (dZ:bytes<=65536) : ∃ v' w',(Builtin.append_ #[t,t] ty #[.slice A n n,.slice (some ⟨w.heap.size,0,none⟩) 1 1]).run P (w.alloc (.cells cs e))=.ok v' w'/\w'.ownsRow (w.heap.size+1) e size v' (n+1) (xs++cs.toList)/\Ext w w'/\v'.ownBlock=some (w.heap.size+1):=by
 have hb:(n+1)*bytes<=140737488355328:=Nat.le_trans (Nat.mul_le_mul_left _ dZ) zO;have hm:n+1<=maxLen:=zA6;have lJ:((n+1:Nat):Int)<=9223372036854775807:=zO;rcases A with _|ad
 ·have hn0:n=0:=by
   rcases Nat.eq_zero_or_pos n with h0|h0
   ·exact h0
   ·obtain⟨b,off,h,_⟩:=hr.2 h0;cases h
  subst hn0;have hx:xs=[]:=List.eq_nil_of_length_eq_zero (by simpa using hr.1);subst hx;obtain⟨v',w',ay,h2,h3,h4,h5⟩:=run_append_own_at (P:=P) (w.alloc (.cells cs e)) (w.heap.size+1) t ty e i z size bytes ht hi hz eF aQ xU hsz (.slice none 0 0) 0 [] (World.ownsRow_nil _ _ _ _) ⟨w.heap.size,0,none⟩ 1 1 cs.toList
   (by rw[Array.length_toList];omega) (YK w cs e) h1 hm hb zA2
  refine⟨v',w',ay,h2,Ext.trans (zN w (.cells cs e)) ((Below.refl _ _).grown h3 (zM _) (fun k hk=>by cases hk)),?_⟩;rcases h5 with h5|h5
  ·exfalso;rcases h2.2 with ⟨e0,_⟩|⟨g,cap,cur,e0,_⟩
   ·have:=(h4.1 e0).2;omega
   ·rw[e0] at h5;cases h5
  ·rw[h5];simp
 ·have dQ:∀ j u,xs[j]?=some u->w.cell? (ad.add j)=some u:=by
   intro j u hu;rcases Nat.eq_zero_or_pos n with h0|h0
   ·subst h0;have hx:xs=[]:=List.eq_nil_of_length_eq_zero (by simpa using hr.1);subst hx;simp at hu
   ·obtain⟨b,off,h,_⟩:=hr.2 h0;injection h with h;subst h;exact hr.adds h0 j u hu
  subst eF;subst aQ;have nM:=run_append_grow (P:=P) (w.alloc (.cells cs e)) t ty e i z ht hi hz ad n n xs hr.1 (fun j u hu=>Ext.cell (zN w _) (dQ j u hu)) ⟨w.heap.size,0,none⟩ 1 1 cs.toList (by rw[Array.length_toList];omega) (YK w cs e) zO lJ (growslice_fits zO hb);refine⟨_,_,nM,?_,(zN w _).trans ((Ext.drew _).trans (zN _ _)),by simp[Value.ownBlock]⟩;have lG:=grownCap_ge (w.alloc (.cells cs e)) (n+1) n e;have fH:grownCap (w.alloc (.cells cs e)) (n+1) n e<=maxLen:=grownCap_le_maxLen _ (n+1) n e hm;have hlen:(xs++cs.toList).length=(n+1)*i.size:=by rw[List.length_append,hr.1,Array.length_toList,hl,Nat.add_mul,Nat.one_mul]
  refine⟨hlen,.inr ⟨_,_,_,rfl,zA2,heap_alloc_new (w.alloc (.cells cs e)).drew _,lG,fH,?_,?_⟩⟩
  ·simp only[Array.size_append,List.size_toArray,size_zeroCells,xU,hr.1,hl];rw[<-Nat.succ_mul,<-Nat.add_mul];congr 1;omega
  ·simp only[Array.toList_append,List.append_assoc];rw[<-List.append_assoc,<-hlen];exact List.take_left
theorem WsB.push {D:Nat->Prop} {B lo b g:Nat} {k:Option Nat} {v:Value} {ws:List (Int×List UInt8)} {w:World} (h:WsB D B lo b g k v ws w) (aP:lo<=w.heap.size) (hk:∀ q,k=some q->¬(q<B\/D q)) (hws:ws.length<1073741824) (at_:Int) (A0:Option Addr) (c0:Nat) (l:List UInt8) (hd:∀ C,Qh (XY B D) w C->Bys C C.heap.size (.slice A0 l.length c0) l) (ty:TypeId) : ∃ v' w' k',(Builtin.append_ #[23,23] ty #[v,.slice (some ⟨w.heap.size,0,none⟩) 1 1]).run prog (w.alloc (.cells #[.int .i64 at_,.slice A0 l.length c0] 130))=.ok v' w'/\WsB D B lo b g k' v' (ws++[(at_,l)]) w'/\Qe lo b g k w w'/\Zx w.heap.size k k' /\ (∀ q,q<w.heap.size->k≠some q->w'.heap[q]?=w.heap[q]?):=by
 obtain⟨i0,hi,ag,aU,aW⟩:=info_parts Tryz.info_write;obtain⟨ps,rfl,hw,hp⟩:=h;have h1:∀ u∈(#[.int .i64 at_,.slice A0 l.length c0]:Array Value).toList,u.oneCell'=true:=zA7;rw[List.length_map] at hws hw;have fin:∀ (v':Value) (w':World) (k':Option Nat),w'.ownsRow lo 130 2 v' (ps.length+1) (ZT ps++[.int .i64 at_,.slice A0 l.length c0])->(∃ q,v'.ownBlock=some q/\k'=some q)->(∀ q,q<w.heap.size->k≠some q->w'.heap[q]?=w.heap[q]?)->WsB D B lo b g k' v' (ps.map (·.1)++[(at_,l)]) w':=fun v' w' k' ho ⟨q,yx,og⟩ hR=>by
  have hX:Qh (XY B D) w w':=XY.keep fun q hq h1=>hR q hq fun e=>hk q e h1;refine⟨ps++[((at_,l),.slice A0 l.length c0)],zA2,.inr ⟨q,og,yx,by rw[qfb];simpa using ho⟩,fun p af=>?_⟩;rcases List.mem_append.1 af with af|af
  ·exact⟨(hp p af).1,fun C hC=>(hp p af).2 C (hX.trans hC fun _ _ h=>h)⟩
  ·obtain rfl:p=((at_,l),.slice A0 l.length c0):=by simpa using af
   exact⟨⟨A0,c0,rfl⟩,fun C hC=>hd C (hX.trans hC fun _ _ h=>h)⟩
 rcases hw with ⟨rfl,hm,A,rfl,hr⟩|⟨q,rfl,hq,ho⟩
 ·obtain⟨v',w',ay,h2,hx,hb⟩:=qcs (P:=prog) w 23 ty 130 i0 (.agg #[.int .i64 0,.slice none 0 0]) 2 32 underlying23 hi ag aU aW rfl zD B A ps.length (ZT ps) hr #[.int .i64 at_,.slice A0 l.length c0] rfl h1 hws zD;have hN:Zx w.heap.size none (some (w.heap.size+1)):=fun q hq=>.inr (by cases hq;omega);have hB:Qe lo b g none w w':=Qe.of_ext hx aP;exact⟨v',w',some (w.heap.size+1),ay,fin v' w' _ (QG h2 zO) ⟨_,hb,rfl⟩ (fun q hq _=>Below.block hx q hq),hB,hN,fun q hq _=>Below.block hx q hq⟩
 ·obtain⟨v',w',ay,h2,h3,_,h5⟩:=run_append_own_at (P:=prog) (w.alloc (.cells #[.int .i64 at_,.slice A0 l.length c0] 130)) lo 23 ty 130 i0 (.agg #[.int .i64 0,.slice none 0 0]) 2 32 underlying23 hi ag aU aW rfl zD v ps.length (ZT ps) (ho.alloc _) ⟨w.heap.size,0,none⟩ 1 1 [.int .i64 at_,.slice A0 l.length c0]
   rfl (YK w #[.int .i64 at_,.slice A0 l.length c0] 130) h1 zA6 zO zA1
  have hlq:=(QM ho q hq).1;rw[hq] at h3 h5;have hB:Below lo w w':=Below.trans (Below.mono (zN w _) aP) ((Below.refl lo _).grown h3 zA1 (fun k hk=>by cases hk;exact hlq));have aF:∀ q',q'<w.heap.size->(some q≠some q')->w'.heap[q']?=w.heap[q']?:=fun q' h1 aG=>(h3.block q' zA1 (fun e=>aG e.symm)).trans (zK w _ q' h1);have hK:Qe lo b g (some q) w w':=⟨hB,fun q' h1 hn=>aF q' h1 fun e=>hn (.inr (.inr e))⟩
  rcases h5 with h5|h5
  ·exact⟨v',w',some q,ay,fin v' w' _ h2 ⟨q,h5,rfl⟩ aF,hK,Zx.refl _ _,aF⟩
  ·have hN:Zx w.heap.size (some q) (some (w.heap.size+1)):=fun q' lX=>.inr (by cases lX;omega);exact⟨v',w',some (w.heap.size+1),ay,fin v' w' _ h2 ⟨_,by rw[h5];simp,rfl⟩ aF,hK,hN,aF⟩
theorem qev {ops:Array Oper} {rest:List Oper} {o:Oper} {a:Act} {Q:Exit->Act->World->Prop} (fP:o.guard=none) (s x:Operand) (ho:o.op=.call { callee:=.builtin .append,args:=#[s,x],argTypes:=#[23,23] }) {D:Nat->Prop} {B lo b g:Nat} {k:Option Nat} {v:Value} {ws:List (Int×List UInt8)} {w:World} (hs:a.eval s=v) (hx:a.eval x=.slice (some ⟨w.heap.size,0,none⟩) 1 1) (h:WsB D B lo b g k v ws w) (aP:lo<=w.heap.size) (hk:∀ q,k=some q->¬(q<B\/D q)) (hws:ws.length<1073741824) (at_:Int) (A0:Option Addr) (n0 c0:Nat) (l:List UInt8) (hn0:n0=l.length) (hd:∀ C,Qh (XY B D) w C->Bys C C.heap.size (.slice A0 n0 c0) l) (hK:∀ v' w' k',WsB D B lo b g k' v' (ws++[(at_,l)]) w'->Qe lo b g k w w'->Zx w.heap.size k k'->(∀ q,q<w.heap.size->k≠some q->w'.heap[q]?=w.heap[q]?)->wpList prog ops Q rest (a.put o.dst v') w'):wpList prog ops Q (o :: rest) a (w.alloc (.cells #[.int .i64 at_,.slice A0 n0 c0] 130)):=by
 subst hn0;refine wpList_plain fP fun K hKK=>?_;obtain⟨v',w',k',ay,h1,h2,h3,h4⟩:=h.push aP hk hws at_ A0 c0 l hd o.type;unfold Oper.wp execOp;simp only[ho,resolve,invoke,builtin,Sem.run_bind,Sem.run_pure,Result.andThen_ok,List.map_toArray,List.map_cons,List.map_nil,hs,hx,ay];exact hKK _ _ (hK v' w' k' h1 h2 h3 h4)
theorem Bch.put {D:Nat->Prop} {B lo b g:Nat} {k k':Option Nat} {S:Sto} {w W:World} (h:Bch D B lo b g k S w) {A1:Option Addr} {n1 c1 c3 c4:Nat} {A4:Option Addr} {v2 v':Value} (hr:w.heap[b]?=some (.cells #[.slice A1 n1 c1,v2,.slice (some ⟨g,0,none⟩) 256 c3,.slice A4 256 c4] 191 (0,0))) (ho:w.ownsRow lo 5 1 (.slice (some ⟨g,0,none⟩) 256 c3) 256 (S.now.map bv)) (hb:Bls w B (.slice A1 n1 c1) S.bs) (hl:Bys w B (.slice A4 256 c4) S.last) {f:Nat} {l:List UInt8} (hf:f<256) (hw:WsB D B lo b g k' v' (S.ws++[((f:Int),l)]) W) (hB:Qe lo b g k w W) (hN:Zx w.heap.size k k') (hJW:∀ q,q<w.heap.size->k≠some q->W.heap[q]?=w.heap[q]?):Bch D B lo b g k' ⟨S.bs,S.ws++[((f:Int),l)],S.now.set f 1,S.last⟩ ((W.setCell ⟨b,1,none⟩ v').setCell ⟨g,f,none⟩ (.int .u8 1))/\Qe lo b g k w ((W.setCell ⟨b,1,none⟩ v').setCell ⟨g,f,none⟩ (.int .u8 1)):=by
 obtain⟨mF,hzb,yj,hzg,hgb,xH,yB⟩:=h.size;have dJ:=h.blo;have hkd:=h.offk;have hzW:=hB.below.size;have hrb:=(hJW b hzb fun e=>(yB b e).2.2.1 rfl).trans hr;have hkq':∀ q,k'=some q->q≠b/\q≠g:=fun q hq=>(hN q hq).elim (fun e=>(yB q e).2.2) fun e=>zO;have st:∀ q,q≠b->q≠g->((W.setCell ⟨b,1,none⟩ v').setCell ⟨g,f,none⟩ (.int .u8 1)).heap[q]?=W.heap[q]?:=fun q h1 h2=>(zJ _ _ _ _ h2).trans (zJ _ _ _ _ h1);have xq:Below lo W ((W.setCell ⟨b,1,none⟩ v').setCell ⟨g,f,none⟩ (.int .u8 1)):=Below.setCell (Below.setCell (Below.refl _ _) (p:=⟨b,1,none⟩) mF _) (p:=⟨g,f,none⟩) yj _;have dI:Below lo w ((W.setCell ⟨b,1,none⟩ v').setCell ⟨g,f,none⟩ (.int .u8 1)):=hB.below.trans xq;have hX:Qh (XY B D) W ((W.setCell ⟨b,1,none⟩ v').setCell ⟨g,f,none⟩ (.int .u8 1)):=XY.keep fun q _ hq=>st q (fun e=>hkd b (.inl rfl) (e ▸ hq)) (fun e=>hkd g (.inr (.inl rfl)) (e ▸ hq));have ho1:=Zr ho (w':=W) fun q hq=>by cases hq;exact hJW g hzg fun e=>(yB g e).2.2.2 rfl
 have ho2:=qaB (qfX (k:=1) (v:=v') ho1 hgb) (k:=f) hf 1;refine⟨⟨mF,dJ,fun q hq=>⟨(h.dB q hq).1,by have:=(h.dB q hq).2.1;simp;omega,fun hx=>?_⟩,A1,n1,c1,v',c3,A4,c4,(zJ _ _ _ _ fun e=>hgb e.symm).trans (qi hrb 1 v'),ho2,?_,hb.below (Below.mono dI dJ),hl.below (Below.mono dI dJ)⟩,⟨dI,fun q hq hn=>(st q (fun e=>hn (.inl e)) (fun e=>hn (.inr (.inl e)))).trans (hB.rows q hq hn)⟩⟩
 ·exact(h.dB q hq).2.2 (B3.of_new hN q (h.dB q hq).2.1 hx)
 ·obtain⟨ps,e,hc,hp⟩:=hw;refine⟨ps,e,?_,fun p af=>⟨(hp p af).1,fun C hC=>(hp p af).2 C (hX.trans hC fun _ _ h=>h)⟩⟩;rcases hc with ⟨e1,hm,A,e2,oh⟩|⟨q,e1,e2,how⟩
  ·exact .inl ⟨e1,hm,A,e2,oh.below (Below.mono xq dJ)⟩
  ·exact .inr ⟨q,e1,e2,Zr how fun q' lX=>by rw[e2] at lX;cases lX;exact st q (hkq' q e1).1 (hkq' q e1).2⟩
theorem or_none (a b:Nat) (ha:a<256) (hb:b<256):(bits .or .u8 (a:Int) (b:Int) != 0)=!(decide (a=0) && decide (b=0)):=by rw[<-qiX a b ha hb];rfl
theorem first_eq {S:Sto} {f:Nat} (hf:f<256) (h:ZV S f=true) (oZ:∀ k,8<=k->k<f->ZV S k=false):Zb S≠[]/\zh S=f:=by
 have e:∃ l,Zb S=f :: l:=by
  unfold Zb;have h0:Jc S f=[]:=by
   unfold Jc;rw[List.filter_eq_nil_iff];intro k hk;have hkf:k<f:=by simpa using hk
   rcases Nat.lt_or_ge k 8 with h8|h8
   ·unfold ZV;simp;omega
   ·rw[oZ k h8 hkf];decide
  have h1:=YQ S f;rw[if_pos h,h0] at h1;obtain⟨t,ht⟩:=qaV S (show f+1<=256 by omega);exact⟨t,by rw[<-ht,h1];rfl⟩
 obtain⟨l,e⟩:=e;exact⟨by rw[e];simp,by unfold zh;rw[e];rfl⟩
theorem qjJ {S:Sto} (h:∀ k,8<=k->k<256->ZV S k=false):Zb S=[]:=by
 unfold Zb Jc;rw[List.filter_eq_nil_iff];intro k hk;have hkf:k<256:=by simpa using hk
 rcases Nat.lt_or_ge k 8 with h8|h8
 ·unfold ZV;simp;omega
 ·rw[h k h8 hkf];decide
theorem IsB.keepX {X:Nat->Prop} {lo n:Nat} {l:List UInt8} {v:Value} {w C:World} (h:IsB lo n l v w) (hk:Qh X w C) (hX:∀ q,lo<=q->q<w.heap.size->¬X q):Bys C C.heap.size v l:=by
 obtain⟨A,c,e,⟨A',c',e',hc,hm,hr⟩,hf⟩:=h;refine⟨A',c',e',hc,hm,hr.1,fun hn=>?_⟩;obtain⟨b,off,e2,hb,aC⟩:=hr.2 hn;subst e2;have aP:=hf ⟨b,off,none⟩ _ _ e';have hl:0<(l.map bv).length:=by simpa using hn
 exact⟨b,off,rfl,World.block_lt_of_cell? C ⟨b,off+0,none⟩ (hk _ _ (hX b aP hb) (aC 0 _ (zL hl))),fun j u hu=>hk _ _ (hX b aP hb) (aC j u hu)⟩
theorem WsB.slice {D:Nat->Prop} {B lo b g:Nat} {k:Option Nat} {v:Value} {ws:List (Int×List UInt8)} {w:World} (h:WsB D B lo b g k v ws w):∃ A c,v=.slice A ws.length c:=by
 obtain⟨ps,e,hc,_⟩:=h;rcases hc with ⟨_,_,A,e2,_⟩|⟨q,_,_,how⟩
 ·exact⟨A,_,e2⟩
 ·obtain⟨A,c,e,_⟩:=qz how;exact⟨A,c,e⟩
def YI (D:Nat->Prop) (B lo b g:Nat) (k:Option Nat) (S:Sto) (lvl:Int) (its:List It) (w:World) (e:Ending) (W:World):Prop:=Qe lo b g k w W /\
 match Zz S lvl its with
 | .error er=>e=.returned (.tuple #[.int .i64 0,.int .i64 er])
 | .ok (f,S')=>e=.returned (.tuple #[.int .i64 (f:Int),.int .i64 0])/\∃ k' D',Zx w.heap.size k k'/\Yx w.heap.size D D'/\Bch D' B lo b g k' S' W
theorem YI.bad {D:Nat->Prop} {B lo b g:Nat} {k:Option Nat} {S:Sto} {lvl:Int} {its:List It} {w W:World} {er:Int} (h:Zz S lvl its=.error er) (hB:Qe lo b g k w W):YI D B lo b g k S lvl its w (.returned (.tuple #[.int .i64 0,.int .i64 er])) W:=by refine⟨hB,?_⟩;rw[h]
theorem YI.good {D D':Nat->Prop} {B lo b g:Nat} {k k':Option Nat} {S S':Sto} {lvl:Int} {its:List It} {w W:World} {f:Nat} (h:Zz S lvl its=.ok (f,S')) (hB:Qe lo b g k w W) (hN:Zx w.heap.size k k') (hD:Yx w.heap.size D D') (hb:Bch D' B lo b g k' S' W):YI D B lo b g k S lvl its w (.returned (.tuple #[.int .i64 (f:Int),.int .i64 0])) W:=by refine⟨hB,?_⟩;rw[h];exact⟨rfl,k',D',hN,hD,hb⟩
theorem Vq {R:Ending->World->Prop} {a:Act} {W:World} {u v:Value} (h4:a.tmps[4]?.getD undef=u) (h5:a.tmps[5]?.getD undef=v) (hd:a.defers=[]) (hR:R (.returned (.tuple #[u,v])) W):bodyPost prog Tryz.f142 R .ret a W:=by refine bodyPost_ret (v:=.tuple #[u,v]) ?_ hd hR;simp[results,results142,go_sem,h4,h5]
set_option maxRecDepth 100000 in
theorem qcF (D:Nat->Prop) (B lo b g:Nat) (k:Option Nat) (S:Sto) (lvl:Int) (A:Option Addr) (n c:Nat) (its:List It) (lH:∀ x∈its,Zm x) (hws:S.ws.length<=4096) (w:World) (h:Bch D B lo b g k S w) (hx:kh (B3 b g k) w (.slice A n c) its):Calls prog 142 #[.pointer (some ⟨b,0,none⟩),jE lvl A n c] w (YI D B lo b g k S lvl its w):=by
 obtain⟨mF,hzb,yj,hzg,hgb,xH,yB⟩:=h.size;have dK:=h.b3;obtain⟨yt,-,-,hA⟩:=hx.now.at_;subst yt;cases hm:Qb lvl its
 case false =>
  have hE:=zH (show Zz S lvl its=.error 8 by unfold Zz;rw[hm];rfl);have hW:=zH (fun W (hw:Ext w W)=>qhM lvl A its.length c its W (hx.now.ext hw) hm);replace hx:=zH hx;replace h:=zH h;clear hA hm yB dK;go_enter func142,ntmps142;go_wp2_with fail;generalize aA:World.alloc _ _=w1;have x1:Ext w w1:=by rw[<-aA];exact zN _ _
  clear aA;refine(hW.out w1 x1).mono ?_;rintro e w2 ⟨rfl,hB⟩;have x2:Ext w w2:=x1.trans hB;clear hB x1 hW;go_wp2_with fail;exact Vq rfl rfl rfl (YI.bad hE.out (Qe.of_ext x2 xH))
 case true =>
  have hE:Hid (Zz S lvl its=match ZC (qT its) S.now with
   | .error e=>.error e
   | .ok t=>if Zb (qy S t)=[]\/S.ws.length=4096 then .error 9 else .ok (zh (qy S t),vc (qy S t) (zh (qy S t)) (Zh (Qq lvl its)))):=zH (by unfold Zz;rw[hm];rfl)
  obtain⟨pR,yh,hl5,hib⟩:=jx hm;have hW:=zH (fun W (hw:Ext w W)=>qbn lvl A its.length c its W (hx.now.ext hw) hm lH);have hX:=zH hx;have hsl:=zH (vl (b:=Qq lvl its) (by have:=Yo lvl its.length its.length lH hl5;rw[Yn] at this;omega));replace hA:=zH hA;replace hib:=zH hib;replace lH:=zH lH;replace h:=zH h;replace dK:=zH dK;replace yB:=zH yB;replace hws:=zH hws;clear hx hm pR yh;go_enter func142,ntmps142;go_wp2_with fail;generalize aA:World.alloc _ _=w1;have x1:Ext w w1:=by rw[<-aA];exact zN _ _
  have p1:w1.heap[w.heap.size]?=some (.cells #[.int .i64 lvl,.slice A its.length c] 49 (0,0)):=by rw[<-aA];exact zI _ _ _ rfl
  clear aA;refine(hW.out w1 x1).mono ?_;rintro e w2 ⟨u,rfl,⟨u,rfl,hu⟩,hB⟩;have hB:Ext w1 w2:=hB;have x2:Ext w w2:=x1.trans hB;have p2:=qb p1 hB;have kp:=qa p2;have z1:w.heap.size<w1.heap.size:=(zG.1 p1).1;obtain⟨A0,c0,rfl,hu1,hu2⟩:=hu;have hu:IsB w1.heap.size 128 (Zh (Qq lvl its)) (.slice A0 128 c0) w2:=⟨A0,c0,rfl,hu1,hu2⟩
  replace hu:=zH hu;clear hB x1 p1 hW hu1 hu2;go_wp2_with fail;go_loopw [21] (fun i wr=>∃ (j:Nat) (t:List UInt8),j<=its.length/\i=.int .i64 (j:Int)/\ZC (qT (its.take j)) S.now=.ok t/\Bch D B lo b g k (qy S t) wr/\Qe lo b g k w2 wr) (fun i _=>its.length-(intOf i).toNat)
  case atStart=>exact⟨0,S.now,Nat.zero_le _,rfl,rfl,h.out.ext x2,Qe.refl _ _ _ _ _⟩
  case round =>
   obtain⟨j,t,hj,rfl,fK,bz,lT⟩:=hrel;have oJ:=hX.out.trans ((Qh.of_ext (X:=B3 b g k) x2).trans lT.keepX fun _ _ h=>h) (fun _ _ h=>h);by_cases hlt:j<its.length
   ·obtain⟨bi,off,rfl,hbi⟩:=hA.out zO;obtain⟨A',c',d0,d1,d2,d3,d4,-⟩:=oJ.now.item j hlt;have pg:=hib.out its[j] (List.getElem_mem hlt);have hrr:its[j].r=0\/(8<=its[j].r/\its[j].r<256):=by unfold itB at pg;simp at pg;exact pg.1
    have ae:=zH (fun e h1=>qid hlt (e:=e) fK h1);have aZ:=zH (fun t' h1=>qgp hlt (t'':=t') fK h1);generalize its[j]=x at *;have wS:=zH (IntWalk.wrap64_in ((j:Int)+1) zO);replace fK:=zH fK;replace oJ:=zH oJ;clear hbi pg;rcases hrr with hr0|oH
    ·have hHV:=zH (aZ.out t (by rw[hr0];simp[JR]));rw[hr0] at d3;have ag:=bz.size.2.2.2.2.2.1;replace bz:=zH bz;replace lT:=zH lT;clear hr0 ae aZ kp;go_wp2_with fail;try rw[wS.out]
     refine⟨⟨j+1,t,zO,rfl,hHV.out,bz.out.ext (zN _ _),lT.out.trans (Qe.of_ext (zN _ _) ag) (Zx.refl _ _)⟩,?_⟩;simp[intOf];omega
    ·obtain⟨a,hra⟩:∃ a:Nat,x.r=(a:Int):=⟨x.r.toNat,zO⟩
     have ha8:8<=a:=zO;have ha9:a<256:=zO;have hsa:(x.r).toNat=a:=zO;rw[hra] at d3;rw[hsa] at ae aZ;have hs1:Hid (JR t a=if qZ t a=0 then .error 6 else if qZ t a=255 then .error 70 else .ok (jo t a 1)):=zH (by unfold JR;rw[if_neg zO]);have hza:((a:Int) == 0)=false:=by rw[beq_eq_false_iff_ne];omega
     have ag:=bz.size.2.2.2.2.2.1;have HS:=zH (fun W (hW:Ext wr W)=>qgR D B lo b g k (qy S t) a ha9 W (bz.ext hW));replace bz:=zH bz;replace lT:=zH lT;clear kp oH hsa hra;go_wp2_with fail;generalize lg:World.alloc _ _=wa;have xa:Ext wr wa:=by rw[<-lg];exact zN _ _
     have ra:wa.heap[wr.heap.size]?=some (.cells #[.int .u8 x.k,.int .u32 x.i,.int .u32 x.o,.int .i64 (a:Int),.slice A' x.val.length c'] 68 (0,0)):=by rw[<-lg];exact zI _ _ _ rfl
     have ka:=qa ra;clear lg d0 d1 d2 d3 d4;go_wp2_with fail;refine(HS.out wa xa).mono ?_;rintro e wsh ⟨hk2,aT⟩;have oC:=lT.out.trans ((Qe.of_ext xa ag).trans hk2 (Zx.refl _ _)) (Zx.refl _ _);clear HS hk2 ka ra xa;rcases aT with ⟨dU,rfl⟩|⟨dU,rfl⟩|⟨dU,dV,rfl,dK⟩
     ·have hEE:=zH (show Zz S lvl its=.error 6 by rw[hE.out,ae.out 6 (by rw[hs1.out,if_pos dU])]);clear hE ae aZ hs1 dU;go_wp2_with fail;exact Vq rfl rfl rfl (YI.bad hEE.out ((Qe.of_ext x2 xH).trans oC (Zx.refl _ _)))
     ·have hEE:=zH (show Zz S lvl its=.error 70 by rw[hE.out,ae.out 70 (by rw[hs1.out,if_neg zO,if_pos dU])]);clear hE ae aZ hs1 dU;go_wp2_with fail;exact Vq rfl rfl rfl (YI.bad hEE.out ((Qe.of_ext x2 xH).trans oC (Zx.refl _ _)))
     ·have IR:∃ (j':Nat) (t':List UInt8),j'<=its.length/\Value.int .i64 ((j:Int)+1)=.int .i64 (j':Int)/\ZC (qT (its.take j')) S.now=.ok t'/\Bch D B lo b g k (qy S t') wsh/\Qe lo b g k w2 wsh:=
       ⟨j+1,jo t a 1,zO,rfl,aZ.out _ (by rw[hs1.out,if_neg dU,if_neg dV]),dK,oC⟩
      replace IR:=zH IR;clear hE ae aZ hs1 dU dV dK oC lT bz;go_wp2_with fail;try rw[wS.out]
      refine⟨IR.out,?_⟩;simp[intOf];omega
   ·obtain rfl:j=its.length:=zO;rw[List.take_length] at fK;rw[fK] at hE;have hE:Hid (Zz S lvl its=if Zb (qy S t)=[]\/S.ws.length=4096 then .error 9 else .ok (zh (qy S t),vc (qy S t) (zh (qy S t)) (Zh (Qq lvl its)))):=hE;have hEw:Hid ((qy S t).ws.length=S.ws.length):=rfl;rw[<-hEw.out] at hE hws;generalize qy S t=S' at *;have yT:=(Qe.of_ext (b:=b) (g:=g) (k:=k) x2 xH).trans lT (Zx.refl _ _);obtain⟨D',hD'⟩:∃ D':Nat->Prop,D'=fun q=>D q\/(w1.heap.size<=q/\q<w2.heap.size):=⟨_,rfl⟩
    have dK:=dK.out;have hzw:=h.out.size.2.2.2.2.2.1;have hux:=zH (fun C (hC:Qh (XY B D') wr C)=>hu.out.keepX (X:=fun q=>B3 b g k q\/XY B D' q) ((lT.keepX.mono fun q _ h=>.inl h).trans hC fun _ _ h=>.inr h) (fun q h1 h2=>by
     rintro (hx|hx)
     ·have:=(dK q hx).2;omega
     ·exact hx.2 (by rw[hD'];exact .inr ⟨h1,h2⟩)))
    have hDD:∀ q,D q->D' q:=fun q hq=>by rw[hD'];exact .inl hq
    have hDn:Yx w.heap.size D D':=fun q hq=>by rw[hD'] at hq;exact hq.imp id fun h=>zO
    have hDb:∀ W,Ext wr W->∀ q,D' q->lo<=q/\q<W.heap.size/\¬B3 b g k q:=fun W hW q hq=>by
     have hz:=hW.size;have aW:=lT.below.size;rw[hD'] at hq;rcases hq with hq|⟨h1,h2⟩
     ·have:=bz.dB q hq;exact⟨this.1,zO,this.2.2⟩
     ·exact⟨zO,zO,fun hx=>by have:=(dK q hx).2;omega⟩
    have hkD:∀ q,k=some q->¬(q<B\/D' q):=fun q hq hx=>hx.elim (fun h1=>h.out.off q h1 (.inr (.inr hq))) fun h1=>(hDb wr (Ext.refl _) q h1).2.2 (.inr (.inr hq));replace hDb:=zH hDb;replace hDn:=zH hDn;replace hDD:=zH hDD;replace hkD:=zH hkD;clear hD' dK hzw;obtain⟨A1,n1,c1,v2,c3,A4,c4,hr,ho,hwb,bU,rO⟩:=bz.ex;obtain⟨hlen,hDC⟩:=bz.lens;obtain⟨oV,uJ,-,-⟩:=Zu ho;obtain⟨b4,o4,rfl,hb4lt,uP⟩:∃ b4 o4,A4=some ⟨b4,o4,none⟩/\b4<B/\∀ a,a<256->wr.cell? ⟨b4,o4+a,none⟩=some (.int .u8 (Ks S' a:Int)):=by obtain⟨A',c',e,_,_,oh⟩:=rO;simp only[Value.slice.injEq] at e;obtain⟨rfl,_,rfl⟩:=e;obtain⟨b4,o4,e,h1,h2⟩:=oh.2 zO;exact⟨b4,o4,e,h1,fun a ha=>h2 a _ (by rw[List.getElem?_map,zL zO];simp[Ks,zL (show a<S'.last.length by omega)])⟩
    have oV:Hid (∀ a,a<256->wr.cell? ⟨g,a,none⟩=some (.int .u8 (Zj S' a:Int))):=zH oV;have uP:=zH uP;have hfr:Hid (∀ k,8<=k->(bits .or .u8 (Zj S' k:Int) (Ks S' k:Int) != 0)=!ZV S' k):=zH fun k h8=>by rw[or_none _ _ (qiT S' k) (qfD S' k)];unfold ZV;rw[decide_eq_true h8,Bool.true_and]
    obtain⟨A2,c2,rfl⟩:=hwb.slice;have h5g:=h.out.size;have hHA:=bz.size.2.2.2.2.2.2;replace hHA:=zH hHA;have h0:=h;clear kp hu oJ hX hA hib lH h lT fK hEw p2 yB h5g;replace bz:=zH bz;replace hwb:=zH hwb;replace ho:=zH ho;replace bU:=zH bU;replace rO:=zH rO;replace yT:=zH yT;replace uJ:=zH uJ;replace hlen:=zH hlen;replace hDC:=zH hDC;have hwx:=zH (Ext.refl wr);generalize hwm:wr=wm at *;clear hwm;go_wp2_with fail;go_loopw [4] (fun i wr=>∃ k:Nat,8<=k/\k<=256/\i=.int .i64 (k:Int)/\(∀ j,8<=j->j<k->ZV S' j=false)/\Ext wm wr) (fun i _=>256-(intOf i).toNat)
    case atStart=>exact⟨8,zM _,zO,rfl,fun _ _ h=>zO,Ext.refl _⟩
    case round =>
     obtain⟨f,h8,hf,rfl,oZ,gQ⟩:=hrel;replace oZ:=zH oZ;have r2:=qb hr gQ;by_cases hlt:f<256
     ·have g1:∀ W,qj.r wr W->∀ i,W.cell? ⟨b,i,none⟩=#[.slice A1 n1 c1,.slice A2 S'.ws.length c2,.slice (some ⟨g,0,none⟩) 256 c3,.slice (some ⟨b4,o4,none⟩) 256 c4][i]?:=fun W h=>qa (qb r2 h);have g2:∀ W,qj.r wr W->W.cell? ⟨g,f,none⟩=some (.int .u8 (Zj S' f:Int)):=fun W h=>Ext.cell (gQ.trans h) (oV.out f hlt);have g3:∀ W,qj.r wr W->W.cell? ⟨b4,o4+f,none⟩=some (.int .u8 (Ks S' f:Int)):=fun W h=>Ext.cell (gQ.trans h) (uP.out f hlt);have hbit:=hfr.out f h8;generalize Zj S' f=nw at *;generalize Ks S' f=lw at *;have d1:decide ((f:Int)<256)=true:=decide_eq_true zO;have d2:decide (f<256)=true:=decide_eq_true hlt;have wS:=zH (IntWalk.wrap64_in ((f:Int)+1) zO);have hDJ:=zH (fun (h:ZV S' f=false)=>(fun j hj (hlt:j<f+1)=>(Nat.lt_or_ge j f).elim (fun h1=>oZ.out j hj h1) fun h1=>by rw[show j=f by omega];exact h:∀ j,8<=j->j<f+1->ZV S' j=false));have rU:=zH (fun (h:ZV S' f=true)=>first_eq hlt h oZ.out);generalize ZV S' f=fb at *;have e0:=zH gQ;clear gQ;go_upto_region 13 with fail;refine qp zQ ?_;refine qQ (w:=wr) qj (qH []) (List.replicate 22 true) 0 zQ zQ zQ zQ zQ zQ zQ ?st (Rel.drew _ _) ?walk
      case st=>exact qk (fun _ h=>by cases h)
      case walk =>
       intro K hK;dsimp only[qt,List.replicate];repeat ((first|(refine qd ?_ zA0 zA0 (fun W hW _=>⟨W,?_,Rel.refl _ W⟩) ?_;rotate_left;(go_simp<;>with_reducible rfl))|(refine qh zA0 ?_));try simp only[Act.put,ql,qg,qc,qf,zA,zB,zC])
       refine qd (.pointer (some ⟨g,f,none⟩)) zA0 zA0 (fun W hW _=>⟨W,?_,Rel.refl _ W⟩) ?_
       ·go_simp;intro lG;exfalso;omega
       simp only[Act.put,qg,qc,qf,zA,zB,zC];repeat ((first|(refine qd ?_ zA0 zA0 (fun W hW _=>⟨W,?_,Rel.refl _ W⟩) ?_;rotate_left;(go_simp<;>with_reducible rfl))|(refine qh zA0 ?_));try simp only[Act.put,ql,qg,qc,qf,zA,zB,zC])
       refine qd (.pointer (some ⟨b4,o4+f,none⟩)) zA0 zA0 (fun W hW _=>⟨W,?_,Rel.refl _ W⟩) ?_
       ·go_simp;intro lG;exfalso;omega
       simp only[Act.put,qg,qc,qf,zA,zB,zC];repeat ((first|(refine qd ?_ zA0 zA0 (fun W hW _=>⟨W,?_,Rel.refl _ W⟩) ?_;rotate_left;(go_simp<;>with_reducible rfl))|(refine qh zA0 ?_));try simp only[Act.put,ql,qg,qc,qf,zA,zB,zC])
       refine qv (hK _ _ fun W hW hF=>?_);clear hF hK g1 g2 g3;have hW:Ext wr W:=hW;have xE:Ext wm W:=e0.out.trans hW;clear e0 hW;refine zC4 ?_;cases fb
       ·have IR:∃ k':Nat,8<=k'/\k'<=256/\Value.int .i64 ((f:Int)+1)=.int .i64 (k':Int)/\(∀ j,8<=j->j<k'->ZV S' j=false)/\Ext wm W:=⟨f+1,zO,zO,rfl,hDJ.out rfl,xE⟩
        replace IR:=zH IR;clear xE oZ hDJ rU;go_wp2;refine Qo ?_;go_wp2_with fail;try rw[wS.out]
        refine⟨IR.out,?_⟩;simp[intOf];omega
       ·have aG:=zH (rU.out rfl).1;have hfs:=zH (rU.out rfl).2;clear oZ hDJ rU hbit oV uP hfr d1 d2;have r3:=qb hr xE;have k3:=qa r3;have f3:=qe r3;have e1:((f:Int) == 256)=false:=by rw[beq_eq_false_iff_ne];omega
        by_cases hw4:S'.ws.length=4096
        ·have hEE:=zH (show Zz S lvl its=.error 9 by rw[hE.out,if_pos (.inr hw4)]);have pR:((S'.ws.length:Int) == 4096)=true:=by rw[beq_iff_eq];omega
         replace hw4:=zH hw4;replace xE:=zH xE;go_wp2;refine Qo ?_;go_wp2_with fail;exact Vq rfl rfl rfl (YI.bad hEE.out (yT.out.trans (Qe.of_ext xE.out bz.out.size.2.2.2.2.2.1) (Zx.refl _ _)))
        ·have hEE:=zH (show Zz S lvl its=.ok (f,vc S' f (Zh (Qq lvl its))) by rw[hE.out,if_neg (fun h=>h.elim aG.out hw4),hfs.out]);have pR:((S'.ws.length:Int) == 4096)=false:=by rw[beq_eq_false_iff_ne];omega
         replace hw4:=zH hw4;have xw:=zH xE;have zW:=xE.size;have zwm:=bz.out.size.2.2.2.2.2.1;have hbW:=zH ((bz.out.ext xE).mono hDD.out (hDb.out W (hwx.out.trans xE)));clear xE;go_wp2;refine Qo ?_;go_wp2_with (at_builtin;refine Qf ?_);have zBlo:=h0.out.blo;refine QC.go (qev rfl (.tmp 78) (.tmp 82) rfl rfl rfl ((hwb.out.mono hDD.out).ext xw.out zO) zO hkD.out (by have:=hws.out;omega) (f:Int) A0 128 c0 (Zh (Qq lvl its)) hsl.out.symm (fun C hC=>hux.out C ((Qh.of_ext (hwx.out.trans xw.out)).trans hC fun _ _ h=>h)) ?_);intro v4 w4 k4 hW4 hK4 hN4 sH;obtain⟨A5,c5,rfl⟩:=hW4.slice;rw[List.length_append,List.length_singleton] at hW4;have r4:=(sH b (zG.1 r3).1 fun e=>(hHA.out b e).2.2.1 rfl).trans r3;have kr4:=qa r4;have fr4:=qe r4;have oW:=za ho.out xw.out;have o4:=Zr oW (w':=w4) fun q hq=>by cases hq;exact sH g (QM oW g rfl).2 fun e=>(hHA.out g e).2.2.2 rfl
         have kg4:=(Zu o4).1 f hlt;have fg4:=(Zu o4).2.1 f;have P:=zH (Bch.put hbW.out r3 oW (bU.out.below (Below.mono xw.out zO)) (rO.out.below (Below.mono xw.out zO)) hlt hW4 hK4 hN4 sH);have hAll:Hid (Qe lo b g k w _):=zH (yT.out.trans ((Qe.of_ext xw.out zwm).trans P.out.2 (Zx.refl _ _)) (Zx.refl _ _));replace hN4:=zH hN4;clear o4 oW sH hW4 r3 k3 f3 hK4;go_wp2_with fail;exact Vq rfl rfl rfl (YI.good hEE.out hAll.out (hN4.out.mono (by have:=yT.out.below.size;omega)) hDn.out P.out.1)
     ·have d1:decide ((f:Int)<256)=false:=decide_eq_false zO;have e1:((f:Int) == 256)=true:=by rw[beq_iff_eq];omega
      have hf6:f=256:=zO;have hEE:=zH (show Zz S lvl its=.error 9 by rw[hE.out,if_pos (.inl (qjJ fun j h8 hj=>oZ.out j h8 zO))]);have e0:=zH gQ;replace hf6:=zH hf6;clear gQ oV uP hfr oZ r2;go_upto_region 13 with fail;refine qp zQ ?_;refine qQ (w:=wr) qj (qH []) (List.replicate 22 true) 0 zQ zQ zQ zQ zQ zQ zQ ?st (Rel.drew _ _) ?walk
      case st=>exact qk (fun _ h=>by cases h)
      case walk =>
       intro K hK;dsimp only[qt,List.replicate];repeat ((first|(refine qd ?_ zA0 zA0 (fun W hW _=>⟨W,?_,Rel.refl _ W⟩) ?_;rotate_left;(go_simp<;>with_reducible rfl))|(refine qh zA0 ?_));try simp only[Act.put,ql,qg,qc,qf,zA,zB,zC])
       refine qv (hK _ _ fun W hW hF=>?_);clear hF hK;have hW:Ext wr W:=hW;have xE:Ext wm W:=e0.out.trans hW;clear e0 hW;refine zC4 ?_;replace xE:=zH xE;go_wp2;refine Qo ?_;go_wp2_with fail;exact Vq rfl rfl rfl (YI.bad hEE.out (yT.out.trans (Qe.of_ext xE.out bz.out.size.2.2.2.2.2.1) (Zx.refl _ _)))
end Go.Proofs.YtpbniokljofedaaGreat
