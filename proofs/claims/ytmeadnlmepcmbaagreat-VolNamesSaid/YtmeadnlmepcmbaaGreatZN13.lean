/- Lemmas of the proof. -/
import Derived.Test.YtmeadnlmepcmbaaGreatZN12
set_option linter.all false
set_option maxHeartbeats 8000000
open Go.Proofs.Tryz
namespace Go.Proofs.YtmeadnlmepcmbaaGreat
open Go.RowKit
def VU (nodes:Nat->Nat) (k:Nat):List Nat:=(List.range k).filter fun a=>decide (0<nodes a)
theorem qic (nodes:Nat->Nat) (k:Nat):VU nodes (k+1)=if 0<nodes k then VU nodes k++[k] else VU nodes k:=by
 unfold VU;rw[List.range_succ,List.filter_append];by_cases h:0<nodes k
 ·rw[if_pos h];simp[h]
 ·rw[if_neg h];simp[h]
theorem qdA (nodes:Nat->Nat) (k:Nat):(VU nodes k).length<=k:=by unfold VU;exact Nat.le_trans (List.length_filter_le _ _) zA2
def qhq (S:Sto) (root next:Int) (dead:List Int) (w:World) (e:Ending) (w':World):Prop:=Below w.heap.size w w' /\
 ((e=.returned (.tuple #[.slice none 0 0,.int .i64 8])/\∀ vs,Qo S root next dead vs->∃ refs nodes,qY S (Qj root dead vs) refs nodes/\¬QB S refs) \/
  ∃ vs refs nodes v lo,e=.returned (.tuple #[v,.int .i64 0])/\w.heap.size<=lo/\Qo S root next dead vs/\qY S (Qj root dead vs) refs nodes/\QB S refs/\w'.ownsRow lo 3 1 v (VU nodes 256).length (Js (VU nodes 256)))
structure N1 (nodes:Nat->Nat) (w2:World) (v i:Value) (wr:World):Prop where
 ex:∃ k:Nat,k<=256/\i=.int .i64 (k:Int)/\wr.ownsRow w2.heap.size 3 1 v (VU nodes k).length (Js (VU nodes k))/\Ext w2 wr
theorem qdC {R:Ending->World->Prop} {a:Act} {W:World} {u v:Value} (h2:a.tmps[2]?.getD undef=u) (h3:a.tmps[3]?.getD undef=v) (hd:a.defers=[]) (hR:R (.returned (.tuple #[u,v])) W):bodyPost prog Tryz.f74 R .ret a W:=by refine bodyPost_ret (v:=.tuple #[u,v]) ?_ hd hR;simp[results,results74,go_sem,h2,h3]
set_option maxRecDepth 100000 in
theorem qkm (A1 n1 c1 A2 n2 c2 A3 n3 c3 A4 n4 c4) (gen root next:Int) (A5 c5) (S:Sto) (dead:List Int) (w:World) (h:qZ w w.heap.size (.slice A1 n1 c1) (.slice A2 n2 c2) (.slice A3 n3 c3) (.slice A4 n4 c4) S) (hd:Zw w w.heap.size (.slice A5 dead.length c5) dead):Calls prog 74 #[.agg (qC (.slice A1 n1 c1) (.slice A2 n2 c2) (.slice A3 n3 c3) (.slice A4 n4 c4) gen root next (.slice A5 dead.length c5))] w (qhq S root next dead w):=by
 have HT:=zH (fun W (hx:Ext w W)=>KI A1 n1 c1 A2 n2 c2 A3 n3 c3 A4 n4 c4 gen root next A5 c5 S dead W (h.ext hx) (by obtain⟨A,c,e,q1,q2,q3⟩:=hd;exact⟨A,c,e,q1,q2,(q3.below hx).more hx.size⟩));clear h hd;go_enter func74,ntmps74;go_wp2_with fail;generalize hw1:World.alloc w _=w1;have x1:Ext w w1:=by rw[<-hw1];exact zN _ _
 clear hw1;refine(HT.out w1 x1).mono ?_;rintro e w2 ⟨hB,hQ⟩;have x2:Below w.heap.size w w2:=Ext.trans x1 hB;rcases hQ with ⟨rfl,hno⟩|⟨vs,refs,nodes,cb,ca,vv,rfl,hT⟩
 ·have HB:qhq S root next dead w (.returned (.tuple #[.slice none 0 0,.int .i64 8])) w2:=⟨x2,.inl ⟨rfl,hno⟩⟩
  replace HB:=zH HB;clear hno hB;go_wp2_with fail;exact qdC rfl rfl rfl HB.out
 ·have hcc:∀ j v,(YT nodes)[j]?=some v->w2.cell? ⟨cb,262+j,none⟩=some v:=fun j v hj=>by obtain⟨h1,rfl⟩:=qiP hj;rw[qa hT.row];exact hT.ar.node j h1
  replace hT:=zH hT;clear hB;go_wp2_with (refine KO rfl 94 (.tmp 17) rfl cb 262 rfl (YT nodes) _ hcc underlying94 rfl (by rw[show (YT nodes).length=256 by simp[YT]];kernel_rfl) ?_);clear hcc;go_loopw [2,19] (fun v i wq=>N1 nodes w2 v i wq) (fun _ i _=>256-(intOf i).toNat)
  case atStart=>exact⟨0,zO,rfl,World.ownsRow_nil _ _ _ _,Ext.refl _⟩
  case round =>
   obtain⟨k,hk,rfl,own,xr⟩:=hrel.ex;clear hrel;by_cases hlt:k<256
   ·have hix:=Th (cs:=(YT nodes).toArray) hlt (v:=.int .i64 (nodes k)) (by rw[List.getElem?_toArray];exact qaX nodes hlt);have hml:=qdA nodes k;generalize (YT nodes).toArray=arr at *;obtain⟨AR,cR,rfl,wSD,wSF⟩:=qB own;clear wSD wSF;replace own:=zH own;replace xr:=zH xr;have hsu:=zH (qic nodes k);rcases Nat.eq_zero_or_pos (nodes k) with h0|h0
    ·have hc1:decide ((nodes k:Int)>0)=false:=decide_eq_false zO;have hc2:decide (0<nodes k)=false:=decide_eq_false zO;have IR:N1 nodes w2 (.slice AR (VU nodes k).length cR) (.int .i64 ((k:Int)+1)) wr:=⟨k+1,hlt,rfl,by rw[hsu.out,if_neg zO];exact own.out,xr.out⟩
     replace IR:=zH IR;replace h0:=zH h0;go_wp2_with fail;refine⟨IR.out,?_⟩;simp[intOf];omega
    ·have hc1:decide ((nodes k:Int)>0)=true:=decide_eq_true zO;have hc2:decide (0<nodes k)=true:=decide_eq_true h0;obtain⟨i0,hi,hz0,hz1,hz2⟩:=info_parts Tryz.info_int;replace hml:=zH hml;replace h0:=zH h0;go_wp2_with (at_builtin;refine Qg ?_);refine QI.go (jF _ rfl (.tmp 25) (.tmp 27) 30 rfl w2.heap.size 3 i0 (.int .i64 0) 1 8 underlying30 hi hz0 hz1 hz2 rfl zD _ _ _ rfl own.out #[.int .i64 (k:Int)] rfl rfl zA7 (by have:=hml.out;omega) zD xr.out.size ?_);intro v8 w8 own8 _ hB8 _;have IR:N1 nodes w2 v8 (.int .i64 ((k:Int)+1)) w8:=⟨k+1,hlt,rfl,by rw[hsu.out,if_pos h0.out,Ya,List.length_append,List.length_singleton];exact own8,Below.trans xr.out hB8⟩
     replace IR:=zH IR;clear own8 hB8 hi hz0 hz1 hz2;go_wp2_with fail;refine⟨IR.out,?_⟩;simp[intOf];omega
   ·obtain rfl:k=256:=zO;have HB:qhq S root next dead w (.returned (.tuple #[_,.int .i64 0])) wr:=⟨x2.trans (Below.mono xr x2.size),.inr ⟨vs,refs,nodes,_,w2.heap.size,rfl,x2.size,hT.out.pool,hT.out.cnt,hT.out.enough,own⟩⟩
    replace HB:=zH HB;replace own:=zH own;replace xr:=zH xr;go_wp2_with fail;exact qdC rfl rfl rfl HB.out
end Go.Proofs.YtmeadnlmepcmbaaGreat
namespace Go.Proofs.YtmeadnlmepcmbaaGreat
open Go.RowKit Go.Shelf
attribute [local go_sem] Oper.semAt_some
theorem qbq (n:Nat) (hn:1<=n) (bs n₀:Nat) (v1 v2 v3 v4:Value) (S:Sto) (hS:ql S=true) (w:World) (hbs:bs<n₀) (hn₀:n₀<=w.heap.size) (hCA:w.heap[bs]?=some (.cells #[v1,v2,v3,v4] 28 (0,0))) (hst:qZ w n₀ v1 v2 v3 v4 S):SeqStopsK Fence.wide n prog 187 #[.pointer (some ⟨bs,0,none⟩)] (fun x:Nat=>#[.int .i64 (x:Int)]) (Below n₀) (fun ys=>ys=Zc S) (fun pre=>pre <+: Zc S) 256 w:=fun l J Jx W hW hJ _ hY h0 =>
 free_in n hn l bs n₀ v1 v2 v3 v4 S hS J Jx hY (fun pre W1 W2 h hx=>hJ pre W1 W2 none h ⟨hx.os,hx.tape,hx.output,hx.size,fun k hk _=>hx.block k hk⟩ (fun _ e=>by cases e)) W hbs (Nat.le_trans hn₀ hW.size) ((hW.block bs (Nat.lt_of_lt_of_le hbs hn₀)).trans hCA) (hst.below (Below.mono hW hn₀)) h0
theorem UI {w:World} {B:Nat} {e:TypeId} {size:Nat} {v:Value} {n:Nat} {xs:List Value} (h:w.ownsRow B e size v n xs):∀ g,v.ownBlock=some g->∃ c fz,w.heap[g]?=some (.cells c e fz):=by
 intro g hg;rcases h.2 with ⟨rfl,_⟩|⟨b,cap,cur,rfl,_,h2,_⟩
 ·simp[Value.ownBlock] at hg
 ·simp[Value.ownBlock] at hg;subst hg;exact⟨cur,(0,0),h2⟩
theorem own_down {w:World} {B B':Nat} {e:TypeId} {size:Nat} {v:Value} {n:Nat} {xs:List Value} (h:w.ownsRow B e size v n xs) (hb:B'<=B):w.ownsRow B' e size v n xs:=by
 rcases h with ⟨h1,h2|⟨g,cap,cur,e1,h3,h4⟩⟩
 ·exact⟨h1,.inl h2⟩
 ·exact⟨h1,.inr ⟨g,cap,cur,e1,zO,h4⟩⟩
theorem qeQ {w:World} {B:Nat} {e:TypeId} {size:Nat} {v:Value} {n:Nat} {xs:List Value} (h:w.ownsRow B e size v n xs) {D:Nat} {o:Obj} (hD:w.heap[D]?=some o) (ho:o.isCells=false):v.ownBlock=none\/v.ownBlock≠some D:=by refine .inr fun hv=>?_;obtain⟨c,fz,h3⟩:=UI h D hv;rw[hD] at h3;cases h3;cases ho
theorem GN {B:Nat} {W W':World} {row:Option Nat} (hg:W.grownBy W' row) (hr:∀ g,row=some g->B<=g) (hB:B<=W.heap.size:=by omega):Below B W W':=(Below.refl _ _).grown hg hB (fun k e=>hr k e)
theorem qaa {w w':World} {B:Nat} {e:TypeId} {size:Nat} {v:Value} {n:Nat} {xs:List Value} (h:w.ownsRow B e size v n xs) (hg:w.grownBy w' v.ownBlock):KeepsOthers w w':=⟨hg.size,fun k o hk ho=>(hg.block k (zG.1 hk).1 (fun e1=>by obtain⟨c,fz,h3⟩:=UI h k e1.symm;rw[hk] at h3;cases h3;cases ho)).trans hk⟩
theorem qeO {B:Nat} (b base:Nat) (ty ety:TypeId):OwnFrom B (fun (pre:List Nat) W=>∃ v,W.heap[b]?=some (.cells #[v] ty (0,0))/\W.ownsRow base ety 1 v pre.length (Js pre)):=fun s A C row ⟨v,h1,h2⟩ hg hr =>
 ⟨v,Qb (β:=Unit) _ _ _ _ () A C row h1 hg hr,h2.kept hg (by
  rcases hv:v.ownBlock with _|g
  ·exact .inl rfl
  ·refine .inr fun e=>?_;obtain⟨_,o,ho,hc⟩:=hr g e.symm;rcases UI h2 g hv with ⟨c,fz,h3⟩;rw[ho] at h3;cases h3;cases hc)⟩
set_option maxRecDepth 100000 in
theorem qeg (n:Nat) (h3:3<=n) (bs:Nat) (v1 v2 v3 v4:Value) (S:Sto) (hS:ql S=true) (w:World) (hbs:bs<w.heap.size) (hCA:w.heap[bs]?=some (.cells #[v1,v2,v3,v4] 28 (0,0))) (hst:qZ w w.heap.size v1 v2 v3 v4 S):CallsIn Fence.wide n prog 190 #[.slice none 0 0,.func (.func 187) #[] #[.pointer (some ⟨bs,0,none⟩)]] w fun e W'=>∃ v,e=.returned v/\Below w.heap.size w W'/\W'.ownsRow (w.heap.size+1) 3 1 v (Zc S).length (Js (Zc S)):=by
 have h1:1<=n:=zO;refine callsIn_of_wp_marks func190 rfl trivial ?_ rfl;simp only[ntmps190,List.size_toArray,List.length_cons,List.length_nil,Nat.reduceAdd,Nat.reduceSub,Array.replicate_succ,Array.replicate_zero,List.push_toArray,List.append_toArray,List.nil_append,List.cons_append]
 gi_wp2_with fail
 have x1:Ext w (w.alloc (.cells #[.slice none 0 0] 30)):=zN _ _;obtain⟨i0,hi,hz0,hz1,hz2⟩:=info_parts Tryz.info_int;refine wpIn_rangeFunc_ownH rfl h1 (gf:=187) (lb:=#[.pointer (some ⟨bs,0,none⟩)]) rfl trivial (enters_of func187 zQ rfl)
  (qbq (n-1) zO bs w.heap.size v1 v2 v3 v4 S hS _ hbs zA2 (qb hCA x1) (hst.below x1)) Below.trans (belowK_b zA2) (Below.refl _ _) (fun _=>rfl)
  (fun pre W=>(∃ v,W.heap[w.heap.size]?=some (.cells #[v] 30 (0,0))/\W.ownsRow (w.heap.size+1) 3 1 v pre.length (Js pre))/\Below w.heap.size w W)
  (fun _ _ _=>False)
  (OwnFrom.and (qeO _ _ _ _) (ownFrom_below (zM _) zA2))
  (fun _ _ _ _ _ hs _ _=>hs)
  ⟨⟨.slice none 0 0,zI _ _ _ rfl,World.ownsRow_nil _ _ _ _⟩,x1⟩
  (fun x a' _=>a'={ tmps:=#[.slice none 0 0,.func (.func 187) #[] #[.pointer (some ⟨bs,0,none⟩)],.pointer (some ⟨w.heap.size,0,none⟩),undef,.slice none 0 0,.int .i64 (x:Int),.func (.func 187) #[] #[.pointer (some ⟨bs,0,none⟩)],.int .i64 (x:Int),undef,undef,undef,undef,undef],defers:=[] })
  (fun x a'=>Jp _ _) ?assign ?body ?done ?stop
 case assign =>
  rintro l pre x W K hI hK
  gi_wp2_with fail
  exact hK _ _ (KeepsFrom.refl _ _) (Below.refl _ _) hI rfl
 case body =>
  rintro l pre x a' W hl - ⟨⟨v,hr,hBQ⟩,hB⟩ rfl hpl;have kr:=qa hr;have zb:w.heap.size<W.heap.size:=(zG.1 hr).1;have hne:v.ownBlock≠some w.heap.size:=fun e=>by have:=(QZ hBQ _ e).1;omega
  obtain⟨Av,cv,rfl,-,-⟩:=qB hBQ
  gi_wp2_with (gi_at_builtin;refine Tm ?_)
  refine QI.go (Tl W rfl (.tmp 8) (.tmp 10) 30 rfl (w.heap.size+1) 3 i0 _ 1 8 underlying30 hi hz0 hz1 hz2 rfl zD (.slice Av pre.length cv) pre.length _ zE hBQ #[.int .i64 (x:Int)] zE rfl zA7 zO zD zO ?_);intro v' W3 hNX hg hat;have hg0:∀ g,(Value.slice Av pre.length cv).ownBlock=some g->w.heap.size+1<=g:=fun g e=>(QZ hBQ _ e).1;have hr3:W3.heap[w.heap.size]?=_:=(hg.block _ zb (fun e=>hne e.symm)).trans hr;have kr3:=qa hr3;have fr3:=qd hr3;have hB3:Below w.heap.size W W3:=GN hg fun g e=>by have:=hg0 g e;omega
  have hg3:∀ g,v'.ownBlock=some g->w.heap.size+1<=g:=fun g e=>(QZ hNX _ e).1;have wCC:KeepsOthers W W3:=qaa hBQ hg;replace hg:=zH hg;replace hBQ:=zH hBQ;replace hat:=zH hat;obtain⟨Av',cv',rfl,-,-⟩:=qB hNX;replace hNX:=zH hNX
  gi_wp2_with fail
  refine⟨(wCC.trans (KeepsOthers.setCell _ _ _)).from _,hB3.setCell (p:=⟨w.heap.size,0,none⟩) (zM _) _,⟨_,qi hr3 0 _,?_⟩,hB.trans (hB3.setCell (p:=⟨w.heap.size,0,none⟩) (zM _) _)⟩;rw[List.length_append,List.length_singleton,Ya];exact hNX.out.kept (grownBy_setCell' _ _ _) (.inr fun e=>by have:=hg3 _ e;omega)
 case done =>
  rintro D ys W hD rfl ⟨⟨v,hr,hBQ⟩,hB⟩ hK;have kr:=qa hr
  gi_wp2_with fail
  refine⟨zA2,.inl ⟨_,_,rfl,run_takeDeferred hK,?_⟩⟩;exact⟨_,results_tmp rfl _ _ _,v,rfl,hB.trans (belowK_b (w:=w) (zM _) W D _ _ (by simp at hD;omega) hK rfl rfl),hBQ.kept (grownBy_putObj' W D _) (qeQ hBQ hK rfl)⟩
 case stop =>rintro D c pre W _ _ h _;exact h.elim
def RFreeQ (S:Sto) (w:World) (e:Ending) (w':World):Prop:=Below w.heap.size w w' /\
 ((ql S=false/\e=.returned (.tuple #[.slice none 0 0,.int .i64 8]))\/(ql S=true/\∃ v,e=.returned (.tuple #[v,.int .i64 0])/\w'.ownsRow w.heap.size 3 1 v (Zc S).length (Js (Zc S))))
set_option maxRecDepth 100000 in
theorem qfQ (bs:Nat) (v1 v2 v3 v4:Value) (S:Sto) (hS:ql S=true) (w:World) (hbs:bs<w.heap.size) (hCA:w.heap[bs]?=some (.cells #[v1,v2,v3,v4] 28 (0,0))) (hst:qZ w w.heap.size v1 v2 v3 v4 S):Calls prog 154 #[.func (.func 187) #[] #[.pointer (some ⟨bs,0,none⟩)]] w fun e W'=>∃ v,e=.returned v/\Below w.heap.size w W'/\W'.ownsRow (w.heap.size+1) 3 1 v (Zc S).length (Js (Zc S)):=by
 go_enter func154,ntmps154;go_wp2_with fail;refine((callsIn_wide (n:=3)).1 (qeg 3 zO bs v1 v2 v3 v4 S hS w hbs hCA hst)).mono ?_;rintro e w2 ⟨v,rfl,hB,hBQ⟩;obtain⟨A,c,rfl,-,-⟩:=qB hBQ;replace hBQ:=zH hBQ;go_wp2_with fail;go_ret;exact⟨_,rfl,hB,hBQ.out⟩
theorem qbm (A1 n1 c1 A2 n2 c2 A3 n3 c3 A4 n4 c4) (w:World):Calls prog 147 #[Qk A1 n1 c1 A2 n2 c2 A3 n3 c3 A4 n4 c4] w (fun e w'=>e=.returned (.func (.func 187) #[] #[.pointer (some ⟨w.heap.size,0,none⟩)])/\w'=w.alloc (.cells #[.slice A1 n1 c1,.slice A2 n2 c2,.slice A3 n3 c3,.slice A4 n4 c4] 28)):=by
 go_enter func147,ntmps147;go_wp2;go_ret;exact⟨rfl,rfl⟩
theorem qdO {R:Ending->World->Prop} {a:Act} {W:World} {u v:Value} (h2:a.tmps[2]?.getD undef=u) (h3:a.tmps[3]?.getD undef=v) (hd:a.defers=[]) (hR:R (.returned (.tuple #[u,v])) W):bodyPost prog Tryz.f100 R .ret a W:=by refine bodyPost_ret (v:=.tuple #[u,v]) ?_ hd hR;simp[results,results100,go_sem,h2,h3]
set_option maxRecDepth 100000 in
theorem qdN (A1 n1 c1 A2 n2 c2 A3 n3 c3 A4 n4 c4) (S:Sto) (w:World) (h:qZ w w.heap.size (.slice A1 n1 c1) (.slice A2 n2 c2) (.slice A3 n3 c3) (.slice A4 n4 c4) S):Calls prog 100 #[Qk A1 n1 c1 A2 n2 c2 A3 n3 c3 A4 n4 c4] w (RFreeQ S w):=by
 have HC:=zH (fun W (hx:Ext w W)=>Ji A1 n1 c1 A2 n2 c2 A3 n3 c3 A4 n4 c4 S W (h.ext hx));replace h:=zH h;go_enter func100,ntmps100;go_wp2_with fail;generalize hw1:(World.alloc w _)=w1;have x1:Ext w w1:=by rw[<-hw1];exact zN _ _
 have r1:w1.heap[w.heap.size]?=some (.cells #[.slice A1 n1 c1,.slice A2 n2 c2,.slice A3 n3 c3,.slice A4 n4 c4] 28 (0,0)):=by rw[<-hw1];exact zI _ _ _ rfl
 clear hw1;refine(HC.out w1 x1).mono ?_;clear HC;rintro e w2 ⟨rfl,hB⟩;have x2:Ext w w2:=x1.trans hB;have r2:=qb r1 hB;have k2:=qa r2;clear hB r1 x1;rcases hS:ql S with _|_
 ·rw[Jl rfl];replace hS:=zH hS;go_wp2_with fail;exact qdO rfl rfl rfl ⟨x2,.inl ⟨hS.out,rfl⟩⟩
 ·rw[JG rfl];go_wp2_with fail;refine(qbm A1 n1 c1 A2 n2 c2 A3 n3 c3 A4 n4 c4 w2).mono ?_;rintro e w3 ⟨rfl,rfl⟩;have x3:Ext w2 (w2.alloc (.cells #[.slice A1 n1 c1,.slice A2 n2 c2,.slice A3 n3 c3,.slice A4 n4 c4] 28)):=zN _ _;have r3:(w2.alloc (.cells #[.slice A1 n1 c1,.slice A2 n2 c2,.slice A3 n3 c3,.slice A4 n4 c4] 28)).heap[w2.heap.size]?=_:=zI _ _ _ rfl;have h3:=h.out.ext (x2.trans x3);generalize hw3:w2.alloc _=w3 at *;have s3:w2.heap.size<w3.heap.size:=(zG.1 r3).1;go_wp2_with fail;refine(qfQ w2.heap.size _ _ _ _ S hS w3 s3 r3 h3).mono ?_;rintro e w4 ⟨v,rfl,hB4,hBQ⟩;obtain⟨A,c,rfl,-,-⟩:=qB hBQ;have HR:RFreeQ S w (.returned (.tuple #[.slice A (Zc S).length c,.int .i64 0])) w4:=⟨Ext.trans (x2.trans x3) hB4,.inr ⟨hS,_,rfl,own_down hBQ (by have:=(x2.trans x3).size;omega)⟩⟩
  replace HR:=zH HR;replace hBQ:=zH hBQ;replace hS:=zH hS;clear hw3 r3 r2 k2;go_wp2_with fail;exact qdO rfl rfl rfl HR.out
end Go.Proofs.YtmeadnlmepcmbaaGreat
namespace Go.Proofs.YtmeadnlmepcmbaaGreat
open Go.RowKit
section
variable {F0:Fence} {P:Program} {ops:Array Oper} {n:Nat}
theorem qkK {Q:Exit->Act->World->Prop} {i:Nat} {a:Act} {w:World} {K K':Act->World->Prop} (hK:∀ a w,K a w->K' a w) (h:wpOpIn F0 n P ops (QN Q) i K a w):wpOpIn F0 n P ops Q i K' a w:=by
 unfold wpOpIn at *;split
 ·exact hK _ _ (by simpa [*] using h)
 ·rename_i o ho;simp only[ho] at h;split
  ·rename_i hw;simp only[hw,if_true] at h;refine⟨h.1,?_⟩;replace h:=h.2;generalize (o.semAt F0.round a.eval).run P w=r at *;cases r with
   |ok m w' =>
    cases m <;> simp only[Oper.uponIn] at h ⊢ <;>
     first
      |exact hK _ _ h
      |exact⟨h.1,CallsIn.mono h.2 (fun e w'' he=>by cases e <;> first|exact hK _ _ he|exact absurd he ja|exact False.elim he)⟩
      |exact⟨h.1,RowsIn.mono h.2 (fun _ _ he=>hK _ _ he)⟩
      |exact⟨h.1,RoundIn.mono h.2 (fun e w'' he=>by cases e <;> first|exact hK _ _ he|exact absurd he ja|exact False.elim he)⟩
   |halt x w'=>cases x <;> simp only[Oper.uponIn] at h ⊢ <;> exact False.elim h
  ·rename_i hw;simp only[hw] at h;exact⟨h.1,hK _ _ h.2⟩
theorem qcA {Q:Exit->Act->World->Prop}:∀ (fuel:Nat) (listed:Array Bool) (a:Act) (w:World),wpAnyIn F0 n P .any ops (QN Q) fuel listed a w->wpAnyIn F0 n P .any ops Q fuel listed a w
 |0,_,_,_,h=>⟨h.1,h.2⟩
 |fuel+1,listed,a,w,h=>⟨h.1,fun i hi=>qkK (fun a w h=>qcA fuel _ a w h) (h.2 i hi)⟩
theorem qfe (HF:GL F0) (HN:Yi ops=true) {Q:Exit->Act->World->Prop} {z:Nat} {oz:Oper} {v:Value} (hz:ops[z]?=some oz) (hRI:∀ (j:Nat) (o:Oper) cs b,ops[j]?=some o->o.op≠.select cs b) : ∀ (fuel:Nat) (listed:Array Bool) (a:Act) (W:World), (∀ j oj,ops[j]?=some oj->j≠z->listed.getD j true=false->(∀ e∈oj.after,Region.binds .any e=true->e.on≠z)->oz.apart ops oj=true) ->
   z∈Region.ready .any ops listed->Region.wanted oz (yielded ops a.tmps)=true->(∀ W,(execOp a.eval oz).run P W=.ok (.value v) W) ->
   wpAnyIn F0 n P .any ops (QN Q) fuel (listed.setIfInBounds z true) (a.put oz.dst v) W->wpAnyIn F0 n P .any ops (QN Q) (fuel+1) listed a W:=by
 have first:∀ (K:Act->World->Prop) (a:Act) (W:World),Region.wanted oz (yielded ops a.tmps)=true->(∀ W,(execOp a.eval oz).run P W=.ok (.value v) W)->K (a.put oz.dst v) W->wpOpIn F0 n P ops (QN Q) z K a W:=by intro K a W hw hp h;unfold wpOpIn;simp only[hz,hw,if_true];refine⟨fun f _=>HF.fn f,?_⟩;rw[Oper.semAt_eq _ _ _ (Vv HN hz),hp];exact h
 intro fuel;induction fuel with
 |zero =>
  intro listed a W hJQ hr hw hp h;refine⟨fun h0=>(by rw[h0] at hr;cases hr),fun i hi=>?_⟩;by_cases hiz:i=z
  ·subst hiz;exact first _ a W hw hp h
  ·exfalso;have:=ready_mono hi hiz;rw[h.1] at this;cases this
 |succ fuel ih =>
  intro listed a W hJQ hr hw hp h;refine⟨fun h0=>(by rw[h0] at hr;cases hr),fun i hi=>?_⟩;by_cases hiz:i=z
  ·subst hiz;exact first _ a W hw hp h
  ·have hi2:=h.2 i (ready_mono hi hiz);obtain⟨hVK,oi,hoi,hRC⟩:=mem_ready.1 hi;obtain⟨xBU,_,_,_⟩:=mem_ready.1 hr;have bad:∀ k,listed.getD k true=false->listed.getD k false=true->False:=fun k h0 h1=>by
    rcases Nat.lt_or_ge k listed.size with h'|h'
    ·simp[h'] at h0 h1;rw[h0] at h1;cases h1
    ·simp[Array.getElem?_eq_none h'] at h1
   have hap:=hJQ i oi hoi hiz hVK (fun e he hb heq=>bad z xBU (heq ▸ hRC e he hb));obtain⟨h1,h2,h3⟩:=Oper.apart_spec hap;have hsi:∀ cs b,oi.op≠.select cs b:=fun cs b=>hRI i oi cs b hoi;have hsz:∀ cs b,oz.op≠.select cs b:=fun cs b=>hRI z oz cs b hz;have step:∀ (b:Act) (u:Value) (w':World),b.tmps=a.tmps->wpAnyIn F0 n P .any ops (QN Q) fuel ((listed.setIfInBounds z true).setIfInBounds i true) ((b.put oz.dst v).put oi.dst u) w'->wpAnyIn F0 n P .any ops (QN Q) (fuel+1) (listed.setIfInBounds i true) (b.put oi.dst u) w':=by
    intro b u w' hb hh;rw[Act.put_comm b v u h2,Array.setIfInBounds_comm _ _ (fun e=>hiz e.symm)] at hh;have hev:b.eval=a.eval:=by funext x;cases x <;> simp[Act.eval,hb]
    refine ih _ _ w' (fun j oj hoj hjz hJI hno=>?_) (ready_mono hr (Ne.symm hiz)) ?_ (fun W=>?_) hh
    ·refine hJQ j oj hoj hjz ?_ hno;by_cases hij:i=j
     ·subst hij;exact hVK
     ·rw[getD_set_ne true hij] at hJI;exact hJI
    ·rw[wanted_put oz b oi.dst u h3,hb];exact hw
    ·rw[execOp_put oz hsz b oi.dst u h3,hev];exact hp W
   unfold wpOpIn at hi2 ⊢;simp only[hoi] at hi2 ⊢;rw[wanted_put oi a oz.dst v h1] at hi2;split
   ·rename_i hw';rw[if_pos hw'] at hi2;refine⟨fun f _=>HF.fn f,?_⟩;replace hi2:=hi2.2;rw[Oper.semAt_eq _ _ _ (Vv HN hoi)] at hi2 ⊢;rw[execOp_put oi hsi a oz.dst v h1] at hi2;generalize (execOp a.eval oi).run P W=r at *;cases r with
    |ok m w' =>
     cases m <;> simp only[Oper.uponIn] at hi2 ⊢
     case value u=>exact step a u w' rfl hi2
     case skip=>exact step a undef w' rfl hi2
     case defer d =>
      refine step { a with defers:=d :: a.defers } undef w' rfl ?_;have e:({ a.put oz.dst v with defers:=d :: (a.put oz.dst v).defers }:Act)=({ a with defers:=d :: a.defers }:Act).put oz.dst v:=by cases oz.dst <;> rfl
      rw[<-e];exact hi2
     case enter f args=>exact⟨hi2.1,CallsIn.mono hi2.2 (fun e w'' he=>by cases e <;> first|exact step a _ _ rfl he|exact absurd he ja|exact False.elim he)⟩
     case row=>exact⟨hi2.1,RowsIn.mono hi2.2 (fun _ _ he=>step a _ _ rfl he)⟩
     case round=>exact⟨hi2.1,RoundIn.mono hi2.2 (fun e w'' he=>by cases e <;> first|exact step a _ _ rfl he|exact absurd he ja|exact False.elim he)⟩
    |halt x w'=>cases x <;> simp only[Oper.uponIn] at hi2 ⊢ <;> exact False.elim hi2
   ·rename_i hw';rw[if_neg hw'] at hi2;exact⟨fun f _=>HF.fn f,step a undef W rfl hi2.2⟩
theorem qbZ {id:Nat} {l:List Oper} {Q:Exit->Act->World->Prop} {a:Act} {w:World} (hm:P.follows .mixedOrders=true) (h:wpAnyIn F0 n P .any l.toArray (QN Q) l.length (Array.replicate l.length false) a w.drew):(Code.region id l.toArray true).wpIn F0 n P Q a w:=
 wpIn_region_any hm (by simpa using qcA _ _ _ _ h)
theorem qht {l:List Oper} {Q:Exit->Act->World->Prop} {m:Nat} {listed:Array Bool} {a:Act} {W:World} (HF:GL F0) (HN:Yi l.toArray=true) (z fuel:Nat) {oz:Oper} (v:Value) (hn:m=fuel+1) (hz:l.toArray[z]?=some oz) (hs:Region.noSelect l.toArray=true) (hf:Region.free .any l.toArray listed z=true) (hr:(Region.ready .any l.toArray listed).contains z=true) (hw:Region.wanted oz (yielded l.toArray a.tmps)=true) (hp:∀ W,(execOp a.eval oz).run P W=.ok (.value v) W) (h:wpAnyIn F0 n P .any l.toArray (QN Q) fuel (listed.setIfInBounds z true) (a.put oz.dst v) W):wpAnyIn F0 n P .any l.toArray (QN Q) m listed a W:=
 hn ▸ qfe HF HN hz (Region.noSelect_spec hs) fuel listed a W (Region.free_spec hz hf) (by simpa using hr) hw hp h
theorem qfu {l:List Oper} {Q:Exit->Act->World->Prop} {fuel:Nat} {listed:Array Bool} {a:Act} {w W:World} (HF:GL F0) (HN:Yi l.toArray=true) (R:Rel) (H:Nat->Option Qe) (M:List Bool) (t:Nat) (hs:Region.noSelect l.toArray=true) (ht:qdZ l.toArray (QO l.length (l.length-t)) ((qw 0 l M).map (·.1))=true) (hc0:KW l.toArray listed=true) (hB:ZS l.toArray (QO l.length (l.length-t)) ((qw 0 l M).map (·.1)) listed=true) (hXB:UN l.toArray t (l.length-t) (QO l.length (l.length-t))=true) (hfu:fuel=(qw 0 l M).length+t) (htl:(l.drop (l.length-t)).length=t) (hH:∀ i h,H i=some h->∀ p,qJ R (h.φ p)) (hW:R.r w W) (h:∀ K:Act->qS->Prop,(∀ a' F',(∀ W,R.r w W->(∀ k,F' k W)->wpListIn F0 n P l.toArray Q (l.drop (l.length-t)) a' W)->K a' F')->jd R P l.toArray w H K (qw 0 l M) a (fun _ _=>True)):wpAnyIn F0 n P .any l.toArray Q fuel listed a W:=by
 have h:=h _ (fun a' F' hh=>hh);subst hfu;have key:=Kg (w0:=w) hH hs (fun _ _ h=>h.step) (Yx ht) (qw 0 l M) listed a (fun _ _=>True) (JX hc0) (fun x hx=>by obtain⟨j,h1,h2⟩:=vj l M 0 x hx;refine⟨?_,List.mem_map.2 ⟨x,hx,rfl⟩⟩;rw[h1,Nat.zero_add];simpa using h2) hB (fun _ _ _ _ _=>trivial) ⟨W,hW,fun _=>trivial⟩ (fun _ _ _=>trivial) h;exact vP HF HN (n:=n) (w0:=w) hH (t:=t) (Q':=Q) (fun a F W hq hW hF=>by
  have:=Xt (F:=F0) (n:=n) (l.drop (l.length-t)) (l.length-t) _ a W (fun j _=>by rw[List.getElem?_drop];simp) (by rw[htl];exact hXB) (hq W hW hF)
  rwa [htl] at this) _ _ _ _ W (fun _ _ _ _ _=>trivial) hW (fun _=>trivial) key
end


end Go.Proofs.YtmeadnlmepcmbaaGreat
namespace Go.Proofs.YtmeadnlmepcmbaaGreat
open Go.RowKit Go.Shelf
attribute [local go_sem] Oper.semAt_some
def Qm (S:Sto):Nat:=(Zc S).headD 0
def Vr (S:Sto) (data:List UInt8):Int:=if ql S=true then (if data.length=128 then (if Zc S=[]\/S.ws.length=4096 then 9 else 0) else 3) else 8
def ZF (S:Sto) (a:Nat) (data:List UInt8):Sto:=⟨S.bs,S.ws++[((a:Int),data)],S.now.set a 1,S.last⟩
def RTakeQ (S:Sto) (data:List UInt8) (lo:Nat) (u:Value) (W:World):Prop:=(Vr S data≠0/\u=.tuple #[sto0,.int .i64 0,.int .i64 (Vr S data)])\/(Vr S data=0/\∃ v,u=.tuple #[v,.int .i64 (Qm S:Int),.int .i64 0]/\qhp lo (ZF S (Qm S) data) v W)
theorem KeepsOthers.of_ext {W W':World} (h:Ext W W'):KeepsOthers W W':=⟨h.size,fun k _ hk _=>(h.block k (zG.1 hk).1).trans hk⟩
theorem qdT {n b:Nat} {R:Ending->World->Prop} {a:Act} {W:World} {x0 x1 x2 x3 y z:Value} (h4:a.tmps[4]?.getD undef=.pointer (some ⟨b+1+1,0,none⟩)) (h5:a.tmps[5]?.getD undef=.pointer (some ⟨b+1+1+1,0,none⟩)) (h6:a.tmps[6]?.getD undef=.pointer (some ⟨b+1+1+1+1,0,none⟩)) (hd:a.defers=[]) (r4:W.heap[b+2]?=some (.cells #[x0,x1,x2,x3] 28 (0,0))) (r5:W.heap[b+3]?=some (.cells #[y] 3 (0,0))) (r6:W.heap[b+4]?=some (.cells #[z] 37 (0,0))) (hR:R (.returned (.tuple #[.agg #[x0,x1,x2,x3],y,z])) W):bodyPostM Fence.wide n prog Tryz.f90 R .ret a W:=by
 have k4:=qa r4;have k5:=qa r5;have k6:=qa r6;change LeavesInM Fence.wide n prog Tryz.f90 a.tmps R a.defers .returning W;rw[hd];refine⟨.tuple #[.agg #[x0,x1,x2,x3],y,z],?_,hR⟩;simp[results,results90,go_sem,h4,h5,h6,k4,k5,k6]
theorem qch {n b D:Nat} {R:Ending->World->Prop} {a:Act} {W:World} {x0 x1 x2 x3 y z:Value} (h4:a.tmps[4]?.getD undef=.pointer (some ⟨b+1+1,0,none⟩)) (h5:a.tmps[5]?.getD undef=.pointer (some ⟨b+1+1+1,0,none⟩)) (h6:a.tmps[6]?.getD undef=.pointer (some ⟨b+1+1+1+1,0,none⟩)) (hd:a.defers=[{ target:=.collected D,args:=#[] }]) (hK:W.heap[D]?=some (.deferred (some []))) (hD:b+4<D) (r4:W.heap[b+2]?=some (.cells #[x0,x1,x2,x3] 28 (0,0))) (r5:W.heap[b+3]?=some (.cells #[y] 3 (0,0))) (r6:W.heap[b+4]?=some (.cells #[z] 37 (0,0))) (hR:R (.returned (.tuple #[.agg #[x0,x1,x2,x3],y,z])) (W.putObj D (.deferred none))):bodyPostM Fence.wide n prog Tryz.f90 R .ret a W:=by
 have k4:=qa ((World.putObj_heap_other (o:=.deferred none) (show b+2≠D by omega)).trans r4);have k5:=qa ((World.putObj_heap_other (o:=.deferred none) (show b+3≠D by omega)).trans r5);have k6:=qa ((World.putObj_heap_other (o:=.deferred none) (show b+4≠D by omega)).trans r6);change LeavesInM Fence.wide n prog Tryz.f90 a.tmps R a.defers .returning W;rw[hd];refine⟨zA2,.inl ⟨_,_,rfl,run_takeDeferred hK,.tuple #[.agg #[x0,x1,x2,x3],y,z],?_,hR⟩⟩;simp[results,results90,go_sem,h4,h5,h6,k4,k5,k6]
theorem Vg {w W:World} {x0 x1 x2 x3 y z:Value} {ty1 ty2 ty3:TypeId} {u0 u1 u2 u3 u5 u6:Value} (r4:W.heap[w.heap.size+2]?=some (.cells #[u0,u1,u2,u3] ty1 (0,0))) (r5:W.heap[w.heap.size+3]?=some (.cells #[u5] ty2 (0,0))) (r6:W.heap[w.heap.size+4]?=some (.cells #[u6] ty3 (0,0))) {C:World} (hC:C=((((((W.setCell ⟨w.heap.size+1+1,0,none⟩ x0).setCell ⟨w.heap.size+1+1,1,none⟩ x1).setCell ⟨w.heap.size+1+1,2,none⟩ x2).setCell ⟨w.heap.size+1+1,3,none⟩ x3).setCell ⟨w.heap.size+1+1+1,0,none⟩ y).setCell ⟨w.heap.size+1+1+1+1,0,none⟩ z)):C.heap[w.heap.size+2]?=some (.cells #[x0,x1,x2,x3] ty1 (0,0))/\C.heap[w.heap.size+3]?=some (.cells #[y] ty2 (0,0))/\C.heap[w.heap.size+4]?=some (.cells #[z] ty3 (0,0))/\(∀ {B:Nat} {w0:World},B<=w.heap.size+2->Below B w0 W->Below B w0 C)/\C.heap.size=W.heap.size/\(∀ k,w.heap.size+5<=k->C.heap[k]?=W.heap[k]?)/\KeepsOthers W C:=by
 subst hC;have hs:=fun (A:World) (b j:Nat) (v:Value) (k:Nat) (hk:k≠b)=>zJ A ⟨b,j,none⟩ v k hk;refine⟨?_,?_,?_,fun hB h=>?_,zA2,fun k hk=>?_,?_⟩
 ·rw[hs _ _ _ _ _ zO,hs _ _ _ _ _ zO];exact Vn r4 x0 x1 x2 x3
 ·rw[hs _ _ _ _ _ zO];refine qi (t:=ty2) (cs:=#[u5]) ?_ 0 y;rw[hs _ _ _ _ _ zO,hs _ _ _ _ _ zO,hs _ _ _ _ _ zO,hs _ _ _ _ _ zO];exact r5
 ·refine qi (t:=ty3) (cs:=#[u6]) ?_ 0 z;rw[hs _ _ _ _ _ zO,hs _ _ _ _ _ zO,hs _ _ _ _ _ zO,hs _ _ _ _ _ zO,hs _ _ _ _ _ zO];exact r6
 ·exact Below.setCell (Below.setCell (zm h (b:=w.heap.size+1+1) zO x0 x1 x2 x3) (p:=⟨w.heap.size+1+1+1,0,none⟩) zA1 _) (p:=⟨w.heap.size+1+1+1+1,0,none⟩) zA1 _
 ·rw[hs _ _ _ _ _ zO,hs _ _ _ _ _ zO,hs _ _ _ _ _ zO,hs _ _ _ _ _ zO,hs _ _ _ _ _ zO,hs _ _ _ _ _ zO]
 ·exact(((((KeepsOthers.setCell _ _ _).trans (KeepsOthers.setCell _ _ _)).trans (KeepsOthers.setCell _ _ _)).trans (KeepsOthers.setCell _ _ _)).trans (KeepsOthers.setCell _ _ _)).trans (KeepsOthers.setCell _ _ _)
def TakeB (w:World) (S:Sto) (data:List UInt8) (x:Nat) (Wb:World):Prop:=∃ x0 x1 x2 x3 y e,Wb.heap[w.heap.size+2]?=some (.cells #[x0,x1,x2,x3] 28 (0,0))/\Wb.heap[w.heap.size+3]?=some (.cells #[.int .i64 y] 3 (0,0))/\Wb.heap[w.heap.size+4]?=some (.cells #[.int .i64 e] 37 (0,0)) /\
 ((e≠0/\e=JS S.bs S.ws (x:Int) data/\y=0/\Value.agg #[x0,x1,x2,x3]=sto0)\/(e=0/\JS S.bs S.ws (x:Int) data=0/\y=(x:Int)/\∃ B1 d1 B2 d2 B3 d3 B4 d4,(x0=.slice B1 S.bs.length d1/\x1=.slice B2 (S.ws.length+1) d2/\x2=.slice B3 S.now.length d3/\x3=.slice B4 S.last.length d4) /\
  ∀ C:World,(∀ q:Addr,w.heap.size+5<=q.block->q.block<Wb.heap.size->C.cell? q=(thaw Wb).cell? q)->qZ C Wb.heap.size x0 x1 x2 x3 (ZF S x data)))
theorem qcF {S:Sto} {x:Nat} {data:List UInt8} (h:JS S.bs S.ws (x:Int) data=0):XU (QM S.bs S.ws) (x:Int)=0/\x<256:=by
 unfold JS at h;split at h
 ·rename_i h1;exact absurd h h1
 ·rename_i h1;have h2:XU (QM S.bs S.ws) (x:Int)=0:=by simpa using h1
  refine⟨h2,?_⟩;unfold XU at h2;split at h2
  ·split at h2
   ·omega
   ·cases h2
  ·cases h2
set_option maxRecDepth 100000 in
theorem qkz (A1 n1 c1 A2 n2 c2 A3 n3 c3 A4 n4 c4) (S:Sto) (A c) (data:List UInt8) (w:World) (h:qZ w w.heap.size (.slice A1 n1 c1) (.slice A2 n2 c2) (.slice A3 n3 c3) (.slice A4 n4 c4) S) (hd:Bys w w.heap.size (.slice A data.length c) data):Calls prog 90 #[Qk A1 n1 c1 A2 n2 c2 A3 n3 c3 A4 n4 c4,.slice A data.length c] w (zF (RTakeQ S data w.heap.size) w):=by
 have HC:=zH (fun W (hx:Ext w W)=>Ji A1 n1 c1 A2 n2 c2 A3 n3 c3 A4 n4 c4 S W (h.ext hx));refine(callsIn_wide (n:=3)).1 ?_;refine callsIn_of_wp_marks func90 rfl trivial ?_ rfl;simp only[ntmps90,List.size_toArray,List.length_cons,List.length_nil,Nat.reduceAdd,Nat.reduceSub,Array.replicate_succ,Array.replicate_zero,List.push_toArray,List.append_toArray,List.nil_append,List.cons_append];refine wpIn_wide.2 ?_;replace h:=zH h;replace hd:=zH hd;go_wp2_with fail;generalize hw1:(World.alloc (World.alloc _ _) _)=w1;have x1:Ext w w1:=by rw[<-hw1];exact((((zN _ _).trans (zN _ _)).trans (zN _ _)).trans (zN _ _)).trans (zN _ _)
 have s1:w1.heap.size=w.heap.size+5:=by rw[<-hw1];simp
 have ra1:w1.heap[w.heap.size]?=some (.cells #[.slice A1 n1 c1,.slice A2 n2 c2,.slice A3 n3 c3,.slice A4 n4 c4] 28 (0,0)):=by rw[<-hw1];exact(zK _ _ _ zA3).trans ((zK _ _ _ zA3).trans ((zK _ _ _ zA3).trans ((zK _ _ _ zA3).trans (zI _ _ _ rfl))))
 have rb1:w1.heap[w.heap.size+1]?=some (.cells #[.slice A data.length c] 26 (0,0)):=by rw[<-hw1];exact(zK _ _ _ zA3).trans ((zK _ _ _ zA3).trans ((zK _ _ _ zA3).trans (zI _ _ _ zA2)))
 have rc1:w1.heap[w.heap.size+2]?=some (.cells #[.slice none 0 0,.slice none 0 0,.slice none 0 0,.slice none 0 0] 28 (0,0)):=by rw[<-hw1];exact(zK _ _ _ zA3).trans ((zK _ _ _ zA3).trans (zI _ _ _ zA2))
 have rd1:w1.heap[w.heap.size+3]?=some (.cells #[.int .i64 0] 3 (0,0)):=by rw[<-hw1];exact(zK _ _ _ zA3).trans (zI _ _ _ zA2)
 have re1:w1.heap[w.heap.size+4]?=some (.cells #[.int .i64 0] 37 (0,0)):=by rw[<-hw1];exact zI _ _ _ zA2
 clear hw1;refine(HC.out w1 x1).mono ?_;clear HC;rintro e w2 ⟨rfl,hB⟩;have x2:Ext w w2:=x1.trans hB;have s2:=hB.size;have ra2:=qb ra1 hB;have rb2:=qb rb1 hB;have rc2:=qb rc1 hB;have rd2:=qb rd1 hB;have re2:=qb re1 hB;clear hB ra1 rb1 rc1 rd1 re1 x1;have ka2:=qa ra2;have kb2:=qa rb2;have kc2:=qa rc2;have kd2:=qa rd2;have ke2:=qa re2;have fc2:=qd rc2;have fd2:=qd rd2;have fe2:=qd re2;rcases hS:ql S with _|_
 ·rw[Jl rfl];have hE:Vr S data=8:=by unfold Vr;rw[hS];rfl
  replace hE:=zH hE;replace hS:=zH hS;go_wp2_with fail;obtain⟨g4,g5,g6,hb,-⟩:=Vg rc2 rd2 re2 rfl;exact qdT rfl rfl rfl rfl g4 g5 g6 ⟨_,rfl,.inl ⟨by rw[hE.out];decide,by rw[hE.out]⟩,hb zO x2⟩
 ·rw[JG rfl];by_cases hl:data.length=128
  ·have hll:((data.length:Int) == 128)=true:=by rw[beq_iff_eq];omega
   have hll2:decide (data.length=128)=true:=decide_eq_true hl;replace hl:=zH hl;go_wp2_with fail;refine(qbm A1 n1 c1 A2 n2 c2 A3 n3 c3 A4 n4 c4 w2).mono ?_;rintro e w3 ⟨rfl,rfl⟩;go_wp2_with fail;have x3:Ext w2 (w2.alloc (.cells #[.slice A1 n1 c1,.slice A2 n2 c2,.slice A3 n3 c3,.slice A4 n4 c4] 28)):=zN _ _;have r3:(w2.alloc (.cells #[.slice A1 n1 c1,.slice A2 n2 c2,.slice A3 n3 c3,.slice A4 n4 c4] 28)).heap[w2.heap.size]?=_:=zI _ _ _ rfl;have h3:=h.out.ext (x2.trans x3);have s3:(w2.alloc (.cells #[.slice A1 n1 c1,.slice A2 n2 c2,.slice A3 n3 c3,.slice A4 n4 c4] 28)).heap.size=w2.heap.size+1:=zA2;generalize hw3:w2.alloc _=w3 at *;refine(wpIn_wide (n:=3)).1 ?_;refine wpIn_rangeFunc_ownH rfl zO (gf:=187) (lb:=#[.pointer (some ⟨w2.heap.size,0,none⟩)]) rfl trivial (enters_of func187 zQ rfl)
    (qbq (3-1) zO w2.heap.size w3.heap.size _ _ _ _ S hS w3 zO (zM _) r3 h3) Below.trans (belowK_b zO) (Below.refl _ _) (fun _=>rfl)
    (fun pre W=>((pre=[]/\(W.heap[w.heap.size]?=some (.cells #[.slice A1 n1 c1,.slice A2 n2 c2,.slice A3 n3 c3,.slice A4 n4 c4] 28 (0,0))/\W.heap[w.heap.size+1]?=some (.cells #[.slice A data.length c] 26 (0,0)))) /\
     (W.heap[w.heap.size+2]?=some (.cells #[.slice none 0 0,.slice none 0 0,.slice none 0 0,.slice none 0 0] 28 (0,0))/\(W.heap[w.heap.size+3]?=some (.cells #[.int .i64 0] 3 (0,0))/\W.heap[w.heap.size+4]?=some (.cells #[.int .i64 0] 37 (0,0)))))/\Below w.heap.size w W)
    (fun c pre W=>(∃ x Wb,c=.ret/\pre=[x]/\TakeB w S data x Wb/\qU Wb W)/\Below w.heap.size w W)
    (OwnFrom.and (OwnFrom.and (OwnFrom.and (Jp _ _) (OwnFrom.and (Qb _ _ _ _) (Qb _ _ _ _))) (OwnFrom.and (Qb _ _ _ _) (OwnFrom.and (Qb _ _ _ _) (Qb _ _ _ _)))) (ownFrom_below (zM _) zO))
    (fun c=>OwnFrom.and (fun s A C row hs hg hr=>by obtain⟨x,Wb,h1,h2,h3,h4⟩:=hs;exact⟨x,Wb,h1,h2,h3,h4.grown hg fun r e=>(hr r e).2⟩) (ownFrom_below (zM _) zO))
    ⟨⟨⟨rfl,qb ra2 x3,qb rb2 x3⟩,qb rc2 x3,qb rd2 x3,qb re2 x3⟩,x2.trans x3⟩
    (fun x a' _=>a'={ tmps:=#[Qk A1 n1 c1 A2 n2 c2 A3 n3 c3 A4 n4 c4,.slice A data.length c,.pointer (some ⟨w.heap.size,0,none⟩),.pointer (some ⟨w.heap.size+1,0,none⟩),.pointer (some ⟨w.heap.size+1+1,0,none⟩),.pointer (some ⟨w.heap.size+1+1+1,0,none⟩),.pointer (some ⟨w.heap.size+1+1+1+1,0,none⟩),.int .i64 0,.int .i64 (x:Int),undef,undef,undef,
     .agg #[.slice A1 n1 c1,.slice A2 n2 c2,.slice A3 n3 c3,.slice A4 n4 c4],.int .i64 0,.int .i64 0,.bool false,undef,undef,.slice A data.length c,.int .i64 (data.length:Int),.bool false,undef,.agg #[.slice A1 n1 c1,.slice A2 n2 c2,.slice A3 n3 c3,.slice A4 n4 c4],
     .func (.func 187) #[] #[.pointer (some ⟨w2.heap.size,0,none⟩)],.int .i64 (x:Int),undef,undef,undef,undef,undef,undef,undef,undef,undef,undef,undef,undef,undef,undef,undef,undef,undef,undef,undef,undef,undef,undef,undef,undef,undef,undef],defers:=[] })
    (fun x a'=>Jp _ _) ?assign ?body ?done ?stop
   case assign =>
    rintro l pre x W K hI hK
    gi_wp2_with fail
    exact hK _ _ (KeepsFrom.refl _ _) (Below.refl _ _) hI rfl
   case body =>
    rintro l pre x a' W hl' - ⟨⟨⟨rfl,ra,rb⟩,rc,rd,re⟩,hB⟩ rfl hpl;have HW:=qhH A1 n1 c1 A2 n2 c2 S.bs S.ws (x:Int) A c data W (h.out.ext hB).bs (h.out.ext hB).ws ((hd.out.below hB).more hB.size);have ka:=qa ra;have kb:=qa rb;clear ka2 kb2 kc2 kd2 ke2 fc2 fd2 fe2 ra2 rb2 rc2 rd2 re2 hll hll2;replace h3:=zH h3;replace hS:=zH hS
    gi_wp2_with fail
    refine⟨trivial,(CallsIn.inRound _ (callsIn_wide.2 HW)).mono ?_⟩;clear HW;rintro e W4 ⟨u,rfl,hu,hB4⟩;have x4:Ext w W4:=hB.trans (Below.mono hB4 hB.size);have z4:=hB4.size;have ra4:=qb ra hB4;have rb4:=qb rb hB4;have rc4:=qb rc hB4;have rd4:=qb rd hB4;have re4:=qb re hB4;have hk4:KeepsOthers W W4:=KeepsOthers.of_ext hB4;have zB:w.heap.size+4<W.heap.size:=(zG.1 re).1;clear ka kb ra rb rc rd re hB4;have ka:=qa ra4;have kc:=qa rc4;have kd:=qa rd4;have ke:=qa re4;have fc:=qd rc4;have fd:=qd rd4;have fe:=qd re4;have za:w.heap.size<W4.heap.size:=zO;have zc:w.heap.size+1+1<W4.heap.size:=zO;have zd:w.heap.size+1+1+1<W4.heap.size:=zO;have ze:w.heap.size+1+1+1+1<W4.heap.size:=zO;replace hB:=zH hB;rcases hu with ⟨he,rfl⟩|⟨he,v,rfl,hv⟩
    ·obtain⟨e,hee⟩:∃ e,e=JS S.bs S.ws (x:Int) data:=⟨_,rfl⟩
     rw[<-hee] at he ⊢;have heb:(e != 0)=true:=by rw[bne_iff_ne];exact he
     replace hee:=zH hee;replace he:=zH he
     gi_wp2_with fail
     obtain⟨g4,g5,g6,hb,hz,hk,hkp⟩:=Vg rc4 rd4 re4 rfl;exact⟨((hk4.trans hkp).trans (KeepsOthers.alloc _ _)).from _,⟨x,_,rfl,rfl,⟨_,_,_,_,0,e,(zK _ _ _ (by rw[hz];omega)).trans g4,(zK _ _ _ (by rw[hz];omega)).trans g5,(zK _ _ _ (by rw[hz];omega)).trans g6,.inl ⟨he.out,hee.out,rfl,rfl⟩⟩,qU.refl _⟩,(hb zO x4).alloc (by rw[hz];omega) _⟩
    ·obtain⟨B1,d1,B2,d2,rfl,hnd⟩:=hv;have wZJ:=qcF he;have wOU:x<256:=wZJ.2;simp only[List.length_append,List.length_singleton] at hnd ⊢;replace he:=zH he;replace hnd:=zH hnd;have hnl:=(qX hS.out).2.2.1;have HB:=jf (.slice A3 n3 c3) S.now zO (W4.alloc (.cells #[.slice B1 S.bs.length d1,.slice B2 (S.ws.length+1) d2] 25)) ((h.out.ext x4).ext (zN W4 _)).now
     gi_wp2_with fail
     refine⟨trivial,(CallsIn.inRound _ (callsIn_wide.2 HB)).mono ?_⟩;clear HB;have x5:Ext W4 (W4.alloc (.cells #[.slice B1 S.bs.length d1,.slice B2 (S.ws.length+1) d2] 25)):=zN _ _;have r5:(W4.alloc (.cells #[.slice B1 S.bs.length d1,.slice B2 (S.ws.length+1) d2] 25)).heap[W4.heap.size]?=_:=zI _ _ _ rfl;have k5:KeepsOthers W4 (W4.alloc (.cells #[.slice B1 S.bs.length d1,.slice B2 (S.ws.length+1) d2] 25)):=KeepsOthers.alloc _ _;generalize hw5:W4.alloc _=w5 at *;clear hw5;rintro e W6 ⟨u,rfl,hBQ,hB6⟩;have s5:W4.heap.size<w5.heap.size:=(zG.1 r5).1;have x6:Ext w W6:=(x4.trans x5).trans hB6;have y6:Ext W4 W6:=x5.trans hB6;have ra6:=qb ra4 y6;have rc6:=qb rc4 y6;have rd6:=qb rd4 y6;have re6:=qb re4 y6;have r6:=qb r5 hB6;have hk6:KeepsOthers W W6:=(hk4.trans k5).trans (KeepsOthers.of_ext hB6);have z6:=hB6.size;rw[hnl] at hBQ;obtain⟨g,c',rfl⟩:∃ g c',u=.slice (some ⟨g,0,none⟩) 256 c':=by
      rcases hBQ.2 with ⟨_,h0⟩|⟨g,cap,cur,e,_⟩
      ·omega
      ·exact⟨g,cap,e⟩
     obtain⟨hcg,hfg,hlg,hgz⟩:=Za hBQ;have hcgx:=hcg x wOU;have hfgx:=hfg x;have hTC:=zH (XG hBQ wOU 1);clear ka kc kd ke fc fd fe hcg hfg hBQ ra4 rc4 rd4 re4 rb4 r5 k5;have hx256b:decide (x<256)=true:=decide_eq_true wOU;have ka6:=qa ra6;have kr6:=qa r6;replace y6:=zH y6
     gi_upto_region 13 with fail
     have hs7:=fun (k:Nat) (hk:k≠g)=>zJ W6 ⟨g,x,none⟩ (.int .u8 1) k hk;have z7:(W6.setCell ⟨g,x,none⟩ (.int .u8 1)).heap.size=W6.heap.size:=zA2;have x7:Ext w (W6.setCell ⟨g,x,none⟩ (.int .u8 1)):=Below.setCell x6 (p:=⟨g,x,none⟩) zA1 _;have own7:(W6.setCell ⟨g,x,none⟩ (.int .u8 1)).ownsRow w5.heap.size 5 1 (.slice (some ⟨g,0,none⟩) 256 c') 256 ((S.now.set x 1).map bv):=hTC.out;have ra7:=(hs7 w.heap.size zO).trans ra6;have rc7:=(hs7 (w.heap.size+2) zO).trans rc6;have rd7:=(hs7 (w.heap.size+3) zO).trans rd6;have re7:=(hs7 (w.heap.size+4) zO).trans re6;have r7:=(hs7 W4.heap.size zO).trans r6;have hk7:KeepsOthers W (W6.setCell ⟨g,x,none⟩ (.int .u8 1)):=hk6.trans (KeepsOthers.setCell _ _ _);have y7:∀ q:Addr,q.block<W4.heap.size->(thaw (W6.setCell ⟨g,x,none⟩ (.int .u8 1))).cell? q=(thaw W4).cell? q:=fun q hq=>(Qu (hs7 q.block zO)).trans (Below.thaw y6.out hq);replace hTC:=trivial;clear hs7;generalize hw7:W6.setCell ⟨g,x,none⟩ (.int .u8 1)=w7 at *;clear hw7 hTC hk6 ra6 rc6 rd6 re6 r6 ka6 kr6 hcgx hfgx y6;have HL:=zH (fun W (hW:Ext w7 W)=>jf (.slice A4 n4 c4) S.last (by have:=(qX hS.out).2.2.2;omega) W ((h.out.ext x7).ext hW).last);have gA:∀ W,qm.r w7 W->∀ i,W.cell? ⟨w.heap.size,i,none⟩=#[.slice A1 n1 c1,.slice A2 n2 c2,.slice A3 n3 c3,.slice A4 n4 c4][i]?:=fun W h=>qa (qb ra7 h);have gD:∀ W,qm.r w7 W->∀ i,W.cell? ⟨W4.heap.size,i,none⟩=#[.slice B1 S.bs.length d1,.slice B2 (S.ws.length+1) d2][i]?:=fun W h=>qa (qb r7 h);refine qbZ zQ ?_;refine qht (Jk l) zQ 6 9 (.int .i64 (x:Int)) zQ zA5 zQ zQ zQ zA0 (fun W=>?_) ?_
     ·go_simp
     simp only[Act.put,qk,qf,qc,qg,vS,zA,zB,zC];refine qfu (w:=w7) (Jk l) zQ qm (qM [(4,qbP w7.heap.size S.last.length S.last)]) [true,true,true,true,true,true] 3 zQ zQ zQ zQ zQ zQ zQ ?st (Rel.drew _ _) ?walk
     case st=>exact qj (by simp only[List.forall_mem_cons];exact⟨qcS _ _ _,fun _ h=>by cases h⟩)
     case walk =>
      intro K hK;dsimp only[qw,List.replicate];refine zC3 ?_;refine qz (qbP w7.heap.size S.last.length S.last) zA0 zA0 (fun W' hW _=>?_) (fun p7=>?_)
      ·have hxW:Ext w7 W':=hW;refine qV ?_ ((HL.out W' hxW).mono fun e w' h=>?_)
       ·go_simp
       obtain⟨u,rfl,hu,hB⟩:=h;obtain⟨A',c',rfl,_,_⟩:=qB hu;exact⟨(A',c'),rfl,(vy.of_own hu).mono hxW.size,hB⟩
      obtain⟨B4,d4⟩:=p7;refine zC3 ?_;refine qA (hK _ _ fun W8 hW hF=>?_);have hL:vy w7.heap.size (.slice B4 S.last.length d4) S.last W8:=(hF 4).1;clear hF hK gA gD;have hW':Ext w7 W8:=hW;have z8:=hW'.size;have rc8:=qb rc7 hW';have rd8:=qb rd7 hW';have re8:=qb re7 hW';refine zB4 ?_;have kc:=qa rc8;have kd:=qa rd8;have ke:=qa re8;have fc:=qd rc8;have fd:=qd rd8;have fe:=qd re8;replace hL:=zH hL;replace own7:=zH own7;replace y7:=zH y7;clear HL hW rc7 rd7 re7 ra7 r7
      gi_wp2_with fail
      refine Qw ?_
      gi_wp2_with fail
      obtain⟨g4,g5,g6,hb,hz,hk,hkp⟩:=Vg rc8 rd8 re8 rfl;refine⟨((hk7.trans (KeepsOthers.of_ext hW')).trans hkp).from _,⟨x,_,rfl,rfl,⟨_,_,_,_,(x:Int),0,g4,g5,g6,.inr ⟨rfl,he.out,rfl,B1,d1,B2,d2,some ⟨g,0,none⟩,c',B4,d4,⟨rfl,rfl,by rw[hnl],rfl⟩,fun C hC=>?_⟩⟩,qU.refl _⟩,hb zO (x7.trans hW')⟩;have hag:∀ q:Addr,w.heap.size+5<=q.block->q.block<W8.heap.size->C.cell? q=(thaw W8).cell? q:=fun q h1 h2=>(hC q h1 (by rw[hz];exact h2)).trans (Qu (hk q.block h1));have h7:∀ q:Addr,w.heap.size+5<=q.block->q.block<w7.heap.size->C.cell? q=(thaw w7).cell? q:=fun q h1 h2=>(hag q h1 zO).trans (Below.thaw hW' h2);obtain⟨q1,q2⟩:=hnd.out C fun q h1 h2=>(h7 q zO zO).trans (y7.out q h2);have q3:=(Bys.of_ownT own7.out).keepN (Zv.of_own own7.out) (W:=C) fun q h1 h2=>h7 q zO h2;have q4:=hL.out.thaw.keepN hL.out.from (W:=C) fun q h1 h2=>hag q zO h2;rw[hz];exact⟨q1.more zO,by simpa [ZF] using q2.more (show W4.heap.size<=W8.heap.size by omega),q3.more zO,q4⟩
   case done =>
    rintro D ys W hD rfl ⟨⟨⟨hz,ra,rb⟩,rc,rd,re⟩,hB⟩ hK;have kc:=qa rc;have kd:=qa rd;have ke:=qa re;have fc:=qd rc;have fd:=qd rd;have fe:=qd re;have hE:Vr S data=9:=by unfold Vr;rw[hS,if_pos rfl,if_pos hl.out,if_pos (.inl hz)]
    replace hE:=zH hE;replace hS:=zH hS;replace hz:=zH hz
    gi_wp2_with fail
    go_wp2_with fail;obtain⟨g4,g5,g6,hb,-,hk,-⟩:=Vg rc rd re rfl;have zB:w.heap.size+4<W.heap.size:=(zG.1 re).1;exact qch rfl rfl rfl rfl ((hk D zO).trans hK) zO g4 g5 g6 ⟨_,rfl,.inl ⟨by rw[hE.out];decide,by rw[hE.out]⟩,(hb zO hB).trans (belowK_b (w:=w) (zM _) _ D _ _ zO ((hk D zO).trans hK) rfl rfl)⟩
   case stop =>
    rintro D cc pre W hD hpre ⟨⟨x,Wb,rfl,rfl,hTB,hCK⟩,hB⟩ hK
    gi_wp2_with fail
    obtain⟨t,ht⟩:=hpre;have hff:Qm S=x:=by unfold Qm;rw[<-ht];rfl
    have hne:Zc S≠[]:=by rw[<-ht];simp
    have hx:ZZ S x=true:=by
     have:x∈jm S 256:=(show x∈Zc S by rw[<-ht];simp)
     unfold jm at this;exact(List.mem_filter.1 this).2
    have wOU:x<256:=by
     have:x∈jm S 256:=(show x∈Zc S by rw[<-ht];simp)
     unfold jm at this;simpa using (List.mem_filter.1 this).1
    have hWE:JS S.bs S.ws (x:Int) data=Vr S data:=by
     have hd:QM S.bs S.ws=true:=by unfold ql at hS;simp at hS;exact hS.1
     have ha:XU (QM S.bs S.ws) (x:Int)=0:=by unfold XU;rw[hd,if_pos rfl,if_pos zO]
     unfold JS Vr;rw[ha,hS,if_neg zA2,if_neg (by simpa using hl.out),if_pos rfl,if_pos hl.out];simp only[hne,false_or]
    obtain⟨x0,x1,x2',x3',y,e,g4,g5,g6,hDJ⟩:=hTB;have hCI:=fun (q:Addr) (v:Value) (hq:(thaw Wb).cell? q=some v)=>(hCK.put (.deferred none) hK rfl).thaw hq;have wDT:Below w.heap.size w (W.putObj D (.deferred none)):=hB.trans (belowK_b (w:=w) (zM _) W D _ _ zO hK rfl rfl);refine qch rfl rfl rfl rfl hK zO (hCK.row g4) (hCK.row g5) (hCK.row g6) ⟨_,rfl,?_,wDT⟩;rw[hWE] at hDJ;rcases hDJ with ⟨h1,h2,h3',h4⟩|⟨h1,h2,h3',B1,d1,B2,d2,B3,d3,B4,d4,⟨e1,e2,e3,e4⟩,h4⟩
    ·refine .inl ⟨by rw[<-h2];exact h1,?_⟩;rw[h4,h3',h2]
    ·refine .inr ⟨h2,.agg #[x0,x1,x2',x3'],by rw[h3',hff,h1],?_⟩
     ·rw[hff];refine⟨B1,d1,B2,d2,B3,d3,B4,d4,?_,fun C hC=>?_⟩
      ·rw[e1,e2,e3,e4];simp[ZF]
      ·have h5:=qdM (Φ:=fun C=>qZ C Wb.heap.size x0 x1 x2' x3' (ZF S x data)) (fun A C hAC hA=>hA.some_ hAC) h4 C (fun q v hq1 hq2 hq=>hC q v zO (Nat.lt_of_lt_of_le hq2 (by have:=hCK.size;simpa [World.putObj] using this)) (hCI q v hq));have h6:=h5.more (show Wb.heap.size<=(W.putObj D (.deferred none)).heap.size by have:=hCK.size;simpa [World.putObj] using this);rw[e1,e2,e3,e4] at h6;simpa [ZF] using h6
  ·have hll:((data.length:Int) == 128)=false:=by rw[beq_eq_false_iff_ne];omega
   have hll2:decide (data.length=128)=false:=decide_eq_false hl;have hE:Vr S data=3:=by unfold Vr;rw[hS,if_pos rfl,if_neg hl]
   replace hE:=zH hE;replace hS:=zH hS;replace hl:=zH hl;go_wp2_with fail;obtain⟨g4,g5,g6,hb,-⟩:=Vg rc2 rd2 re2 rfl;exact qdT rfl rfl rfl rfl g4 g5 g6 ⟨_,rfl,.inl ⟨by rw[hE.out];decide,by rw[hE.out]⟩,hb zO x2⟩
end Go.Proofs.YtmeadnlmepcmbaaGreat
namespace Go.Proofs.YtmeadnlmepcmbaaGreat
open Go.RowKit
def vt (t:List UInt8) (a:Nat):Except Int (List UInt8):=if a=0 then .ok t else if qL t a=0 then .error 6 else if qL t a=255 then .error 70 else .ok (jj t a 1)
def ZO:List Nat->List UInt8->Except Int (List UInt8)
 | [],t=>.ok t
 |a :: r,t=>match vt t a with
  | .error e=>.error e
  | .ok t'=>ZO r t'
theorem vU:∀ (l r:List Nat) (t:List UInt8),ZO (l++r) t=match ZO l t with
  | .error e=>.error e
  | .ok t'=>ZO r t'
 | [],_,_=>rfl
 |a :: l,r,t=>by
  simp only[List.cons_append,ZO];cases vt t a with
  |error e=>rfl
  |ok t'=>exact vU l r t'
theorem qcl (a:Nat) (t:List UInt8):ZO [a] t=vt t a:=by simp only[ZO];cases vt t a <;> rfl
def qE (its:List It):List Nat:=its.map fun x=>x.r.toNat
theorem Kf {its:List It} {k:Nat} (hk:k<its.length):qE (its.take (k+1))=qE (its.take k)++[(its[k].r).toNat]:=by unfold qE;rw[List.take_succ_eq_append_getElem hk,List.map_append];rfl
theorem qio {its:List It} (k:Nat):qE its=qE (its.take k)++qE (its.drop k):=by unfold qE;rw[<-List.map_append,List.take_append_drop]
theorem qiw {its:List It} {k:Nat} (hk:k<its.length) {t t':List UInt8} {e:Int} (h:ZO (qE (its.take k)) t=.ok t') (h1:vt t' (its[k].r).toNat=.error e):ZO (qE its) t=.error e:=by rw[qio (its:=its) (k+1),vU,Kf hk,vU,h];simp only[qcl,h1]
theorem qgX {its:List It} {k:Nat} (hk:k<its.length) {t t' t'':List UInt8} (h:ZO (qE (its.take k)) t=.ok t') (h1:vt t' (its[k].r).toNat=.ok t''):ZO (qE (its.take (k+1))) t=.ok t'':=by rw[Kf hk,vU,h];simp only[qcl,h1]
def ZE (S:Sto) (lvl:Int) (its:List It):Except Int (Nat×Sto):=
 if Qn lvl its=true then
  match ZO (qE its) S.now with
  | .error e=>.error e
  | .ok t=>if Zc (qy S t)=[]\/S.ws.length=4096 then .error 9 else .ok (Qm (qy S t),ZF (qy S t) (Qm (qy S t)) (Zg (Qv lvl its)))
 else .error 8
section
variable {D:Nat->Prop} {B lo b g:Nat} {k:Option Nat} {S:Sto} {w W:World}
theorem Bch.lens (h:Bch D B lo b g k S w):S.now.length=256/\S.last.length=256:=by obtain⟨A1,n1,c1,v2,c3,A4,c4,hr,ho,-,-,h4⟩:=h.ex;have:=ho.1;have h5:=h4.at_.1;exact⟨by simpa using this,h5.symm⟩
theorem Bch.cells (h:Bch D B lo b g k S w):∃ A1 n1 c1 v2 c3 A4 c4,(∀ i,w.cell? ⟨b,i,none⟩=#[.slice A1 n1 c1,v2,.slice (some ⟨g,0,none⟩) 256 c3,.slice A4 256 c4][i]?)/\(∀ a,a<256->w.cell? ⟨g,a,none⟩=some (.int .u8 (Zo S a:Int)))/\(∀ a,w.frozen? ⟨g,a,none⟩=false):=by obtain⟨A1,n1,c1,v2,c3,A4,c4,hr,ho,-,-,-⟩:=h.ex;obtain⟨h1,h2,-,-⟩:=Za ho;exact⟨A1,n1,c1,v2,c3,A4,c4,qa hr,h1,h2⟩
end
theorem Tv {R:Ending->World->Prop} {a:Act} {W:World} {v:Value} (h4:a.tmps[4]?.getD undef=v) (hd:a.defers=[]) (hR:R (.returned v) W):bodyPost prog Tryz.f170 R .ret a W:=by refine bodyPost_ret (v:=v) ?_ hd hR;simp[results,results170,go_sem,h4]
set_option maxRecDepth 100000 in
theorem qhy (D:Nat->Prop) (B lo b g:Nat) (k:Option Nat) (S:Sto) (a:Nat) (ha:a<256) (w:World) (h:Bch D B lo b g k S w):Calls prog 170 #[.pointer (some ⟨b,0,none⟩),.int .i64 (a:Int)] w fun e W=>Qf lo b g k w W /\
   ((qL S.now a=0/\e=.returned (.int .i64 6))\/(qL S.now a=255/\e=.returned (.int .i64 70))\/(qL S.now a≠0/\qL S.now a≠255/\e=.returned (.int .i64 0)/\Bch D B lo b g k (qy S (jj S.now a 1)) W)):=by
 obtain⟨A1,n1,c1,v2,c3,A4,c4,kr,hk,hf⟩:=h.cells;have hka:=hk a ha;have hfa:=hf a;have hT:Hid (jj S.now a 1=S.now.set a (UInt8.ofNat (qL S.now a+1))):=rfl;have hTC:=zH (h.count ha (UInt8.ofNat (qL S.now a+1)));have hcn:Zo S a=qL S.now a:=rfl;have hc2:=(S.now[a]?.getD 0).toNat_lt;have hc:qL S.now a=(S.now[a]?.getD 0).toNat:=rfl;rw[hcn] at hka;rw[<-hc] at hc2;have hwv:=qfb (qL S.now a+1);generalize qL S.now a=nv at *;clear hk hf hc hcn h;by_cases h0:nv=0
 ·subst h0;clear hTC hT hwv;go_enter func170,ntmps170;go_wp2_with fail;exact Tv rfl rfl ⟨Qf.refl _ _ _ _ _,.inl ⟨by trivial,rfl⟩⟩
 ·have hz1:((nv:Int) == 0)=false:=by rw[beq_eq_false_iff_ne];omega
  have hz2:decide (nv=0)=false:=decide_eq_false zO;by_cases h1:nv=255
  ·subst h1;clear hTC hT hwv;go_enter func170,ntmps170;go_wp2_with fail;exact Tv rfl rfl ⟨Qf.refl _ _ _ _ _,.inr (.inl ⟨by trivial,rfl⟩)⟩
  ·have hz3:((nv:Int) == 255)=false:=by rw[beq_eq_false_iff_ne];omega
   have hz4:decide (nv=255)=false:=decide_eq_false zO;replace h0:=zH h0;replace h1:=zH h1;rw[show ((nv+1:Nat):Int)=(nv:Int)+1 from rfl] at hwv;go_enter func170,ntmps170;go_wp2_with fail;refine Tv rfl rfl ⟨hTC.out.2,.inr (.inr ⟨h0.out,h1.out,rfl,?_⟩)⟩;rw[hT.out];exact hTC.out.1
set_option maxRecDepth 100000 in
theorem GP (D:Nat->Prop) (B lo b g:Nat) (k:Option Nat) (S:Sto) (a:Nat) (ha:a<256) (w:World) (h:Bch D B lo b g k S w):Calls prog 141 #[.pointer (some ⟨b,0,none⟩),.int .i64 (a:Int)] w fun e W=>Qf lo b g k w W /\
   ((qL S.now a=0/\e=.returned (.int .i64 6))\/(qL S.now a≠0/\e=.returned (.int .i64 0)/\Bch D B lo b g k (qy S (ju S.now a)) W)):=by
 obtain⟨A1,n1,c1,v2,c3,A4,c4,kr,hk,hf⟩:=h.cells;have hka:=hk a ha;have hfa:=hf a;have hT:Hid (ju S.now a=S.now.set a (UInt8.ofNat (qL S.now a-1))):=rfl;have hTC:=zH (h.count ha (UInt8.ofNat (qL S.now a-1)));have hcn:Zo S a=qL S.now a:=rfl;have hc2:=(S.now[a]?.getD 0).toNat_lt;have hc:qL S.now a=(S.now[a]?.getD 0).toNat:=rfl;rw[hcn] at hka;rw[<-hc] at hc2;generalize qL S.now a=nv at *;clear hk hf hc hcn h;by_cases h0:nv=0
 ·subst h0;clear hTC hT;go_enter func141,ntmps141;go_wp2_with fail;exact Tu rfl rfl ⟨Qf.refl _ _ _ _ _,.inl ⟨by trivial,rfl⟩⟩
 ·have hz1:((nv:Int) == 0)=false:=by rw[beq_eq_false_iff_ne];omega
  have hwv:=qfa (n:=nv) zO hc2;replace h0:=zH h0;go_enter func141,ntmps141;go_wp2_with fail;refine Tu rfl rfl ⟨hTC.out.2,.inr ⟨h0.out,rfl,?_⟩⟩;rw[hT.out];exact hTC.out.1
theorem qdb {P:Program} (w:World) (t ty:TypeId) (e:TypeId) (i:TypeInfo) (z:Value) (size bytes:Nat) (ht:P.underlying t=some (.slice e)) (hi:P.info? e=some i) (hz:i.zero=some z) (hLX:i.size=size) (hby:i.bytes=bytes) (hzs:z.cells.size=size) (hsz:0<size) (B:Nat) (A n) (xs:List Value) (hr:Rd w B size A n xs) (cs:Array Value) (hl:cs.size=size) (h1:∀ u∈cs.toList,u.oneCell'=true) (hn:n<1073741824) (hNC:bytes<=65536) : ∃ v' w',(Builtin.append_ #[t,t] ty #[.slice A n n,.slice (some ⟨w.heap.size,0,none⟩) 1 1]).run P (w.alloc (.cells cs e))=.ok v' w'/\w'.ownsRow (w.heap.size+1) e size v' (n+1) (xs++cs.toList)/\Ext w w'/\v'.ownBlock=some (w.heap.size+1):=by
 have hb:(n+1)*bytes<=140737488355328:=Nat.le_trans (Nat.mul_le_mul_left _ hNC) zO;have hm:n+1<=maxLen:=zA6;have hm2:((n+1:Nat):Int)<=9223372036854775807:=zO;rcases A with _|ad
 ·have hn0:n=0:=by
   rcases Nat.eq_zero_or_pos n with h0|h0
   ·exact h0
   ·obtain⟨b,off,h,_⟩:=hr.2 h0;cases h
  subst hn0;have hx:xs=[]:=List.eq_nil_of_length_eq_zero (by simpa using hr.1);subst hx;obtain⟨v',w',hGG,h2,h3,h4,h5⟩:=run_append_own_at (P:=P) (w.alloc (.cells cs e)) (w.heap.size+1) t ty e i z size bytes ht hi hz hLX hby hzs hsz (.slice none 0 0) 0 [] (World.ownsRow_nil _ _ _ _) ⟨w.heap.size,0,none⟩ 1 1 cs.toList
   (by rw[Array.length_toList];omega) (YS w cs e) h1 hm hb zA2
  refine⟨v',w',hGG,h2,Ext.trans (zN w (.cells cs e)) ((Below.refl _ _).grown h3 (zM _) (fun k hk=>by cases hk)),?_⟩;rcases h5 with h5|h5
  ·exfalso;rcases h2.2 with ⟨e0,_⟩|⟨g,cap,cur,e0,_⟩
   ·have:=(h4.1 e0).2;omega
   ·rw[e0] at h5;cases h5
  ·rw[h5];simp
 ·have hLT:∀ j u,xs[j]?=some u->w.cell? (ad.add j)=some u:=by
   intro j u hu;rcases Nat.eq_zero_or_pos n with h0|h0
   ·subst h0;have hx:xs=[]:=List.eq_nil_of_length_eq_zero (by simpa using hr.1);subst hx;simp at hu
   ·obtain⟨b,off,h,_⟩:=hr.2 h0;injection h with h;subst h;exact hr.adds h0 j u hu
  subst hLX;subst hby;have hr':=run_append_grow (P:=P) (w.alloc (.cells cs e)) t ty e i z ht hi hz ad n n xs hr.1 (fun j u hu=>Ext.cell (zN w _) (hLT j u hu)) ⟨w.heap.size,0,none⟩ 1 1 cs.toList (by rw[Array.length_toList];omega) (YS w cs e) zO hm2 (growslice_fits zO hb);refine⟨_,_,hr',?_,(zN w _).trans ((Ext.drew _).trans (zN _ _)),by simp[Value.ownBlock]⟩;have hge:=grownCap_ge (w.alloc (.cells cs e)) (n+1) n e;have hcm:grownCap (w.alloc (.cells cs e)) (n+1) n e<=maxLen:=grownCap_le_maxLen _ (n+1) n e hm;have hlen:(xs++cs.toList).length=(n+1)*i.size:=by rw[List.length_append,hr.1,Array.length_toList,hl,Nat.add_mul,Nat.one_mul]
  refine⟨hlen,.inr ⟨_,_,_,rfl,zA2,heap_alloc_new (w.alloc (.cells cs e)).drew _,hge,hcm,?_,?_⟩⟩
  ·simp only[Array.size_append,List.size_toArray,size_zeroCells,hzs,hr.1,hl];rw[<-Nat.succ_mul,<-Nat.add_mul];congr 1;omega
  ·simp only[Array.toList_append,List.append_assoc];rw[<-List.append_assoc,<-hlen];exact List.take_left
theorem WsB.push {D:Nat->Prop} {B lo b g:Nat} {k:Option Nat} {v:Value} {ws:List (Int×List UInt8)} {w:World} (h:WsB D B lo b g k v ws w) (hlo:lo<=w.heap.size) (hk:∀ q,k=some q->¬(q<B\/D q)) (hws:ws.length<1073741824) (at_:Int) (A0 c0) (l:List UInt8) (hd:∀ C,Ql (To B D) w C->Bys C C.heap.size (.slice A0 l.length c0) l) (ty:TypeId) : ∃ v' w' k',(Builtin.append_ #[23,23] ty #[v,.slice (some ⟨w.heap.size,0,none⟩) 1 1]).run prog (w.alloc (.cells #[.int .i64 at_,.slice A0 l.length c0] 142))=.ok v' w'/\WsB D B lo b g k' v' (ws++[(at_,l)]) w'/\Qf lo b g k w w'/\ZK w.heap.size k k' /\ (∀ q,q<w.heap.size->k≠some q->w'.heap[q]?=w.heap[q]?):=by
 obtain⟨i0,hi,hz0,hz1,hz2⟩:=info_parts Tryz.info_write;obtain⟨ps,rfl,hw,hp⟩:=h;have h1:∀ u∈(#[.int .i64 at_,.slice A0 l.length c0]:Array Value).toList,u.oneCell'=true:=zA7;rw[List.length_map] at hws hw;have fin:∀ (v':Value) (w':World) (k':Option Nat),w'.ownsRow lo 142 2 v' (ps.length+1) (zu ps++[.int .i64 at_,.slice A0 l.length c0])->(∃ q,v'.ownBlock=some q/\k'=some q)->(∀ q,q<w.heap.size->k≠some q->w'.heap[q]?=w.heap[q]?)->WsB D B lo b g k' v' (ps.map (·.1)++[(at_,l)]) w':=fun v' w' k' ho ⟨q,hq1,hq2⟩ hR=>by
  have hX:Ql (To B D) w w':=To.keep fun q hq h1=>hR q hq fun e=>hk q e h1;refine⟨ps++[((at_,l),.slice A0 l.length c0)],zA2,.inr ⟨q,hq2,hq1,by rw[qfH];simpa using ho⟩,fun p hpm=>?_⟩;rcases List.mem_append.1 hpm with hpm|hpm
  ·exact⟨(hp p hpm).1,fun C hC=>(hp p hpm).2 C (hX.trans hC fun _ _ h=>h)⟩
  ·obtain rfl:p=((at_,l),.slice A0 l.length c0):=by simpa using hpm
   exact⟨⟨A0,c0,rfl⟩,fun C hC=>hd C (hX.trans hC fun _ _ h=>h)⟩
 rcases hw with ⟨rfl,hm,A,rfl,hr⟩|⟨q,rfl,hq,ho⟩
 ·obtain⟨v',w',hGG,h2,hx,hb⟩:=qdb (P:=prog) w 23 ty 142 i0 (.agg #[.int .i64 0,.slice none 0 0]) 2 32 underlying23 hi hz0 hz1 hz2 rfl zD B A ps.length (zu ps) hr #[.int .i64 at_,.slice A0 l.length c0] rfl h1 hws zD;have hN:ZK w.heap.size none (some (w.heap.size+1)):=fun q hq=>.inr (by cases hq;omega);have hB:Qf lo b g none w w':=Qf.of_ext hx hlo;exact⟨v',w',some (w.heap.size+1),hGG,fin v' w' _ (Qz h2 zO) ⟨_,hb,rfl⟩ (fun q hq _=>Below.block hx q hq),hB,hN,fun q hq _=>Below.block hx q hq⟩
 ·obtain⟨v',w',hGG,h2,h3,_,h5⟩:=run_append_own_at (P:=prog) (w.alloc (.cells #[.int .i64 at_,.slice A0 l.length c0] 142)) lo 23 ty 142 i0 (.agg #[.int .i64 0,.slice none 0 0]) 2 32 underlying23 hi hz0 hz1 hz2 rfl zD v ps.length (zu ps) (ho.alloc _) ⟨w.heap.size,0,none⟩ 1 1 [.int .i64 at_,.slice A0 l.length c0]
   rfl (YS w #[.int .i64 at_,.slice A0 l.length c0] 142) h1 zA6 zO zA1
  have hlq:=(QZ ho q hq).1;rw[hq] at h3 h5;have hB:Below lo w w':=Below.trans (Below.mono (zN w _) hlo) ((Below.refl lo _).grown h3 zA1 (fun k hk=>by cases hk;exact hlq));have hCA:∀ q',q'<w.heap.size->(some q≠some q')->w'.heap[q']?=w.heap[q']?:=fun q' h1 hne=>(h3.block q' zA1 (fun e=>hne e.symm)).trans (zK w _ q' h1);have hK:Qf lo b g (some q) w w':=⟨hB,fun q' h1 hn=>hCA q' h1 fun e=>hn (.inr (.inr e))⟩
  rcases h5 with h5|h5
  ·exact⟨v',w',some q,hGG,fin v' w' _ h2 ⟨q,h5,rfl⟩ hCA,hK,ZK.refl _ _,hCA⟩
  ·have hN:ZK w.heap.size (some q) (some (w.heap.size+1)):=fun q' hq'=>.inr (by cases hq';omega);exact⟨v',w',some (w.heap.size+1),hGG,fin v' w' _ h2 ⟨_,by rw[h5];simp,rfl⟩ hCA,hK,hN,hCA⟩
theorem qff {ops:Array Oper} {rest:List Oper} {o:Oper} {a:Act} {Q:Exit->Act->World->Prop} (hgd:o.guard=none) (s x:Operand) (ho:o.op=.call { callee:=.builtin .append,args:=#[s,x],argTypes:=#[23,23] }) {D:Nat->Prop} {B lo b g:Nat} {k:Option Nat} {v:Value} {ws:List (Int×List UInt8)} {w:World} (hs:a.eval s=v) (hx:a.eval x=.slice (some ⟨w.heap.size,0,none⟩) 1 1) (h:WsB D B lo b g k v ws w) (hlo:lo<=w.heap.size) (hk:∀ q,k=some q->¬(q<B\/D q)) (hws:ws.length<1073741824) (at_:Int) (A0 n0 c0) (l:List UInt8) (hn0:n0=l.length) (hd:∀ C,Ql (To B D) w C->Bys C C.heap.size (.slice A0 n0 c0) l) (hK:∀ v' w' k',WsB D B lo b g k' v' (ws++[(at_,l)]) w'->Qf lo b g k w w'->ZK w.heap.size k k'->(∀ q,q<w.heap.size->k≠some q->w'.heap[q]?=w.heap[q]?)->wpList prog ops Q rest (a.put o.dst v') w'):wpList prog ops Q (o :: rest) a (w.alloc (.cells #[.int .i64 at_,.slice A0 n0 c0] 142)):=by
 subst hn0;refine wpList_plain hgd fun K hKK=>?_;obtain⟨v',w',k',hGG,h1,h2,h3,h4⟩:=h.push hlo hk hws at_ A0 c0 l hd o.type;unfold Oper.wp execOp;simp only[ho,resolve,invoke,builtin,Sem.run_bind,Sem.run_pure,Result.andThen_ok,List.map_toArray,List.map_cons,List.map_nil,hs,hx,hGG];exact hKK _ _ (hK v' w' k' h1 h2 h3 h4)
theorem Bch.put {D:Nat->Prop} {B lo b g:Nat} {k k':Option Nat} {S:Sto} {w W:World} (h:Bch D B lo b g k S w) {A1:OA} {n1 c1 c3 c4:Nat} {A4:OA} {v2 v':Value} (hr:w.heap[b]?=some (.cells #[.slice A1 n1 c1,v2,.slice (some ⟨g,0,none⟩) 256 c3,.slice A4 256 c4] 223 (0,0))) (ho:w.ownsRow lo 5 1 (.slice (some ⟨g,0,none⟩) 256 c3) 256 (S.now.map bv)) (hb:Bls w B (.slice A1 n1 c1) S.bs) (hl:Bys w B (.slice A4 256 c4) S.last) {f:Nat} {l:List UInt8} (hf:f<256) (hw:WsB D B lo b g k' v' (S.ws++[((f:Int),l)]) W) (hB:Qf lo b g k w W) (hN:ZK w.heap.size k k') (wYI:∀ q,q<w.heap.size->k≠some q->W.heap[q]?=w.heap[q]?):Bch D B lo b g k' ⟨S.bs,S.ws++[((f:Int),l)],S.now.set f 1,S.last⟩ ((W.setCell ⟨b,1,none⟩ v').setCell ⟨g,f,none⟩ (.int .u8 1))/\Qf lo b g k w ((W.setCell ⟨b,1,none⟩ v').setCell ⟨g,f,none⟩ (.int .u8 1)):=by
 obtain⟨hlb,hzb,hlg,hzg,hgb,hlw,hkq⟩:=h.size;have hbl:=h.blo;have hkd:=h.offk;have hzW:=hB.below.size;have hrb:=(wYI b hzb fun e=>(hkq b e).2.2.1 rfl).trans hr;have hkq':∀ q,k'=some q->q≠b/\q≠g:=fun q hq=>(hN q hq).elim (fun e=>(hkq q e).2.2) fun e=>zO;have st:∀ q,q≠b->q≠g->((W.setCell ⟨b,1,none⟩ v').setCell ⟨g,f,none⟩ (.int .u8 1)).heap[q]?=W.heap[q]?:=fun q h1 h2=>(zJ _ _ _ _ h2).trans (zJ _ _ _ _ h1);have hB1:Below lo W ((W.setCell ⟨b,1,none⟩ v').setCell ⟨g,f,none⟩ (.int .u8 1)):=Below.setCell (Below.setCell (Below.refl _ _) (p:=⟨b,1,none⟩) hlb _) (p:=⟨g,f,none⟩) hlg _;have hB2:Below lo w ((W.setCell ⟨b,1,none⟩ v').setCell ⟨g,f,none⟩ (.int .u8 1)):=hB.below.trans hB1;have hX:Ql (To B D) W ((W.setCell ⟨b,1,none⟩ v').setCell ⟨g,f,none⟩ (.int .u8 1)):=To.keep fun q _ hq=>st q (fun e=>hkd b (.inl rfl) (e ▸ hq)) (fun e=>hkd g (.inr (.inl rfl)) (e ▸ hq));have ho1:=ZC ho (w':=W) fun q hq=>by cases hq;exact wYI g hzg fun e=>(hkq g e).2.2.2 rfl
 have ho2:=XG (qgF (k:=1) (v:=v') ho1 hgb) (k:=f) hf 1;refine⟨⟨hlb,hbl,fun q hq=>⟨(h.dB q hq).1,by have:=(h.dB q hq).2.1;simp;omega,fun hx=>?_⟩,A1,n1,c1,v',c3,A4,c4,(zJ _ _ _ _ fun e=>hgb e.symm).trans (qi hrb 1 v'),ho2,?_,hb.below (Below.mono hB2 hbl),hl.below (Below.mono hB2 hbl)⟩,⟨hB2,fun q hq hn=>(st q (fun e=>hn (.inl e)) (fun e=>hn (.inr (.inl e)))).trans (hB.rows q hq hn)⟩⟩
 ·exact(h.dB q hq).2.2 (B3.of_new hN q (h.dB q hq).2.1 hx)
 ·obtain⟨ps,e,hc,hp⟩:=hw;refine⟨ps,e,?_,fun p hpm=>⟨(hp p hpm).1,fun C hC=>(hp p hpm).2 C (hX.trans hC fun _ _ h=>h)⟩⟩;rcases hc with ⟨e1,hm,A,e2,hrd⟩|⟨q,e1,e2,how⟩
  ·exact .inl ⟨e1,hm,A,e2,hrd.below (Below.mono hB1 hbl)⟩
  ·exact .inr ⟨q,e1,e2,ZC how fun q' hq'=>by rw[e2] at hq';cases hq';exact st q (hkq' q e1).1 (hkq' q e1).2⟩
end Go.Proofs.YtmeadnlmepcmbaaGreat
