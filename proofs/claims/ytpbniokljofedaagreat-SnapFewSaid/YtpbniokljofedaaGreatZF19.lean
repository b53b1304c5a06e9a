/- Texts FreeI, FreeIt, PushI, Refs, Nodes, FreeL, FreeP, Twin3, Twin8, RTake, BMake, joined. -/
import Derived.OrdersIn
import Derived.TacticsIn
import Derived.CallsIn
import Derived.RangeFuncKeeps
import Derived.RangeFuncBound
import Derived.RangeFuncLeaves
import Derived.Shelf.Abstract
import Derived.OwnWalkIn
import Derived.TacticsInMore
import Derived.Sort.CutIn
import Derived.RangeFuncNested
import Derived.Test.YtpbniokljofedaaGreatZF01
import Derived.Test.YtpbniokljofedaaGreatZF06
import Derived.Test.YtpbniokljofedaaGreatZF07
import Derived.Test.YtpbniokljofedaaGreatZF10
import Derived.Test.YtpbniokljofedaaGreatZF12
import Derived.Test.YtpbniokljofedaaGreatZF13
import Derived.Test.YtpbniokljofedaaGreatZF15
import Derived.Test.YtpbniokljofedaaGreatZF16
import Derived.Test.YtpbniokljofedaaGreatZF17
import Derived.Test.YtpbniokljofedaaGreatZF18
set_option linter.unusedSimpArgs false
set_option linter.unusedVariables false
set_option maxHeartbeats 8000000
namespace Go.Proofs.YtpbniokljofedaaGreat
open Go.RowKit
structure qdc (F:Fence):Prop where
 fn:∀ f,F.fn f
 depth:¬F.depth.isSome=true
 call:∀ {n:Nat} {P:Program} {f:FuncId} {args:Array Value} {w:World} {R:Ending→World→Prop},Calls P f args w R→CallsIn F n P f args w R
theorem wideF:qdc Fence.wide:=⟨fun _=>trivial,fun h=>(by cases h),fun h=>callsIn_wide.2 h⟩
theorem JZ (l:Nat):qdc (Fence.wide.inRound l):=⟨fun _=>trivial,fun h=>(by cases h),fun h=>CallsIn.inRound l (callsIn_wide.2 h)⟩
def UU (ops:Array Oper):Bool:=ops.toList.all fun o=>match o.op with | .defer _=>false|_=>true
theorem XW {ops:Array Oper} (h:UU ops=true) {i:Nat} {o:Oper} (ho:ops[i]?=some o):∀ c,o.op≠.defer c:=by
 intro c hc
 have h1:=List.all_eq_true.1 h o (by
  have:=Array.mem_of_getElem? ho
  simpa using this)
 rw[hc] at h1
 cases h1
section
variable {F:Fence} {P:Program} {ops:Array Oper} {n:Nat}
theorem UG {Q':Exit→Act→World→Prop}:∀ (l:List Oper) (k:Nat) (listed:Array Bool) (a:Act) (W:World),(∀ j,j<l.length→l[j]?=ops[k+j]?)→TQ ops l.length k listed=true→wpListIn F n P ops Q' l a W→wpAnyIn F n P .any ops Q' l.length listed a W
 | [],_,_,_,_,_,hB,h=>⟨by simpa [TQ] using hB,h⟩
 |o :: l,k,listed,a,W,hl,hB,h=>by
  simp only[List.length_cons,TQ,Bool.and_eq_true] at hB
  obtain⟨hr,hB'⟩:=hB
  have hr':Region.ready .any ops listed=[k]:=by simpa using hr
  have h0:ops[k]?=some o:=by simpa using (hl 0 (by simp)).symm
  refine⟨fun e=>(by rw[hr'] at e;cases e),fun i hi=>?_⟩
  rw[hr'] at hi
  obtain rfl:i=k:=by simpa using hi
  have hl':∀ j,j<l.length→l[j]?=ops[i+1+j]?:=fun j hj=>by have:=hl (j+1) (by simpa using hj);simpa [Nat.add_assoc,Nat.add_comm 1 j] using this
  refine wpOpIn_mono (fun a w hw=>UG l (i+1) _ a w hl' hB' hw) ?_
  unfold wpOpIn
  simp only[h0]
  exact h
end
section
variable {F0:Fence} {R:Rel} {P:Program} {ops:Array Oper} {w0:World} {n:Nat}
theorem UN (HF:qdc F0) (HN:UU ops=true) {H:Nat→Option qS} {i:Nat} {o:Oper} {a:Act} {F:qM} {K:Act→qM→Prop} {K':Act→World→Prop} {Q':Exit→Act→World→Prop} {W:World} (hi:ops[i]?=some o)
  (hH:∀ i h,H i=some h→∀ p,qD R (h.φ p)) (hst:∀ k,qD R (F k)) (hW:R.r w0 W) (hF:∀ k,F k W)
  (hK:∀ a' F' W',K a' F'→(∀ k,qD R (F' k))→R.r w0 W'→(∀ k,F' k W')→K' a' W') (h:FOpG R P ops w0 H i o K a F):wpOpIn F0 n P ops Q' i K' a W:=by
 obtain⟨hh,hok,hn⟩:=h
 have go:∀ p W',R.r W W'→hh.φ p W'→K' (a.put o.dst (hh.f p)) W':=fun p W' he hφ=>by
  have hF':∀ k,upd F i o (hh.φ p) k W':=fun k=>by
   unfold upd
   split
   ·exact⟨hφ,fun j _=>hst j _ _ he (hF j)⟩
   ·exact hst k _ _ he (hF k)
  exact hK _ _ W' (hn p ⟨W',R.trans hW he,hF'⟩) (Zv hst i o (hok.stable hH p)) (R.trans hW he) hF'
 unfold wpOpIn
 simp only[hi]
 rcases hok with ⟨x1,rfl⟩|⟨x1,x2,v,rfl,x3⟩|⟨x1,x2,x3⟩
 ·simp only[x1,Bool.false_eq_true,if_false]
  exact⟨fun f _=>HF.fn f,go () W (R.refl W) trivial⟩
 ·simp only[x1,if_true]
  obtain⟨w',hr,he⟩:=x3 W hW fun k _=>hF k
  refine⟨fun f _=>HF.fn f,?_⟩
  rw[Oper.semAt_eq _ _ _ (XW HN hi),hr]
  exact go () w' he trivial
 ·simp only[x1,if_true]
  have h3:=x3 W hW fun k _=>hF k
  unfold QG at h3
  refine⟨fun f _=>HF.fn f,?_⟩
  rw[Oper.semAt_eq _ _ _ (XW HN hi)]
  generalize (execOp a.eval o).run P W=r at *
  cases r with
  |ok m w' =>
   cases m <;> simp only[ZD] at h3 <;> simp only[Oper.uponIn]
   case value u =>
    obtain⟨p,rfl,hp,he⟩:=h3
    exact go p w' he hp
   case skip =>
    obtain⟨p,e,hp,he⟩:=h3
    have:=go p w' he hp
    rwa [←e] at this
   case enter f args =>
    obtain⟨he,hcl⟩:=h3
    refine⟨fun h=>absurd h HF.depth,HF.call (hcl.mono fun e w'' ⟨p,he1,hp,he2⟩=>?_)⟩
    subst he1
    exact go p w'' (R.trans he he2) hp
  |halt x w'=>simp only[ZD] at h3
theorem kz (HF:qdc F0) (HN:UU ops=true) {H:Nat→Option qS} (hH:∀ i h,H i=some h→∀ p,qD R (h.φ p)) {L:Array Bool} {t:Nat} {Q:Act→qM→Prop} {Q':Exit→Act→World→Prop}
  (hQ:∀ a F W,Q a F→R.r w0 W→(∀ k,F k W)→wpAnyIn F0 n P .any ops Q' t L a W) :
  ∀ (fuel:Nat) (listed:Array Bool) (a:Act) (F:qM) (W:World),(∀ k,qD R (F k))→R.r w0 W→(∀ k,F k W)→vE R P ops w0 H L Q fuel listed a F→wpAnyIn F0 n P .any ops Q' (fuel+t) listed a W
 |0,listed,a,F,W,_,hW,hF,h=>by
  rw[h.1,Nat.zero_add]
  exact hQ a F W h.2 hW hF
 |fuel+1,listed,a,F,W,hst,hW,hF,h=>by
  rw[show fuel+1+t=fuel+t+1 by omega]
  refine⟨fun h0=>absurd h0 h.1,fun i hi=>?_⟩
  obtain⟨_,o,ho,_⟩:=mem_ready.1 hi
  exact UN HF HN ho hH hst hW hF (fun a' F' W' hk hst' hW' hF'=>kz HF HN hH hQ fuel _ a' F' W' hst' hW' hF' hk) (h.2 i hi o ho)
theorem QZ {id:Nat} {l:List Oper} {Q:Exit→Act→World→Prop} {a:Act} {w:World} (R:Rel) (H:Nat→Option qS) (M:List Bool) (t:Nat) (HF:qdc F0) (HN:UU l.toArray=true) (hm:P.follows .mixedOrders=true)
  (hs:Region.noSelect l.toArray=true) (ht:qeH l.toArray (QM l.length (l.length-t)) ((qp 0 l M).map (·.1))=true) (hc0:Yl l.toArray (Array.replicate l.length false)=true) (hB:Zs l.toArray (QM l.length (l.length-t)) ((qp 0 l M).map (·.1)) (Array.replicate l.length false)=true)
  (hseq:TQ l.toArray t (l.length-t) (QM l.length (l.length-t))=true) (hfu:l.length=(qp 0 l M).length+t) (htl:(l.drop (l.length-t)).length=t)
  (hH:∀ i h,H i=some h→∀ p,qD R (h.φ p)) (hW:R.r w w.drew)
  (h:∀ K:Act→qM→Prop,(∀ a' F',(∀ W,R.r w W→(∀ k,F' k W)→wpListIn F0 n P l.toArray Q (l.drop (l.length-t)) a' W)→K a' F')→ji R P l.toArray w H K (qp 0 l M) a (fun _ _=>True)):(Code.region id l.toArray true).wpIn F0 n P Q a w:=by
 have h:=h _ (fun a' F' hh=>hh)
 refine wpIn_region_any hm ?_
 have key:=Yg (w0:=w) hH hs (fun _ _ h=>h.step) (Xt ht) (qp 0 l M) (Array.replicate l.length false) a (fun _ _=>True) (vp hc0) (fun x hx=>by
  obtain⟨j,h1,h2⟩:=vt l M 0 x hx
  refine⟨?_,List.mem_map.2 ⟨x,hx,rfl⟩⟩
  rw[h1,Nat.zero_add]
  simpa using h2) hB (fun _ _ _ _ _=>trivial) ⟨w.drew,hW,fun _=>trivial⟩ (fun _ _ _=>trivial) h
 have:=kz (n:=n) (w0:=w) HF HN hH (t:=t) (Q':=Q) (fun a F W hq hW hF=>by
  have:=UG (F:=F0) (n:=n) (l.drop (l.length-t)) (l.length-t) _ a W (fun j _=>by rw[List.getElem?_drop];simp) (by rw[htl];exact hseq) (hq W hW hF)
  rwa [htl] at this) _ _ _ _ w.drew (fun _ _ _ _ _=>trivial) hW (fun _=>trivial) key
 rw[←hfu] at this
 simpa using this
end
end Go.Proofs.YtpbniokljofedaaGreat
namespace Go.Proofs.YtpbniokljofedaaGreat
open Go.RowKit Go.Shelf
attribute [local go_sem] Oper.semAt_some
def VR (S:Sto) (a:Nat):Nat:=(S.last[a]?.getD 0).toNat
def ZL (S:Sto) (a:Nat):Bool:=decide (8≤a) && (decide (zE S a=0) && decide (VR S a=0))
def jB (S:Sto) (k:Nat):List Nat:=(List.range k).filter (ZL S)
def QQ (S:Sto):List Nat:=jB S 256
theorem KM (S:Sto) (k:Nat):jB S (k+1)=if ZL S k=true then jB S k++[k] else jB S k:=by
 unfold jB
 rw[List.range_succ,List.filter_append]
 by_cases h:ZL S k=true
 ·rw[if_pos h];simp[h]
 ·rw[if_neg h];simp[h]
theorem qfu (S:Sto) (k:Nat):(jB S k).length≤k:=Nat.le_trans (List.length_filter_le _ _) (by simp)
theorem freeTo_8 (S:Sto):jB S 8=[]:=by
 unfold jB
 rw[List.filter_eq_nil_iff]
 intro a ha
 have:a<8:=by simpa using ha
 unfold ZL
 simp[show ¬8≤a by omega]
theorem Gq (S:Sto) {k m:Nat} (h:k≤m):jB S k <+: jB S m:=by
 induction m with
 |zero =>
  obtain rfl:k=0:=by omega
  exact List.prefix_refl _
 |succ m ih =>
  rcases Nat.lt_or_ge m k with h1|h1
  ·obtain rfl:k=m+1:=by omega
   exact List.prefix_refl _
  ·refine(ih h1).trans ?_
   rw[KM]
   split
   ·exact List.prefix_append _ _
   ·exact List.prefix_refl _
theorem qgV (S:Sto) (a:Nat):zE S a<256:=UInt8.toNat_lt _
theorem qdS (S:Sto) (a:Nat):VR S a<256:=UInt8.toNat_lt _
theorem qgY (a b:Nat) (ha:a<256) (hb:b<256):(bits .or .u8 (a:Int) (b:Int) == 0)=(decide (a=0) && decide (b=0)):=by
 have e:bits .or .u8 (a:Int) (b:Int)=((a ||| b:Nat):Int):=by
  have e:∀ n:Nat,n<256→(BitVec.ofInt 8 (n:Int)).toNat=n:=fun n hn=>by simp[BitVec.ofInt_natCast];omega
  have hx:a ||| b<2 ^ 8:=Nat.or_lt_two_pow (by omega) (by omega)
  show IntKind.u8.wrap (((BitVec.ofInt 8 (a:Int) ||| BitVec.ofInt 8 (b:Int)).toNat:Nat):Int)=_
  rw[BitVec.toNat_or,e a ha,e b hb]
  simp[IntKind.wrap,IntKind.bits,IntKind.signed]
  omega
 rw[e]
 by_cases h:a=0∧b=0
 ·obtain⟨rfl,rfl⟩:=h;rfl
 ·have h2:a ||| b≠0:=by
   intro h3
   have h4:a≤a ||| b:=Nat.left_le_or
   have h5:b≤a ||| b:=Nat.right_le_or
   exact h ⟨by omega,by omega⟩
  have h6:(decide (a=0) && decide (b=0))=false:=by
   rcases Nat.eq_zero_or_pos a with h7|h7
   ·have:b≠0:=fun h8=>h ⟨h7,h8⟩
    simp[this]
   ·simp[show a≠0 by omega]
  rw[h6]
  simpa using fun h9:((a ||| b:Nat):Int)=0=>h2 (by omega)
theorem last_at {S:Sto} (hS:qm S=true) {w:World} {B:Nat} {v:Value} (h:Bys w B v S.last):∃ b o c,v=.slice (some ⟨b,o,none⟩) 256 c∧b<B∧∀ a,a<256→w.cell? ⟨b,o+a,none⟩=some (.int .u8 (VR S a:Int)):=by
 obtain⟨-,-,-,hl⟩:=qU hS
 obtain⟨A,c,e,hc,hm,hr⟩:=h
 obtain⟨b,o,rfl,hb,hcell⟩:=hr.2 (by omega)
 rw[hl] at e
 exact⟨b,o,c,e,hb,fun a ha=>hcell a _ (by rw[List.getElem?_map,zL (by omega)];unfold VR;rw[zL (by omega)];rfl)⟩
set_option maxRecDepth 100000 in
theorem free_in (n:Nat) (hn:1≤n) (l bs n₀:Nat) (v1 v2 v3 v4:Value) (S:Sto) (hS:qm S=true) (J Jx:List Nat→World→Prop)
  (hY:∀ pre x W,J pre W→pre.length<256→YieldAt Fence.wide (n-1) Tryz.prog l #[.int .i64 ((x:Nat):Int)] W fun e W'=>(e=.returned (.bool true)∧J (pre++[x]) W'∧Below n₀ W W')∨(e=.returned (.bool false)∧Jx (pre++[x]) W'))
  (hJ:∀ pre W W',J pre W→Ext W W'→J pre W')
  (W:World) (hbs:bs<n₀) (hn₀:n₀≤W.heap.size) (hrow:W.heap[bs]?=some (.cells #[v1,v2,v3,v4] 28 (0,0))) (hst:qP W n₀ v1 v2 v3 v4 S) (h0:J [] W) :
  CallsIn Fence.wide n Tryz.prog 175 #[.func (.yield l) #[] #[],.pointer (some ⟨bs,0,none⟩)] W fun e W'=>(∃ v,e=.returned v)∧((∃ ys,ys=QQ S∧J ys W')∨(∃ pre,pre <+: QQ S∧Jx pre W')):=by
 obtain⟨b3,o3,c3,rfl,hb3,hc3⟩:=TG hS hst.now
 obtain⟨b4,o4,c4,rfl,hb4,hc4⟩:=last_at hS hst.last
 replace hst:=zH hst
 refine callsIn_of_wp Tryz.func175 rfl trivial ?_ rfl
 simp only[Tryz.ntmps175,List.size_toArray,List.length_cons,List.length_nil,Nat.reduceAdd,Nat.reduceSub,Array.replicate_succ,Array.replicate_zero,List.push_toArray,List.append_toArray,List.nil_append,List.cons_append]
 gi_wp2_with fail
 gi_loopw [3] (fun i wr=>∃ k:Nat,8≤k∧k≤256∧i=.int .i64 (k:Int)∧J (jB S k) wr∧Below n₀ W wr) (fun i _=>256-(intOf i).toNat)
 case atStart=>exact⟨8,by omega,by omega,rfl,by rw[freeTo_8];exact h0,Below.refl _ _⟩
 case round =>
  obtain⟨k,hk8,hk,rfl,hJs,hB⟩:=hrel
  have hro:=(hB.block bs hbs).trans hrow
  by_cases hlt:k<256
  ·have hcx:=(World.cell?_of_block (a:=⟨b3,o3+k,none⟩) (hB.block b3 hb3)).trans (hc3 k hlt)
   have hcy:=(World.cell?_of_block (a:=⟨b4,o4+k,none⟩) (hB.block b4 hb4)).trans (hc4 k hlt)
   have gS:∀ W',ql.r wr W'→∀ i,W'.cell? ⟨bs,i,none⟩=#[v1,v2,.slice (some ⟨b3,o3,none⟩) 256 c3,.slice (some ⟨b4,o4,none⟩) 256 c4][i]?:=fun W' h=>qa (qb hro h)
   have gX:∀ W',ql.r wr W'→W'.cell? ⟨b3,o3+k,none⟩=some (.int .u8 (zE S k:Int)):=fun W' h=>Ext.cell h hcx
   have gY:∀ W',ql.r wr W'→W'.cell? ⟨b4,o4+k,none⟩=some (.int .u8 (VR S k:Int)):=fun W' h=>Ext.cell h hcy
   have hsu:=zH (KM S k)
   have hfb:ZL S k=(decide (zE S k=0) && decide (VR S k=0)):=by unfold ZL;simp[hk8]
   have hbz:(bits .or .u8 ((zE S k:Nat):Int) ((VR S k:Nat):Int) == 0)=ZL S k:=qgY _ _ (qgV S k) (qdS S k) ▸ hfb.symm
   generalize zE S k=nw at *
   generalize VR S k=lw at *
   replace hfb:=zH hfb
   replace hc3:=zH hc3
   replace hc4:=zH hc4
   replace hro:=zH hro
   have hln:=zH (qfu S k)
   clear hcx hcy
   rcases Bool.eq_false_or_eq_true (ZL S k) with hfr|hfr
   ·rw[hfr] at hbz
    replace hsu:=zH ((if_pos hfr) ▸ hsu.out)
    replace hfr:=zH hfr
    gi_upto_region 3 with fail
    refine QZ ql (qF []) (List.replicate 15 true) 3 wideF (by kernel_rfl) (by kernel_rfl) (by kernel_rfl) (by kernel_rfl) (by kernel_rfl) (by kernel_rfl) (by kernel_rfl) (by kernel_rfl) (by kernel_rfl) ?st (Rel.drew _ _) ?walk
    case st=>intro i h hx;simp[qF] at hx
    case walk =>
     intro K hK
     dsimp only[qp,List.replicate]
     repeat ((first|(refine qe ?_ (by rfl) (by rfl) (fun W hW _=>⟨W,?_,Rel.refl _ W⟩) ?_;rotate_left;(go_simp<;>with_reducible rfl))|(refine qh (by rfl) ?_));try simp only[Act.put,qj,qf,qc,qg,zA,zB,zC])
     first
      |(refine qe (.pointer (some ⟨b3,o3+k,none⟩)) (by rfl) (by rfl) (fun W hW _=>⟨W,?_,Rel.refl _ W⟩) ?_
        ·go_simp
         rw[IntWalk.i64_in (k:Int) (by omega),if_pos (by omega)]
         simp
        simp only[Act.put,qj,qf,qc,qg,zA,zB,zC])
      |skip
     repeat ((first|(refine qe ?_ (by rfl) (by rfl) (fun W hW _=>⟨W,?_,Rel.refl _ W⟩) ?_;rotate_left;(go_simp<;>with_reducible rfl))|(refine qh (by rfl) ?_));try simp only[Act.put,qj,qf,qc,qg,zA,zB,zC])
     first
      |(refine qe (.pointer (some ⟨b4,o4+k,none⟩)) (by rfl) (by rfl) (fun W hW _=>⟨W,?_,Rel.refl _ W⟩) ?_
        ·go_simp
         rw[IntWalk.i64_in (k:Int) (by omega),if_pos (by omega)]
         simp
        simp only[Act.put,qj,qf,qc,qg,zA,zB,zC])
      |skip
     repeat ((first|(refine qe ?_ (by rfl) (by rfl) (fun W hW _=>⟨W,?_,Rel.refl _ W⟩) ?_;rotate_left;(go_simp<;>with_reducible rfl))|(refine qh (by rfl) ?_));try simp only[Act.put,qj,qf,qc,qg,zA,zB,zC])
     refine qt (hK _ _ fun W2 hW hF=>?_)
     clear hF hK
     dsimp only[List.drop,List.length_cons,List.length_nil]
     obtain⟨fn,tm,asg,bdy,hy,hR⟩:=hY (jB S k) k W2 (hJ _ _ _ hJs hW) (by have:=hln.out;omega)
     gi_wp2_with fail
     refine hR.mono ?_
     rintro e W3 (⟨rfl,hJ3,hk3⟩|⟨rfl,hJx3⟩)
     ·gi_wp2_with fail
      go_roundw
      case rel=>exact⟨k+1,by omega,by omega,by go_num,by rw[hsu.out];exact hJ3,hB.trans ((Below.mono hW (Nat.le_trans hn₀ hB.size)).trans hk3)⟩
      case measure=>simp[intOf];omega
     ·gi_wp2_with fail
      refine bodyPost_ret (results_none rfl _ _ _) rfl ?_
      exact⟨⟨_,rfl⟩,.inr ⟨_,hsu.out ▸ Gq S (by omega),hJx3⟩⟩
   ·rw[hfr] at hbz
    replace hsu:=zH ((if_neg (show ¬ZL S k=true by rw[hfr];decide)) ▸ hsu.out)
    replace hfr:=zH hfr
    gi_upto_region 3 with fail
    refine QZ ql (qF []) (List.replicate 15 true) 3 wideF (by kernel_rfl) (by kernel_rfl) (by kernel_rfl) (by kernel_rfl) (by kernel_rfl) (by kernel_rfl) (by kernel_rfl) (by kernel_rfl) (by kernel_rfl) ?st (Rel.drew _ _) ?walk
    case st=>intro i h hx;simp[qF] at hx
    case walk =>
     intro K hK
     dsimp only[qp,List.replicate]
     repeat ((first|(refine qe ?_ (by rfl) (by rfl) (fun W hW _=>⟨W,?_,Rel.refl _ W⟩) ?_;rotate_left;(go_simp<;>with_reducible rfl))|(refine qh (by rfl) ?_));try simp only[Act.put,qj,qf,qc,qg,zA,zB,zC])
     first
      |(refine qe (.pointer (some ⟨b3,o3+k,none⟩)) (by rfl) (by rfl) (fun W hW _=>⟨W,?_,Rel.refl _ W⟩) ?_
        ·go_simp
         rw[IntWalk.i64_in (k:Int) (by omega),if_pos (by omega)]
         simp
        simp only[Act.put,qj,qf,qc,qg,zA,zB,zC])
      |skip
     repeat ((first|(refine qe ?_ (by rfl) (by rfl) (fun W hW _=>⟨W,?_,Rel.refl _ W⟩) ?_;rotate_left;(go_simp<;>with_reducible rfl))|(refine qh (by rfl) ?_));try simp only[Act.put,qj,qf,qc,qg,zA,zB,zC])
     first
      |(refine qe (.pointer (some ⟨b4,o4+k,none⟩)) (by rfl) (by rfl) (fun W hW _=>⟨W,?_,Rel.refl _ W⟩) ?_
        ·go_simp
         rw[IntWalk.i64_in (k:Int) (by omega),if_pos (by omega)]
         simp
        simp only[Act.put,qj,qf,qc,qg,zA,zB,zC])
      |skip
     repeat ((first|(refine qe ?_ (by rfl) (by rfl) (fun W hW _=>⟨W,?_,Rel.refl _ W⟩) ?_;rotate_left;(go_simp<;>with_reducible rfl))|(refine qh (by rfl) ?_));try simp only[Act.put,qj,qf,qc,qg,zA,zB,zC])
     refine qt (hK _ _ fun W2 hW hF=>?_)
     clear hF hK
     dsimp only[List.drop,List.length_cons,List.length_nil]
     refine⟨fun _ h=>(by cases h),?_⟩
     gi_wp2_with fail
     go_roundw
     case rel=>exact⟨k+1,by omega,by omega,by go_num,by rw[hsu.out];exact hJ _ _ _ hJs hW,hB.trans (Below.mono hW (Nat.le_trans hn₀ hB.size))⟩
     case measure=>simp[intOf];omega
  ·gi_wp2_with fail
   obtain rfl:k=256:=by omega
   go_end0
   exact⟨⟨_,rfl⟩,.inl ⟨_,rfl,hJs⟩⟩
end Go.Proofs.YtpbniokljofedaaGreat
namespace Go.Proofs.YtpbniokljofedaaGreat
open Go.RowKit
theorem YS {F:Fence} {n:Nat} {P:Program} {ops:Array Oper} {l:List Oper} {a:Act} {w:World} {Q:Exit→Act→World→Prop} (h:Qy (wpListIn F n P ops Q l a w)):wpListIn F n P ops Q l a w:=h
theorem YR {F:Fence} {nf:Nat} {P:Program} (w:World) {ops:Array Oper} {rest:List Oper} {o:Oper} {a:Act} {Q:Exit→Act→World→Prop} (hgd:o.guard=none) (s x:Operand) (t:TypeId)
  (ho:o.op=.call { callee:=.builtin .append,args:=#[s,x],argTypes:=#[t,t] })
  (base:Nat) (e:TypeId) (i:TypeInfo) (z:Value) (size bytes:Nat) (ht:P.underlying t=some (.slice e)) (hi:P.info? e=some i) (hz:i.zero=some z)
  (hsize:i.size=size) (hby:i.bytes=bytes) (hzs:z.cells.size=size) (hsz:0<size)
  (v:Value) (n:Nat) (xs:List Value) (hs:a.eval s=v) (hown:w.ownsRow base e size v n xs) (cs:Array Value)
  (hx:a.eval x=.slice (some ⟨w.heap.size,0,none⟩) 1 1) (hl:cs.size=size) (h1:∀ u∈cs.toList,u.oneCell'=true)
  (hn:n<1073741824) (hbytes:bytes≤65536) (hbase:base≤w.heap.size)
  (h:∀ v' w',w'.ownsRow base e size v' (n+1) (xs++cs.toList)→w.grownBy w' v.ownBlock→(v'.ownBlock=v.ownBlock∨∃ g,v'.ownBlock=some g∧w.heap.size≤g)→wpListIn F nf P ops Q rest (a.put o.dst v') w') :
  wpListIn F nf P ops Q (o :: rest) a (w.alloc (.cells cs e)):=by
 refine wpListIn_plain hgd fun K hK=>?_
 have hb:(n+1)*bytes≤140737488355328:=Nat.le_trans (Nat.mul_le_mul_left _ hbytes) (by omega)
 have hm:n+1≤maxLen:=by unfold maxLen;omega
 obtain⟨v',w',hrun,h2,h3,_,h5⟩:=run_append_own_at (P:=P) (w.alloc (.cells cs e)) base t o.type e i z size bytes ht hi hz hsize hby hzs hsz v n xs (hown.alloc _) ⟨w.heap.size,0,none⟩ 1 1 cs.toList
  (by rw[Array.length_toList];omega) (KG w cs e) h1 hm hb (by simp;omega)
 have hg:w.grownBy w' v.ownBlock:=⟨h3.os,h3.tape,h3.output,Nat.le_trans (by simp) h3.size,fun k hk hne=>(h3.block k (by simp;omega) hne).trans (zK w _ k hk)⟩
 unfold Oper.wpIn
 refine⟨?_,?_⟩
 ·simp[Oper.about,ho,resolve,Target.leads,Sem.run_pure]
 ·rw[Oper.semAt_plain F _ _ (by rw[ho];intro c hc';cases hc')]
  simp only[execOp,ho,resolve,invoke,builtin,Sem.run_bind,Sem.run_pure,Result.andThen_ok,List.map_toArray,List.map_cons,List.map_nil,hs,hx,hrun]
  exact hK _ _ (h v' w' h2 hg (h5.imp id fun e=>⟨_,e,by simp⟩))
def RefsQ (S:Sto) (root next:Int) (dead:List Int) (w:World) (e:Ending) (w':World):Prop:=Below w.heap.size w w' ∧
 ((e=.returned (.tuple #[.slice none 0 0,.int .i64 8])∧∀ vs,Ql S root next dead vs→∃ refs nodes,qR S (Qw root dead vs) refs nodes∧¬QD S refs) ∨
  ∃ vs refs nodes cb ca vv lo,e=.returned (.tuple #[.slice (some ⟨cb,6,none⟩) 256 256,.int .i64 0])∧w.heap.size≤lo∧Taken S root next dead vs refs nodes lo cb ca vv w')
theorem qev {R:Ending→World→Prop} {a:Act} {W:World} {u v:Value} (h2:a.tmps[2]?.getD undef=u) (h3:a.tmps[3]?.getD undef=v) (hd:a.defers=[]) (hR:R (.returned (.tuple #[u,v])) W):bodyPost Tryz.prog Tryz.f19 R .ret a W:=by
 refine bodyPost_ret (v:=.tuple #[u,v]) ?_ hd hR
 simp[results,Tryz.results19,go_sem,h2,h3]
set_option maxRecDepth 100000 in
theorem refs_any (A1:Option Addr) (n1 c1:Nat) (A2:Option Addr) (n2 c2:Nat) (A3:Option Addr) (n3 c3:Nat) (A4:Option Addr) (n4 c4:Nat) (gen root next:Int) (A5:Option Addr) (c5:Nat) (S:Sto) (dead:List Int) (w:World)
  (h:qP w w.heap.size (.slice A1 n1 c1) (.slice A2 n2 c2) (.slice A3 n3 c3) (.slice A4 n4 c4) S) (hd:Zn w w.heap.size (.slice A5 dead.length c5) dead) :
  Calls Tryz.prog 19 #[.agg (qC (.slice A1 n1 c1) (.slice A2 n2 c2) (.slice A3 n3 c3) (.slice A4 n4 c4) gen root next (.slice A5 dead.length c5))] w (RefsQ S root next dead w):=by
 have HT:=zH (fun W (hx:Ext w W)=>kh A1 n1 c1 A2 n2 c2 A3 n3 c3 A4 n4 c4 gen root next A5 c5 S dead W (h.ext hx) (by
  obtain⟨A,c,e,q1,q2,q3⟩:=hd
  exact⟨A,c,e,q1,q2,(q3.below hx).more hx.size⟩))
 clear h hd
 go_enter Tryz.func19,Tryz.ntmps19
 go_wp2_with fail
 generalize hw1:World.alloc w _=w1
 have x1:Ext w w1:=by rw[←hw1];exact zN _ _
 clear hw1
 refine(HT.out w1 x1).mono ?_
 rintro e w2 ⟨hB,hQ⟩
 have x2:Below w.heap.size w w2:=Ext.trans x1 hB
 rcases hQ with ⟨rfl,hno⟩|⟨vs,refs,nodes,cb,ca,vv,rfl,hT⟩
 ·have HB:RefsQ S root next dead w (.returned (.tuple #[.slice none 0 0,.int .i64 8])) w2:=⟨x2,.inl ⟨rfl,hno⟩⟩
  replace HB:=zH HB
  clear hno hB
  go_wp2_with fail
  exact qev rfl rfl rfl HB.out
 ·have HB:RefsQ S root next dead w (.returned (.tuple #[.slice (some ⟨cb,6,none⟩) 256 256,.int .i64 0])) w2:=⟨x2,.inr ⟨vs,refs,nodes,cb,ca,vv,_,rfl,x1.size,hT⟩⟩
  replace HB:=zH HB
  clear hT hB
  go_wp2_with fail
  exact qev rfl rfl rfl HB.out
def vV (nodes:Nat→Nat) (k:Nat):List Nat:=(List.range k).filter fun a=>decide (0<nodes a)
theorem qfQ (nodes:Nat→Nat) (k:Nat):vV nodes (k+1)=if 0<nodes k then vV nodes k++[k] else vV nodes k:=by
 unfold vV
 rw[List.range_succ,List.filter_append]
 by_cases h:0<nodes k
 ·rw[if_pos h];simp[h]
 ·rw[if_neg h];simp[h]
theorem qbu (nodes:Nat→Nat) (k:Nat):(vV nodes k).length≤k:=by
 unfold vV
 exact Nat.le_trans (List.length_filter_le _ _) (by simp)
def qeZ (S:Sto) (root next:Int) (dead:List Int) (w:World) (e:Ending) (w':World):Prop:=Below w.heap.size w w' ∧
 ((e=.returned (.tuple #[.slice none 0 0,.int .i64 8])∧∀ vs,Ql S root next dead vs→∃ refs nodes,qR S (Qw root dead vs) refs nodes∧¬QD S refs) ∨
  ∃ vs refs nodes v lo,e=.returned (.tuple #[v,.int .i64 0])∧w.heap.size≤lo∧Ql S root next dead vs∧qR S (Qw root dead vs) refs nodes∧QD S refs∧w'.ownsRow lo 3 1 v (vV nodes 256).length (jA (vV nodes 256)))
structure N1 (nodes:Nat→Nat) (w2:World) (v i:Value) (wr:World):Prop where
 ex:∃ k:Nat,k≤256∧i=.int .i64 (k:Int)∧wr.ownsRow w2.heap.size 3 1 v (vV nodes k).length (jA (vV nodes k))∧Ext w2 wr
theorem qbw {R:Ending→World→Prop} {a:Act} {W:World} {u v:Value} (h2:a.tmps[2]?.getD undef=u) (h3:a.tmps[3]?.getD undef=v) (hd:a.defers=[]) (hR:R (.returned (.tuple #[u,v])) W):bodyPost Tryz.prog Tryz.f21 R .ret a W:=by
 refine bodyPost_ret (v:=.tuple #[u,v]) ?_ hd hR
 simp[results,Tryz.results21,go_sem,h2,h3]
set_option maxRecDepth 100000 in
theorem qia (A1:Option Addr) (n1 c1:Nat) (A2:Option Addr) (n2 c2:Nat) (A3:Option Addr) (n3 c3:Nat) (A4:Option Addr) (n4 c4:Nat) (gen root next:Int) (A5:Option Addr) (c5:Nat) (S:Sto) (dead:List Int) (w:World)
  (h:qP w w.heap.size (.slice A1 n1 c1) (.slice A2 n2 c2) (.slice A3 n3 c3) (.slice A4 n4 c4) S) (hd:Zn w w.heap.size (.slice A5 dead.length c5) dead) :
  Calls Tryz.prog 21 #[.agg (qC (.slice A1 n1 c1) (.slice A2 n2 c2) (.slice A3 n3 c3) (.slice A4 n4 c4) gen root next (.slice A5 dead.length c5))] w (qeZ S root next dead w):=by
 have HT:=zH (fun W (hx:Ext w W)=>kh A1 n1 c1 A2 n2 c2 A3 n3 c3 A4 n4 c4 gen root next A5 c5 S dead W (h.ext hx) (by
  obtain⟨A,c,e,q1,q2,q3⟩:=hd
  exact⟨A,c,e,q1,q2,(q3.below hx).more hx.size⟩))
 clear h hd
 go_enter Tryz.func21,Tryz.ntmps21
 go_wp2_with fail
 generalize hw1:World.alloc w _=w1
 have x1:Ext w w1:=by rw[←hw1];exact zN _ _
 clear hw1
 refine(HT.out w1 x1).mono ?_
 rintro e w2 ⟨hB,hQ⟩
 have x2:Below w.heap.size w w2:=Ext.trans x1 hB
 rcases hQ with ⟨rfl,hno⟩|⟨vs,refs,nodes,cb,ca,vv,rfl,hT⟩
 ·have HB:qeZ S root next dead w (.returned (.tuple #[.slice none 0 0,.int .i64 8])) w2:=⟨x2,.inl ⟨rfl,hno⟩⟩
  replace HB:=zH HB
  clear hno hB
  go_wp2_with fail
  exact qbw rfl rfl rfl HB.out
 ·have hcc:∀ j v,(KH nodes)[j]?=some v→w2.cell? ⟨cb,262+j,none⟩=some v:=fun j v hj=>by
   obtain⟨h1,rfl⟩:=qgF hj
   rw[qa hT.row]
   exact hT.ar.node j h1
  replace hT:=zH hT
  clear hB
  go_wp2_with (refine kD rfl 82 (.tmp 17) rfl cb 262 rfl (KH nodes) _ hcc Tryz.underlying82 rfl (by rw[show (KH nodes).length=256 by simp[KH]];kernel_rfl) ?_)
  clear hcc
  go_loopw [2,19] (fun v i wq=>N1 nodes w2 v i wq) (fun _ i _=>256-(intOf i).toNat)
  case atStart=>exact⟨0,by omega,rfl,World.ownsRow_nil _ _ _ _,Ext.refl _⟩
  case round =>
   obtain⟨k,hk,rfl,own,xr⟩:=hrel.ex
   clear hrel
   by_cases hlt:k<256
   ·have hix:=YM (cs:=(KH nodes).toArray) hlt (v:=.int .i64 (nodes k)) (by rw[List.getElem?_toArray];exact Gf nodes hlt)
    have hml:=qbu nodes k
    generalize (KH nodes).toArray=arr at *
    obtain⟨AR,cR,rfl,hcr1,hcr2⟩:=qv own
    clear hcr1 hcr2
    replace own:=zH own
    replace xr:=zH xr
    have hsu:=zH (qfQ nodes k)
    rcases Nat.eq_zero_or_pos (nodes k) with h0|h0
    ·have hc1:decide ((nodes k:Int)>0)=false:=decide_eq_false (by omega)
     have hc2:decide (0<nodes k)=false:=decide_eq_false (by omega)
     have IR:N1 nodes w2 (.slice AR (vV nodes k).length cR) (.int .i64 ((k:Int)+1)) wr:=⟨k+1,hlt,rfl,by rw[hsu.out,if_neg (by omega)];exact own.out,xr.out⟩
     replace IR:=zH IR
     replace h0:=zH h0
     go_wp2_with fail
     refine⟨IR.out,?_⟩
     simp[intOf]
     omega
    ·have hc1:decide ((nodes k:Int)>0)=true:=decide_eq_true (by omega)
     have hc2:decide (0<nodes k)=true:=decide_eq_true h0
     obtain⟨i0,hi,hz0,hz1,hz2⟩:=info_parts Tryz.info_int
     replace hml:=zH hml
     replace h0:=zH h0
     go_wp2_with (at_builtin;refine qZ ?_)
     refine Qy.go (ZM _ rfl (.tmp 25) (.tmp 27) 30 rfl w2.heap.size 3 i0 (.int .i64 0) 1 8 Tryz.underlying30 hi hz0 hz1 hz2 rfl (by decide) _ _ _ rfl own.out #[.int .i64 (k:Int)] rfl rfl (by simp[Value.oneCell']) (by have:=hml.out;omega) (by decide) xr.out.size ?_)
     intro v8 w8 own8 _ hB8 _
     have IR:N1 nodes w2 v8 (.int .i64 ((k:Int)+1)) w8:=⟨k+1,hlt,rfl,by
      rw[hsu.out,if_pos h0.out,kV,List.length_append,List.length_singleton]
      exact own8,Below.trans xr.out hB8⟩
     replace IR:=zH IR
     clear own8 hB8 hi hz0 hz1 hz2
     go_wp2_with fail
     refine⟨IR.out,?_⟩
     simp[intOf]
     omega
   ·obtain rfl:k=256:=by omega
    have HB:qeZ S root next dead w (.returned (.tuple #[_,.int .i64 0])) wr:=⟨x2.trans (Below.mono xr x2.size),.inr ⟨vs,refs,nodes,_,w2.heap.size,rfl,x2.size,hT.out.pool,hT.out.cnt,hT.out.enough,own⟩⟩
    replace HB:=zH HB
    replace own:=zH own
    replace xr:=zH xr
    go_wp2_with fail
    exact qbw rfl rfl rfl HB.out
end Go.Proofs.YtpbniokljofedaaGreat
namespace Go.Proofs.YtpbniokljofedaaGreat
open Go.RowKit Go.Shelf
attribute [local go_sem] Oper.semAt_some
theorem qfv (n:Nat) (hn:1≤n) (bs n₀:Nat) (v1 v2 v3 v4:Value) (S:Sto) (hS:qm S=true) (w:World) (hbs:bs<n₀) (hn₀:n₀≤w.heap.size)
  (hrow:w.heap[bs]?=some (.cells #[v1,v2,v3,v4] 28 (0,0))) (hst:qP w n₀ v1 v2 v3 v4 S) :
  SeqStopsK Fence.wide n Tryz.prog 175 #[.pointer (some ⟨bs,0,none⟩)] (fun x:Nat=>#[.int .i64 (x:Int)]) (Below n₀) (fun ys=>ys=QQ S) (fun pre=>pre <+: QQ S) 256 w:=fun l J Jx W hW hJ _ hY h0 =>
 free_in n hn l bs n₀ v1 v2 v3 v4 S hS J Jx hY (fun pre W1 W2 h hx=>hJ pre W1 W2 none h ⟨hx.os,hx.tape,hx.output,hx.size,fun k hk _=>hx.block k hk⟩ (fun _ e=>by cases e)) W hbs (Nat.le_trans hn₀ hW.size) ((hW.block bs (Nat.lt_of_lt_of_le hbs hn₀)).trans hrow) (hst.below (Below.mono hW hn₀)) h0
theorem Tf {w:World} {B:Nat} {e:TypeId} {size:Nat} {v:Value} {n:Nat} {xs:List Value} (h:w.ownsRow B e size v n xs):∀ g,v.ownBlock=some g→∃ c fz,w.heap[g]?=some (.cells c e fz):=by
 intro g hg
 rcases h.2 with ⟨rfl,_⟩|⟨b,cap,cur,rfl,_,h2,_⟩
 ·simp[Value.ownBlock] at hg
 ·simp[Value.ownBlock] at hg
  subst hg
  exact⟨cur,(0,0),h2⟩
theorem own_down {w:World} {B B':Nat} {e:TypeId} {size:Nat} {v:Value} {n:Nat} {xs:List Value} (h:w.ownsRow B e size v n xs) (hb:B'≤B):w.ownsRow B' e size v n xs:=by
 rcases h with ⟨h1,h2|⟨g,cap,cur,e1,h3,h4⟩⟩
 ·exact⟨h1,.inl h2⟩
 ·exact⟨h1,.inr ⟨g,cap,cur,e1,by omega,h4⟩⟩
theorem qcF {w:World} {B:Nat} {e:TypeId} {size:Nat} {v:Value} {n:Nat} {xs:List Value} (h:w.ownsRow B e size v n xs) {D:Nat} {o:Obj} (hD:w.heap[D]?=some o) (ho:o.isCells=false):v.ownBlock=none∨v.ownBlock≠some D:=by
 refine .inr fun hv=>?_
 obtain⟨c,fz,h3⟩:=Tf h D hv
 rw[hD] at h3
 cases h3
 cases ho
theorem TV {B:Nat} {W W':World} {row:Option Nat} (hg:W.grownBy W' row) (hr:∀ g,row=some g→B≤g) (hB:B≤W.heap.size:=by omega):Below B W W':=(Below.refl _ _).grown hg hB (fun k e=>hr k e)
theorem Uk {w w':World} {B:Nat} {e:TypeId} {size:Nat} {v:Value} {n:Nat} {xs:List Value} (h:w.ownsRow B e size v n xs) (hg:w.grownBy w' v.ownBlock):KeepsOthers w w':=⟨hg.size,fun k o hk ho=>(hg.block k (zG.1 hk).1 (fun e1=>by
 obtain⟨c,fz,h3⟩:=Tf h k e1.symm
 rw[hk] at h3
 cases h3
 cases ho)).trans hk⟩
theorem qcD {B:Nat} (b base:Nat) (ty ety:TypeId):OwnFrom B (fun (pre:List Nat) W=>∃ v,W.heap[b]?=some (.cells #[v] ty (0,0))∧W.ownsRow base ety 1 v pre.length (jA pre)):=fun s A C row ⟨v,h1,h2⟩ hg hr =>
 ⟨v,Qs (β:=Unit) _ _ _ _ () A C row h1 hg hr,h2.kept hg (by
  rcases hv:v.ownBlock with _|g
  ·exact .inl rfl
  ·refine .inr fun e=>?_
   obtain⟨_,o,ho,hc⟩:=hr g e.symm
   rcases Tf h2 g hv with ⟨c,fz,h3⟩
   rw[ho] at h3
   cases h3
   cases hc)⟩
set_option maxRecDepth 100000 in
theorem qbT (n:Nat) (h3:3≤n) (bs:Nat) (v1 v2 v3 v4:Value) (S:Sto) (hS:qm S=true) (w:World) (hbs:bs<w.heap.size) (hrow:w.heap[bs]?=some (.cells #[v1,v2,v3,v4] 28 (0,0))) (hst:qP w w.heap.size v1 v2 v3 v4 S) :
  CallsIn Fence.wide n Tryz.prog 174 #[.slice none 0 0,.func (.func 175) #[] #[.pointer (some ⟨bs,0,none⟩)]] w fun e W'=>∃ v,e=.returned v∧Below w.heap.size w W'∧W'.ownsRow (w.heap.size+1) 3 1 v (QQ S).length (jA (QQ S)):=by
 have h1:1≤n:=by omega
 refine callsIn_of_wp_marks Tryz.func174 rfl trivial ?_ rfl
 simp only[Tryz.ntmps174,List.size_toArray,List.length_cons,List.length_nil,Nat.reduceAdd,Nat.reduceSub,Array.replicate_succ,Array.replicate_zero,List.push_toArray,List.append_toArray,List.nil_append,List.cons_append]
 gi_wp2_with fail
 have x1:Ext w (w.alloc (.cells #[.slice none 0 0] 30)):=zN _ _
 obtain⟨i0,hi,hz0,hz1,hz2⟩:=info_parts Tryz.info_int
 refine wpIn_rangeFunc_ownH rfl h1 (gf:=175) (lb:=#[.pointer (some ⟨bs,0,none⟩)]) rfl trivial (enters_of Tryz.func175 (by kernel_rfl) rfl)
  (qfv (n-1) (by omega) bs w.heap.size v1 v2 v3 v4 S hS _ hbs (by simp) (qb hrow x1) (hst.below x1)) Below.trans (belowK_b (by simp)) (Below.refl _ _) (fun _=>rfl)
  (fun pre W=>(∃ v,W.heap[w.heap.size]?=some (.cells #[v] 30 (0,0))∧W.ownsRow (w.heap.size+1) 3 1 v pre.length (jA pre))∧Below w.heap.size w W)
  (fun _ _ _=>False)
  (OwnFrom.and (qcD _ _ _ _) (ownFrom_below (zM _) (by simp)))
  (fun _ _ _ _ _ hs _ _=>hs)
  ⟨⟨.slice none 0 0,zI _ _ _ rfl,World.ownsRow_nil _ _ _ _⟩,x1⟩
  (fun x a' _=>a'={ tmps:=#[.slice none 0 0,.func (.func 175) #[] #[.pointer (some ⟨bs,0,none⟩)],.pointer (some ⟨w.heap.size,0,none⟩),undef,.slice none 0 0,.int .i64 (x:Int),.func (.func 175) #[] #[.pointer (some ⟨bs,0,none⟩)],.int .i64 (x:Int),undef,undef,undef,undef,undef],defers:=[] })
  (fun x a'=>Kg _ _) ?assign ?body ?done ?stop
 case assign =>
  rintro l pre x W K hI hK
  gi_wp2_with fail
  exact hK _ _ (KeepsFrom.refl _ _) (Below.refl _ _) hI rfl
 case body =>
  rintro l pre x a' W hl - ⟨⟨v,hr,hown⟩,hB⟩ rfl hpl
  have kr:=qa hr
  have zb:w.heap.size<W.heap.size:=(zG.1 hr).1
  have hne:v.ownBlock≠some w.heap.size:=fun e=>by have:=(QR hown _ e).1;omega
  obtain⟨Av,cv,rfl,-,-⟩:=qv hown
  gi_wp2_with (gi_at_builtin;refine YS ?_)
  refine Qy.go (YR W rfl (.tmp 8) (.tmp 10) 30 rfl (w.heap.size+1) 3 i0 _ 1 8 Tryz.underlying30 hi hz0 hz1 hz2 rfl (by decide) (.slice Av pre.length cv) pre.length _ (by exact rfl) hown #[.int .i64 (x:Int)] (by exact rfl) rfl (by simp[Value.oneCell']) (by omega) (by decide) (by omega) ?_)
  intro v' W3 hown3 hg hat
  have hg0:∀ g,(Value.slice Av pre.length cv).ownBlock=some g→w.heap.size+1≤g:=fun g e=>(QR hown _ e).1
  have hr3:W3.heap[w.heap.size]?=_:=(hg.block _ zb (fun e=>hne e.symm)).trans hr
  have kr3:=qa hr3
  have fr3:=qd hr3
  have hB3:Below w.heap.size W W3:=TV hg fun g e=>by have:=hg0 g e;omega
  have zb3:w.heap.size<W3.heap.size:=(zG.1 hr3).1
  have hg3:∀ g,v'.ownBlock=some g→w.heap.size+1≤g:=fun g e=>(QR hown3 _ e).1
  have hkeep:KeepsOthers W W3:=Uk hown hg
  replace hg:=zH hg
  replace hown:=zH hown
  replace hat:=zH hat
  obtain⟨Av',cv',rfl,-,-⟩:=qv hown3
  replace hown3:=zH hown3
  gi_wp2_with fail
  refine⟨(hkeep.trans (KeepsOthers.setCell _ _ _)).from _,hB3.setCell (p:=⟨w.heap.size,0,none⟩) (zM _) _,⟨_,qi hr3 0 _,?_⟩,hB.trans (hB3.setCell (p:=⟨w.heap.size,0,none⟩) (zM _) _)⟩
  rw[List.length_append,List.length_singleton,kV]
  exact hown3.out.kept (grownBy_setCell' _ _ _) (.inr fun e=>by have:=hg3 _ e;omega)
 case done =>
  rintro D ys W hD rfl ⟨⟨v,hr,hown⟩,hB⟩ hK
  have kr:=qa hr
  gi_wp2_with fail
  refine⟨by simp,.inl ⟨_,_,rfl,run_takeDeferred hK,?_⟩⟩
  exact⟨_,results_tmp rfl _ _ _,v,rfl,hB.trans (belowK_b (w:=w) (zM _) W D _ _ (by simp at hD;omega) hK rfl rfl),hown.kept (grownBy_putObj' W D _) (qcF hown hK rfl)⟩
 case stop =>
  rintro D c pre W _ _ h _
  exact h.elim
def RFreeQ (S:Sto) (w:World) (e:Ending) (w':World):Prop:=Below w.heap.size w w' ∧
 ((qm S=false∧e=.returned (.tuple #[.slice none 0 0,.int .i64 8]))∨(qm S=true∧∃ v,e=.returned (.tuple #[v,.int .i64 0])∧w'.ownsRow w.heap.size 3 1 v (QQ S).length (jA (QQ S))))
set_option maxRecDepth 100000 in
theorem qdB (bs:Nat) (v1 v2 v3 v4:Value) (S:Sto) (hS:qm S=true) (w:World) (hbs:bs<w.heap.size) (hrow:w.heap[bs]?=some (.cells #[v1,v2,v3,v4] 28 (0,0))) (hst:qP w w.heap.size v1 v2 v3 v4 S) :
  Calls Tryz.prog 160 #[.func (.func 175) #[] #[.pointer (some ⟨bs,0,none⟩)]] w fun e W'=>∃ v,e=.returned v∧Below w.heap.size w W'∧W'.ownsRow (w.heap.size+1) 3 1 v (QQ S).length (jA (QQ S)):=by
 go_enter Tryz.func160,Tryz.ntmps160
 go_wp2_with fail
 refine((callsIn_wide (n:=3)).1 (qbT 3 (by omega) bs v1 v2 v3 v4 S hS w hbs hrow hst)).mono ?_
 rintro e w2 ⟨v,rfl,hB,hown⟩
 obtain⟨A,c,rfl,-,-⟩:=qv hown
 replace hown:=zH hown
 go_wp2_with fail
 go_ret
 exact⟨_,rfl,hB,hown.out⟩
theorem qft (A1:Option Addr) (n1 c1:Nat) (A2:Option Addr) (n2 c2:Nat) (A3:Option Addr) (n3 c3:Nat) (A4:Option Addr) (n4 c4:Nat) (w:World) :
  Calls Tryz.prog 161 #[qX A1 n1 c1 A2 n2 c2 A3 n3 c3 A4 n4 c4] w (fun e w'=>e=.returned (.func (.func 175) #[] #[.pointer (some ⟨w.heap.size,0,none⟩)])∧w'=w.alloc (.cells #[.slice A1 n1 c1,.slice A2 n2 c2,.slice A3 n3 c3,.slice A4 n4 c4] 28)):=by
 go_enter Tryz.func161,Tryz.ntmps161
 go_wp2
 go_ret
 exact⟨rfl,rfl⟩
theorem qbF {R:Ending→World→Prop} {a:Act} {W:World} {u v:Value} (h2:a.tmps[2]?.getD undef=u) (h3:a.tmps[3]?.getD undef=v) (hd:a.defers=[]) (hR:R (.returned (.tuple #[u,v])) W):bodyPost Tryz.prog Tryz.f118 R .ret a W:=by
 refine bodyPost_ret (v:=.tuple #[u,v]) ?_ hd hR
 simp[results,Tryz.results118,go_sem,h2,h3]
set_option maxRecDepth 100000 in
theorem TL (A1:Option Addr) (n1 c1:Nat) (A2:Option Addr) (n2 c2:Nat) (A3:Option Addr) (n3 c3:Nat) (A4:Option Addr) (n4 c4:Nat) (S:Sto) (w:World) (h:qP w w.heap.size (.slice A1 n1 c1) (.slice A2 n2 c2) (.slice A3 n3 c3) (.slice A4 n4 c4) S) :
  Calls Tryz.prog 118 #[qX A1 n1 c1 A2 n2 c2 A3 n3 c3 A4 n4 c4] w (RFreeQ S w):=by
 have HC:=zH (fun W (hx:Ext w W)=>jU A1 n1 c1 A2 n2 c2 A3 n3 c3 A4 n4 c4 S W (h.ext hx))
 replace h:=zH h
 go_enter Tryz.func118,Tryz.ntmps118
 go_wp2_with fail
 generalize hw1:(World.alloc w _)=w1
 have x1:Ext w w1:=by rw[←hw1];exact zN _ _
 have r1:w1.heap[w.heap.size]?=some (.cells #[.slice A1 n1 c1,.slice A2 n2 c2,.slice A3 n3 c3,.slice A4 n4 c4] 28 (0,0)):=by rw[←hw1];exact zI _ _ _ rfl
 clear hw1
 refine(HC.out w1 x1).mono ?_
 clear HC
 rintro e w2 ⟨rfl,hB⟩
 have x2:Ext w w2:=x1.trans hB
 have r2:=qb r1 hB
 have k2:=qa r2
 clear hB r1 x1
 rcases hS:qm S with _|_
 ·rw[jL rfl]
  replace hS:=zH hS
  go_wp2_with fail
  exact qbF rfl rfl rfl ⟨x2,.inl ⟨hS.out,rfl⟩⟩
 ·rw[Jf rfl]
  go_wp2_with fail
  refine(qft A1 n1 c1 A2 n2 c2 A3 n3 c3 A4 n4 c4 w2).mono ?_
  rintro e w3 ⟨rfl,rfl⟩
  have x3:Ext w2 (w2.alloc (.cells #[.slice A1 n1 c1,.slice A2 n2 c2,.slice A3 n3 c3,.slice A4 n4 c4] 28)):=zN _ _
  have r3:(w2.alloc (.cells #[.slice A1 n1 c1,.slice A2 n2 c2,.slice A3 n3 c3,.slice A4 n4 c4] 28)).heap[w2.heap.size]?=_:=zI _ _ _ rfl
  have h3:=h.out.ext (x2.trans x3)
  generalize hw3:w2.alloc _=w3 at *
  have s3:w2.heap.size<w3.heap.size:=(zG.1 r3).1
  go_wp2_with fail
  refine(qdB w2.heap.size _ _ _ _ S hS w3 s3 r3 h3).mono ?_
  rintro e w4 ⟨v,rfl,hB4,hown⟩
  obtain⟨A,c,rfl,-,-⟩:=qv hown
  have HR:RFreeQ S w (.returned (.tuple #[.slice A (QQ S).length c,.int .i64 0])) w4:=⟨Ext.trans (x2.trans x3) hB4,.inr ⟨hS,_,rfl,own_down hown (by have:=(x2.trans x3).size;omega)⟩⟩
  replace HR:=zH HR
  replace hown:=zH hown
  replace hS:=zH hS
  clear hw3 r3 r2 k2
  go_wp2_with fail
  exact qbF rfl rfl rfl HR.out
end Go.Proofs.YtpbniokljofedaaGreat
namespace Go.Proofs.YtpbniokljofedaaGreat
open Go.RowKit
section
variable {F0:Fence} {P:Program} {ops:Array Oper} {n:Nat}
end


end Go.Proofs.YtpbniokljofedaaGreat
namespace Go.Proofs.YtpbniokljofedaaGreat
open Go.RowKit Go.Shelf
attribute [local go_sem] Oper.semAt_some
def QS (S:Sto):Nat:=(QQ S).headD 0
def Kp (S:Sto) (a:Nat) (data:List UInt8):Sto:=⟨S.bs,S.ws++[((a:Int),data)],S.now.set a 1,S.last⟩
theorem KeepsOthers.of_ext {W W':World} (h:Ext W W'):KeepsOthers W W':=⟨h.size,fun k _ hk _=>(h.block k (zG.1 hk).1).trans hk⟩
theorem GV {w W:World} {x0 x1 x2 x3 y z:Value} {ty1 ty2 ty3:TypeId} {u0 u1 u2 u3 u5 u6:Value} (r4:W.heap[w.heap.size+2]?=some (.cells #[u0,u1,u2,u3] ty1 (0,0))) (r5:W.heap[w.heap.size+3]?=some (.cells #[u5] ty2 (0,0))) (r6:W.heap[w.heap.size+4]?=some (.cells #[u6] ty3 (0,0))) {C:World}
  (hC:C=((((((W.setCell ⟨w.heap.size+1+1,0,none⟩ x0).setCell ⟨w.heap.size+1+1,1,none⟩ x1).setCell ⟨w.heap.size+1+1,2,none⟩ x2).setCell ⟨w.heap.size+1+1,3,none⟩ x3).setCell ⟨w.heap.size+1+1+1,0,none⟩ y).setCell ⟨w.heap.size+1+1+1+1,0,none⟩ z)) :
  C.heap[w.heap.size+2]?=some (.cells #[x0,x1,x2,x3] ty1 (0,0))∧C.heap[w.heap.size+3]?=some (.cells #[y] ty2 (0,0))∧C.heap[w.heap.size+4]?=some (.cells #[z] ty3 (0,0))∧(∀ {B:Nat} {w0:World},B≤w.heap.size+2→Below B w0 W→Below B w0 C)∧C.heap.size=W.heap.size∧(∀ k,w.heap.size+5≤k→C.heap[k]?=W.heap[k]?)∧KeepsOthers W C:=by
 subst hC
 have hs:=fun (A:World) (b j:Nat) (v:Value) (k:Nat) (hk:k≠b)=>zJ A ⟨b,j,none⟩ v k hk
 refine⟨?_,?_,?_,fun hB h=>?_,by simp,fun k hk=>?_,?_⟩
 ·rw[hs _ _ _ _ _ (by omega),hs _ _ _ _ _ (by omega)]
  exact vz r4 x0 x1 x2 x3
 ·rw[hs _ _ _ _ _ (by omega)]
  refine qi (t:=ty2) (cs:=#[u5]) ?_ 0 y
  rw[hs _ _ _ _ _ (by omega),hs _ _ _ _ _ (by omega),hs _ _ _ _ _ (by omega),hs _ _ _ _ _ (by omega)]
  exact r5
 ·refine qi (t:=ty3) (cs:=#[u6]) ?_ 0 z
  rw[hs _ _ _ _ _ (by omega),hs _ _ _ _ _ (by omega),hs _ _ _ _ _ (by omega),hs _ _ _ _ _ (by omega),hs _ _ _ _ _ (by omega)]
  exact r6
 ·exact Below.setCell (Below.setCell (zy h (b:=w.heap.size+1+1) (by omega) x0 x1 x2 x3) (p:=⟨w.heap.size+1+1+1,0,none⟩) (by simp;omega) _) (p:=⟨w.heap.size+1+1+1+1,0,none⟩) (by simp;omega) _
 ·rw[hs _ _ _ _ _ (by omega),hs _ _ _ _ _ (by omega),hs _ _ _ _ _ (by omega),hs _ _ _ _ _ (by omega),hs _ _ _ _ _ (by omega),hs _ _ _ _ _ (by omega)]
 ·exact(((((KeepsOthers.setCell _ _ _).trans (KeepsOthers.setCell _ _ _)).trans (KeepsOthers.setCell _ _ _)).trans (KeepsOthers.setCell _ _ _)).trans (KeepsOthers.setCell _ _ _)).trans (KeepsOthers.setCell _ _ _)
end Go.Proofs.YtpbniokljofedaaGreat
namespace Go.Proofs.YtpbniokljofedaaGreat
open Go.RowKit
def Jy (t:List UInt8) (a:Nat):Except Int (List UInt8):=if a=0 then .ok t else if Qh t a=0 then .error 6 else if Qh t a=255 then .error 70 else .ok (jc t a 1)
def ZG:List Nat→List UInt8→Except Int (List UInt8)
 | [],t=>.ok t
 |a :: r,t=>match Jy t a with
  | .error e=>.error e
  | .ok t'=>ZG r t'
theorem JF:∀ (l r:List Nat) (t:List UInt8),ZG (l++r) t=match ZG l t with
  | .error e=>.error e
  | .ok t'=>ZG r t'
 | [],_,_=>rfl
 |a :: l,r,t=>by
  simp only[List.cons_append,ZG]
  cases Jy t a with
  |error e=>rfl
  |ok t'=>exact JF l r t'
theorem qag (a:Nat) (t:List UInt8):ZG [a] t=Jy t a:=by
 simp only[ZG]
 cases Jy t a <;> rfl
def qV (its:List It):List Nat:=its.map fun x=>x.r.toNat
theorem Vx {its:List It} {k:Nat} (hk:k<its.length):qV (its.take (k+1))=qV (its.take k)++[(its[k].r).toNat]:=by
 unfold qV
 rw[List.take_succ_eq_append_getElem hk,List.map_append]
 rfl
theorem qgd {its:List It} (k:Nat):qV its=qV (its.take k)++qV (its.drop k):=by
 unfold qV
 rw[←List.map_append,List.take_append_drop]
theorem qgl {its:List It} {k:Nat} (hk:k<its.length) {t t':List UInt8} {e:Int} (h:ZG (qV (its.take k)) t=.ok t') (h1:Jy t' (its[k].r).toNat=.error e):ZG (qV its) t=.error e:=by
 rw[qgd (its:=its) (k+1),JF,Vx hk,JF,h]
 simp only[qag,h1]
theorem qeC {its:List It} {k:Nat} (hk:k<its.length) {t t' t'':List UInt8} (h:ZG (qV (its.take k)) t=.ok t') (h1:Jy t' (its[k].r).toNat=.ok t''):ZG (qV (its.take (k+1))) t=.ok t'':=by
 rw[Vx hk,JF,h]
 simp only[qag,h1]
def zX (S:Sto) (lvl:Int) (its:List It):Except Int (Nat×Sto):=
 if Qe lvl its=true then
  match ZG (qV its) S.now with
  | .error e=>.error e
  | .ok t=>if QQ (qw S t)=[]∨S.ws.length=4096 then .error 9 else .ok (QS (qw S t),Kp (qw S t) (QS (qw S t)) (jh (zP lvl its)))
 else .error 8
section
variable {D:Nat→Prop} {B lo b g:Nat} {k:Option Nat} {S:Sto} {w W:World}
theorem Bch.lens (h:Bch D B lo b g k S w):S.now.length=256∧S.last.length=256:=by
 obtain⟨A1,n1,c1,v2,c3,A4,c4,hr,ho,-,-,h4⟩:=h.ex
 have:=ho.1
 have h5:=h4.at_.1
 exact⟨by simpa using this,h5.symm⟩
theorem Bch.cells (h:Bch D B lo b g k S w):∃ A1 n1 c1 v2 c3 A4 c4,(∀ i,w.cell? ⟨b,i,none⟩=#[.slice A1 n1 c1,v2,.slice (some ⟨g,0,none⟩) 256 c3,.slice A4 256 c4][i]?)∧(∀ a,a<256→w.cell? ⟨g,a,none⟩=some (.int .u8 (zE S a:Int)))∧(∀ a,w.frozen? ⟨g,a,none⟩=false):=by
 obtain⟨A1,n1,c1,v2,c3,A4,c4,hr,ho,-,-,-⟩:=h.ex
 obtain⟨h1,h2,-,-⟩:=Zc ho
 exact⟨A1,n1,c1,v2,c3,A4,c4,qa hr,h1,h2⟩
end
theorem Xb {R:Ending→World→Prop} {a:Act} {W:World} {v:Value} (h4:a.tmps[4]?.getD undef=v) (hd:a.defers=[]) (hR:R (.returned v) W):bodyPost Tryz.prog Tryz.f156 R .ret a W:=by
 refine bodyPost_ret (v:=v) ?_ hd hR
 simp[results,Tryz.results156,go_sem,h4]
set_option maxRecDepth 100000 in
theorem qfh (D:Nat→Prop) (B lo b g:Nat) (k:Option Nat) (S:Sto) (a:Nat) (ha:a<256) (w:World) (h:Bch D B lo b g k S w) :
  Calls Tryz.prog 156 #[.pointer (some ⟨b,0,none⟩),.int .i64 (a:Int)] w fun e W=>qY lo b g k w W ∧
   ((Qh S.now a=0∧e=.returned (.int .i64 6))∨(Qh S.now a=255∧e=.returned (.int .i64 70))∨(Qh S.now a≠0∧Qh S.now a≠255∧e=.returned (.int .i64 0)∧Bch D B lo b g k (qw S (jc S.now a 1)) W)):=by
 obtain⟨A1,n1,c1,v2,c3,A4,c4,kr,hk,hf⟩:=h.cells
 have hka:=hk a ha
 have hfa:=hf a
 have hT:Hid (jc S.now a 1=S.now.set a (UInt8.ofNat (Qh S.now a+1))):=rfl
 have hset:=zH (h.count ha (UInt8.ofNat (Qh S.now a+1)))
 have hcn:zE S a=Qh S.now a:=rfl
 have hc2:=(S.now[a]?.getD 0).toNat_lt
 have hc:Qh S.now a=(S.now[a]?.getD 0).toNat:=rfl
 rw[hcn] at hka
 rw[←hc] at hc2
 have hwv:=qcN (Qh S.now a+1)
 generalize Qh S.now a=nv at *
 clear hk hf hc hcn h
 by_cases h0:nv=0
 ·subst h0
  clear hset hT hwv
  go_enter Tryz.func156,Tryz.ntmps156
  go_wp2_with fail
  exact Xb rfl rfl ⟨qY.refl _ _ _ _ _,.inl ⟨by trivial,rfl⟩⟩
 ·have hz1:((nv:Int) == 0)=false:=by rw[beq_eq_false_iff_ne];omega
  have hz2:decide (nv=0)=false:=decide_eq_false (by omega)
  by_cases h1:nv=255
  ·subst h1
   clear hset hT hwv
   go_enter Tryz.func156,Tryz.ntmps156
   go_wp2_with fail
   exact Xb rfl rfl ⟨qY.refl _ _ _ _ _,.inr (.inl ⟨by trivial,rfl⟩)⟩
  ·have hz3:((nv:Int) == 255)=false:=by rw[beq_eq_false_iff_ne];omega
   have hz4:decide (nv=255)=false:=decide_eq_false (by omega)
   replace h0:=zH h0
   replace h1:=zH h1
   rw[show ((nv+1:Nat):Int)=(nv:Int)+1 from rfl] at hwv
   go_enter Tryz.func156,Tryz.ntmps156
   go_wp2_with fail
   refine Xb rfl rfl ⟨hset.out.2,.inr (.inr ⟨h0.out,h1.out,rfl,?_⟩)⟩
   rw[hT.out]
   exact hset.out.1
set_option maxRecDepth 100000 in
theorem TY (D:Nat→Prop) (B lo b g:Nat) (k:Option Nat) (S:Sto) (a:Nat) (ha:a<256) (w:World) (h:Bch D B lo b g k S w) :
  Calls Tryz.prog 133 #[.pointer (some ⟨b,0,none⟩),.int .i64 (a:Int)] w fun e W=>qY lo b g k w W ∧
   ((Qh S.now a=0∧e=.returned (.int .i64 6))∨(Qh S.now a≠0∧e=.returned (.int .i64 0)∧Bch D B lo b g k (qw S (VQ S.now a)) W)):=by
 obtain⟨A1,n1,c1,v2,c3,A4,c4,kr,hk,hf⟩:=h.cells
 have hka:=hk a ha
 have hfa:=hf a
 have hT:Hid (VQ S.now a=S.now.set a (UInt8.ofNat (Qh S.now a-1))):=rfl
 have hset:=zH (h.count ha (UInt8.ofNat (Qh S.now a-1)))
 have hcn:zE S a=Qh S.now a:=rfl
 have hc2:=(S.now[a]?.getD 0).toNat_lt
 have hc:Qh S.now a=(S.now[a]?.getD 0).toNat:=rfl
 rw[hcn] at hka
 rw[←hc] at hc2
 generalize Qh S.now a=nv at *
 clear hk hf hc hcn h
 by_cases h0:nv=0
 ·subst h0
  clear hset hT
  go_enter Tryz.func133,Tryz.ntmps133
  go_wp2_with fail
  exact Gh rfl rfl ⟨qY.refl _ _ _ _ _,.inl ⟨by trivial,rfl⟩⟩
 ·have hz1:((nv:Int) == 0)=false:=by rw[beq_eq_false_iff_ne];omega
  have hz2:decide (nv=0)=false:=decide_eq_false (by omega)
  have hwv:=qhr (n:=nv) (by omega) hc2
  replace h0:=zH h0
  go_enter Tryz.func133,Tryz.ntmps133
  go_wp2_with fail
  refine Gh rfl rfl ⟨hset.out.2,.inr ⟨h0.out,rfl,?_⟩⟩
  rw[hT.out]
  exact hset.out.1
end Go.Proofs.YtpbniokljofedaaGreat
