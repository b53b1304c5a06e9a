/- Texts FreeI, FreeIt, PushI, FreeL, FreeP, Twin3, Twin8, RTake, BMake, PushR, joined. -/
import Derived.OrdersIn
import Derived.TacticsIn
import Derived.CallsIn
import Derived.RangeFuncKeeps
import Derived.Sort.CutIn
import Derived.Test.YtpbniokljofedaaGreatZI16
set_option linter.unusedSimpArgs false
set_option linter.unusedVariables false
set_option maxHeartbeats 8000000
open Go.Proofs.Tryz
namespace Go.Proofs.YtpbniokljofedaaGreat
open Go.RowKit
structure qcI (F:Fence):Prop where
 fn:∀ f,F.fn f
 depth:¬F.depth.isSome=true
 call:∀ {n:Nat} {P:Program} {f:FuncId} {args:Array Value} {w:World} {R:Ending->World->Prop},Calls P f args w R->CallsIn F n P f args w R
theorem wideF:qcI Fence.wide:=⟨fun _=>trivial,fun h=>(by cases h),fun h=>callsIn_wide.2 h⟩
theorem JR (l:Nat):qcI (Fence.wide.inRound l):=⟨fun _=>trivial,fun h=>(by cases h),fun h=>CallsIn.inRound l (callsIn_wide.2 h)⟩
def UL (ops:Array Oper):Bool:=ops.toList.all fun o=>match o.op with | .defer _=>false|_=>true
theorem XO {ops:Array Oper} (h:UL ops=true) {i:Nat} {o:Oper} (ho:ops[i]?=some o):∀ c,o.op≠.defer c:=by intro c hc;have h1:=List.all_eq_true.1 h o (by have:=Array.mem_of_getElem? ho;simpa using this);rw[hc] at h1;cases h1
section
variable {F:Fence} {P:Program} {ops:Array Oper} {n:Nat}
theorem Uz {Q':Exit->Act->World->Prop}:∀ (l:List Oper) (k:Nat) (listed:Array Bool) (a:Act) (W:World),(∀ j,j<l.length->l[j]?=ops[k+j]?)->TJ ops l.length k listed=true->wpListIn F n P ops Q' l a W->wpAnyIn F n P .any ops Q' l.length listed a W
 | [],_,_,_,_,_,hB,h=>⟨by simpa [TJ] using hB,h⟩
 |o :: l,k,listed,a,W,hl,hB,h=>by
  simp only[List.length_cons,TJ,Bool.and_eq_true] at hB;obtain⟨hr,iC⟩:=hB;have lY:Region.ready .any ops listed=[k]:=by simpa using hr
  have h0:ops[k]?=some o:=by simpa using (hl 0 zA3).symm
  refine⟨fun e=>(by rw[lY] at e;cases e),fun i hi=>?_⟩;rw[lY] at hi;obtain rfl:i=k:=by simpa using hi
  have wY:∀ j,j<l.length->l[j]?=ops[i+1+j]?:=fun j hj=>by have:=hl (j+1) (by simpa using hj);simpa [Nat.add_assoc,Nat.add_comm 1 j] using this
  refine wpOpIn_mono (fun a w hw=>Uz l (i+1) _ a w wY iC hw) ?_;unfold wpOpIn;simp only[h0];exact h
end
section
variable {F0:Fence} {R:Rel} {P:Program} {ops:Array Oper} {w0:World} {n:Nat}
theorem UG (HF:qcI F0) (HN:UL ops=true) {H:Nat->Option qS} {i:Nat} {o:Oper} {a:Act} {F:qJ} {K:Act->qJ->Prop} {K':Act->World->Prop} {Q':Exit->Act->World->Prop} {W:World} (hi:ops[i]?=some o) (hH:∀ i h,H i=some h->∀ p,qC R (h.φ p)) (aH:∀ k,qC R (F k)) (hW:R.r w0 W) (hF:∀ k,F k W) (hK:∀ a' F' W',K a' F'->(∀ k,qC R (F' k))->R.r w0 W'->(∀ k,F' k W')->K' a' W') (h:FOpG R P ops w0 H i o K a F):wpOpIn F0 n P ops Q' i K' a W:=by
 obtain⟨hh,hok,hn⟩:=h;have go:∀ p W',R.r W W'->hh.φ p W'->K' (a.put o.dst (hh.f p)) W':=fun p W' he hφ=>by
  have lq:∀ k,upd F i o (hh.φ p) k W':=fun k=>by
   unfold upd;split
   ·exact⟨hφ,fun j _=>aH j _ _ he (hF j)⟩
   ·exact aH k _ _ he (hF k)
  exact hK _ _ W' (hn p ⟨W',R.trans hW he,lq⟩) (Zt aH i o (hok.stable hH p)) (R.trans hW he) lq
 unfold wpOpIn;simp only[hi];rcases hok with ⟨x1,rfl⟩|⟨x1,x2,v,rfl,x3⟩|⟨x1,x2,x3⟩
 ·simp only[x1,Bool.false_eq_true,if_false];exact⟨fun f _=>HF.fn f,go () W (R.refl W) trivial⟩
 ·simp only[x1,if_true];obtain⟨w',hr,he⟩:=x3 W hW fun k _=>hF k;refine⟨fun f _=>HF.fn f,?_⟩;rw[Oper.semAt_eq _ _ _ (XO HN hi),hr];exact go () w' he trivial
 ·simp only[x1,if_true];have h3:=x3 W hW fun k _=>hF k;unfold QC at h3;refine⟨fun f _=>HF.fn f,?_⟩;rw[Oper.semAt_eq _ _ _ (XO HN hi)];generalize (execOp a.eval o).run P W=r at *;cases r with
  |ok m w' =>
   cases m <;> simp only[ZC] at h3 <;> simp only[Oper.uponIn]
   case value u =>obtain⟨p,rfl,hp,he⟩:=h3;exact go p w' he hp
   case skip =>
    obtain⟨p,e,hp,he⟩:=h3;have:=go p w' he hp
    rwa [<-e] at this
   case enter f args =>obtain⟨he,bJ⟩:=h3;refine⟨fun h=>absurd h HF.depth,HF.call (bJ.mono fun e w'' ⟨p,he1,hp,lJ⟩=>?_)⟩;subst he1;exact go p w'' (R.trans he lJ) hp
  |halt x w'=>simp only[ZC] at h3
theorem ku (HF:qcI F0) (HN:UL ops=true) {H:Nat->Option qS} (hH:∀ i h,H i=some h->∀ p,qC R (h.φ p)) {L:Array Bool} {t:Nat} {Q:Act->qJ->Prop} {Q':Exit->Act->World->Prop} (hQ:∀ a F W,Q a F->R.r w0 W->(∀ k,F k W)->wpAnyIn F0 n P .any ops Q' t L a W) : ∀ (fuel:Nat) (listed:Array Bool) (a:Act) (F:qJ) (W:World),(∀ k,qC R (F k))->R.r w0 W->(∀ k,F k W)->vw R P ops w0 H L Q fuel listed a F->wpAnyIn F0 n P .any ops Q' (fuel+t) listed a W
 |0,listed,a,F,W,_,hW,hF,h=>by rw[h.1,Nat.zero_add];exact hQ a F W h.2 hW hF
 |fuel+1,listed,a,F,W,aH,hW,hF,h=>by rw[show fuel+1+t=fuel+t+1 by omega];refine⟨fun h0=>absurd h0 h.1,fun i hi=>?_⟩;obtain⟨_,o,ho,_⟩:=mem_ready.1 hi;exact UG HF HN ho hH aH hW hF (fun a' F' W' hk gm ay lq=>ku HF HN hH hQ fuel _ a' F' W' gm ay lq hk) (h.2 i hi o ho)
theorem QT {id:Nat} {l:List Oper} {Q:Exit->Act->World->Prop} {a:Act} {w:World} (R:Rel) (H:Nat->Option qS) (M:List Bool) (t:Nat) (HF:qcI F0) (HN:UL l.toArray=true) (hm:P.follows .mixedOrders=true) (hs:Region.noSelect l.toArray=true) (ht:qeq l.toArray (QK l.length (l.length-t)) ((qp 0 l M).map (·.1))=true) (dC:Yj l.toArray (Array.replicate l.length false)=true) (hB:Zq l.toArray (QK l.length (l.length-t)) ((qp 0 l M).map (·.1)) (Array.replicate l.length false)=true) (mZ:TJ l.toArray t (l.length-t) (QK l.length (l.length-t))=true) (hfu:l.length=(qp 0 l M).length+t) (oD:(l.drop (l.length-t)).length=t) (hH:∀ i h,H i=some h->∀ p,qC R (h.φ p)) (hW:R.r w w.drew) (h:∀ K:Act->qJ->Prop,(∀ a' F',(∀ W,R.r w W->(∀ k,F' k W)->wpListIn F0 n P l.toArray Q (l.drop (l.length-t)) a' W)->K a' F')->Zz R P l.toArray w H K (qp 0 l M) a (fun _ _=>True)):(Code.region id l.toArray true).wpIn F0 n P Q a w:=by
 have h:=h _ (fun a' F' hh=>hh);refine wpIn_region_any hm ?_;have key:=Yf (w0:=w) hH hs (fun _ _ h=>h.step) (Xo ht) (qp 0 l M) (Array.replicate l.length false) a (fun _ _=>True) (ve dC) (fun x hx=>by obtain⟨j,h1,h2⟩:=vk l M 0 x hx;refine⟨?_,List.mem_map.2 ⟨x,hx,rfl⟩⟩;rw[h1,Nat.zero_add];simpa using h2) hB (fun _ _ _ _ _=>trivial) ⟨w.drew,hW,fun _=>trivial⟩ (fun _ _ _=>trivial) h;have:=ku (n:=n) (w0:=w) HF HN hH (t:=t) (Q':=Q) (fun a F W hq hW hF=>by
  have:=Uz (F:=F0) (n:=n) (l.drop (l.length-t)) (l.length-t) _ a W (fun j _=>by rw[List.getElem?_drop];simp) (by rw[oD];exact mZ) (hq W hW hF)
  rwa [oD] at this) _ _ _ _ w.drew (fun _ _ _ _ _=>trivial) hW (fun _=>trivial) key
 rw[<-hfu] at this;simpa using this
end
end Go.Proofs.YtpbniokljofedaaGreat
namespace Go.Proofs.YtpbniokljofedaaGreat
open Go.RowKit Go.Shelf
attribute [local go_sem] Oper.semAt_some
def VL (S:Sto) (a:Nat):Nat:=(S.last[a]?.getD 0).toNat
def ZK (S:Sto) (a:Nat):Bool:=decide (8<=a) && (decide (ZE S a=0) && decide (VL S a=0))
def jA (S:Sto) (k:Nat):List Nat:=(List.range k).filter (ZK S)
def Zj (S:Sto):List Nat:=jA S 256
theorem KF (S:Sto) (k:Nat):jA S (k+1)=if ZK S k=true then jA S k++[k] else jA S k:=by
 unfold jA;rw[List.range_succ,List.filter_append];by_cases h:ZK S k=true
 ·rw[if_pos h];simp[h]
 ·rw[if_neg h];simp[h]
theorem qeZ (S:Sto) (k:Nat):(jA S k).length<=k:=Nat.le_trans (List.length_filter_le _ _) zA3
theorem freeTo_8 (S:Sto):jA S 8=[]:=by
 unfold jA;rw[List.filter_eq_nil_iff];intro a ha;have:a<8:=by simpa using ha
 unfold ZK;simp[show ¬8<=a by omega]
theorem Gg (S:Sto) {k m:Nat} (h:k<=m):jA S k <+: jA S m:=by
 induction m with
 |zero =>
  obtain rfl:k=0:=zO;exact List.prefix_refl _
 |succ m ih =>
  rcases Nat.lt_or_ge m k with h1|h1
  ·obtain rfl:k=m+1:=zO;exact List.prefix_refl _
  ·refine(ih h1).trans ?_;rw[KF];split
   ·exact List.prefix_append _ _
   ·exact List.prefix_refl _
theorem qgp (S:Sto) (a:Nat):ZE S a<256:=UInt8.toNat_lt _
theorem qdE (S:Sto) (a:Nat):VL S a<256:=UInt8.toNat_lt _
theorem qgs (a b:Nat) (ha:a<256) (hb:b<256):(bits .or .u8 (a:Int) (b:Int) == 0)=(decide (a=0) && decide (b=0)):=by
 have e:bits .or .u8 (a:Int) (b:Int)=((a ||| b:Nat):Int):=by
  have e:∀ n:Nat,n<256->(BitVec.ofInt 8 (n:Int)).toNat=n:=fun n hn=>by simp[BitVec.ofInt_natCast];omega
  have hx:a ||| b<2 ^ 8:=Nat.or_lt_two_pow zO zO
  show IntKind.u8.wrap (((BitVec.ofInt 8 (a:Int) ||| BitVec.ofInt 8 (b:Int)).toNat:Nat):Int)=_;rw[BitVec.toNat_or,e a ha,e b hb];simp[IntKind.wrap,IntKind.bits,IntKind.signed];omega
 rw[e];by_cases h:a=0/\b=0
 ·obtain⟨rfl,rfl⟩:=h;rfl
 ·have h2:a ||| b≠0:=by
   intro h3;have h4:a<=a ||| b:=Nat.left_le_or
   have h5:b<=a ||| b:=Nat.right_le_or
   exact h ⟨zO,zO⟩
  have h6:(decide (a=0) && decide (b=0))=false:=by
   rcases Nat.eq_zero_or_pos a with h7|h7
   ·have:b≠0:=fun h8=>h ⟨h7,h8⟩;simp[this]
   ·simp[show a≠0 by omega]
  rw[h6];simpa using fun h9:((a ||| b:Nat):Int)=0=>h2 zO
theorem last_at {S:Sto} (hS:qo S=true) {w:World} {B:Nat} {v:Value} (h:Bys w B v S.last):∃ b o c,v=.slice (some ⟨b,o,none⟩) 256 c/\b<B/\∀ a,a<256->w.cell? ⟨b,o+a,none⟩=some (.int .u8 (VL S a:Int)):=by obtain⟨-,-,-,hl⟩:=qQ hS;obtain⟨A,c,e,hc,hm,hr⟩:=h;obtain⟨b,o,rfl,hb,aF⟩:=hr.2 zO;rw[hl] at e;exact⟨b,o,c,e,hb,fun a ha=>aF a _ (by rw[List.getElem?_map,zL zO];unfold VL;rw[zL zO];rfl)⟩
set_option maxRecDepth 100000 in
theorem free_in (n:Nat) (hn:1<=n) (l bs n₀:Nat) (v1 v2 v3 v4:Value) (S:Sto) (hS:qo S=true) (J Jx:List Nat->World->Prop) (hY:∀ pre x W,J pre W->pre.length<256->YieldAt Fence.wide (n-1) prog l #[.int .i64 ((x:Nat):Int)] W fun e W'=>(e=.returned (.bool true)/\J (pre++[x]) W'/\Below n₀ W W')\/(e=.returned (.bool false)/\Jx (pre++[x]) W')) (hJ:∀ pre W W',J pre W->Ext W W'->J pre W') (W:World) (hbs:bs<n₀) (hn₀:n₀<=W.heap.size) (aC:W.heap[bs]?=some (.cells #[v1,v2,v3,v4] 28 (0,0))) (aH:qU W n₀ v1 v2 v3 v4 S) (h0:J [] W):CallsIn Fence.wide n prog 175 #[.func (.yield l) #[] #[],.pointer (some ⟨bs,0,none⟩)] W fun e W'=>(∃ v,e=.returned v)/\((∃ ys,ys=Zj S/\J ys W')\/(∃ pre,pre <+: Zj S/\Jx pre W')):=by
 obtain⟨b3,o3,c3,rfl,dF,sO⟩:=Gz hS aH.now;obtain⟨b4,o4,c4,rfl,iI,hc4⟩:=last_at hS aH.last;replace aH:=zH aH;refine callsIn_of_wp func175 rfl trivial ?_ rfl;simp only[ntmps175,List.size_toArray,List.length_cons,List.length_nil,Nat.reduceAdd,Nat.reduceSub,Array.replicate_succ,Array.replicate_zero,List.push_toArray,List.append_toArray,List.nil_append,List.cons_append]
 gi_wp2_with fail
 gi_loopw [3] (fun i wr=>∃ k:Nat,8<=k/\k<=256/\i=.int .i64 (k:Int)/\J (jA S k) wr/\Below n₀ W wr) (fun i _=>256-(intOf i).toNat)
 case atStart=>exact⟨8,zO,zO,rfl,by rw[freeTo_8];exact h0,Below.refl _ _⟩
 case round =>
  obtain⟨k,hk8,hk,rfl,fC,hB⟩:=hrel;have mY:=(hB.block bs hbs).trans aC;by_cases hlt:k<256
  ·have uK:=(World.cell?_of_block (a:=⟨b3,o3+k,none⟩) (hB.block b3 dF)).trans (sO k hlt);have hcy:=(World.cell?_of_block (a:=⟨b4,o4+k,none⟩) (hB.block b4 iI)).trans (hc4 k hlt);have gS:∀ W',qk.r wr W'->∀ i,W'.cell? ⟨bs,i,none⟩=#[v1,v2,.slice (some ⟨b3,o3,none⟩) 256 c3,.slice (some ⟨b4,o4,none⟩) 256 c4][i]?:=fun W' h=>qa (qb mY h);have gX:∀ W',qk.r wr W'->W'.cell? ⟨b3,o3+k,none⟩=some (.int .u8 (ZE S k:Int)):=fun W' h=>Ext.cell h uK;have gY:∀ W',qk.r wr W'->W'.cell? ⟨b4,o4+k,none⟩=some (.int .u8 (VL S k:Int)):=fun W' h=>Ext.cell h hcy;have hsu:=zH (KF S k);have hfb:ZK S k=(decide (ZE S k=0) && decide (VL S k=0)):=by unfold ZK;simp[hk8]
   have hbz:(bits .or .u8 ((ZE S k:Nat):Int) ((VL S k:Nat):Int) == 0)=ZK S k:=qgs _ _ (qgp S k) (qdE S k) ▸ hfb.symm;generalize ZE S k=nw at *;generalize VL S k=lw at *;replace hfb:=zH hfb;replace sO:=zH sO;replace hc4:=zH hc4;replace mY:=zH mY;have hln:=zH (qeZ S k);clear uK hcy;rcases Bool.eq_false_or_eq_true (ZK S k) with hfr|hfr
   ·rw[hfr] at hbz;replace hsu:=zH ((if_pos hfr) ▸ hsu.out);replace hfr:=zH hfr
    gi_upto_region 3 with fail
    refine QT qk (qD []) (List.replicate 15 true) 3 wideF zQ zQ zQ zQ zQ zQ zQ zQ zQ ?st (Rel.drew _ _) ?walk
    case st=>intro i h hx;simp[qD] at hx
    case walk =>
     intro K hK;dsimp only[qp,List.replicate];repeat ((first|(refine qd ?_ zA0 zA0 (fun W hW _=>⟨W,?_,Rel.refl _ W⟩) ?_;rotate_left;(go_simp<;>with_reducible rfl))|(refine qh zA0 ?_));try simp only[Act.put,ql,qf,qc,qg,zA,zB,zC])
     first
      |(refine qd (.pointer (some ⟨b3,o3+k,none⟩)) zA0 zA0 (fun W hW _=>⟨W,?_,Rel.refl _ W⟩) ?_
        ·go_simp;rw[IntWalk.i64_in (k:Int) zO,if_pos zO];simp
        simp only[Act.put,ql,qf,qc,qg,zA,zB,zC])
      |skip
     repeat ((first|(refine qd ?_ zA0 zA0 (fun W hW _=>⟨W,?_,Rel.refl _ W⟩) ?_;rotate_left;(go_simp<;>with_reducible rfl))|(refine qh zA0 ?_));try simp only[Act.put,ql,qf,qc,qg,zA,zB,zC])
     first
      |(refine qd (.pointer (some ⟨b4,o4+k,none⟩)) zA0 zA0 (fun W hW _=>⟨W,?_,Rel.refl _ W⟩) ?_
        ·go_simp;rw[IntWalk.i64_in (k:Int) zO,if_pos zO];simp
        simp only[Act.put,ql,qf,qc,qg,zA,zB,zC])
      |skip
     repeat ((first|(refine qd ?_ zA0 zA0 (fun W hW _=>⟨W,?_,Rel.refl _ W⟩) ?_;rotate_left;(go_simp<;>with_reducible rfl))|(refine qh zA0 ?_));try simp only[Act.put,ql,qf,qc,qg,zA,zB,zC])
     refine qt (hK _ _ fun W2 hW hF=>?_);clear hF hK;refine zB5 ?_;obtain⟨fn,tm,asg,bdy,hy,hR⟩:=hY (jA S k) k W2 (hJ _ _ _ fC hW) (by have:=hln.out;omega)
     gi_wp2_with fail
     refine hR.mono ?_;rintro e W3 (⟨rfl,xZ,ig⟩|⟨rfl,iH⟩)
     ·gi_wp2_with fail
      go_roundw
      case rel=>exact⟨k+1,zO,zO,by go_num,by rw[hsu.out];exact xZ,hB.trans ((Below.mono hW (Nat.le_trans hn₀ hB.size)).trans ig)⟩
      case measure=>simp[intOf];omega
     ·gi_wp2_with fail
      refine bodyPost_ret (results_none rfl _ _ _) rfl ?_;exact⟨⟨_,rfl⟩,.inr ⟨_,hsu.out ▸ Gg S zO,iH⟩⟩
   ·rw[hfr] at hbz;replace hsu:=zH ((if_neg (show ¬ZK S k=true by rw[hfr];decide)) ▸ hsu.out);replace hfr:=zH hfr
    gi_upto_region 3 with fail
    refine QT qk (qD []) (List.replicate 15 true) 3 wideF zQ zQ zQ zQ zQ zQ zQ zQ zQ ?st (Rel.drew _ _) ?walk
    case st=>intro i h hx;simp[qD] at hx
    case walk =>
     intro K hK;dsimp only[qp,List.replicate];repeat ((first|(refine qd ?_ zA0 zA0 (fun W hW _=>⟨W,?_,Rel.refl _ W⟩) ?_;rotate_left;(go_simp<;>with_reducible rfl))|(refine qh zA0 ?_));try simp only[Act.put,ql,qf,qc,qg,zA,zB,zC])
     first
      |(refine qd (.pointer (some ⟨b3,o3+k,none⟩)) zA0 zA0 (fun W hW _=>⟨W,?_,Rel.refl _ W⟩) ?_
        ·go_simp;rw[IntWalk.i64_in (k:Int) zO,if_pos zO];simp
        simp only[Act.put,ql,qf,qc,qg,zA,zB,zC])
      |skip
     repeat ((first|(refine qd ?_ zA0 zA0 (fun W hW _=>⟨W,?_,Rel.refl _ W⟩) ?_;rotate_left;(go_simp<;>with_reducible rfl))|(refine qh zA0 ?_));try simp only[Act.put,ql,qf,qc,qg,zA,zB,zC])
     first
      |(refine qd (.pointer (some ⟨b4,o4+k,none⟩)) zA0 zA0 (fun W hW _=>⟨W,?_,Rel.refl _ W⟩) ?_
        ·go_simp;rw[IntWalk.i64_in (k:Int) zO,if_pos zO];simp
        simp only[Act.put,ql,qf,qc,qg,zA,zB,zC])
      |skip
     repeat ((first|(refine qd ?_ zA0 zA0 (fun W hW _=>⟨W,?_,Rel.refl _ W⟩) ?_;rotate_left;(go_simp<;>with_reducible rfl))|(refine qh zA0 ?_));try simp only[Act.put,ql,qf,qc,qg,zA,zB,zC])
     refine qt (hK _ _ fun W2 hW hF=>?_);clear hF hK;refine zB5 ?_;refine⟨fun _ h=>(by cases h),?_⟩
     gi_wp2_with fail
     go_roundw
     case rel=>exact⟨k+1,zO,zO,by go_num,by rw[hsu.out];exact hJ _ _ _ fC hW,hB.trans (Below.mono hW (Nat.le_trans hn₀ hB.size))⟩
     case measure=>simp[intOf];omega
  ·gi_wp2_with fail
   obtain rfl:k=256:=zO;go_end0;exact⟨⟨_,rfl⟩,.inl ⟨_,rfl,fC⟩⟩
end Go.Proofs.YtpbniokljofedaaGreat
namespace Go.Proofs.YtpbniokljofedaaGreat
open Go.RowKit
theorem YQ {F:Fence} {n:Nat} {P:Program} {ops:Array Oper} {l:List Oper} {a:Act} {w:World} {Q:Exit->Act->World->Prop} (h:Qh (wpListIn F n P ops Q l a w)):wpListIn F n P ops Q l a w:=h
theorem YP {F:Fence} {nf:Nat} {P:Program} (w:World) {ops:Array Oper} {rest:List Oper} {o:Oper} {a:Act} {Q:Exit->Act->World->Prop} (fG:o.guard=none) (s x:Operand) (t:TypeId) (ho:o.op=.call { callee:=.builtin .append,args:=#[s,x],argTypes:=#[t,t] }) (base:Nat) (e:TypeId) (i:TypeInfo) (z:Value) (size bytes:Nat) (ht:P.underlying t=some (.slice e)) (hi:P.info? e=some i) (hz:i.zero=some z) (dw:i.size=size) (aT:i.bytes=bytes) (hzs:z.cells.size=size) (hsz:0<size) (v:Value) (n:Nat) (xs:List Value) (hs:a.eval s=v) (aB:w.ownsRow base e size v n xs) (cs:Array Value) (hx:a.eval x=.slice (some ⟨w.heap.size,0,none⟩) 1 1) (hl:cs.size=size) (h1:∀ u∈cs.toList,u.oneCell'=true) (hn:n<1073741824) (dX:bytes<=65536) (mD:base<=w.heap.size) (h:∀ v' w',w'.ownsRow base e size v' (n+1) (xs++cs.toList)->w.grownBy w' v.ownBlock->(v'.ownBlock=v.ownBlock\/∃ g,v'.ownBlock=some g/\w.heap.size<=g)->wpListIn F nf P ops Q rest (a.put o.dst v') w'):wpListIn F nf P ops Q (o :: rest) a (w.alloc (.cells cs e)):=by
 refine wpListIn_plain fG fun K hK=>?_;have hb:(n+1)*bytes<=140737488355328:=Nat.le_trans (Nat.mul_le_mul_left _ dX) zO;have hm:n+1<=maxLen:=zA7;obtain⟨v',w',au,h2,h3,_,h5⟩:=run_append_own_at (P:=P) (w.alloc (.cells cs e)) base t o.type e i z size bytes ht hi hz dw aT hzs hsz v n xs (aB.alloc _) ⟨w.heap.size,0,none⟩ 1 1 cs.toList
  (by rw[Array.length_toList];omega) (KB w cs e) h1 hm hb zA2
 have hg:w.grownBy w' v.ownBlock:=⟨h3.os,h3.tape,h3.output,Nat.le_trans zA3 h3.size,fun k hk aN=>(h3.block k zA2 aN).trans (zK w _ k hk)⟩
 unfold Oper.wpIn;refine⟨?_,?_⟩
 ·simp[Oper.about,ho,resolve,Target.leads,Sem.run_pure]
 ·rw[Oper.semAt_plain F _ _ (by rw[ho];intro c hc';cases hc')];simp only[execOp,ho,resolve,invoke,builtin,Sem.run_bind,Sem.run_pure,Result.andThen_ok,List.map_toArray,List.map_cons,List.map_nil,hs,hx,au];exact hK _ _ (h v' w' h2 hg (h5.imp id fun e=>⟨_,e,zA3⟩))
end Go.Proofs.YtpbniokljofedaaGreat
namespace Go.Proofs.YtpbniokljofedaaGreat
open Go.RowKit Go.Shelf
attribute [local go_sem] Oper.semAt_some
theorem qfa (n:Nat) (hn:1<=n) (bs n₀:Nat) (v1 v2 v3 v4:Value) (S:Sto) (hS:qo S=true) (w:World) (hbs:bs<n₀) (hn₀:n₀<=w.heap.size) (aC:w.heap[bs]?=some (.cells #[v1,v2,v3,v4] 28 (0,0))) (aH:qU w n₀ v1 v2 v3 v4 S):SeqStopsK Fence.wide n prog 175 #[.pointer (some ⟨bs,0,none⟩)] (fun x:Nat=>#[.int .i64 (x:Int)]) (Below n₀) (fun ys=>ys=Zj S) (fun pre=>pre <+: Zj S) 256 w:=fun l J Jx W hW hJ _ hY h0 =>
 free_in n hn l bs n₀ v1 v2 v3 v4 S hS J Jx hY (fun pre W1 W2 h hx=>hJ pre W1 W2 none h ⟨hx.os,hx.tape,hx.output,hx.size,fun k hk _=>hx.block k hk⟩ (fun _ e=>by cases e)) W hbs (Nat.le_trans hn₀ hW.size) ((hW.block bs (Nat.lt_of_lt_of_le hbs hn₀)).trans aC) (aH.below (Below.mono hW hn₀)) h0
theorem XX {w:World} {B:Nat} {e:TypeId} {size:Nat} {v:Value} {n:Nat} {xs:List Value} (h:w.ownsRow B e size v n xs):∀ g,v.ownBlock=some g->∃ c fz,w.heap[g]?=some (.cells c e fz):=by
 intro g hg;rcases h.2 with ⟨rfl,_⟩|⟨b,cap,cur,rfl,_,h2,_⟩
 ·simp[Value.ownBlock] at hg
 ·simp[Value.ownBlock] at hg;subst hg;exact⟨cur,(0,0),h2⟩
theorem own_down {w:World} {B B':Nat} {e:TypeId} {size:Nat} {v:Value} {n:Nat} {xs:List Value} (h:w.ownsRow B e size v n xs) (hb:B'<=B):w.ownsRow B' e size v n xs:=by
 rcases h with ⟨h1,h2|⟨g,cap,cur,e1,h3,h4⟩⟩
 ·exact⟨h1,.inl h2⟩
 ·exact⟨h1,.inr ⟨g,cap,cur,e1,zO,h4⟩⟩
theorem qcm {w:World} {B:Nat} {e:TypeId} {size:Nat} {v:Value} {n:Nat} {xs:List Value} (h:w.ownsRow B e size v n xs) {D:Nat} {o:Obj} (hD:w.heap[D]?=some o) (ho:o.isCells=false):v.ownBlock=none\/v.ownBlock≠some D:=by refine .inr fun hv=>?_;obtain⟨c,fz,h3⟩:=XX h D hv;rw[hD] at h3;cases h3;cases ho
theorem TO {B:Nat} {W W':World} {row:Option Nat} (hg:W.grownBy W' row) (hr:∀ g,row=some g->B<=g) (hB:B<=W.heap.size:=by omega):Below B W W':=(Below.refl _ _).grown hg hB (fun k e=>hr k e)
theorem Ue {w w':World} {B:Nat} {e:TypeId} {size:Nat} {v:Value} {n:Nat} {xs:List Value} (h:w.ownsRow B e size v n xs) (hg:w.grownBy w' v.ownBlock):KeepsOthers w w':=⟨hg.size,fun k o hk ho=>(hg.block k (zG.1 hk).1 (fun e1=>by obtain⟨c,fz,h3⟩:=XX h k e1.symm;rw[hk] at h3;cases h3;cases ho)).trans hk⟩
theorem qck {B:Nat} (b base:Nat) (ty ety:TypeId):OwnFrom B (fun (pre:List Nat) W=>∃ v,W.heap[b]?=some (.cells #[v] ty (0,0))/\W.ownsRow base ety 1 v pre.length (JX pre)):=fun s A C row ⟨v,h1,h2⟩ hg hr =>
 ⟨v,Qt (β:=Unit) _ _ _ _ () A C row h1 hg hr,h2.kept hg (by
  rcases hv:v.ownBlock with _|g
  ·exact .inl rfl
  ·refine .inr fun e=>?_;obtain⟨_,o,ho,hc⟩:=hr g e.symm;rcases XX h2 g hv with ⟨c,fz,h3⟩;rw[ho] at h3;cases h3;cases hc)⟩
set_option maxRecDepth 100000 in
theorem qbB (n:Nat) (h3:3<=n) (bs:Nat) (v1 v2 v3 v4:Value) (S:Sto) (hS:qo S=true) (w:World) (hbs:bs<w.heap.size) (aC:w.heap[bs]?=some (.cells #[v1,v2,v3,v4] 28 (0,0))) (aH:qU w w.heap.size v1 v2 v3 v4 S):CallsIn Fence.wide n prog 174 #[.slice none 0 0,.func (.func 175) #[] #[.pointer (some ⟨bs,0,none⟩)]] w fun e W'=>∃ v,e=.returned v/\Below w.heap.size w W'/\W'.ownsRow (w.heap.size+1) 3 1 v (Zj S).length (JX (Zj S)):=by
 have h1:1<=n:=zO;refine callsIn_of_wp_marks func174 rfl trivial ?_ rfl;simp only[ntmps174,List.size_toArray,List.length_cons,List.length_nil,Nat.reduceAdd,Nat.reduceSub,Array.replicate_succ,Array.replicate_zero,List.push_toArray,List.append_toArray,List.nil_append,List.cons_append]
 gi_wp2_with fail
 have x1:Ext w (w.alloc (.cells #[.slice none 0 0] 30)):=zN _ _;obtain⟨i0,hi,aY,aV,aX⟩:=info_parts Tryz.info_int;refine wpIn_rangeFunc_ownH rfl h1 (gf:=175) (lb:=#[.pointer (some ⟨bs,0,none⟩)]) rfl trivial (enters_of func175 zQ rfl)
  (qfa (n-1) zO bs w.heap.size v1 v2 v3 v4 S hS _ hbs zA3 (qb aC x1) (aH.below x1)) Below.trans (belowK_b zA3) (Below.refl _ _) (fun _=>rfl)
  (fun pre W=>(∃ v,W.heap[w.heap.size]?=some (.cells #[v] 30 (0,0))/\W.ownsRow (w.heap.size+1) 3 1 v pre.length (JX pre))/\Below w.heap.size w W)
  (fun _ _ _=>False)
  (OwnFrom.and (qck _ _ _ _) (ownFrom_below (zM _) zA3))
  (fun _ _ _ _ _ hs _ _=>hs)
  ⟨⟨.slice none 0 0,zI _ _ _ rfl,World.ownsRow_nil _ _ _ _⟩,x1⟩
  (fun x a' _=>a'={ tmps:=#[.slice none 0 0,.func (.func 175) #[] #[.pointer (some ⟨bs,0,none⟩)],.pointer (some ⟨w.heap.size,0,none⟩),undef,.slice none 0 0,.int .i64 (x:Int),.func (.func 175) #[] #[.pointer (some ⟨bs,0,none⟩)],.int .i64 (x:Int),undef,undef,undef,undef,undef],defers:=[] })
  (fun x a'=>Kb _ _) ?assign ?body ?done ?stop
 case assign =>
  rintro l pre x W K hI hK
  gi_wp2_with fail
  exact hK _ _ (KeepsFrom.refl _ _) (Below.refl _ _) hI rfl
 case body =>
  rintro l pre x a' W hl - ⟨⟨v,hr,aB⟩,hB⟩ rfl bU;have kr:=qa hr;have zb:w.heap.size<W.heap.size:=(zG.1 hr).1;have aN:v.ownBlock≠some w.heap.size:=fun e=>by have:=(Ql aB _ e).1;omega
  obtain⟨Av,cv,rfl,-,-⟩:=qy aB
  gi_wp2_with (gi_at_builtin;refine YQ ?_)
  refine Qh.go (YP W rfl (.tmp 8) (.tmp 10) 30 rfl (w.heap.size+1) 3 i0 _ 1 8 underlying30 hi aY aV aX rfl zA1 (.slice Av pre.length cv) pre.length _ zE aB #[.int .i64 (x:Int)] zE rfl zA8 zO zA1 zO ?_);intro v' W3 dL hg dQ;have hg0:∀ g,(Value.slice Av pre.length cv).ownBlock=some g->w.heap.size+1<=g:=fun g e=>(Ql aB _ e).1;have wC:W3.heap[w.heap.size]?=_:=(hg.block _ zb (fun e=>aN e.symm)).trans hr;have kr3:=qa wC;have fr3:=qe wC;have pJ:Below w.heap.size W W3:=TO hg fun g e=>by have:=hg0 g e;omega
  have hg3:∀ g,v'.ownBlock=some g->w.heap.size+1<=g:=fun g e=>(Ql dL _ e).1;have mP:KeepsOthers W W3:=Ue aB hg;replace hg:=zH hg;replace aB:=zH aB;replace dQ:=zH dQ;obtain⟨Av',cv',rfl,-,-⟩:=qy dL;replace dL:=zH dL
  gi_wp2_with fail
  refine⟨(mP.trans (KeepsOthers.setCell _ _ _)).from _,pJ.setCell (p:=⟨w.heap.size,0,none⟩) (zM _) _,⟨_,qi wC 0 _,?_⟩,hB.trans (pJ.setCell (p:=⟨w.heap.size,0,none⟩) (zM _) _)⟩;rw[List.length_append,List.length_singleton,Xh];exact dL.out.kept (grownBy_setCell' _ _ _) (.inr fun e=>by have:=hg3 _ e;omega)
 case done =>
  rintro D ys W hD rfl ⟨⟨v,hr,aB⟩,hB⟩ hK;have kr:=qa hr
  gi_wp2_with fail
  refine⟨zA3,.inl ⟨_,_,rfl,run_takeDeferred hK,?_⟩⟩;exact⟨_,results_tmp rfl _ _ _,v,rfl,hB.trans (belowK_b (w:=w) (zM _) W D _ _ (by simp at hD;omega) hK rfl rfl),aB.kept (grownBy_putObj' W D _) (qcm aB hK rfl)⟩
 case stop =>rintro D c pre W _ _ h _;exact h.elim
def RFreeQ (S:Sto) (w:World) (e:Ending) (w':World):Prop:=Below w.heap.size w w' /\
 ((qo S=false/\e=.returned (.tuple #[.slice none 0 0,.int .i64 8]))\/(qo S=true/\∃ v,e=.returned (.tuple #[v,.int .i64 0])/\w'.ownsRow w.heap.size 3 1 v (Zj S).length (JX (Zj S))))
set_option maxRecDepth 100000 in
theorem qdj (bs:Nat) (v1 v2 v3 v4:Value) (S:Sto) (hS:qo S=true) (w:World) (hbs:bs<w.heap.size) (aC:w.heap[bs]?=some (.cells #[v1,v2,v3,v4] 28 (0,0))) (aH:qU w w.heap.size v1 v2 v3 v4 S):Calls prog 160 #[.func (.func 175) #[] #[.pointer (some ⟨bs,0,none⟩)]] w fun e W'=>∃ v,e=.returned v/\Below w.heap.size w W'/\W'.ownsRow (w.heap.size+1) 3 1 v (Zj S).length (JX (Zj S)):=by
 go_enter func160,ntmps160;go_wp2_with fail;refine((callsIn_wide (n:=3)).1 (qbB 3 zO bs v1 v2 v3 v4 S hS w hbs aC aH)).mono ?_;rintro e w2 ⟨v,rfl,hB,aB⟩;obtain⟨A,c,rfl,-,-⟩:=qy aB;replace aB:=zH aB;go_wp2_with fail;go_ret;exact⟨_,rfl,hB,aB.out⟩
theorem qeY (A1:Option Addr) (n1 c1:Nat) (A2:Option Addr) (n2 c2:Nat) (A3:Option Addr) (n3 c3:Nat) (A4:Option Addr) (n4 c4:Nat) (w:World):Calls prog 161 #[Qd A1 n1 c1 A2 n2 c2 A3 n3 c3 A4 n4 c4] w (fun e w'=>e=.returned (.func (.func 175) #[] #[.pointer (some ⟨w.heap.size,0,none⟩)])/\w'=w.alloc (.cells #[.slice A1 n1 c1,.slice A2 n2 c2,.slice A3 n3 c3,.slice A4 n4 c4] 28)):=by
 go_enter func161,ntmps161;go_wp2;go_ret;exact⟨rfl,rfl⟩
theorem qbp {R:Ending->World->Prop} {a:Act} {W:World} {u v:Value} (h2:a.tmps[2]?.getD undef=u) (h3:a.tmps[3]?.getD undef=v) (hd:a.defers=[]) (hR:R (.returned (.tuple #[u,v])) W):bodyPost prog Tryz.f118 R .ret a W:=by refine bodyPost_ret (v:=.tuple #[u,v]) ?_ hd hR;simp[results,results118,go_sem,h2,h3]
set_option maxRecDepth 100000 in
theorem qhz (A1:Option Addr) (n1 c1:Nat) (A2:Option Addr) (n2 c2:Nat) (A3:Option Addr) (n3 c3:Nat) (A4:Option Addr) (n4 c4:Nat) (S:Sto) (w:World) (h:qU w w.heap.size (.slice A1 n1 c1) (.slice A2 n2 c2) (.slice A3 n3 c3) (.slice A4 n4 c4) S):Calls prog 118 #[Qd A1 n1 c1 A2 n2 c2 A3 n3 c3 A4 n4 c4] w (RFreeQ S w):=by
 have HC:=zH (fun W (hx:Ext w W)=>jP A1 n1 c1 A2 n2 c2 A3 n3 c3 A4 n4 c4 S W (h.ext hx));replace h:=zH h;go_enter func118,ntmps118;go_wp2_with fail;generalize aA:(World.alloc w _)=w1;have x1:Ext w w1:=by rw[<-aA];exact zN _ _
 have r1:w1.heap[w.heap.size]?=some (.cells #[.slice A1 n1 c1,.slice A2 n2 c2,.slice A3 n3 c3,.slice A4 n4 c4] 28 (0,0)):=by rw[<-aA];exact zI _ _ _ rfl
 clear aA;refine(HC.out w1 x1).mono ?_;clear HC;rintro e w2 ⟨rfl,hB⟩;have x2:Ext w w2:=x1.trans hB;have r2:=qb r1 hB;have k2:=qa r2;clear hB r1 x1;rcases hS:qo S with _|_
 ·rw[jX rfl];replace hS:=zH hS;go_wp2_with fail;exact qbp rfl rfl rfl ⟨x2,.inl ⟨hS.out,rfl⟩⟩
 ·rw[Jw rfl];go_wp2_with fail;refine(qeY A1 n1 c1 A2 n2 c2 A3 n3 c3 A4 n4 c4 w2).mono ?_;rintro e w3 ⟨rfl,rfl⟩;have x3:Ext w2 (w2.alloc (.cells #[.slice A1 n1 c1,.slice A2 n2 c2,.slice A3 n3 c3,.slice A4 n4 c4] 28)):=zN _ _;have r3:(w2.alloc (.cells #[.slice A1 n1 c1,.slice A2 n2 c2,.slice A3 n3 c3,.slice A4 n4 c4] 28)).heap[w2.heap.size]?=_:=zI _ _ _ rfl;have h3:=h.out.ext (x2.trans x3);generalize aO:w2.alloc _=w3 at *;have s3:w2.heap.size<w3.heap.size:=(zG.1 r3).1;go_wp2_with fail;refine(qdj w2.heap.size _ _ _ _ S hS w3 s3 r3 h3).mono ?_;rintro e w4 ⟨v,rfl,dG,aB⟩;obtain⟨A,c,rfl,-,-⟩:=qy aB;have HR:RFreeQ S w (.returned (.tuple #[.slice A (Zj S).length c,.int .i64 0])) w4:=⟨Ext.trans (x2.trans x3) dG,.inr ⟨hS,_,rfl,own_down aB (by have:=(x2.trans x3).size;omega)⟩⟩
  replace HR:=zH HR;replace aB:=zH aB;replace hS:=zH hS;clear aO r3 r2 k2;go_wp2_with fail;exact qbp rfl rfl rfl HR.out
end Go.Proofs.YtpbniokljofedaaGreat
namespace Go.Proofs.YtpbniokljofedaaGreat
open Go.RowKit
section
variable {F0:Fence} {P:Program} {ops:Array Oper} {n:Nat}
end


end Go.Proofs.YtpbniokljofedaaGreat
namespace Go.Proofs.YtpbniokljofedaaGreat
open Go.RowKit Go.Shelf
attribute [local go_sem] Oper.semAt_some
def QO (S:Sto):Nat:=(Zj S).headD 0
def KX (S:Sto) (a:Nat) (data:List UInt8):Sto:=⟨S.bs,S.ws++[((a:Int),data)],S.now.set a 1,S.last⟩
theorem KeepsOthers.of_ext {W W':World} (h:Ext W W'):KeepsOthers W W':=⟨h.size,fun k _ hk _=>(h.block k (zG.1 hk).1).trans hk⟩
theorem GO {w W:World} {x0 x1 x2 x3 y z:Value} {xO nS rQ:TypeId} {u0 u1 u2 u3 u5 u6:Value} (r4:W.heap[w.heap.size+2]?=some (.cells #[u0,u1,u2,u3] xO (0,0))) (r5:W.heap[w.heap.size+3]?=some (.cells #[u5] nS (0,0))) (r6:W.heap[w.heap.size+4]?=some (.cells #[u6] rQ (0,0))) {C:World} (hC:C=((((((W.setCell ⟨w.heap.size+1+1,0,none⟩ x0).setCell ⟨w.heap.size+1+1,1,none⟩ x1).setCell ⟨w.heap.size+1+1,2,none⟩ x2).setCell ⟨w.heap.size+1+1,3,none⟩ x3).setCell ⟨w.heap.size+1+1+1,0,none⟩ y).setCell ⟨w.heap.size+1+1+1+1,0,none⟩ z)):C.heap[w.heap.size+2]?=some (.cells #[x0,x1,x2,x3] xO (0,0))/\C.heap[w.heap.size+3]?=some (.cells #[y] nS (0,0))/\C.heap[w.heap.size+4]?=some (.cells #[z] rQ (0,0))/\(∀ {B:Nat} {w0:World},B<=w.heap.size+2->Below B w0 W->Below B w0 C)/\C.heap.size=W.heap.size/\(∀ k,w.heap.size+5<=k->C.heap[k]?=W.heap[k]?)/\KeepsOthers W C:=by
 subst hC;have hs:=fun (A:World) (b j:Nat) (v:Value) (k:Nat) (hk:k≠b)=>zJ A ⟨b,j,none⟩ v k hk;refine⟨?_,?_,?_,fun hB h=>?_,zA3,fun k hk=>?_,?_⟩
 ·rw[hs _ _ _ _ _ zO,hs _ _ _ _ _ zO];exact Xn r4 x0 x1 x2 x3
 ·rw[hs _ _ _ _ _ zO];refine qi (t:=nS) (cs:=#[u5]) ?_ 0 y;rw[hs _ _ _ _ _ zO,hs _ _ _ _ _ zO,hs _ _ _ _ _ zO,hs _ _ _ _ _ zO];exact r5
 ·refine qi (t:=rQ) (cs:=#[u6]) ?_ 0 z;rw[hs _ _ _ _ _ zO,hs _ _ _ _ _ zO,hs _ _ _ _ _ zO,hs _ _ _ _ _ zO,hs _ _ _ _ _ zO];exact r6
 ·exact Below.setCell (Below.setCell (ZY h (b:=w.heap.size+1+1) zO x0 x1 x2 x3) (p:=⟨w.heap.size+1+1+1,0,none⟩) zA2 _) (p:=⟨w.heap.size+1+1+1+1,0,none⟩) zA2 _
 ·rw[hs _ _ _ _ _ zO,hs _ _ _ _ _ zO,hs _ _ _ _ _ zO,hs _ _ _ _ _ zO,hs _ _ _ _ _ zO,hs _ _ _ _ _ zO]
 ·exact(((((KeepsOthers.setCell _ _ _).trans (KeepsOthers.setCell _ _ _)).trans (KeepsOthers.setCell _ _ _)).trans (KeepsOthers.setCell _ _ _)).trans (KeepsOthers.setCell _ _ _)).trans (KeepsOthers.setCell _ _ _)
end Go.Proofs.YtpbniokljofedaaGreat
namespace Go.Proofs.YtpbniokljofedaaGreat
open Go.RowKit
def Jr (t:List UInt8) (a:Nat):Except Int (List UInt8):=if a=0 then .ok t else if qT t a=0 then .error 6 else if qT t a=255 then .error 70 else .ok (Ye t a 1)
def ZF:List Nat->List UInt8->Except Int (List UInt8)
 | [],t=>.ok t
 |a :: r,t=>match Jr t a with
  | .error e=>.error e
  | .ok t'=>ZF r t'
theorem JA:∀ (l r:List Nat) (t:List UInt8),ZF (l++r) t=match ZF l t with
  | .error e=>.error e
  | .ok t'=>ZF r t'
 | [],_,_=>rfl
 |a :: l,r,t=>by
  simp only[List.cons_append,ZF];cases Jr t a with
  |error e=>rfl
  |ok t'=>exact JA l r t'
theorem GY (a:Nat) (t:List UInt8):ZF [a] t=Jr t a:=by simp only[ZF];cases Jr t a <;> rfl
def qX (its:List It):List Nat:=its.map fun x=>x.r.toNat
theorem Vk {its:List It} {k:Nat} (hk:k<its.length):qX (its.take (k+1))=qX (its.take k)++[(its[k].r).toNat]:=by unfold qX;rw[List.take_succ_eq_append_getElem hk,List.map_append];rfl
theorem qfG {its:List It} (k:Nat):qX its=qX (its.take k)++qX (its.drop k):=by unfold qX;rw[<-List.map_append,List.take_append_drop]
theorem qfN {its:List It} {k:Nat} (hk:k<its.length) {t t':List UInt8} {e:Int} (h:ZF (qX (its.take k)) t=.ok t') (h1:Jr t' (its[k].r).toNat=.error e):ZF (qX its) t=.error e:=by rw[qfG (its:=its) (k+1),JA,Vk hk,JA,h];simp only[GY,h1]
theorem qem {its:List It} {k:Nat} (hk:k<its.length) {t t' t'':List UInt8} (h:ZF (qX (its.take k)) t=.ok t') (h1:Jr t' (its[k].r).toNat=.ok t''):ZF (qX (its.take (k+1))) t=.ok t'':=by rw[Vk hk,JA,h];simp only[GY,h1]
def zh (S:Sto) (lvl:Int) (its:List It):Except Int (Nat×Sto):=
 if Qe lvl its=true then
  match ZF (qX its) S.now with
  | .error e=>.error e
  | .ok t=>if Zj (qu S t)=[]\/S.ws.length=4096 then .error 9 else .ok (QO (qu S t),KX (qu S t) (QO (qu S t)) (jf (zX lvl its)))
 else .error 8
section
variable {D:Nat->Prop} {B lo b g:Nat} {k:Option Nat} {S:Sto} {w W:World}
theorem Bch.lens (h:Bch D B lo b g k S w):S.now.length=256/\S.last.length=256:=by obtain⟨A1,n1,c1,v2,c3,A4,c4,hr,ho,-,-,h4⟩:=h.ex;have:=ho.1;have h5:=h4.at_.1;exact⟨by simpa using this,h5.symm⟩
theorem Bch.cells (h:Bch D B lo b g k S w):∃ A1 n1 c1 v2 c3 A4 c4,(∀ i,w.cell? ⟨b,i,none⟩=#[.slice A1 n1 c1,v2,.slice (some ⟨g,0,none⟩) 256 c3,.slice A4 256 c4][i]?)/\(∀ a,a<256->w.cell? ⟨g,a,none⟩=some (.int .u8 (ZE S a:Int)))/\(∀ a,w.frozen? ⟨g,a,none⟩=false):=by obtain⟨A1,n1,c1,v2,c3,A4,c4,hr,ho,-,-,-⟩:=h.ex;obtain⟨h1,h2,-,-⟩:=zm ho;exact⟨A1,n1,c1,v2,c3,A4,c4,qa hr,h1,h2⟩
end
theorem Xa {R:Ending->World->Prop} {a:Act} {W:World} {v:Value} (h4:a.tmps[4]?.getD undef=v) (hd:a.defers=[]) (hR:R (.returned v) W):bodyPost prog Tryz.f156 R .ret a W:=by refine bodyPost_ret (v:=v) ?_ hd hR;simp[results,results156,go_sem,h4]
set_option maxRecDepth 100000 in
theorem qeO (D:Nat->Prop) (B lo b g:Nat) (k:Option Nat) (S:Sto) (a:Nat) (ha:a<256) (w:World) (h:Bch D B lo b g k S w):Calls prog 156 #[.pointer (some ⟨b,0,none⟩),.int .i64 (a:Int)] w fun e W=>qY lo b g k w W /\
   ((qT S.now a=0/\e=.returned (.int .i64 6))\/(qT S.now a=255/\e=.returned (.int .i64 70))\/(qT S.now a≠0/\qT S.now a≠255/\e=.returned (.int .i64 0)/\Bch D B lo b g k (qu S (Ye S.now a 1)) W)):=by
 obtain⟨A1,n1,c1,v2,c3,A4,c4,kr,hk,hf⟩:=h.cells;have hka:=hk a ha;have hfa:=hf a;have hT:Hid (Ye S.now a 1=S.now.set a (UInt8.ofNat (qT S.now a+1))):=rfl;have oC:=zH (h.count ha (UInt8.ofNat (qT S.now a+1)));have lW:ZE S a=qT S.now a:=rfl;have az:=(S.now[a]?.getD 0).toNat_lt;have hc:qT S.now a=(S.now[a]?.getD 0).toNat:=rfl;rw[lW] at hka;rw[<-hc] at az;have hwv:=qgH (qT S.now a+1);generalize qT S.now a=nv at *;clear hk hf hc lW h;by_cases h0:nv=0
 ·subst h0;clear oC hT hwv;go_enter func156,ntmps156;go_wp2_with fail;exact Xa rfl rfl ⟨qY.refl _ _ _ _ _,.inl ⟨by trivial,rfl⟩⟩
 ·have aV:((nv:Int) == 0)=false:=by rw[beq_eq_false_iff_ne];omega
  have aX:decide (nv=0)=false:=decide_eq_false zO;by_cases h1:nv=255
  ·subst h1;clear oC hT hwv;go_enter func156,ntmps156;go_wp2_with fail;exact Xa rfl rfl ⟨qY.refl _ _ _ _ _,.inr (.inl ⟨by trivial,rfl⟩)⟩
  ·have hz3:((nv:Int) == 255)=false:=by rw[beq_eq_false_iff_ne];omega
   have hz4:decide (nv=255)=false:=decide_eq_false zO;replace h0:=zH h0;replace h1:=zH h1;rw[show ((nv+1:Nat):Int)=(nv:Int)+1 from rfl] at hwv;go_enter func156,ntmps156;go_wp2_with fail;refine Xa rfl rfl ⟨oC.out.2,.inr (.inr ⟨h0.out,h1.out,rfl,?_⟩)⟩;rw[hT.out];exact oC.out.1
set_option maxRecDepth 100000 in
theorem TQ (D:Nat->Prop) (B lo b g:Nat) (k:Option Nat) (S:Sto) (a:Nat) (ha:a<256) (w:World) (h:Bch D B lo b g k S w):Calls prog 133 #[.pointer (some ⟨b,0,none⟩),.int .i64 (a:Int)] w fun e W=>qY lo b g k w W /\
   ((qT S.now a=0/\e=.returned (.int .i64 6))\/(qT S.now a≠0/\e=.returned (.int .i64 0)/\Bch D B lo b g k (qu S (ZL S.now a)) W)):=by
 obtain⟨A1,n1,c1,v2,c3,A4,c4,kr,hk,hf⟩:=h.cells;have hka:=hk a ha;have hfa:=hf a;have hT:Hid (ZL S.now a=S.now.set a (UInt8.ofNat (qT S.now a-1))):=rfl;have oC:=zH (h.count ha (UInt8.ofNat (qT S.now a-1)));have lW:ZE S a=qT S.now a:=rfl;have az:=(S.now[a]?.getD 0).toNat_lt;have hc:qT S.now a=(S.now[a]?.getD 0).toNat:=rfl;rw[lW] at hka;rw[<-hc] at az;generalize qT S.now a=nv at *;clear hk hf hc lW h;by_cases h0:nv=0
 ·subst h0;clear oC hT;go_enter func133,ntmps133;go_wp2_with fail;exact YZ rfl rfl ⟨qY.refl _ _ _ _ _,.inl ⟨by trivial,rfl⟩⟩
 ·have aV:((nv:Int) == 0)=false:=by rw[beq_eq_false_iff_ne];omega
  have hwv:=qcu (n:=nv) zO az;replace h0:=zH h0;go_enter func133,ntmps133;go_wp2_with fail;refine YZ rfl rfl ⟨oC.out.2,.inr ⟨h0.out,rfl,?_⟩⟩;rw[hT.out];exact oC.out.1
theorem qaJ {P:Program} (w:World) (t ty:TypeId) (e:TypeId) (i:TypeInfo) (z:Value) (size bytes:Nat) (ht:P.underlying t=some (.slice e)) (hi:P.info? e=some i) (hz:i.zero=some z) (dw:i.size=size) (aT:i.bytes=bytes) (hzs:z.cells.size=size) (hsz:0<size) (B:Nat) (A:Option Addr) (n:Nat) (xs:List Value) (hr:Rd w B size A n xs) (cs:Array Value) (hl:cs.size=size) (h1:∀ u∈cs.toList,u.oneCell'=true) (hn:n<1073741824) (dX:bytes<=65536) : ∃ v' w',(Builtin.append_ #[t,t] ty #[.slice A n n,.slice (some ⟨w.heap.size,0,none⟩) 1 1]).run P (w.alloc (.cells cs e))=.ok v' w'/\w'.ownsRow (w.heap.size+1) e size v' (n+1) (xs++cs.toList)/\Ext w w'/\v'.ownBlock=some (w.heap.size+1):=by
 have hb:(n+1)*bytes<=140737488355328:=Nat.le_trans (Nat.mul_le_mul_left _ dX) zO;have hm:n+1<=maxLen:=zA7;have iL:((n+1:Nat):Int)<=9223372036854775807:=zO;rcases A with _|ad
 ·have hn0:n=0:=by
   rcases Nat.eq_zero_or_pos n with h0|h0
   ·exact h0
   ·obtain⟨b,off,h,_⟩:=hr.2 h0;cases h
  subst hn0;have hx:xs=[]:=List.eq_nil_of_length_eq_zero (by simpa using hr.1);subst hx;obtain⟨v',w',au,h2,h3,h4,h5⟩:=run_append_own_at (P:=P) (w.alloc (.cells cs e)) (w.heap.size+1) t ty e i z size bytes ht hi hz dw aT hzs hsz (.slice none 0 0) 0 [] (World.ownsRow_nil _ _ _ _) ⟨w.heap.size,0,none⟩ 1 1 cs.toList
   (by rw[Array.length_toList];omega) (KB w cs e) h1 hm hb zA3
  refine⟨v',w',au,h2,Ext.trans (zN w (.cells cs e)) ((Below.refl _ _).grown h3 (zM _) (fun k hk=>by cases hk)),?_⟩;rcases h5 with h5|h5
  ·exfalso;rcases h2.2 with ⟨e0,_⟩|⟨g,cap,cur,e0,_⟩
   ·have:=(h4.1 e0).2;omega
   ·rw[e0] at h5;cases h5
  ·rw[h5];simp
 ·have dO:∀ j u,xs[j]?=some u->w.cell? (ad.add j)=some u:=by
   intro j u hu;rcases Nat.eq_zero_or_pos n with h0|h0
   ·subst h0;have hx:xs=[]:=List.eq_nil_of_length_eq_zero (by simpa using hr.1);subst hx;simp at hu
   ·obtain⟨b,off,h,_⟩:=hr.2 h0;injection h with h;subst h;exact hr.adds h0 j u hu
  subst dw;subst aT;have lY:=run_append_grow (P:=P) (w.alloc (.cells cs e)) t ty e i z ht hi hz ad n n xs hr.1 (fun j u hu=>Ext.cell (zN w _) (dO j u hu)) ⟨w.heap.size,0,none⟩ 1 1 cs.toList (by rw[Array.length_toList];omega) (KB w cs e) zO iL (growslice_fits zO hb);refine⟨_,_,lY,?_,(zN w _).trans ((Ext.drew _).trans (zN _ _)),by simp[Value.ownBlock]⟩;have iD:=grownCap_ge (w.alloc (.cells cs e)) (n+1) n e;have eG:grownCap (w.alloc (.cells cs e)) (n+1) n e<=maxLen:=grownCap_le_maxLen _ (n+1) n e hm;have hlen:(xs++cs.toList).length=(n+1)*i.size:=by rw[List.length_append,hr.1,Array.length_toList,hl,Nat.add_mul,Nat.one_mul]
  refine⟨hlen,.inr ⟨_,_,_,rfl,zA3,heap_alloc_new (w.alloc (.cells cs e)).drew _,iD,eG,?_,?_⟩⟩
  ·simp only[Array.size_append,List.size_toArray,size_zeroCells,hzs,hr.1,hl];rw[<-Nat.succ_mul,<-Nat.add_mul];congr 1;omega
  ·simp only[Array.toList_append,List.append_assoc];rw[<-List.append_assoc,<-hlen];exact List.take_left
theorem WsB.push {D:Nat->Prop} {B lo b g:Nat} {k:Option Nat} {v:Value} {ws:List (Int×List UInt8)} {w:World} (h:WsB D B lo b g k v ws w) (aP:lo<=w.heap.size) (hk:∀ q,k=some q->¬(q<B\/D q)) (xI:ws.length<1073741824) (at_:Int) (A0:Option Addr) (c0:Nat) (l:List UInt8) (hd:∀ C,Qa (YS B D) w C->Bys C C.heap.size (.slice A0 l.length c0) l) (ty:TypeId) : ∃ v' w' k',(Builtin.append_ #[23,23] ty #[v,.slice (some ⟨w.heap.size,0,none⟩) 1 1]).run prog (w.alloc (.cells #[.int .i64 at_,.slice A0 l.length c0] 130))=.ok v' w'/\WsB D B lo b g k' v' (ws++[(at_,l)]) w'/\qY lo b g k w w'/\Zf w.heap.size k k' /\ (∀ q,q<w.heap.size->k≠some q->w'.heap[q]?=w.heap[q]?):=by
 obtain⟨i0,hi,aY,aV,aX⟩:=info_parts Tryz.info_write;obtain⟨ps,rfl,hw,hp⟩:=h;have h1:∀ u∈(#[.int .i64 at_,.slice A0 l.length c0]:Array Value).toList,u.oneCell'=true:=zA8;rw[List.length_map] at xI hw;have fin:∀ (v':Value) (w':World) (k':Option Nat),w'.ownsRow lo 130 2 v' (ps.length+1) (ZA ps++[.int .i64 at_,.slice A0 l.length c0])->(∃ q,v'.ownBlock=some q/\k'=some q)->(∀ q,q<w.heap.size->k≠some q->w'.heap[q]?=w.heap[q]?)->WsB D B lo b g k' v' (ps.map (·.1)++[(at_,l)]) w':=fun v' w' k' ho ⟨q,yF,nK⟩ hR=>by
  have hX:Qa (YS B D) w w':=YS.keep fun q hq h1=>hR q hq fun e=>hk q e h1;refine⟨ps++[((at_,l),.slice A0 l.length c0)],zA3,.inr ⟨q,nK,yF,by rw[qdb];simpa using ho⟩,fun p ai=>?_⟩;rcases List.mem_append.1 ai with ai|ai
  ·exact⟨(hp p ai).1,fun C hC=>(hp p ai).2 C (hX.trans hC fun _ _ h=>h)⟩
  ·obtain rfl:p=((at_,l),.slice A0 l.length c0):=by simpa using ai
   exact⟨⟨A0,c0,rfl⟩,fun C hC=>hd C (hX.trans hC fun _ _ h=>h)⟩
 rcases hw with ⟨rfl,hm,A,rfl,hr⟩|⟨q,rfl,hq,ho⟩
 ·obtain⟨v',w',au,h2,hx,hb⟩:=qaJ (P:=prog) w 23 ty 130 i0 (.agg #[.int .i64 0,.slice none 0 0]) 2 32 underlying23 hi aY aV aX rfl zA1 B A ps.length (ZA ps) hr #[.int .i64 at_,.slice A0 l.length c0] rfl h1 xI zA1;have hN:Zf w.heap.size none (some (w.heap.size+1)):=fun q hq=>.inr (by cases hq;omega);have hB:qY lo b g none w w':=qY.of_ext hx aP;exact⟨v',w',some (w.heap.size+1),au,fin v' w' _ (Qw h2 zO) ⟨_,hb,rfl⟩ (fun q hq _=>Below.block hx q hq),hB,hN,fun q hq _=>Below.block hx q hq⟩
 ·obtain⟨v',w',au,h2,h3,_,h5⟩:=run_append_own_at (P:=prog) (w.alloc (.cells #[.int .i64 at_,.slice A0 l.length c0] 130)) lo 23 ty 130 i0 (.agg #[.int .i64 0,.slice none 0 0]) 2 32 underlying23 hi aY aV aX rfl zA1 v ps.length (ZA ps) (ho.alloc _) ⟨w.heap.size,0,none⟩ 1 1 [.int .i64 at_,.slice A0 l.length c0]
   rfl (KB w #[.int .i64 at_,.slice A0 l.length c0] 130) h1 zA7 zO zA2
  have hlq:=(Ql ho q hq).1;rw[hq] at h3 h5;have hB:Below lo w w':=Below.trans (Below.mono (zN w _) aP) ((Below.refl lo _).grown h3 zA2 (fun k hk=>by cases hk;exact hlq));have aC:∀ q',q'<w.heap.size->(some q≠some q')->w'.heap[q']?=w.heap[q']?:=fun q' h1 aN=>(h3.block q' zA2 (fun e=>aN e.symm)).trans (zK w _ q' h1);have hK:qY lo b g (some q) w w':=⟨hB,fun q' h1 hn=>aC q' h1 fun e=>hn (.inr (.inr e))⟩
  rcases h5 with h5|h5
  ·exact⟨v',w',some q,au,fin v' w' _ h2 ⟨q,h5,rfl⟩ aC,hK,Zf.refl _ _,aC⟩
  ·have hN:Zf w.heap.size (some q) (some (w.heap.size+1)):=fun q' oU=>.inr (by cases oU;omega);exact⟨v',w',some (w.heap.size+1),au,fin v' w' _ h2 ⟨_,by rw[h5];simp,rfl⟩ aC,hK,hN,aC⟩
theorem qcy {ops:Array Oper} {rest:List Oper} {o:Oper} {a:Act} {Q:Exit->Act->World->Prop} (fG:o.guard=none) (s x:Operand) (ho:o.op=.call { callee:=.builtin .append,args:=#[s,x],argTypes:=#[23,23] }) {D:Nat->Prop} {B lo b g:Nat} {k:Option Nat} {v:Value} {ws:List (Int×List UInt8)} {w:World} (hs:a.eval s=v) (hx:a.eval x=.slice (some ⟨w.heap.size,0,none⟩) 1 1) (h:WsB D B lo b g k v ws w) (aP:lo<=w.heap.size) (hk:∀ q,k=some q->¬(q<B\/D q)) (xI:ws.length<1073741824) (at_:Int) (A0:Option Addr) (n0 c0:Nat) (l:List UInt8) (hn0:n0=l.length) (hd:∀ C,Qa (YS B D) w C->Bys C C.heap.size (.slice A0 n0 c0) l) (hK:∀ v' w' k',WsB D B lo b g k' v' (ws++[(at_,l)]) w'->qY lo b g k w w'->Zf w.heap.size k k'->(∀ q,q<w.heap.size->k≠some q->w'.heap[q]?=w.heap[q]?)->wpList prog ops Q rest (a.put o.dst v') w'):wpList prog ops Q (o :: rest) a (w.alloc (.cells #[.int .i64 at_,.slice A0 n0 c0] 130)):=by
 subst hn0;refine wpList_plain fG fun K hKK=>?_;obtain⟨v',w',k',au,h1,h2,h3,h4⟩:=h.push aP hk xI at_ A0 c0 l hd o.type;unfold Oper.wp execOp;simp only[ho,resolve,invoke,builtin,Sem.run_bind,Sem.run_pure,Result.andThen_ok,List.map_toArray,List.map_cons,List.map_nil,hs,hx,au];exact hKK _ _ (hK v' w' k' h1 h2 h3 h4)
theorem Bch.put {D:Nat->Prop} {B lo b g:Nat} {k k':Option Nat} {S:Sto} {w W:World} (h:Bch D B lo b g k S w) {A1:Option Addr} {n1 c1 c3 c4:Nat} {A4:Option Addr} {v2 v':Value} (hr:w.heap[b]?=some (.cells #[.slice A1 n1 c1,v2,.slice (some ⟨g,0,none⟩) 256 c3,.slice A4 256 c4] 191 (0,0))) (ho:w.ownsRow lo 5 1 (.slice (some ⟨g,0,none⟩) 256 c3) 256 (S.now.map bv)) (hb:Bls w B (.slice A1 n1 c1) S.bs) (hl:Bys w B (.slice A4 256 c4) S.last) {f:Nat} {l:List UInt8} (hf:f<256) (hw:WsB D B lo b g k' v' (S.ws++[((f:Int),l)]) W) (hB:qY lo b g k w W) (hN:Zf w.heap.size k k') (hHU:∀ q,q<w.heap.size->k≠some q->W.heap[q]?=w.heap[q]?):Bch D B lo b g k' ⟨S.bs,S.ws++[((f:Int),l)],S.now.set f 1,S.last⟩ ((W.setCell ⟨b,1,none⟩ v').setCell ⟨g,f,none⟩ (.int .u8 1))/\qY lo b g k w ((W.setCell ⟨b,1,none⟩ v').setCell ⟨g,f,none⟩ (.int .u8 1)):=by
 obtain⟨ik,hzb,uo,hzg,rY,uq,wX⟩:=h.size;have cO:=h.blo;have hkd:=h.offk;have hzW:=hB.below.size;have xG:=(hHU b hzb fun e=>(wX b e).2.2.1 rfl).trans hr;have hkq':∀ q,k'=some q->q≠b/\q≠g:=fun q hq=>(hN q hq).elim (fun e=>(wX q e).2.2) fun e=>zO;have st:∀ q,q≠b->q≠g->((W.setCell ⟨b,1,none⟩ v').setCell ⟨g,f,none⟩ (.int .u8 1)).heap[q]?=W.heap[q]?:=fun q h1 h2=>(zJ _ _ _ _ h2).trans (zJ _ _ _ _ h1);have wS:Below lo W ((W.setCell ⟨b,1,none⟩ v').setCell ⟨g,f,none⟩ (.int .u8 1)):=Below.setCell (Below.setCell (Below.refl _ _) (p:=⟨b,1,none⟩) ik _) (p:=⟨g,f,none⟩) uo _;have lF:Below lo w ((W.setCell ⟨b,1,none⟩ v').setCell ⟨g,f,none⟩ (.int .u8 1)):=hB.below.trans wS;have hX:Qa (YS B D) W ((W.setCell ⟨b,1,none⟩ v').setCell ⟨g,f,none⟩ (.int .u8 1)):=YS.keep fun q _ hq=>st q (fun e=>hkd b (.inl rfl) (e ▸ hq)) (fun e=>hkd g (.inr (.inl rfl)) (e ▸ hq));have ho1:=QA ho (w':=W) fun q hq=>by cases hq;exact hHU g hzg fun e=>(wX g e).2.2.2 rfl
 have ho2:=UP (qdW (k:=1) (v:=v') ho1 rY) (k:=f) hf 1;refine⟨⟨ik,cO,fun q hq=>⟨(h.dB q hq).1,by have:=(h.dB q hq).2.1;simp;omega,fun hx=>?_⟩,A1,n1,c1,v',c3,A4,c4,(zJ _ _ _ _ fun e=>rY e.symm).trans (qi xG 1 v'),ho2,?_,hb.below (Below.mono lF cO),hl.below (Below.mono lF cO)⟩,⟨lF,fun q hq hn=>(st q (fun e=>hn (.inl e)) (fun e=>hn (.inr (.inl e)))).trans (hB.rows q hq hn)⟩⟩
 ·exact(h.dB q hq).2.2 (B3.of_new hN q (h.dB q hq).2.1 hx)
 ·obtain⟨ps,e,hc,hp⟩:=hw;refine⟨ps,e,?_,fun p ai=>⟨(hp p ai).1,fun C hC=>(hp p ai).2 C (hX.trans hC fun _ _ h=>h)⟩⟩;rcases hc with ⟨e1,hm,A,e2,oV⟩|⟨q,e1,e2,how⟩
  ·exact .inl ⟨e1,hm,A,e2,oV.below (Below.mono wS cO)⟩
  ·exact .inr ⟨q,e1,e2,QA how fun q' oU=>by rw[e2] at oU;cases oU;exact st q (hkq' q e1).1 (hkq' q e1).2⟩
end Go.Proofs.YtpbniokljofedaaGreat
