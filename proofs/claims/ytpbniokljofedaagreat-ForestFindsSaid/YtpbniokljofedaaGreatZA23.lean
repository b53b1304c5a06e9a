/- Texts BackS, PutI, PutD, DMake, VolF, VolF2, Order2, FFind, VFind, FHas, FAsked, joined. -/
import Derived.WalkMore
import Derived.Test.YtpbniokljofedaaGreatZA04
import Derived.Test.YtpbniokljofedaaGreatZA07
import Derived.Test.YtpbniokljofedaaGreatZA09
import Derived.Test.YtpbniokljofedaaGreatZA10
import Derived.Test.YtpbniokljofedaaGreatZA16
import Derived.Test.YtpbniokljofedaaGreatZA17
import Derived.Test.YtpbniokljofedaaGreatZA19
import Derived.Test.YtpbniokljofedaaGreatZA20
import Derived.Test.YtpbniokljofedaaGreatZA22
set_option linter.unusedSimpArgs false
set_option linter.unusedVariables false
namespace Go.Proofs.YtpbniokljofedaaGreat
open Go.RowKit Go.Shelf
attribute [local go_sem] Oper.semAt_some
abbrev Us:Type:=Stp×Sl
abbrev usz:Us:=((0,[],0),(none,0,0))
set_option maxRecDepth 100000 in
set_option maxHeartbeats 1000000 in
theorem backs_in (n:Nat) (hn:1≤n) (l Bs b off len cap:Nat) (us:List Us) (hreach:len<1099511627776) (J Jx:List Nat→World→Prop)
  (hY:∀ pre (x:Nat) W,J pre W→pre.length<len→YieldAt Fence.wide (n-1) Tryz.prog l #[.int .i64 (x:Int),.agg #[.int .i64 ((us[x]?.getD usz).1.1:Int),sv (us[x]?.getD usz).2,.int .i64 ((us[x]?.getD usz).1.2.2:Int)]] W fun e W' =>
   (e=.returned (.bool true)∧J (pre++[x]) W'∧Qq Bs b W W')∨(e=.returned (.bool false)∧Jx (pre++[x]) W'))
  (W:World) (hBs:W.cell? ⟨Bs,0,none⟩=some (.slice (some ⟨b,off,none⟩) len cap)) (hc:∀ i,i<len→W.cell? ⟨b,off+i*3,none⟩=some (.int .i64 ((us[i]?.getD usz).1.1:Int))∧W.cell? ⟨b,off+i*3+1,none⟩=some (sv (us[i]?.getD usz).2)∧W.cell? ⟨b,off+i*3+2,none⟩=some (.int .i64 ((us[i]?.getD usz).1.2.2:Int))) (h0:J [] W) :
  CallsIn Fence.wide n Tryz.prog 146 #[.func (.yield l) #[] #[],.pointer (some ⟨Bs,0,none⟩)] W fun e W'=>(∃ v,e=.returned v) ∧
   ((∃ ys,ys=ZU (fun j=>len-1-j) len∧J ys W')∨(∃ pre,(∃ k,k≤len∧pre=ZU (fun j=>len-1-j) k)∧Jx pre W')):=by
 refine callsIn_of_wp Tryz.func146 rfl trivial ?_ rfl
 simp only[Tryz.ntmps146,List.size_toArray,List.length_cons,List.length_nil,Nat.reduceAdd,Nat.reduceSub,Array.replicate_succ,Array.replicate_zero,List.push_toArray,List.append_toArray,List.nil_append,List.cons_append]
 gi_wp2
 gi_loopw [3] (fun i wr=>∃ k:Nat,k≤len∧i=.int .i64 ((len:Int)-1-k)∧J (ZU (fun j=>len-1-j) k) wr∧Qq Bs b W wr)
  (fun i _=>(intOf i+1).toNat)
 case atStart=>exact⟨0,Nat.zero_le _,by simp,h0,Qq.refl _ _ _⟩
 case round =>
  obtain⟨k,hk,rfl,hJs,hnx⟩:=hrel
  have hBr:wr.cell? ⟨Bs,0,none⟩=some (.slice (some ⟨b,off,none⟩) len cap):=(World.cell?_of_block (w:=W) hnx.1).trans hBs
  by_cases hlt:k<len
  ·obtain⟨fn,tmps,assign,body,hy,hR⟩:=hY _ (len-1-k) wr hJs (by rw[vy];exact hlt)
   have hc0:=(World.cell?_of_block (w:=W) (a:=⟨b,off+(len-1-k)*3,none⟩) hnx.2).trans (hc (len-1-k) (by omega)).1
   have hc1:=(World.cell?_of_block (w:=W) (a:=⟨b,off+(len-1-k)*3+1,none⟩) hnx.2).trans (hc (len-1-k) (by omega)).2.1
   have hc2:=(World.cell?_of_block (w:=W) (a:=⟨b,off+(len-1-k)*3+2,none⟩) hnx.2).trans (hc (len-1-k) (by omega)).2.2
   try dsimp only at hy
   obtain⟨i,hi⟩:∃ i:Nat,len-1-k=i:=⟨_,rfl⟩
   have hi2:(len:Int)-1-k=(i:Int):=by omega
   have hil:i<len:=by omega
   have hik:k+i+1≤len∧len≤k+i+1:=by omega
   have HU:=zH (Vf (fun j=>len-1-j) k)
   obtain⟨u,hu⟩:∃ u,us[i]?.getD usz=u:=⟨_,rfl⟩
   rw[hi] at hc0 hc1 hc2 hy hR
   rw[hu] at hc0 hc1 hc2 hy
   rw[hi2]
   clear hi2
   have HE:=zH hu
   clear hu
   have HI:=zH hi
   clear hi
   gi_wp2
   refine hR.mono ?_
   rintro e W3 (⟨rfl,hJ3,hk3⟩|⟨rfl,hJx3⟩)
   ·gi_wp2
    go_roundw
    case rel=>exact⟨k+1,by omega,by go_num,by rw[HU.out,HI.out];exact hJ3,hnx.t hk3⟩
    case measure=>simp[intOf]
   ·gi_wp2
    refine bodyPost_ret (results_none rfl _ _ _) rfl ?_
    exact⟨⟨_,rfl⟩,.inr ⟨_,⟨k+1,by omega,by rw[HU.out,HI.out]⟩,hJx3⟩⟩
  ·obtain rfl:k=len:=by omega
   gi_wp2
   go_end0
   exact⟨⟨_,rfl⟩,.inl ⟨_,rfl,hJs⟩⟩
set_option maxRecDepth 100000 in
set_option maxHeartbeats 1000000 in
theorem GW (n l Bs c:Nat) (A:Option Addr) (J:List Nat→World→Prop) (W:World) (hBs:W.cell? ⟨Bs,0,none⟩=some (.slice A 0 c)) (h0:J [] W) :
  CallsIn Fence.wide n Tryz.prog 146 #[.func (.yield l) #[] #[],.pointer (some ⟨Bs,0,none⟩)] W fun e W'=>(∃ v,e=.returned v)∧J [] W':=by
 refine callsIn_of_wp Tryz.func146 rfl trivial ?_ rfl
 simp only[Tryz.ntmps146,List.size_toArray,List.length_cons,List.length_nil,Nat.reduceAdd,Nat.reduceSub,Array.replicate_succ,Array.replicate_zero,List.push_toArray,List.append_toArray,List.nil_append,List.cons_append]
 gi_wp2
 gi_loopw [3] (fun i wr=>i=.int .i64 (-1)∧J [] wr) (fun _ _=>0)
 case atStart=>exact⟨rfl,h0⟩
 case round =>
  obtain⟨rfl,hJs⟩:=hrel
  gi_wp2
  go_end0
  exact⟨⟨_,rfl⟩,hJs⟩
def SWs (W:World) (Bs b:Nat) (v:Value) (us:List Us):Prop:=
 W.cell? ⟨Bs,0,none⟩=some v∧((us=[]∧∃ A c,v=.slice A 0 c)∨∃ off cap,v=.slice (some ⟨b,off,none⟩) us.length cap∧∀ i,i<us.length→W.cell? ⟨b,off+i*3,none⟩=some (.int .i64 ((us[i]?.getD usz).1.1:Int))∧W.cell? ⟨b,off+i*3+1,none⟩=some (sv (us[i]?.getD usz).2)∧W.cell? ⟨b,off+i*3+2,none⟩=some (.int .i64 ((us[i]?.getD usz).1.2.2:Int)))
theorem SWs.keep {W W':World} {Bs b:Nat} {v:Value} {us:List Us} (h:SWs W Bs b v us) (hk:Qq Bs b W W'):SWs W' Bs b v us:=by
 refine⟨(World.cell?_of_block (w:=W) hk.1).trans h.1,?_⟩
 rcases h.2 with h|⟨off,cap,e,hc⟩
 ·exact .inl h
 ·exact .inr ⟨off,cap,e,fun i hi=>⟨(World.cell?_of_block (w:=W) hk.2).trans (hc i hi).1,(World.cell?_of_block (w:=W) hk.2).trans (hc i hi).2.1,(World.cell?_of_block (w:=W) hk.2).trans (hc i hi).2.2⟩⟩
theorem qaq (n:Nat) (hn:1≤n) (Bs b:Nat) (v:Value) (us:List Us) (hreach:us.length<1099511627776) (w:World) (hBs:Bs<w.heap.size) (hb:b<w.heap.size) (hS:SWs w Bs b v us) :
  SeqStopsK Fence.wide n Tryz.prog 146 #[.pointer (some ⟨Bs,0,none⟩)] (fun x:Nat=>#[.int .i64 (x:Int),.agg #[.int .i64 ((us[x]?.getD usz).1.1:Int),sv (us[x]?.getD usz).2,.int .i64 ((us[x]?.getD usz).1.2.2:Int)]]) (Qq Bs b) (fun ys=>ys=ZU (fun j=>us.length-1-j) us.length)
   (fun pre=>∃ k,k≤us.length∧pre=ZU (fun j=>us.length-1-j) k) us.length w:=fun l J Jx W hW _ _ hY h0=>by
 obtain⟨hc,h⟩:=hS.keep (Qq.below hW hBs hb)
 rcases h with ⟨rfl,A,c,rfl⟩|⟨off,cap,rfl,hcs⟩
 ·exact(GW n l Bs c A J W hc h0).mono fun e W' ⟨he,hj⟩=>⟨he,.inl ⟨_,rfl,hj⟩⟩
 ·exact backs_in n hn l Bs b off us.length cap us hreach J Jx hY W hc hcs h0
set_option maxHeartbeats 1000000 in
theorem Uk (A:Option Addr) (m c:Nat) (w:World) :
  Calls Tryz.prog 100 #[.slice A m c] w (fun e w'=>e=.returned (.func (.func 146) #[] #[.pointer (some ⟨w.heap.size,0,none⟩)])∧w'=w.alloc (.cells #[.slice A m c] 153)):=by
 go_enter Tryz.func100,Tryz.ntmps100
 go_wp2
 go_ret
 exact⟨rfl,rfl⟩
end Go.Proofs.YtpbniokljofedaaGreat
namespace Go.Proofs.YtpbniokljofedaaGreat
open Go.RowKit
section
variable {w W:World}
theorem Rd.ck {B size n:Nat} {A:Option Addr} {xs:List Value} (h:Rd w B size A n xs) (hk:qL w W):Rd W B size A n xs:=⟨h.1,fun hn=>by
 obtain⟨b,off,e,hb,hc⟩:=h.2 hn
 exact⟨b,off,e,hb,fun j u hu=>hk.cell (hc j u hu)⟩⟩
theorem Bys.ck {B:Nat} {v:Value} {l:List UInt8} (h:Bys w B v l) (hk:qL w W):Bys W B v l:=by
 obtain⟨A,c,e,hc,hm,hr⟩:=h
 exact⟨A,c,e,hc,hm,hr.ck hk⟩
theorem Bls.ck {B:Nat} {v:Value} {bs:List (List UInt8)} (h:Bls w B v bs) (hk:qL w W):Bls W B v bs:=by
 obtain⟨vs,A,c,e,h1,h2,h3,h4⟩:=h
 exact⟨vs,A,c,e,h1,h2,h3.ck hk,fun i u l hu hl=>(h4 i u l hu hl).ck hk⟩
theorem qP.of_ck (X:Nat→Prop) (hk:qL w W):qP X w W:=fun _ _ _ hv=>hk.cell hv
theorem Bch.ck {D:Nat→Prop} {B lo b g:Nat} {k:Option Nat} {S:Sto} (h:Bch D B lo b g k S w) (hk:qL w W):Bch D B lo b g k S W:=by
 obtain⟨A1,n1,c1,v2,c3,A4,c4,hro,ho,⟨ps,e,hw,hp⟩,h1,h4⟩:=h.ex
 refine⟨h.lob,h.blo,fun q hq=>⟨(h.dB q hq).1,by have:=(h.dB q hq).2.1;have:=hk.size;omega,(h.dB q hq).2.2⟩,A1,n1,c1,v2,c3,A4,c4,hk.row hro,vR ho hk,⟨ps,e,?_,fun p hpm=>⟨(hp p hpm).1,fun C hC=>(hp p hpm).2 C ((qP.of_ck _ hk).trans hC fun _ _ h=>h)⟩⟩,h1.ck hk,h4.ck hk⟩
 rcases hw with ⟨e,hm,A,e2,hr⟩|⟨q,e,e2,how⟩
 ·exact .inl ⟨e,hm,A,e2,hr.ck hk⟩
 ·exact .inr ⟨q,e,e2,vR how hk⟩
end
theorem vk.of_own {X:Nat→Prop} {w:World} {lo n:Nat} {v:Value} {ps:List (It×Value)} (ho:w.ownsRow lo 68 5 v n (qI ps)) (hl:ps.length=n) (hX:∀ q,v.ownBlock=some q→¬X q) (hp:∀ p∈ps,(∃ A c,p.2=.slice A p.1.val.length c)∧∀ C,qP X w C→Bys C C.heap.size p.2 p.1.val):vk X w v (ps.map (·.1)):=fun C hC=>by
 have hrd:∀ A c,v=.slice A n c→Rd C C.heap.size 5 A n (qI ps):=fun A c e=>by
  refine⟨ho.1,fun hn=>?_⟩
  rcases ho.2 with ⟨_,h0⟩|⟨g,cap,cur,hv,hb,hg,hnc,_,hsz,htk⟩
  ·omega
  ·have hne:¬X g:=hX g (by rw[hv];rfl)
   rw[hv] at e
   cases e
   have hc:∀ j u,(qI ps)[j]?=some u→w.cell? ⟨g,0+j,none⟩=some u:=fun j u hu=>by
    rw[Nat.zero_add,qa hg,←Array.getElem?_toList]
    rw[←htk,List.getElem?_take] at hu
    split at hu
    ·exact hu
    ·cases hu
   have hl0:0<(qI ps).length:=by rw[ho.1];omega
   exact⟨g,0,rfl,World.block_lt_of_cell? C ⟨g,0+0,none⟩ (hC _ _ hne (hc 0 _ (List.getElem?_eq_getElem hl0))),fun j u hu=>hC _ _ hne (hc j u hu)⟩
 obtain⟨A,c,rfl,h1,h2⟩:=qJ ho
 subst hl
 exact⟨ps,rfl,⟨A,c,by rw[List.length_map],by rw[List.length_map];exact h1,h2,by rw[List.length_map];exact hrd A c rfl⟩,fun p hpm=>⟨(hp p hpm).1,(hp p hpm).2 C hC⟩⟩
theorem Bch.others {D:Nat→Prop} {B lo b g:Nat} {k:Option Nat} {S:Sto} {w W:World} (h:Bch D B lo b g k S w) (hk:qS lo b g k w W):KeepsOthers w W:=⟨hk.below.size,fun q o hq ho=>by
 refine hk.row hq fun hx=>?_
 obtain⟨A1,n1,c1,v2,c3,A4,c4,hro,hno,⟨ps,_,hw,_⟩,_,_⟩:=h.ex
 have key:∀ cs ty fr,w.heap[q]?=some (.cells cs ty fr)→False:=fun cs ty fr hc=>by
  rw[hc] at hq
  cases hq
  cases ho
 rcases hx with rfl|rfl|e
 ·exact key _ _ _ hro
 ·obtain⟨cur,hg⟩:=jf hno rfl
  exact key _ _ _ hg
 ·rcases hw with ⟨e1,_⟩|⟨q',e1,e2,how⟩
  ·rw[e1] at e;cases e
  ·rw[e1] at e
   cases e
   obtain⟨cur,hg⟩:=jf how e2
   exact key _ _ _ hg⟩
def sAt (l:List Stp) (x:Nat):Stp:=l[x]?.getD (0,[],0)
theorem sAt_ok {k:K3} {l:List Stp} (h:∀ s∈l,qax k s) (x:Nat):qax k (sAt l x):=by
 unfold sAt
 rcases hx:l[x]? with _|s
 ·exact⟨by decide,(fun y hy=>by cases hy),Nat.zero_le _,Nat.le_refl _,fun h=>absurd h (Nat.lt_irrefl 0),fun _=>rfl⟩
 ·exact h s (List.mem_of_getElem? hx)
theorem qbm (l:List Stp) (k:Nat) (hk:k≤l.length):(ZU (fun j=>l.length-1-j) k).map (sAt l)=l.reverse.take k:=by
 apply List.ext_getElem?
 intro i
 unfold ZU
 rw[List.getElem?_map,List.getElem?_map,List.getElem?_take]
 by_cases hi:i<k
 ·rw[List.getElem?_range hi,if_pos hi,List.getElem?_reverse (by omega)]
  simp only[Option.map_some,sAt]
  rw[List.getElem?_eq_getElem (by omega)]
  simp
 ·rw[List.getElem?_eq_none (by simp;omega),if_neg hi]
  rfl
structure PutI (K:K3) (l:List Stp) (S:Sto) (x:It) (B0 lo b g UB TB SB w2:Nat) (w3:World) (xv sv_:Value) (pre:List Nat) (W:World):Prop where
 ex:∃ (ups:List It) (S':Sto) (k':Option Nat) (D':Nat→Prop) (Au:Option Addr) (cu:Nat) (hps:List (It×Value)),ZQ K (pre.map (sAt l)) [x] S=.ok (ups,S')∧qo S'=true∧0<ups.length∧ups.length≤2∧hps.map (·.1)=ups ∧
  (∀ y∈ups,ZL y∧(y.r=0∨8≤y.r)∧y.r<256)∧(∀ p∈hps,(∃ A c,p.2=.slice A p.1.val.length c)∧Bys W B0 p.2 p.1.val)∧W.heap[UB]?=some (.cells #[.slice Au ups.length cu] 47 (0,0))∧W.ownsRow 0 68 5 (.slice Au ups.length cu) ups.length (qI hps)∧Bch D' B0 lo b g k' S' W
 rx:W.heap[B0+1]?=some (.cells #[.int .u8 x.k,.int .u32 x.i,.int .u32 x.o,.int .i64 x.r,xv] 68 (0,0))
 r2:W.heap[B0+2]?=some (.cells #[.slice none 0 0,.slice none 0 0,.slice none 0 0,.slice none 0 0] 28 (0,0))
 r3:W.heap[B0+3]?=some (.cells #[.int .i64 0] 3 (0,0))
 r4:W.heap[B0+4]?=some (.cells #[.int .i64 0] 36 (0,0))
 rT:W.heap[TB]?=some (.cells #[.pointer (some ⟨b,0,none⟩)] 80 (0,0))
 rS:W.heap[SB]?=some (.cells #[sv_] 153 (0,0))
 kx:qP (fun q=>q<w2) w3 W
theorem PutI.ck {K:K3} {l:List Stp} {S:Sto} {x:It} {B0 lo b g UB TB SB w2:Nat} {w3:World} {xv sv_:Value} {pre:List Nat} {w W:World} (h:PutI K l S x B0 lo b g UB TB SB w2 w3 xv sv_ pre w) (hk:qL w W):PutI K l S x B0 lo b g UB TB SB w2 w3 xv sv_ pre W:=by
 obtain⟨ups,S',k',D',Au,cu,hps,h1,h2,h3,h4,h5,h6,h7,h8,h9,h10⟩:=h.ex
 exact⟨⟨ups,S',k',D',Au,cu,hps,h1,h2,h3,h4,h5,h6,fun p hp=>⟨(h7 p hp).1,(h7 p hp).2.ck hk⟩,hk.row h8,vR h9 hk,h10.ck hk⟩,hk.row h.rx,hk.row h.r2,hk.row h.r3,hk.row h.r4,hk.row h.rT,hk.row h.rS,h.kx.trans (qP.of_ck _ hk) fun _ _ h=>h⟩
theorem Vp {S S':Sto} {lvl:Int} {l held up:List It} (hl:∀ x∈l,ZL x) (hh:∀ x∈held,(x.r=0∨8≤x.r)∧x.r<256) (hS:qo S=true) (e:QP S lvl l held=.ok (up,S')):qo S'=true∧(0<up.length∧up.length≤2)∧∀ y∈up,ZL y∧(8≤y.r∧y.r<256)∧y.val=[]:=by
 unfold QP at e
 split at e
 ·cases e
 ·rename_i up1 S1 e1
  split at e
  ·cases e
  ·rename_i t e2
   cases e
   obtain⟨h1,h2,h3⟩:=UZ (qbp hl) hS e1
   refine⟨XX h1 (JO (fun a ha=>by
    obtain⟨x,hx,rfl⟩:=List.mem_map.1 ha
    have:=hh x hx
    omega) (Qr.1 h1).2.1 e2),?_,fun y hy=>?_⟩
   ·rw[h2]
    unfold vB
    split <;> simp
   ·obtain⟨⟨f,k1,k8,k9⟩,k2,p,hp,k3⟩:=h3 y hy
    have:=key0_ok (qbp hl p hp)
    rw[←k3] at this
    obtain⟨a1,a2,a3⟩:=this
    exact⟨⟨a1,a2,a3,by rw[k1];omega,by rw[k2];simp⟩,by omega,k2⟩
theorem qcA {k:K3} {ps:List Stp} {j:Nat} {up:List It} {S:Sto} {e:Int} (h:ZQ k (ps.take j) up S=.error e):ZQ k ps up S=.error e:=by
 have:ps=ps.take j++ps.drop j:=(List.take_append_drop _ _).symm
 rw[this,Vw,h]
theorem Yd {W C:World} {U E:Nat} {u v u0 v0:Value} {ty1 ty2:TypeId} (hU:W.heap[U]?=some (.cells #[u0] ty1 (0,0))) (hE:W.heap[E]?=some (.cells #[v0] ty2 (0,0))) (hne:U≠E) (hC:C=(W.setCell ⟨U,0,none⟩ u).setCell ⟨E,0,none⟩ v) :
  C.heap[U]?=some (.cells #[u] ty1 (0,0))∧C.heap[E]?=some (.cells #[v] ty2 (0,0))∧(∀ k,k≠U→k≠E→C.heap[k]?=W.heap[k]?)∧C.heap.size=W.heap.size∧KeepsOthers W C∧∀ {B:Nat} {w0:World},B≤U→B≤E→Below B w0 W→Below B w0 C:=by
 subst hC
 have hs:=fun (A:World) (b j:Nat) (v:Value) (k:Nat) (hk:k≠b)=>Below.heap_setCell A ⟨b,j,none⟩ v k hk
 refine⟨?_,?_,fun k h1 h2=>?_,by simp,(KeepsOthers.setCell _ _ _).trans (KeepsOthers.setCell _ _ _),fun h1 h2 h=>Below.setCell (Below.setCell h (p:=⟨U,0,none⟩) h1 _) (p:=⟨E,0,none⟩) h2 _⟩
 ·rw[hs _ _ _ _ _ hne]
  exact qj hU 0 u
 ·refine qj (t:=ty2) (cs:=#[v0]) ?_ 0 v
  rw[hs _ _ _ _ _ (fun e=>hne e.symm)]
  exact hE
 ·rw[hs _ _ _ _ _ h2,hs _ _ _ _ _ h1]
def outTw (lo:Nat) (S:Sto):qO:=⟨(Nat×Nat)×(Option Addr×Nat)×(Option Addr×Nat),fun p=>Qd (some ⟨p.1.1,0,none⟩) S.bs.length S.bs.length (some ⟨p.1.2,0,none⟩) S.ws.length (S.ws.length+1) p.2.1.1 S.now.length p.2.1.2 p.2.2.1 S.last.length p.2.2.2,fun p W=>QH lo S (Qd (some ⟨p.1.1,0,none⟩) S.bs.length S.bs.length (some ⟨p.1.2,0,none⟩) S.ws.length (S.ws.length+1) p.2.1.1 S.now.length p.2.1.2 p.2.2.1 S.last.length p.2.2.2) W⟩
theorem QG (lo:Nat) (S:Sto) (b c:Nat) (A3:Option Addr) (c3:Nat) (A4:Option Addr) (c4:Nat):(outTw lo S).f ((b,c),(A3,c3),(A4,c4))=Qd (some ⟨b,0,none⟩) S.bs.length S.bs.length (some ⟨c,0,none⟩) S.ws.length (S.ws.length+1) A3 S.now.length c3 A4 S.last.length c4:=rfl
structure PutD (q:Except Int (List It×Sto)) (B0 lo b g UB TB D:Nat) (w W:World):Prop where
 ex:∃ (ups:List It) (S':Sto) (k':Option Nat) (D':Nat→Prop) (Au:Option Addr) (cu:Nat) (hps:List (It×Value)),q=.ok (ups,S')∧qo S'=true∧0<ups.length∧hps.map (·.1)=ups ∧
  W.heap[UB]?=some (.cells #[.slice Au ups.length cu] 47 (0,0))∧W.ownsRow 0 68 5 (.slice Au ups.length cu) ups.length (qI hps)∧Bch D' B0 lo b g k' S' W∧∀ y∈ups,(y.r=0∨8≤y.r)∧y.r<256
 r2:W.heap[B0+2]?=some (.cells #[.slice none 0 0,.slice none 0 0,.slice none 0 0,.slice none 0 0] 28 (0,0))
 r3:W.heap[B0+3]?=some (.cells #[.int .i64 0] 3 (0,0))
 r4:W.heap[B0+4]?=some (.cells #[.int .i64 0] 36 (0,0))
 rT:W.heap[TB]?=some (.cells #[.pointer (some ⟨b,0,none⟩)] 80 (0,0))
 hK:W.heap[D]?=some (.deferred (some []))
 below:Below B0 w W
theorem Bch.kept {D:Nat→Prop} {B lo b g:Nat} {k:Option Nat} {S:Sto} {w W:World} (h:Bch D B lo b g k S w) (hB:Below B w W) (hr:∀ q,lo≤q→q<w.heap.size→W.heap[q]?=w.heap[q]?):Bch D B lo b g k S W:=
 h.keep hB fun q hq=>hq.elim (fun h2=>hr q (h.b3 q h2).1 (h.b3 q h2).2) fun h2=>hr q (h.dB q h2).1 (h.dB q h2).2.1
def TU (S:Sto):Except Int (Nat×Sto):=if qo S=true then zu S 0 [] else .error 8
def MadeQ (lo:Nat) (q:Except Int (Nat×Sto)) (u:Value) (W:World):Prop:=match q with
 | .error e=>u=.tuple #[Qd none 0 0 none 0 0 none 0 0 none 0 0,.int .i64 0,.int .i64 e]
 | .ok (r,S')=>∃ v,u=.tuple #[v,.int .i64 (r:Int),.int .i64 0]∧QH lo S' v W
theorem vk.nil (X:Nat→Prop) (w:World):vk X w (.slice none 0 0) []:=fun C _=>Its.nil C _
theorem newE_may {S S':Sto} {r:Nat} (h:TU S=.ok (r,S')):qo S=true∧zu S 0 []=.ok (r,S')∧qo S'=true∧8≤r∧r<256:=by
 unfold TU at h
 split at h
 ·rename_i hS
  obtain⟨h1,h2,h3,_⟩:=kQ (fun x hx=>by cases hx) hS h
  exact⟨hS,h,h1,h2,h3⟩
 ·cases h
theorem YU {R:Ending→World→Prop} {a:Act} {W:World} {b:Nat} {x0 x1 x2 x3 u v:Value} (h4:a.tmps[4]?.getD undef=.pointer (some ⟨b,0,none⟩)) (h5:a.tmps[5]?.getD undef=u) (h6:a.tmps[6]?.getD undef=v) (hd:a.defers=[])
  (hrow:W.heap[b]?=some (.cells #[x0,x1,x2,x3] 28 (0,0))) (hR:R (.returned (.tuple #[.agg #[x0,x1,x2,x3],u,v])) W):bodyPost Tryz.prog Tryz.f92 R .ret a W:=by
 refine bodyPost_ret (v:=.tuple #[.agg #[x0,x1,x2,x3],u,v]) ?_ hd hR
 have k:=qa hrow
 simp[results,Tryz.results92,go_sem,h4,h5,h6,k]
theorem qbe {R:Ending→World→Prop} {a:Act} {W:World} {b:Nat} {x0 x1 x2 x3 u v:Value} (h4:a.tmps[2]?.getD undef=.pointer (some ⟨b,0,none⟩)) (h5:a.tmps[3]?.getD undef=u) (h6:a.tmps[4]?.getD undef=v) (hd:a.defers=[])
  (hrow:W.heap[b]?=some (.cells #[x0,x1,x2,x3] 28 (0,0))) (hR:R (.returned (.tuple #[.agg #[x0,x1,x2,x3],u,v])) W):bodyPost Tryz.prog Tryz.f51 R .ret a W:=by
 refine bodyPost_ret (v:=.tuple #[.agg #[x0,x1,x2,x3],u,v]) ?_ hd hR
 have k:=qa hrow
 simp[results,Tryz.results51,go_sem,h4,h5,h6,k]
set_option maxHeartbeats 2000000 in
set_option maxRecDepth 100000 in
theorem qey (A1:Option Addr) (n1 c1:Nat) (A2:Option Addr) (n2 c2:Nat) (A3:Option Addr) (n3 c3:Nat) (A4:Option Addr) (n4 c4:Nat) (S:Sto) (w:World) (h:Qc w w.heap.size (.slice A1 n1 c1) (.slice A2 n2 c2) (.slice A3 n3 c3) (.slice A4 n4 c4) S) :
  Calls Tryz.prog 92 #[Qd A1 n1 c1 A2 n2 c2 A3 n3 c3 A4 n4 c4,ZA 0 none 0 0] w (zD (MadeQ w.heap.size (TU S)) w):=by
 have HC:=zH (fun W (hW:Ext w W)=>vc A1 n1 c1 A2 n2 c2 A3 n3 c3 A4 n4 c4 S W (h.ext hW))
 have HN:=zH (fun W=>JW 0 none 0 0 [] W (Its.nil W W.heap.size))
 rw[show qX 0 []=true from rfl,show jy true=0 from rfl] at HN
 have HO:=zH (fun (hS:qo S=true) W (hW:Ext w W)=>qcg A1 n1 c1 A2 n2 c2 A3 n3 c3 A4 n4 c4 S (by have:=(qV hS).2.2.1;omega) W (h.ext hW))
 replace h:=zH h
 go_enter Tryz.func92,Tryz.ntmps92
 go_wp2_with fail
 generalize hw1:World.alloc (World.alloc (World.alloc _ _) _) _=w1
 have x1:Ext w w1:=by rw[←hw1];exact((Ext.alloc _ _).trans (Ext.alloc _ _)).trans (Ext.alloc _ _)
 have r1:w1.heap[w.heap.size]?=some (.cells #[.slice A1 n1 c1,.slice A2 n2 c2,.slice A3 n3 c3,.slice A4 n4 c4] 28 (0,0)):=by rw[←hw1];exact(Below.heap_alloc _ _ _ (by simp;omega)).trans ((Below.heap_alloc _ _ _ (by simp)).trans (World.alloc_heap_at _ _ _ rfl))
 have p1:w1.heap[w.heap.size+1]?=some (.cells #[.int .i64 0,.slice none 0 0] 49 (0,0)):=by rw[←hw1];exact(Below.heap_alloc _ _ _ (by simp)).trans (World.alloc_heap_at _ _ _ (by simp))
 have q1:w1.heap[w.heap.size+1+1]?=some (.cells #[.slice none 0 0,.slice none 0 0,.slice none 0 0,.slice none 0 0] 28 (0,0)):=by rw[←hw1];exact World.alloc_heap_at _ _ _ (by simp)
 clear hw1
 refine(HC.out w1 x1).mono ?_
 rintro e w2 ⟨rfl,hB⟩
 have x2:Ext w w2:=x1.trans hB
 have r2:=qc r1 hB
 have p2:=qc p1 hB
 have q2:=qc q1 hB
 have kp:=qa p2
 have kq:=qa q2
 have fq:=qg q2
 have zq2:w.heap.size+1+1<w2.heap.size:=(zG.1 q2).1
 clear r1 p1 q1 x1 hB HC
 rcases hS:qo S with _|_
 ·have hq:=zH (show TU S=.error 8 by unfold TU;rw[hS];rfl)
  rw[Jp rfl]
  replace hS:=zH hS
  go_wp2_with fail
  exact YU (b:=w.heap.size+2) rfl rfl rfl rfl (Uc q2 _ _ _ _) ⟨_,rfl,by rw[hq.out];rfl,jD x2 (by omega) _ _ _ _⟩
 ·have hq:=zH (show TU S=zu S 0 [] by unfold TU;rw[if_pos hS])
  rw[vD rfl]
  have HOS:=zH (HO.out hS)
  replace hS:=zH hS
  clear HO
  go_wp2_with fail
  refine(HN.out w2).mono ?_
  rintro e w3 ⟨rfl,hB⟩
  have x3:Ext w w3:=x2.trans hB
  have r3:=qc r2 hB
  have p3:=qc p2 hB
  have q3:=qc q2 hB
  have kr:=qa r3
  clear r2 p2 q2 x2 hB HN kp kq fq zq2
  go_wp2_with fail
  refine(HOS.out w3 x3).mono ?_
  rintro e w4 ⟨u,rfl,⟨b,P3,d3,rfl,hlo,hrow,hown⟩,hB⟩
  have hB4:Ext w3 w4:=hB
  have x4:Ext w w4:=x3.trans hB4
  have p4:=qc p3 hB4
  have q4:=qc q3 hB4
  have kp:=qa p4
  have z3:=x3.size
  have zq3:w.heap.size+1+1<w3.heap.size:=(zG.1 q3).1
  obtain⟨g,hbch⟩:=Bch.of_on (B:=w.heap.size) z3 hS.out (h.out.below x4) hlo hrow hown
  have HM:=zH (US (fun _=>False) w.heap.size w3.heap.size b g none S 0 none 0 0 [] (fun x hx=>by cases hx) (qV hS.out).2.1 w4 hbch (vk.nil _ _))
  replace hbch:=zH hbch
  clear hB hrow hown r3 p3 q3 kr HOS
  go_wp2_with fail
  refine HM.out.mono ?_
  clear HM
  rintro e w5 ⟨hkb,hcase⟩
  have nB:∀ {q cs ty fr},w4.heap[q]?=some (.cells cs ty fr)→ty≠191→ty≠5→ty≠130→¬B3 b g none q:=fun hr h1 h2 h3=>hbch.out.notB3 hr h1 h2 h3
  have q5:=hkb.row q4 (nB q4 (by decide) (by decide) (by decide))
  have x5:Below w.heap.size w w5:=Below.trans (B:=w.heap.size) x4 (Below.mono hkb.below z3)
  have kq:=qa q5
  have fq:=qg q5
  have zq5:w.heap.size+1+1<w5.heap.size:=(zG.1 q5).1
  have z35:w3.heap.size≤w5.heap.size:=Nat.le_trans hB4.size hkb.below.size
  clear nB hkb kp p4 q4
  rcases hmx:zu S 0 [] with er|⟨f,S'⟩
  ·rw[hmx] at hcase
   obtain rfl:=hcase
   have hne0:(er != 0)=true:=by rw[bne_iff_ne];exact YL hmx
   replace hmx:=zH hmx
   go_wp2_with fail
   exact YU (b:=w.heap.size+2) rfl rfl rfl rfl (Uc q5 _ _ _ _) ⟨_,rfl,by rw[hq.out,hmx.out];rfl,jD x5 (by omega) _ _ _ _⟩
  ·rw[hmx] at hcase
   obtain⟨rfl,k',D',hNk,hND,hbc⟩:=hcase
   have hsh:Xz S':=ju (kQ (fun x hx=>by cases hx) hS.out hmx).1
   obtain⟨E1,m1,e1,E2,m2,e2,e3,E4,e4,hrb,hsb⟩:=hbc.sto
   have HT:=zH (KU b E1 m1 e1 E2 m2 e2 (some ⟨g,0,none⟩) 256 e3 E4 256 e4 S' hsh w5 hrb hsb)
   replace hmx:=zH hmx
   clear hbc hrb hsb hsh kq fq hNk hND
   go_wp2_with fail
   refine HT.out.mono ?_
   rintro e w6 ⟨u,rfl,hT,hB⟩
   have hB6:Ext w5 w6:=hB
   have x6:Below w.heap.size w w6:=x5.trans (Below.mono hB6 x5.size)
   have q6:=qc q5 hB6
   have kq:=qa q6
   have fq:=qg q6
   have zq6:w.heap.size+1+1<w6.heap.size:=(zG.1 q6).1
   obtain⟨BB,WW,gg,B3,d3',B4,d4,rfl,-⟩:=id hT
   replace hT:=zH hT
   clear HT hB q5
   go_wp2_with fail
   refine YU (b:=w.heap.size+2) rfl rfl rfl rfl (Uc q6 _ _ _ _) ⟨_,rfl,?_,jD x6 (by omega) _ _ _ _⟩
   rw[hq.out,hmx.out]
   exact⟨_,rfl,QH.set4 hT.out (by omega) (by omega) _ _ _ _⟩
set_option maxHeartbeats 1000000 in
set_option maxRecDepth 100000 in
theorem pnew_any (A1:Option Addr) (n1 c1:Nat) (A2:Option Addr) (n2 c2:Nat) (A3:Option Addr) (n3 c3:Nat) (A4:Option Addr) (n4 c4:Nat) (S:Sto) (w:World) (h:Qc w w.heap.size (.slice A1 n1 c1) (.slice A2 n2 c2) (.slice A3 n3 c3) (.slice A4 n4 c4) S) :
  Calls Tryz.prog 51 #[Qd A1 n1 c1 A2 n2 c2 A3 n3 c3 A4 n4 c4] w (zD (MadeQ w.heap.size (TU S)) w):=by
 have HM:=zH (fun W (hW:Ext w W)=>qey A1 n1 c1 A2 n2 c2 A3 n3 c3 A4 n4 c4 S W (h.ext hW))
 clear h
 go_enter Tryz.func51,Tryz.ntmps51
 go_wp2_with fail
 generalize hw1:World.alloc (World.alloc _ _) _=w1
 have x1:Ext w w1:=by rw[←hw1];exact(Ext.alloc _ _).trans (Ext.alloc _ _)
 have q1:w1.heap[w.heap.size+1]?=some (.cells #[.slice none 0 0,.slice none 0 0,.slice none 0 0,.slice none 0 0] 28 (0,0)):=by rw[←hw1];exact World.alloc_heap_at _ _ _ (by simp)
 clear hw1
 refine(HM.out w1 x1).mono ?_
 clear HM
 rintro e w6 ⟨u,rfl,hu,hB⟩
 have hB6:Ext w1 w6:=hB
 have x6:Below w.heap.size w w6:=x1.trans hB6
 have q6:=qc q1 hB6
 have kq:=qa q6
 have fq:=qg q6
 have z1:=(zG.1 q1).1
 have z16:=hB6.size
 have zq6:w.heap.size+1<w6.heap.size:=(zG.1 q6).1
 rcases hq:TU S with er|⟨r,S'⟩
 ·rw[hq] at hu
  obtain rfl:u=_:=hu
  replace hq:=zH hq
  clear hB q1
  go_wp2_with fail
  exact qbe (b:=w.heap.size+1) rfl rfl rfl rfl (Uc q6 _ _ _ _) ⟨_,rfl,by rw[hq.out];rfl,jD x6 (by omega) _ _ _ _⟩
 ·rw[hq] at hu
  obtain⟨v,rfl,hT⟩:=hu
  obtain⟨BB,WW,gg,B3,d3',B4,d4,rfl,-⟩:=id hT
  replace hT:=zH hT
  replace hq:=zH hq
  clear hB q1
  go_wp2_with fail
  refine qbe (b:=w.heap.size+1) rfl rfl rfl rfl (Uc q6 _ _ _ _) ⟨_,rfl,?_,jD x6 (by omega) _ _ _ _⟩
  rw[hq.out]
  exact⟨_,rfl,QH.set4 hT.out (by omega) (by omega) _ _ _ _⟩
def VE (vs:List Vol) (id:Int):Option Vol:=vs.find? fun v=>decide (v.id=id)
abbrev vol0:Vol:=⟨0,0,false,0⟩
def volQ:Option Vol→Value
 |none=>.tuple #[Kh vol0,.int .i64 6]
 |some v=>.tuple #[Kh v,.int .i64 0]
def VolIx (vs:List Vol) (id:Int) (u:Value):Prop:=(∃ (j:Nat) (hj:j<vs.length),u=.int .i64 (j:Int)∧VE vs id=some vs[j])∨(u=.int .i64 (-1)∧VE vs id=none)
theorem qbv {vs:List Vol} {id:Int} {j:Nat} (hj:j<vs.length) (he:vs[j].id=id) (hn:∀ i (hi:i<vs.length),i<j→vs[i].id≠id):VolIx vs id (.int .i64 (j:Int)):=by
 refine .inl ⟨j,hj,rfl,?_⟩
 unfold VE
 rw[List.find?_eq_some_iff_getElem]
 exact⟨by simp[he],j,hj,rfl,fun i hi=>by simp[hn i (by omega) hi]⟩
theorem Tg {vs:List Vol} {id:Int} (hn:∀ i (hi:i<vs.length),vs[i].id≠id):VolIx vs id (.int .i64 (-1)):=by
 refine .inr ⟨rfl,?_⟩
 unfold VE
 rw[List.find?_eq_none]
 intro v hv
 obtain⟨i,hi,rfl⟩:=List.mem_iff_getElem.1 hv
 simp[hn i hi]
set_option maxHeartbeats 1000000 in
set_option maxRecDepth 100000 in
theorem vol1_any (v:Vol) (bi:Nat) (id:Int) (w:World) (h:w.heap[bi]?=some (.cells #[.int .u32 id] 29 (0,0))) :
  Calls Tryz.prog 47 #[Kh v,.pointer (some ⟨bi,0,none⟩)] w (Ret (.bool (decide (v.id=id))) w):=by
 have ki:=qa h
 have zi:bi<w.heap.size:=(zG.1 h).1
 clear h
 go_enter Tryz.func47,Tryz.ntmps47
 by_cases he:v.id=id
 ·have h1:(v.id == id)=true:=by rw[beq_iff_eq];exact he
  rw[decide_eq_true he]
  replace he:=zH he
  go_wp2
  go_ret
  exact⟨rfl,Ext.alloc _ _⟩
 ·have h1:(v.id == id)=false:=by rw[beq_eq_false_iff_ne];exact he
  rw[decide_eq_false he]
  replace he:=zH he
  go_wp2
  go_ret
  exact⟨rfl,Ext.alloc _ _⟩
set_option maxHeartbeats 4000000 in
set_option maxRecDepth 100000 in
theorem vidx_any (A:Option Addr) (c:Nat) (vs:List Vol) (hl:vs.length≤16) (bi:Nat) (id:Int) (w:World) (h:w.heap[bi]?=some (.cells #[.int .u32 id] 29 (0,0))) (hr:Rd w w.heap.size 4 A vs.length (Zd vs)) :
  Calls Tryz.prog 46 #[.slice A vs.length c,.func (.func 47) #[] #[.pointer (some ⟨bi,0,none⟩)]] w (zD (fun u _=>VolIx vs id u) w):=by
 replace hr:=zH hr
 go_enter Tryz.func46,Tryz.ntmps46
 go_wp2_with fail
 go_loopw [8] (fun i wr=>∃ k:Nat,k≤vs.length∧i=.int .i64 (k:Int)∧Ext w wr∧∀ j (hj:j<vs.length),j<k→vs[j].id≠id) (fun i _=>vs.length-(intOf i).toNat)
 case atStart=>exact⟨0,Nat.zero_le _,rfl,Ext.refl _,fun j _ hj=>absurd hj (Nat.not_lt_zero _)⟩
 case round =>
  obtain⟨k,hk,rfl,xr,hno⟩:=hrel
  replace hno:=zH hno
  by_cases hlt:k<vs.length
  ·obtain⟨bv,offv,rfl,hbv,hcel⟩:=hr.out.2 (by omega)
   obtain⟨d0,d1,d2,d3⟩:=kY vs k hlt
   replace d0:=Ext.cell xr (hcel _ _ d0)
   replace d1:=Ext.cell xr (hcel _ _ d1)
   replace d2:=Ext.cell xr (hcel _ _ d2)
   replace d3:=Ext.cell xr (hcel _ _ d3)
   have HAT:=zH (fun he=>qbv (id:=id) hlt he fun i hi hik=>hno.out i hi hik)
   have HNO:=zH (fun (he:vs[k].id≠id) j (hj:j<vs.length) (hjk:j<k+1)=>by
    rcases Nat.lt_or_ge j k with h1|h1
    ·exact hno.out j hj h1
    ·obtain rfl:j=k:=by omega
     exact he)
   generalize vs[k]=u at *
   rw[←Nat.add_assoc] at d1 d2 d3
   clear hcel
   have hw64:=zH (IntWalk.wrap64_in ((k:Int)+1) (by omega))
   have hV:=vol1_any u bi id wr (qc h xr)
   go_wp2_with fail
   refine hV.mono ?_
   rintro e w2 ⟨rfl,hB⟩
   clear d0 d1 d2 d3 hV
   by_cases he:u.id=id
   ·rw[decide_eq_true he]
    have HQ:=zH (HAT.out he)
    clear HAT HNO
    replace he:=zH he
    go_wp2_with fail
    refine bodyPost_ret (v:=.int .i64 (k:Int)) ?_ rfl ⟨_,rfl,HQ.out,Ext.trans xr hB⟩
    simp[results,Tryz.results46,go_sem]
   ·rw[decide_eq_false he]
    have HQ:=zH (HNO.out he)
    clear HAT HNO
    replace he:=zH he
    have hw1:=hw64.out
    go_wp2_with fail
    refine⟨⟨k+1,hlt,rfl,Ext.trans xr hB,fun j hj hjk=>HQ.out j hj hjk⟩,?_⟩
    simp[intOf]
    omega
  ·obtain rfl:k=vs.length:=by omega
   have HQ:=zH (Tg (id:=id) fun i hi=>hno.out i hi hi)
   go_wp2_with fail
   refine bodyPost_ret (v:=.int .i64 (-1)) ?_ rfl ⟨_,rfl,HQ.out,xr⟩
   simp[results,Tryz.results46,go_sem]
def VolFQ (S:Sto) (root next:Int) (dead:List Int) (id:Int) (w:World) (e:Ending) (w':World):Prop:=Below w.heap.size w w' ∧
 ((e=.returned (.tuple #[Kh vol0,.int .i64 8])∧∀ vs,QT S root next dead vs→∃ refs nodes,qU S (QI root dead vs) refs nodes∧¬zQ S refs) ∨
  ∃ vs refs nodes,QT S root next dead vs∧qU S (QI root dead vs) refs nodes∧zQ S refs∧e=.returned (volQ (VE vs id)))
theorem TO {R:Ending→World→Prop} {a:Act} {W:World} {b:Nat} {u:Vol} {v:Value} (h4:a.tmps[4]?.getD undef=.pointer (some ⟨b,0,none⟩)) (h5:a.tmps[5]?.getD undef=v) (hd:a.defers=[])
  (hrow:W.heap[b]?=some (.cells #[.int .u32 u.id,.int .i64 u.root,.bool u.fz,.int .u32 u.frm] 40 (0,0))) (hR:R (.returned (.tuple #[Kh u,v])) W):bodyPost Tryz.prog Tryz.f18 R .ret a W:=by
 refine bodyPost_ret (v:=.tuple #[Kh u,v]) ?_ hd hR
 have k:=qa hrow
 simp[results,Tryz.results18,go_sem,h4,h5,k]
set_option maxHeartbeats 4000000 in
set_option maxRecDepth 100000 in
theorem fvol_any (A1:Option Addr) (n1 c1:Nat) (A2:Option Addr) (n2 c2:Nat) (A3:Option Addr) (n3 c3:Nat) (A4:Option Addr) (n4 c4:Nat) (gen root next:Int) (A5:Option Addr) (c5:Nat) (S:Sto) (dead:List Int) (id:Int) (w:World)
  (h:Qc w w.heap.size (.slice A1 n1 c1) (.slice A2 n2 c2) (.slice A3 n3 c3) (.slice A4 n4 c4) S) (hd:Zu w w.heap.size (.slice A5 dead.length c5) dead) :
  Calls Tryz.prog 18 #[.agg (Qo (.slice A1 n1 c1) (.slice A2 n2 c2) (.slice A3 n3 c3) (.slice A4 n4 c4) gen root next (.slice A5 dead.length c5)),.int .u32 id] w (VolFQ S root next dead id w):=by
 have HT:=zH (fun W (hx:Ext w W)=>vV A1 n1 c1 A2 n2 c2 A3 n3 c3 A4 n4 c4 gen root next A5 c5 S dead W (h.ext hx) (by
  obtain⟨A,c,e,q1,q2,q3⟩:=hd
  exact⟨A,c,e,q1,q2,(q3.below hx).more hx.size⟩))
 clear h hd
 go_enter Tryz.func18,Tryz.ntmps18
 go_wp2_with fail
 generalize hw1:(World.alloc (World.alloc (World.alloc w _) _) _)=w1
 have x1:Ext w w1:=by rw[←hw1];exact((Ext.alloc _ _).trans (Ext.alloc _ _)).trans (Ext.alloc _ _)
 have ri1:w1.heap[w.heap.size+1]?=some (.cells #[.int .u32 id] 29 (0,0)):=by rw[←hw1];exact(Below.heap_alloc _ _ _ (by simp)).trans (World.alloc_heap_at _ _ _ (by simp))
 have rv1:w1.heap[w.heap.size+2]?=some (.cells #[.int .u32 0,.int .i64 0,.bool false,.int .u32 0] 40 (0,0)):=by rw[←hw1];exact World.alloc_heap_at _ _ _ (by simp)
 clear hw1
 refine(HT.out w1 x1).mono ?_
 clear HT
 rintro e w2 ⟨hB,hQ⟩
 have x2:Ext w w2:=Ext.trans x1 hB
 have ri2:=qc ri1 hB
 have rv2:=qc rv1 hB
 have z2:w.heap.size+2<w2.heap.size:=(zG.1 rv2).1
 have kv2:=qa rv2
 have fv2:=qg rv2
 rcases hQ with ⟨rfl,hno⟩|⟨vs,refs,nodes,cb,ca,vv,rfl,hT⟩
 ·replace hno:=zH hno
  clear hB x1 ri1 rv1
  go_wp2_with fail
  exact TO (b:=w.heap.size+2) (u:=vol0) rfl rfl rfl (Uc rv2 _ _ _ _) ⟨jD x2 (by omega) _ _ _ _,.inl ⟨rfl,hno.out⟩⟩
 ·have hvs:vs.length≤16:=by
   have hv:=hT.pool.vols
   unfold JL at hv
   split at hv
   ·cases hv
   ·exact JQ _ _ _ _ (by simp) hv
  obtain⟨AV,cV,rfl,hcv1,hcv2⟩:=qJ hT.own
  have hrd:=Rd.of_own hT.own
  have kc:w2.cell? ⟨cb,518,none⟩=some (.slice AV vs.length cV):=by rw[qa hT.row];exact hT.ar.vol
  have HIX:=zH (vidx_any AV cV vs hvs (w.heap.size+1) id w2 ri2 hrd)
  have HR:=zH hrd
  replace hT:=zH hT
  clear hB x1 ri1 rv1 hrd
  go_wp2_with fail
  refine HIX.out.mono ?_
  clear HIX
  rintro e w3 ⟨u,rfl,hu,hB⟩
  have x3:Ext w w3:=Ext.trans x2 hB
  have rv3:=qc rv2 hB
  have kv3:=qa rv3
  have fv3:=qg rv3
  have kc3:=Ext.cell hB kc
  have z3:w.heap.size+2<w3.heap.size:=(zG.1 rv3).1
  rcases hu with ⟨j,hj,rfl,hv⟩|⟨rfl,hv⟩
  ·obtain⟨bv,offv,rfl,hbv,hcel⟩:=HR.out.2 (by omega)
   obtain⟨d0,d1,d2,d3⟩:=kY vs j hj
   replace d0:=Ext.cell hB (hcel _ _ d0)
   replace d1:=Ext.cell hB (hcel _ _ d1)
   replace d2:=Ext.cell hB (hcel _ _ d2)
   replace d3:=Ext.cell hB (hcel _ _ d3)
   generalize vs[j]=u at *
   rw[←Nat.add_assoc] at d1 d2 d3
   have hj1:decide ((j:Int)<0)=false:=decide_eq_false (by omega)
   replace hv:=zH hv
   replace x3:=zH x3
   clear hcel kv2 fv2 rv2 ri2 kc x2 hB z2
   go_wp2_with fail
   exact TO (b:=w.heap.size+2) (u:=u) rfl rfl rfl (Uc rv3 _ _ _ _) ⟨jD x3.out (by omega) _ _ _ _,.inr ⟨vs,refs,nodes,hT.out.pool,hT.out.cnt,hT.out.enough,by rw[hv.out];rfl⟩⟩
  ·replace hv:=zH hv
   replace x3:=zH x3
   clear kv2 fv2 rv2 ri2 kc x2 hB z2
   go_wp2_with fail
   exact TO (b:=w.heap.size+2) (u:=vol0) rfl rfl rfl (Uc rv3 _ _ _ _) ⟨jD x3.out (by omega) _ _ _ _,.inr ⟨vs,refs,nodes,hT.out.pool,hT.out.cnt,hT.out.enough,by rw[hv.out];rfl⟩⟩

def TS (S:Sto) (i:Value):Nat:=match qu S (intOf i).toNat with
 |some (l,_)=>l.toNat
 |none=>0
theorem qaI {S:Sto} {r h:Nat} {ys:List It} (hn:qu S r=some ((h:Int),ys)):TS S (.int .i64 (r:Int))=h:=by
 unfold TS intOf
 simp only[Int.toNat_natCast]
 rw[hn]
 simp
def PoolOk (S:Sto) (root next:Int) (dead:List Int) (vs:List Vol):Prop:=∃ refs nodes,QT S root next dead vs∧qU S (QI root dead vs) refs nodes∧zQ S refs
def vH (S:Sto) (root next:Int) (dead:List Int):Prop:=∀ vs,QT S root next dead vs→∃ refs nodes,qU S (QI root dead vs) refs nodes∧¬zQ S refs
set_option maxHeartbeats 1000000 in
set_option maxRecDepth 100000 in
theorem qdR (v:Vol) (bi:Nat) (id:Int) (q1 q2 q3:Value) (w:World) (h:w.heap[bi]?=some (.cells #[.int .u32 id,q1,q2,q3] 40 (0,0))) :
  Calls Tryz.prog 96 #[Kh v,.pointer (some ⟨bi,0,none⟩)] w (Ret (.bool (decide (v.id=id))) w):=by
 have ki:=qa h
 have zi:bi<w.heap.size:=(zG.1 h).1
 clear h
 go_enter Tryz.func96,Tryz.ntmps96
 by_cases he:v.id=id
 ·have h1:(v.id == id)=true:=by rw[beq_iff_eq];exact he
  rw[decide_eq_true he]
  replace he:=zH he
  go_wp2
  go_ret
  exact⟨rfl,Ext.alloc _ _⟩
 ·have h1:(v.id == id)=false:=by rw[beq_eq_false_iff_ne];exact he
  rw[decide_eq_false he]
  replace he:=zH he
  go_wp2
  go_ret
  exact⟨rfl,Ext.alloc _ _⟩
set_option maxHeartbeats 4000000 in
set_option maxRecDepth 100000 in
theorem qbO (A:Option Addr) (c:Nat) (vs:List Vol) (hl:vs.length≤16) (bi:Nat) (id:Int) (q1 q2 q3:Value) (w:World) (h:w.heap[bi]?=some (.cells #[.int .u32 id,q1,q2,q3] 40 (0,0))) (hr:Rd w w.heap.size 4 A vs.length (Zd vs)) :
  Calls Tryz.prog 46 #[.slice A vs.length c,.func (.func 96) #[] #[.pointer (some ⟨bi,0,none⟩)]] w (zD (fun u _=>VolIx vs id u) w):=by
 replace hr:=zH hr
 go_enter Tryz.func46,Tryz.ntmps46
 go_wp2_with fail
 go_loopw [8] (fun i wr=>∃ k:Nat,k≤vs.length∧i=.int .i64 (k:Int)∧Ext w wr∧∀ j (hj:j<vs.length),j<k→vs[j].id≠id) (fun i _=>vs.length-(intOf i).toNat)
 case atStart=>exact⟨0,Nat.zero_le _,rfl,Ext.refl _,fun j _ hj=>absurd hj (Nat.not_lt_zero _)⟩
 case round =>
  obtain⟨k,hk,rfl,xr,hno⟩:=hrel
  replace hno:=zH hno
  by_cases hlt:k<vs.length
  ·obtain⟨bv,offv,rfl,hbv,hcel⟩:=hr.out.2 (by omega)
   obtain⟨d0,d1,d2,d3⟩:=kY vs k hlt
   replace d0:=Ext.cell xr (hcel _ _ d0)
   replace d1:=Ext.cell xr (hcel _ _ d1)
   replace d2:=Ext.cell xr (hcel _ _ d2)
   replace d3:=Ext.cell xr (hcel _ _ d3)
   have HAT:=zH (fun he=>qbv (id:=id) hlt he fun i hi hik=>hno.out i hi hik)
   have HNO:=zH (fun (he:vs[k].id≠id) j (hj:j<vs.length) (hjk:j<k+1)=>by
    rcases Nat.lt_or_ge j k with h1|h1
    ·exact hno.out j hj h1
    ·obtain rfl:j=k:=by omega
     exact he)
   generalize vs[k]=u at *
   rw[←Nat.add_assoc] at d1 d2 d3
   clear hcel
   have hw64:=zH (IntWalk.wrap64_in ((k:Int)+1) (by omega))
   have hV:=qdR u bi id q1 q2 q3 wr (qc h xr)
   go_wp2_with fail
   refine hV.mono ?_
   rintro e w2 ⟨rfl,hB⟩
   clear d0 d1 d2 d3 hV
   by_cases he:u.id=id
   ·rw[decide_eq_true he]
    have HQ:=zH (HAT.out he)
    clear HAT HNO
    replace he:=zH he
    go_wp2_with fail
    refine bodyPost_ret (v:=.int .i64 (k:Int)) ?_ rfl ⟨_,rfl,HQ.out,Ext.trans xr hB⟩
    simp[results,Tryz.results46,go_sem]
   ·rw[decide_eq_false he]
    have HQ:=zH (HNO.out he)
    clear HAT HNO
    replace he:=zH he
    have hw1:=hw64.out
    go_wp2_with fail
    refine⟨⟨k+1,hlt,rfl,Ext.trans xr hB,fun j hj hjk=>HQ.out j hj hjk⟩,?_⟩
    simp[intOf]
    omega
  ·obtain rfl:k=vs.length:=by omega
   have HQ:=zH (Tg (id:=id) fun i hi=>hno.out i hi hi)
   go_wp2_with fail
   refine bodyPost_ret (v:=.int .i64 (-1)) ?_ rfl ⟨_,rfl,HQ.out,xr⟩
   simp[results,Tryz.results46,go_sem]
set_option maxHeartbeats 1000000 in
set_option maxRecDepth 100000 in
theorem vhas_any (A:Option Addr) (c:Nat) (vs:List Vol) (hl:vs.length≤16) (bi:Nat) (id:Int) (q1 q2 q3:Value) (w:World) (h:w.heap[bi]?=some (.cells #[.int .u32 id,q1,q2,q3] 40 (0,0))) (hr:Rd w w.heap.size 4 A vs.length (Zd vs)) :
  Calls Tryz.prog 95 #[.slice A vs.length c,.func (.func 96) #[] #[.pointer (some ⟨bi,0,none⟩)]] w (Ret (.bool (VE vs id).isSome) w):=by
 have HV:=zH (qbO A c vs hl bi id q1 q2 q3 w h hr)
 clear h hr
 go_enter Tryz.func95,Tryz.ntmps95
 go_wp2_with fail
 refine HV.out.mono ?_
 clear HV
 rintro e w2 ⟨u,rfl,hu,hB⟩
 rcases hu with ⟨j,hj,rfl,hv⟩|⟨rfl,hv⟩
 ·have e1:decide ((j:Int)≥0)=true:=decide_eq_true (by omega)
  have e2:decide ((0:Int)≤(j:Int))=true:=decide_eq_true (by omega)
  replace hv:=zH hv
  go_wp2
  go_ret
  exact⟨by rw[hv.out];rfl,hB⟩
 ·replace hv:=zH hv
  go_wp2
  go_ret
  exact⟨by rw[hv.out];rfl,hB⟩
def ZS (S:Sto) (next:Int) (v:Vol) (vs:List Vol) (refs:Nat→Nat):Int:=if v.id=0∨next≤v.id∨v.root<8∨256≤v.root then 2 else if (VE vs v.id).isSome=false∧16≤vs.length then 9 else
 if Zx S v.root.toNat≤refs v.root.toNat then 6 else if okL S (-1) v.root=true then 0 else 8
def FAskQ (S:Sto) (root next:Int) (dead:List Int) (v:Vol) (w:World) (e:Ending) (w':World):Prop:=Below w.heap.size w w' ∧
 ((e=.returned (.int .i64 8)∧vH S root next dead) ∨
  ∃ vs refs nodes,QT S root next dead vs∧qU S (QI root dead vs) refs nodes∧zQ S refs∧e=.returned (.int .i64 (ZS S next v vs refs)))
theorem Jg {R:Ending→World→Prop} {a:Act} {W:World} {u:Value} (h4:a.tmps[4]?.getD undef=u) (hd:a.defers=[]) (hR:R (.returned u) W):bodyPost Tryz.prog Tryz.f53 R .ret a W:=by
 refine bodyPost_ret (v:=u) ?_ hd hR
 simp[results,Tryz.results53,go_sem,h4]
theorem vols_len {S:Sto} {root next:Int} {dead:List Int} {vs:List Vol} (h:QT S root next dead vs):vs.length≤16:=by
 have hv:=h.vols
 unfold JL at hv
 split at hv
 ·cases hv
 ·exact JQ _ _ _ _ (by simp) hv
set_option maxHeartbeats 4000000 in
set_option maxRecDepth 100000 in
theorem qcs (A1:Option Addr) (n1 c1:Nat) (A2:Option Addr) (n2 c2:Nat) (A3:Option Addr) (n3 c3:Nat) (A4:Option Addr) (n4 c4:Nat) (gen root next:Int) (A5:Option Addr) (c5:Nat) (S:Sto) (dead:List Int) (v:Vol)
  (hT:8≤v.root→v.root<256→Zx S v.root.toNat≠0→okL S (-1) v.root=true) (w:World)
  (h:Qc w w.heap.size (.slice A1 n1 c1) (.slice A2 n2 c2) (.slice A3 n3 c3) (.slice A4 n4 c4) S) (hd:Zu w w.heap.size (.slice A5 dead.length c5) dead) :
  Calls Tryz.prog 53 #[.agg (Qo (.slice A1 n1 c1) (.slice A2 n2 c2) (.slice A3 n3 c3) (.slice A4 n4 c4) gen root next (.slice A5 dead.length c5)),Kh v] w (FAskQ S root next dead v w):=by
 have HT:=zH (fun W (hx:Ext w W)=>vV A1 n1 c1 A2 n2 c2 A3 n3 c3 A4 n4 c4 gen root next A5 c5 S dead W (h.ext hx) (hd.ext_ hx))
 have HC:=zH (fun (hS:qo S=true) a hT W (hx:Ext w W)=>Tz A1 n1 c1 A2 n2 c2 A3 n3 c3 A4 n4 c4 S hS a hT W (h.ext hx))
 replace h:=zH h
 replace hT:=zH hT
 clear hd
 go_enter Tryz.func53,Tryz.ntmps53
 go_wp2_with fail
 generalize hw1:(World.alloc (World.alloc w _) _)=w1
 have x1:Ext w w1:=by rw[←hw1];exact(Ext.alloc _ _).trans (Ext.alloc _ _)
 have rp1:w1.heap[w.heap.size]?=some (.cells (Qo (.slice A1 n1 c1) (.slice A2 n2 c2) (.slice A3 n3 c3) (.slice A4 n4 c4) gen root next (.slice A5 dead.length c5)) 32 (0,0)):=by rw[←hw1];exact(Below.heap_alloc _ _ _ (by simp)).trans (World.alloc_heap_at _ _ _ rfl)
 have rv1:w1.heap[w.heap.size+1]?=some (.cells #[.int .u32 v.id,.int .i64 v.root,.bool v.fz,.int .u32 v.frm] 40 (0,0)):=by rw[←hw1];exact World.alloc_heap_at _ _ _ (by simp)
 clear hw1
 refine(HT.out w1 x1).mono ?_
 clear HT
 rintro e w2 ⟨hB,hQ⟩
 have x2:Ext w w2:=Ext.trans x1 hB
 have rp2:=qc rp1 hB
 have rv2:=qc rv1 hB
 have kp2:=qa rp2
 have kv2:=qa rv2
 have zv2:w.heap.size+1<w2.heap.size:=(zG.1 rv2).1
 clear hB x1 rp1 rv1
 rcases hQ with ⟨rfl,hno⟩|⟨vs,refs,nodes,cb,ca,vv,rfl,hTk⟩
 ·replace hno:=zH hno
  go_wp2_with fail
  exact Jg rfl rfl ⟨x2,.inl ⟨rfl,hno.out⟩⟩
 ·have hvs:=vols_len hTk.pool
  have hQ:=fun E (hh:ZS S next v vs refs=E) W (hx:Ext w W)=>(⟨hx,.inr ⟨vs,refs,nodes,hTk.pool,hTk.cnt,hTk.enough,by rw[hh]⟩⟩:FAskQ S root next dead v w (.returned (.int .i64 E)) W)
  replace hQ:=zH hQ
  obtain⟨AV,cV,rfl,hcv1,hcv2⟩:=qJ hTk.own
  have kc:w2.cell? ⟨cb,518,none⟩=some (.slice AV vs.length cV):=by rw[qa hTk.row];exact hTk.ar.vol
  have HH:=zH (vhas_any AV cV vs hvs (w.heap.size+1) v.id _ _ _ w2 rv2 (Rd.of_own hTk.own))
  replace hTk:=zH hTk
  by_cases h1:v.id=0
  ·have d1:(v.id == 0)=true:=by rw[beq_iff_eq];exact h1
   have d2:decide (v.id=0)=true:=decide_eq_true h1
   have hE:=zH (show ZS S next v vs refs=2 by unfold ZS;rw[if_pos (.inl h1)])
   replace h1:=zH h1
   go_wp2_with fail
   exact Jg rfl rfl (hQ.out _ hE.out _ x2)
  have d1:(v.id == 0)=false:=by rw[beq_eq_false_iff_ne];exact h1
  have d2:decide (v.id=0)=false:=decide_eq_false h1
  by_cases h2:next≤v.id
  ·have d3:decide (v.id≥next)=true:=decide_eq_true h2
   have d4:decide (next≤v.id)=true:=decide_eq_true h2
   have hE:=zH (show ZS S next v vs refs=2 by unfold ZS;rw[if_pos (.inr (.inl h2))])
   replace h1:=zH h1
   replace h2:=zH h2
   go_wp2_with fail
   exact Jg rfl rfl (hQ.out _ hE.out _ x2)
  have d3:decide (v.id≥next)=false:=decide_eq_false h2
  have d4:decide (next≤v.id)=false:=decide_eq_false h2
  by_cases h3:v.root<8
  ·have d5:decide (v.root<8)=true:=decide_eq_true h3
   have hE:=zH (show ZS S next v vs refs=2 by unfold ZS;rw[if_pos (.inr (.inr (.inl h3)))])
   replace h1:=zH h1
   replace h2:=zH h2
   replace h3:=zH h3
   go_wp2_with fail
   exact Jg rfl rfl (hQ.out _ hE.out _ x2)
  have d5:decide (v.root<8)=false:=decide_eq_false h3
  by_cases h4:256≤v.root
  ·have d6:decide (v.root≥256)=true:=decide_eq_true h4
   have d7:decide (256≤v.root)=true:=decide_eq_true h4
   have hE:=zH (show ZS S next v vs refs=2 by unfold ZS;rw[if_pos (.inr (.inr (.inr h4)))])
   replace h1:=zH h1
   replace h2:=zH h2
   replace h3:=zH h3
   replace h4:=zH h4
   go_wp2_with fail
   exact Jg rfl rfl (hQ.out _ hE.out _ x2)
  have d6:decide (v.root≥256)=false:=decide_eq_false h4
  have d7:decide (256≤v.root)=false:=decide_eq_false h4
  have hE1:=zH (show ZS S next v vs refs=if (VE vs v.id).isSome=false∧16≤vs.length then 9 else if Zx S v.root.toNat≤refs v.root.toNat then 6 else if okL S (-1) v.root=true then 0 else 8 by unfold ZS;rw[if_neg (by rintro (h|h|h|h);exact h1 h;exact h2 h;exact h3 h;exact h4 h)])
  obtain⟨r,hr⟩:∃ r:Nat,v.root=(r:Int):=⟨v.root.toNat,by omega⟩
  have hr8:8≤r:=by omega
  have hr256:r<256:=by omega
  have hto:v.root.toNat=r:=by omega
  rw[hr] at rv2 kv2 d5 d6 d7
  rw[hto] at hE1 hT
  have hT2:=zH (hT.out (by omega) (by omega))
  clear hT h3 h4 hto
  replace h1:=zH h1
  replace h2:=zH h2
  replace hr:=zH hr
  go_wp2_with fail
  refine HH.out.mono ?_
  clear HH
  rintro e w3 ⟨rfl,hB⟩
  have x3:Ext w w3:=Ext.trans x2 hB
  have rp3:=qc rp2 hB
  have rv3:=qc rv2 hB
  have kc3:=Ext.cell hB kc
  have rc3:=qc hTk.out.row hB
  clear rp2 rv2 kp2 kv2 kc x2 hB
  have hsome:Hid ((VE vs v.id).isSome=(VE vs v.id).isSome):=zH rfl
  generalize (VE vs v.id).isSome=there at *
  have hkey:Hid (there=false∧16≤vs.length∨¬(there=false∧16≤vs.length)):=zH (Classical.em _)
  rcases hkey.out with ⟨rfl,h16⟩|h16
  ·have e1:decide ((vs.length:Int)≥16)=true:=decide_eq_true (by omega)
   have e2:decide (16≤vs.length)=true:=decide_eq_true h16
   have hE:=zH (show ZS S next v vs refs=9 by rw[hE1.out,if_pos ⟨rfl,h16⟩])
   replace h16:=zH h16
   clear hkey
   go_wp2_with fail
   exact Jg rfl rfl (hQ.out _ hE.out _ x3)
  have hE2:=zH (show ZS S next v vs refs=if Zx S r≤refs r then 6 else if okL S (-1) v.root=true then 0 else 8 by rw[hE1.out,if_neg h16])
  have HB:there=true∨(there=false∧decide ((vs.length:Int)≥16)=false∧decide (16≤vs.length)=false):=by
   cases there
   ·right
    have:¬16≤vs.length:=fun h=>h16 ⟨rfl,h⟩
    exact⟨rfl,decide_eq_false (by omega),decide_eq_false this⟩
   ·exact .inl rfl
  clear hE1 hkey h16
  obtain⟨b3,o3,d3',e3,hb3,hcell⟩:=qdd hTk.out.pool.may h.out.now
  simp only[Value.slice.injEq] at e3
  obtain⟨rfl,rfl,rfl⟩:=e3
  have hcn:=Ext.cell x3 (hcell r hr256)
  have hrf:=(qa rc3 (6+r)).trans (hTk.out.ar.ref r hr256)
  have hwn:=zH (IntWalk.wrap64_in (Zx S r:Int) (by have:=(S.now[r]?.getD 0).toNat_lt;unfold Zx;omega))
  have hwn2:=zH (show IntKind.i64.wrap (Zx S r:Int)=(Zx S r:Int) by rw[IntKind.wrap_i64];have:=(S.now[r]?.getD 0).toNat_lt;unfold Zx;omega)
  have HCK:=zH (fun (hne:Zx S r≠0) W (hx:Ext w W)=>by
   obtain⟨a,ha,ht⟩:=Jb (hT2.out hne)
   obtain rfl:r=a:=by have:=hr.out;omega
   exact HC.out hTk.out.pool.may r ht W hx)
  clear hcell HC
  generalize hnw:Zx S r=nw at *
  generalize hrfe:refs r=rf at *
  have kp3:=qa rp3
  have kv3:=qa rv3
  have zv3:w.heap.size+1<w3.heap.size:=(zG.1 rv3).1
  replace hnw:=zH hnw
  replace hrfe:=zH hrfe
  have gP:∀ W,ql.r w3 W→∀ i,W.cell? ⟨w.heap.size,i,none⟩=(Qo (.slice A1 n1 c1) (.slice A2 n2 c2) (.slice (some ⟨b3,o3,none⟩) 256 c3) (.slice A4 n4 c4) gen root next (.slice A5 dead.length c5))[i]?:=fun W h=>qa (qc rp3 h)
  have gV:∀ W,ql.r w3 W→∀ i,W.cell? ⟨w.heap.size+1,i,none⟩=#[.int .u32 v.id,.int .i64 (r:Int),.bool v.fz,.int .u32 v.frm][i]?:=fun W h=>qa (qc rv3 h)
  have gN:∀ W,ql.r w3 W→W.cell? ⟨b3,o3+r,none⟩=some (.int .u8 (nw:Int)):=fun W h=>Ext.cell h hcn
  have gR:∀ W,ql.r w3 W→W.cell? ⟨cb,6+r,none⟩=some (.int .i64 (rf:Int)):=fun W h=>Ext.cell h hrf
  clear rc3
  rcases HB with rfl|⟨rfl,e1,e2⟩
  all_goals
   go_upto_region 9 with fail
   refine qm (by kernel_rfl) ?_
   refine qR (w:=w3) ql (qG []) (List.replicate 16 true) 0 (by kernel_rfl) (by kernel_rfl) (by kernel_rfl) (by kernel_rfl) (by kernel_rfl) (by kernel_rfl) (by kernel_rfl) ?st (Rel.drew _ _) ?walk
   case st=>exact qk (fun _ h=>by cases h)
   case walk =>
    intro K hK
    dsimp only[qp,List.replicate]
    have hw':=hwn.out
    have hw2':=hwn2.out
    repeat ((first|(refine qd ?_ (by rfl) (by rfl) (fun W hW _=>⟨W,?_,Rel.refl _ W⟩) ?_;rotate_left;(first|(go_simp;with_reducible rfl)|(go_simp;done)))|(refine qh (by rfl) ?_));try simp only[Act.put,qi,qe,qb,qf,zA,zB,zC])
    first
     |(refine qd (.pointer (some ⟨b3,o3+r,none⟩)) (by rfl) (by rfl) (fun W hW _=>⟨W,?_,Rel.refl _ W⟩) ?_
       ·go_simp
        intro hge
        exfalso
        omega
       simp only[Act.put,qi,qe,qb,qf,zA,zB,zC])
     |skip
    repeat ((first|(refine qd ?_ (by rfl) (by rfl) (fun W hW _=>⟨W,?_,Rel.refl _ W⟩) ?_;rotate_left;(first|(go_simp;with_reducible rfl)|(go_simp;done)))|(refine qh (by rfl) ?_));try simp only[Act.put,qi,qe,qb,qf,zA,zB,zC])
    first
     |(refine qd (.pointer (some ⟨cb,6+r,none⟩)) (by rfl) (by rfl) (fun W hW _=>⟨W,?_,Rel.refl _ W⟩) ?_
       ·go_simp
        intro hge
        exfalso
        omega
       simp only[Act.put,qi,qe,qb,qf,zA,zB,zC])
     |skip
    repeat ((first|(refine qd ?_ (by rfl) (by rfl) (fun W hW _=>⟨W,?_,Rel.refl _ W⟩) ?_;rotate_left;(first|(go_simp;with_reducible rfl)|(go_simp;done)))|(refine qh (by rfl) ?_));try simp only[Act.put,qi,qe,qb,qf,zA,zB,zC])
    refine qt (hK _ _ fun V hV hF=>?_)
    clear hF hK gP gV gN gR
    have hV:Ext w3 V:=hV
    dsimp only[List.drop,List.length_cons,List.length_nil,Nat.reduceAdd,Nat.reduceSub]
    have x4:=x3.trans hV
    have kp4:=qa (qc rp3 hV)
    have kv4:=qa (qc rv3 hV)
    have zv4:w.heap.size+1<V.heap.size:=(zG.1 (qc rv3 hV)).1
    clear rp3 rv3 hw'
    clear hw2'
    have hw2':=hwn2.out
    go_wp2
    refine Qn ?_
    by_cases hle:nw≤rf
    ·have f1:decide ((nw:Int)≤(rf:Int))=true:=decide_eq_true (by omega)
     have f2:decide (nw≤rf)=true:=decide_eq_true hle
     have hE:=zH (show ZS S next v vs refs=6 by rw[hE2.out,if_pos hle])
     replace hle:=zH hle
     go_wp2_with fail
     exact Jg rfl rfl (hQ.out _ hE.out _ x4)
    ·have f1:decide ((nw:Int)≤(rf:Int))=false:=decide_eq_false (by omega)
     have f2:decide (nw≤rf)=false:=decide_eq_false hle
     have hE:=zH (show ZS S next v vs refs=0 by rw[hE2.out,if_neg hle,if_pos (hT2.out (by omega))])
     have HC4:=zH (HCK.out (by omega) V x4)
     replace hle:=zH hle
     clear HCK
     go_wp2_with fail
     refine HC4.out.mono ?_
     clear HC4
     rintro e w5 ⟨u,rfl,⟨m,rfl⟩,hB⟩
     go_wp2_with fail
     exact Jg rfl rfl (hQ.out _ hE.out _ (x4.trans hB))
end Go.Proofs.YtpbniokljofedaaGreat
