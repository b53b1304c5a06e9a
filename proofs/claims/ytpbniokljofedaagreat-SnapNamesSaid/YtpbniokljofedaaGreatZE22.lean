/- Texts BackN, DRead, BackS, PutI, PutD, Once, RSeen, RNode, joined. -/
import Derived.Test.YtpbniokljofedaaGreatZE06
import Derived.Test.YtpbniokljofedaaGreatZE07
import Derived.Test.YtpbniokljofedaaGreatZE13
import Derived.Test.YtpbniokljofedaaGreatZE14
import Derived.Test.YtpbniokljofedaaGreatZE17
import Derived.Test.YtpbniokljofedaaGreatZE20
import Derived.Test.YtpbniokljofedaaGreatZE21
set_option linter.unusedSimpArgs false
set_option linter.unusedVariables false
set_option maxHeartbeats 8000000
namespace Go.Proofs.YtpbniokljofedaaGreat
open Go.RowKit Go.Shelf
attribute [local go_sem] Oper.semAt_some
set_option maxRecDepth 100000 in
theorem backN_in (n:Nat) (hn:1≤n) (l Bs b off len cap:Nat) (us:List W2) (hreach:len<1099511627776) (J Jx:List Nat→World→Prop)
  (hY:∀ pre (x:Nat) W,J pre W→pre.length<len→YieldAt Fence.wide (n-1) Tryz.prog l #[.int .i64 (x:Int),.agg #[.int .i64 (us[x]?.getD w2z).1,sv (us[x]?.getD w2z).2]] W fun e W' =>
   (e=.returned (.bool true)∧J (pre++[x]) W'∧Qu Bs b W W')∨(e=.returned (.bool false)∧Jx (pre++[x]) W'))
  (W:World) (hBs:W.cell? ⟨Bs,0,none⟩=some (.slice (some ⟨b,off,none⟩) len cap)) (hc:∀ i,i<len→W.cell? ⟨b,off+i*2,none⟩=some (.int .i64 (us[i]?.getD w2z).1)∧W.cell? ⟨b,off+i*2+1,none⟩=some (sv (us[i]?.getD w2z).2)) (h0:J [] W) :
  CallsIn Fence.wide n Tryz.prog 141 #[.func (.yield l) #[] #[],.pointer (some ⟨Bs,0,none⟩)] W fun e W'=>(∃ v,e=.returned v) ∧
   ((∃ ys,ys=ZO (fun j=>len-1-j) len∧J ys W')∨(∃ pre,(∃ k,k≤len∧pre=ZO (fun j=>len-1-j) k)∧Jx pre W')):=by
 refine callsIn_of_wp Tryz.func141 rfl trivial ?_ rfl
 simp only[Tryz.ntmps141,List.size_toArray,List.length_cons,List.length_nil,Nat.reduceAdd,Nat.reduceSub,Array.replicate_succ,Array.replicate_zero,List.push_toArray,List.append_toArray,List.nil_append,List.cons_append]
 gi_wp2
 gi_loopw [3] (fun i wr=>∃ k:Nat,k≤len∧i=.int .i64 ((len:Int)-1-k)∧J (ZO (fun j=>len-1-j) k) wr∧Qu Bs b W wr)
  (fun i _=>(intOf i+1).toNat)
 case atStart=>exact⟨0,Nat.zero_le _,by simp,h0,Qu.refl _ _ _⟩
 case round =>
  obtain⟨k,hk,rfl,hJs,hnx⟩:=hrel
  have hBr:wr.cell? ⟨Bs,0,none⟩=some (.slice (some ⟨b,off,none⟩) len cap):=(World.cell?_of_block (w:=W) hnx.1).trans hBs
  by_cases hlt:k<len
  ·have hcx:=(World.cell?_of_block (w:=W) (a:=⟨b,off+(len-1-k)*2,none⟩) hnx.2).trans (hc (len-1-k) (by omega)).1
   have hcy:=(World.cell?_of_block (w:=W) (a:=⟨b,off+(len-1-k)*2+1,none⟩) hnx.2).trans (hc (len-1-k) (by omega)).2
   obtain⟨fn,tmps,assign,body,hy,hR⟩:=hY _ (len-1-k) wr hJs (by rw[Zc];exact hlt)
   try dsimp only at hy
   obtain⟨i,hi⟩:∃ i:Nat,len-1-k=i:=⟨_,rfl⟩
   have hi2:(len:Int)-1-k=(i:Int):=by omega
   have hil:i<len:=by omega
   have hik:k+i+1≤len∧len≤k+i+1:=by omega
   have HU:=zH (vH (fun j=>len-1-j) k)
   obtain⟨u,hu⟩:∃ u,us[i]?.getD w2z=u:=⟨_,rfl⟩
   rw[hi] at hcx hcy hy hR
   rw[hu] at hcx hcy hy
   rw[hi2]
   clear hi2
   have HE:=zH hu
   clear hu
   have HI:=zH hi
   clear hi
   gi_wp2
   refine hR.mono ?_
   rintro e W3 (⟨rfl,hJ3,hk3⟩|⟨rfl,hJx3⟩)
   ·gi_wp2
    go_roundw
    case rel=>exact⟨k+1,by omega,by go_num,by rw[HU.out,HI.out];exact hJ3,hnx.t hk3⟩
    case measure=>simp[intOf]
   ·gi_wp2
    refine bodyPost_ret (results_none rfl _ _ _) rfl ?_
    exact⟨⟨_,rfl⟩,.inr ⟨_,⟨k+1,by omega,by rw[HU.out,HI.out]⟩,hJx3⟩⟩
  ·obtain rfl:k=len:=by omega
   gi_wp2
   go_end0
   exact⟨⟨_,rfl⟩,.inl ⟨_,rfl,hJs⟩⟩
set_option maxRecDepth 100000 in
theorem qce (n l Bs c:Nat) (A:Option Addr) (J:List Nat→World→Prop) (W:World) (hBs:W.cell? ⟨Bs,0,none⟩=some (.slice A 0 c)) (h0:J [] W) :
  CallsIn Fence.wide n Tryz.prog 141 #[.func (.yield l) #[] #[],.pointer (some ⟨Bs,0,none⟩)] W fun e W'=>(∃ v,e=.returned v)∧J [] W':=by
 refine callsIn_of_wp Tryz.func141 rfl trivial ?_ rfl
 simp only[Tryz.ntmps141,List.size_toArray,List.length_cons,List.length_nil,Nat.reduceAdd,Nat.reduceSub,Array.replicate_succ,Array.replicate_zero,List.push_toArray,List.append_toArray,List.nil_append,List.cons_append]
 gi_wp2
 gi_loopw [3] (fun i wr=>i=.int .i64 (-1)∧J [] wr) (fun _ _=>0)
 case atStart=>exact⟨rfl,h0⟩
 case round =>
  obtain⟨rfl,hJs⟩:=hrel
  gi_wp2
  go_end0
  exact⟨⟨_,rfl⟩,hJs⟩
theorem qeq (n:Nat) (hn:1≤n) (Bs b:Nat) (v:Value) (us:List W2) (hreach:us.length<1099511627776) (w:World) (hBs:Bs<w.heap.size) (hb:b<w.heap.size) (hS:SW w Bs b v us) :
  SeqStopsK Fence.wide n Tryz.prog 141 #[.pointer (some ⟨Bs,0,none⟩)] (fun x:Nat=>#[.int .i64 (x:Int),.agg #[.int .i64 (us[x]?.getD w2z).1,sv (us[x]?.getD w2z).2]]) (Qu Bs b) (fun ys=>ys=ZO (fun j=>us.length-1-j) us.length)
   (fun pre=>∃ k,k≤us.length∧pre=ZO (fun j=>us.length-1-j) k) us.length w:=fun l J Jx W hW _ _ hY h0=>by
 obtain⟨hc,h⟩:=hS.keep (Qu.below hW hBs hb)
 rcases h with ⟨rfl,A,c,rfl⟩|⟨off,cap,rfl,hcs⟩
 ·exact(qce n l Bs c A J W hc h0).mono fun e W' ⟨he,hj⟩=>⟨he,.inl ⟨_,rfl,hj⟩⟩
 ·exact backN_in n hn l Bs b off us.length cap us hreach J Jx hY W hc hcs h0
def atN (ws:List (Int×List UInt8)) (j:Nat):Int:=((ws[j]?).map (·.1)).getD 0
def datN (ws:List (Int×List UInt8)) (j:Nat):List UInt8:=((ws[j]?).map (·.2)).getD []
theorem Ym (n k j:Nat) (h:j<k):(ZO (fun i=>n-1-i) k)[j]?=some (n-1-j):=by
 unfold ZO
 rw[List.getElem?_map,List.getElem?_range h];rfl
theorem Tf {ws:List (Int×List UInt8)} {a:Int}:∀ (d m:Nat),m+d=ws.length→(∀ i,m≤i→i<ws.length→atN ws i≠a)→jL ws a=jL (ws.take m) a:=by
 intro d
 induction d with
 |zero=>intro m hm _;rw[show m=ws.length by omega,List.take_length]
 |succ d ih =>
  intro m hm h
  have hne:=h m (zM _) (by omega)
  unfold atN at hne
  rw[zL (by omega)] at hne
  rw[ih (m+1) (by omega) (fun i hi hl=>h i (by omega) hl),VC (by omega)]
  exact if_neg hne
theorem qfh {ws:List (Int×List UInt8)} {a:Int} {k:Nat} {pre:List Nat} {x:Nat} (hk:k≤ws.length) (he:pre++[x]=ZO (fun j=>ws.length-1-j) k) (hx:atN ws x=a) (hp:∀ y∈pre,atN ws y≠a):jL ws a=some (datN ws x):=by
 have hl:pre.length+1=k:=by
  have:=congrArg List.length he
  simpa [ZO] using this
 have hxk:x=ws.length-1-pre.length:=by
  have h1:=Ym ws.length k pre.length (by omega)
  rw[←he] at h1
  simpa using h1
 have hxl:x<ws.length:=by omega
 rw[Tf (ws:=ws) (a:=a) pre.length (x+1) (by omega) (fun i h1 h2=>by
  have h3:=Ym ws.length k (ws.length-1-i) (by omega)
  rw[←he,List.getElem?_append_left (by omega),show ws.length-1-(ws.length-1-i)=i by omega] at h3
  exact hp _ (List.mem_of_getElem? h3)),VC hxl]
 unfold atN at hx
 unfold datN
 rw[zL hxl] at hx ⊢
 exact if_pos hx
theorem qeU {ws:List (Int×List UInt8)} {a:Int} (hp:∀ y∈ZO (fun j=>ws.length-1-j) ws.length,atN ws y≠a):jL ws a=none:=by
 rw[Tf (ws:=ws) (a:=a) ws.length 0 (by simp) (fun i _ h2=>by
  have h3:=Ym ws.length ws.length (ws.length-1-i) (by omega)
  rw[show ws.length-1-(ws.length-1-i)=i by omega] at h3
  exact hp _ (List.mem_of_getElem? h3))]
 rfl
theorem VQ {w w':World} {lo:Nat} {e:TypeId} {size:Nat} {v:Value} {n:Nat} {xs:List Value} (h:w.ownsRow lo e size v n xs) (hk:Qh w w'):w'.ownsRow lo e size v n xs:=
 ⟨h.1,h.2.imp id fun ⟨g,cap,cur,h1,h2,h3,h4⟩=>⟨g,cap,cur,h1,h2,hk.row h3,h4⟩⟩
abbrev Us:Type:=Stp×Sl
abbrev usz:Us:=((0,[],0),(none,0,0))
set_option maxRecDepth 100000 in
theorem backs_in (n:Nat) (hn:1≤n) (l Bs b off len cap:Nat) (us:List Us) (hreach:len<1099511627776) (J Jx:List Nat→World→Prop)
  (hY:∀ pre (x:Nat) W,J pre W→pre.length<len→YieldAt Fence.wide (n-1) Tryz.prog l #[.int .i64 (x:Int),.agg #[.int .i64 ((us[x]?.getD usz).1.1:Int),sv (us[x]?.getD usz).2,.int .i64 ((us[x]?.getD usz).1.2.2:Int)]] W fun e W' =>
   (e=.returned (.bool true)∧J (pre++[x]) W'∧Qu Bs b W W')∨(e=.returned (.bool false)∧Jx (pre++[x]) W'))
  (W:World) (hBs:W.cell? ⟨Bs,0,none⟩=some (.slice (some ⟨b,off,none⟩) len cap)) (hc:∀ i,i<len→W.cell? ⟨b,off+i*3,none⟩=some (.int .i64 ((us[i]?.getD usz).1.1:Int))∧W.cell? ⟨b,off+i*3+1,none⟩=some (sv (us[i]?.getD usz).2)∧W.cell? ⟨b,off+i*3+2,none⟩=some (.int .i64 ((us[i]?.getD usz).1.2.2:Int))) (h0:J [] W) :
  CallsIn Fence.wide n Tryz.prog 146 #[.func (.yield l) #[] #[],.pointer (some ⟨Bs,0,none⟩)] W fun e W'=>(∃ v,e=.returned v) ∧
   ((∃ ys,ys=ZO (fun j=>len-1-j) len∧J ys W')∨(∃ pre,(∃ k,k≤len∧pre=ZO (fun j=>len-1-j) k)∧Jx pre W')):=by
 refine callsIn_of_wp Tryz.func146 rfl trivial ?_ rfl
 simp only[Tryz.ntmps146,List.size_toArray,List.length_cons,List.length_nil,Nat.reduceAdd,Nat.reduceSub,Array.replicate_succ,Array.replicate_zero,List.push_toArray,List.append_toArray,List.nil_append,List.cons_append]
 gi_wp2
 gi_loopw [3] (fun i wr=>∃ k:Nat,k≤len∧i=.int .i64 ((len:Int)-1-k)∧J (ZO (fun j=>len-1-j) k) wr∧Qu Bs b W wr)
  (fun i _=>(intOf i+1).toNat)
 case atStart=>exact⟨0,Nat.zero_le _,by simp,h0,Qu.refl _ _ _⟩
 case round =>
  obtain⟨k,hk,rfl,hJs,hnx⟩:=hrel
  have hBr:wr.cell? ⟨Bs,0,none⟩=some (.slice (some ⟨b,off,none⟩) len cap):=(World.cell?_of_block (w:=W) hnx.1).trans hBs
  by_cases hlt:k<len
  ·obtain⟨fn,tmps,assign,body,hy,hR⟩:=hY _ (len-1-k) wr hJs (by rw[Zc];exact hlt)
   have hc0:=(World.cell?_of_block (w:=W) (a:=⟨b,off+(len-1-k)*3,none⟩) hnx.2).trans (hc (len-1-k) (by omega)).1
   have hc1:=(World.cell?_of_block (w:=W) (a:=⟨b,off+(len-1-k)*3+1,none⟩) hnx.2).trans (hc (len-1-k) (by omega)).2.1
   have hc2:=(World.cell?_of_block (w:=W) (a:=⟨b,off+(len-1-k)*3+2,none⟩) hnx.2).trans (hc (len-1-k) (by omega)).2.2
   try dsimp only at hy
   obtain⟨i,hi⟩:∃ i:Nat,len-1-k=i:=⟨_,rfl⟩
   have hi2:(len:Int)-1-k=(i:Int):=by omega
   have hil:i<len:=by omega
   have hik:k+i+1≤len∧len≤k+i+1:=by omega
   have HU:=zH (vH (fun j=>len-1-j) k)
   obtain⟨u,hu⟩:∃ u,us[i]?.getD usz=u:=⟨_,rfl⟩
   rw[hi] at hc0 hc1 hc2 hy hR
   rw[hu] at hc0 hc1 hc2 hy
   rw[hi2]
   clear hi2
   have HE:=zH hu
   clear hu
   have HI:=zH hi
   clear hi
   gi_wp2
   refine hR.mono ?_
   rintro e W3 (⟨rfl,hJ3,hk3⟩|⟨rfl,hJx3⟩)
   ·gi_wp2
    go_roundw
    case rel=>exact⟨k+1,by omega,by go_num,by rw[HU.out,HI.out];exact hJ3,hnx.t hk3⟩
    case measure=>simp[intOf]
   ·gi_wp2
    refine bodyPost_ret (results_none rfl _ _ _) rfl ?_
    exact⟨⟨_,rfl⟩,.inr ⟨_,⟨k+1,by omega,by rw[HU.out,HI.out]⟩,hJx3⟩⟩
  ·obtain rfl:k=len:=by omega
   gi_wp2
   go_end0
   exact⟨⟨_,rfl⟩,.inl ⟨_,rfl,hJs⟩⟩
set_option maxRecDepth 100000 in
theorem qcm (n l Bs c:Nat) (A:Option Addr) (J:List Nat→World→Prop) (W:World) (hBs:W.cell? ⟨Bs,0,none⟩=some (.slice A 0 c)) (h0:J [] W) :
  CallsIn Fence.wide n Tryz.prog 146 #[.func (.yield l) #[] #[],.pointer (some ⟨Bs,0,none⟩)] W fun e W'=>(∃ v,e=.returned v)∧J [] W':=by
 refine callsIn_of_wp Tryz.func146 rfl trivial ?_ rfl
 simp only[Tryz.ntmps146,List.size_toArray,List.length_cons,List.length_nil,Nat.reduceAdd,Nat.reduceSub,Array.replicate_succ,Array.replicate_zero,List.push_toArray,List.append_toArray,List.nil_append,List.cons_append]
 gi_wp2
 gi_loopw [3] (fun i wr=>i=.int .i64 (-1)∧J [] wr) (fun _ _=>0)
 case atStart=>exact⟨rfl,h0⟩
 case round =>
  obtain⟨rfl,hJs⟩:=hrel
  gi_wp2
  go_end0
  exact⟨⟨_,rfl⟩,hJs⟩
def SWs (W:World) (Bs b:Nat) (v:Value) (us:List Us):Prop:=
 W.cell? ⟨Bs,0,none⟩=some v∧((us=[]∧∃ A c,v=.slice A 0 c)∨∃ off cap,v=.slice (some ⟨b,off,none⟩) us.length cap∧∀ i,i<us.length→W.cell? ⟨b,off+i*3,none⟩=some (.int .i64 ((us[i]?.getD usz).1.1:Int))∧W.cell? ⟨b,off+i*3+1,none⟩=some (sv (us[i]?.getD usz).2)∧W.cell? ⟨b,off+i*3+2,none⟩=some (.int .i64 ((us[i]?.getD usz).1.2.2:Int)))
theorem SWs.keep {W W':World} {Bs b:Nat} {v:Value} {us:List Us} (h:SWs W Bs b v us) (hk:Qu Bs b W W'):SWs W' Bs b v us:=by
 refine⟨(World.cell?_of_block (w:=W) hk.1).trans h.1,?_⟩
 rcases h.2 with h|⟨off,cap,e,hc⟩
 ·exact .inl h
 ·exact .inr ⟨off,cap,e,fun i hi=>⟨(World.cell?_of_block (w:=W) hk.2).trans (hc i hi).1,(World.cell?_of_block (w:=W) hk.2).trans (hc i hi).2.1,(World.cell?_of_block (w:=W) hk.2).trans (hc i hi).2.2⟩⟩
theorem qex (n:Nat) (hn:1≤n) (Bs b:Nat) (v:Value) (us:List Us) (hreach:us.length<1099511627776) (w:World) (hBs:Bs<w.heap.size) (hb:b<w.heap.size) (hS:SWs w Bs b v us) :
  SeqStopsK Fence.wide n Tryz.prog 146 #[.pointer (some ⟨Bs,0,none⟩)] (fun x:Nat=>#[.int .i64 (x:Int),.agg #[.int .i64 ((us[x]?.getD usz).1.1:Int),sv (us[x]?.getD usz).2,.int .i64 ((us[x]?.getD usz).1.2.2:Int)]]) (Qu Bs b) (fun ys=>ys=ZO (fun j=>us.length-1-j) us.length)
   (fun pre=>∃ k,k≤us.length∧pre=ZO (fun j=>us.length-1-j) k) us.length w:=fun l J Jx W hW _ _ hY h0=>by
 obtain⟨hc,h⟩:=hS.keep (Qu.below hW hBs hb)
 rcases h with ⟨rfl,A,c,rfl⟩|⟨off,cap,rfl,hcs⟩
 ·exact(qcm n l Bs c A J W hc h0).mono fun e W' ⟨he,hj⟩=>⟨he,.inl ⟨_,rfl,hj⟩⟩
 ·exact backs_in n hn l Bs b off us.length cap us hreach J Jx hY W hc hcs h0
theorem qaC (A:Option Addr) (m c:Nat) (w:World) :
  Calls Tryz.prog 100 #[.slice A m c] w (fun e w'=>e=.returned (.func (.func 146) #[] #[.pointer (some ⟨w.heap.size,0,none⟩)])∧w'=w.alloc (.cells #[.slice A m c] 153)):=by
 go_enter Tryz.func100,Tryz.ntmps100
 go_wp2
 go_ret
 exact⟨rfl,rfl⟩
end Go.Proofs.YtpbniokljofedaaGreat
namespace Go.Proofs.YtpbniokljofedaaGreat
open Go.RowKit
section
variable {w W:World}
theorem Rd.ck {B size n:Nat} {A:Option Addr} {xs:List Value} (h:Rd w B size A n xs) (hk:Qh w W):Rd W B size A n xs:=⟨h.1,fun hn=>by
 obtain⟨b,off,e,hb,hc⟩:=h.2 hn
 exact⟨b,off,e,hb,fun j u hu=>hk.cell (hc j u hu)⟩⟩
theorem Bys.ck {B:Nat} {v:Value} {l:List UInt8} (h:Bys w B v l) (hk:Qh w W):Bys W B v l:=by
 obtain⟨A,c,e,hc,hm,hr⟩:=h
 exact⟨A,c,e,hc,hm,hr.ck hk⟩
theorem Bls.ck {B:Nat} {v:Value} {bs:List (List UInt8)} (h:Bls w B v bs) (hk:Qh w W):Bls W B v bs:=by
 obtain⟨vs,A,c,e,h1,h2,h3,h4⟩:=h
 exact⟨vs,A,c,e,h1,h2,h3.ck hk,fun i u l hu hl=>(h4 i u l hu hl).ck hk⟩
theorem Qd.of_ck (X:Nat→Prop) (hk:Qh w W):Qd X w W:=fun _ _ _ hv=>hk.cell hv
theorem Bch.ck {D:Nat→Prop} {B lo b g:Nat} {k:Option Nat} {S:Sto} (h:Bch D B lo b g k S w) (hk:Qh w W):Bch D B lo b g k S W:=by
 obtain⟨A1,n1,c1,v2,c3,A4,c4,hro,ho,⟨ps,e,hw,hp⟩,h1,h4⟩:=h.ex
 refine⟨h.lob,h.blo,fun q hq=>⟨(h.dB q hq).1,by have:=(h.dB q hq).2.1;have:=hk.size;omega,(h.dB q hq).2.2⟩,A1,n1,c1,v2,c3,A4,c4,hk.row hro,VQ ho hk,⟨ps,e,?_,fun p hpm=>⟨(hp p hpm).1,fun C hC=>(hp p hpm).2 C ((Qd.of_ck _ hk).trans hC fun _ _ h=>h)⟩⟩,h1.ck hk,h4.ck hk⟩
 rcases hw with ⟨e,hm,A,e2,hr⟩|⟨q,e,e2,how⟩
 ·exact .inl ⟨e,hm,A,e2,hr.ck hk⟩
 ·exact .inr ⟨q,e,e2,VQ how hk⟩
end
theorem Vl.of_own {X:Nat→Prop} {w:World} {lo n:Nat} {v:Value} {ps:List (It×Value)} (ho:w.ownsRow lo 68 5 v n (qR ps)) (hl:ps.length=n) (hX:∀ q,v.ownBlock=some q→¬X q) (hp:∀ p∈ps,(∃ A c,p.2=.slice A p.1.val.length c)∧∀ C,Qd X w C→Bys C C.heap.size p.2 p.1.val):Vl X w v (ps.map (·.1)):=fun C hC=>by
 have hrd:∀ A c,v=.slice A n c→Rd C C.heap.size 5 A n (qR ps):=fun A c e=>by
  refine⟨ho.1,fun hn=>?_⟩
  rcases ho.2 with ⟨_,h0⟩|⟨g,cap,cur,hv,hb,hg,hnc,_,hsz,htk⟩
  ·omega
  ·have hne:¬X g:=hX g (by rw[hv];rfl)
   rw[hv] at e
   cases e
   have hc:∀ j u,(qR ps)[j]?=some u→w.cell? ⟨g,0+j,none⟩=some u:=fun j u hu=>by
    rw[Nat.zero_add,qa hg,←Array.getElem?_toList]
    rw[←htk,List.getElem?_take] at hu
    split at hu
    ·exact hu
    ·cases hu
   have hl0:0<(qR ps).length:=by rw[ho.1];omega
   exact⟨g,0,rfl,World.block_lt_of_cell? C ⟨g,0+0,none⟩ (hC _ _ hne (hc 0 _ (zL hl0))),fun j u hu=>hC _ _ hne (hc j u hu)⟩
 obtain⟨A,c,rfl,h1,h2⟩:=qw ho
 subst hl
 exact⟨ps,rfl,⟨A,c,by rw[List.length_map],by rw[List.length_map];exact h1,h2,by rw[List.length_map];exact hrd A c rfl⟩,fun p hpm=>⟨(hp p hpm).1,(hp p hpm).2 C hC⟩⟩
theorem Bch.others {D:Nat→Prop} {B lo b g:Nat} {k:Option Nat} {S:Sto} {w W:World} (h:Bch D B lo b g k S w) (hk:qY lo b g k w W):KeepsOthers w W:=⟨hk.below.size,fun q o hq ho=>by
 refine hk.row hq fun hx=>?_
 obtain⟨A1,n1,c1,v2,c3,A4,c4,hro,hno,⟨ps,_,hw,_⟩,_,_⟩:=h.ex
 have key:∀ cs ty fr,w.heap[q]?=some (.cells cs ty fr)→False:=fun cs ty fr hc=>by
  rw[hc] at hq
  cases hq
  cases ho
 rcases hx with rfl|rfl|e
 ·exact key _ _ _ hro
 ·obtain⟨cur,hg⟩:=ZK hno rfl
  exact key _ _ _ hg
 ·rcases hw with ⟨e1,_⟩|⟨q',e1,e2,how⟩
  ·rw[e1] at e;cases e
  ·rw[e1] at e
   cases e
   obtain⟨cur,hg⟩:=ZK how e2
   exact key _ _ _ hg⟩
def sAt (l:List Stp) (x:Nat):Stp:=l[x]?.getD (0,[],0)
theorem sAt_ok {k:K3} {l:List Stp} (h:∀ s∈l,qcZ k s) (x:Nat):qcZ k (sAt l x):=by
 unfold sAt
 rcases hx:l[x]? with _|s
 ·exact⟨by decide,(fun y hy=>by cases hy),Nat.zero_le _,zM _,fun h=>absurd h (Nat.lt_irrefl 0),fun _=>rfl⟩
 ·exact h s (List.mem_of_getElem? hx)
theorem qet (l:List Stp) (k:Nat) (hk:k≤l.length):(ZO (fun j=>l.length-1-j) k).map (sAt l)=l.reverse.take k:=by
 apply List.ext_getElem?
 intro i
 unfold ZO
 rw[List.getElem?_map,List.getElem?_map,List.getElem?_take]
 by_cases hi:i<k
 ·rw[List.getElem?_range hi,if_pos hi,List.getElem?_reverse (by omega)]
  simp only[Option.map_some,sAt]
  rw[zL (by omega)]
  simp
 ·rw[List.getElem?_eq_none (by simp;omega),if_neg hi]
  rfl
structure PutI (K:K3) (l:List Stp) (S:Sto) (x:It) (B0 lo b g UB TB SB w2:Nat) (w3:World) (xv sv_:Value) (pre:List Nat) (W:World):Prop where
 ex:∃ (ups:List It) (S':Sto) (k':Option Nat) (D':Nat→Prop) (Au:Option Addr) (cu:Nat) (hps:List (It×Value)),jH K (pre.map (sAt l)) [x] S=.ok (ups,S')∧qo S'=true∧0<ups.length∧ups.length≤2∧hps.map (·.1)=ups ∧
  (∀ y∈ups,jd y∧(y.r=0∨8≤y.r)∧y.r<256)∧(∀ p∈hps,(∃ A c,p.2=.slice A p.1.val.length c)∧Bys W B0 p.2 p.1.val)∧W.heap[UB]?=some (.cells #[.slice Au ups.length cu] 47 (0,0))∧W.ownsRow 0 68 5 (.slice Au ups.length cu) ups.length (qR hps)∧Bch D' B0 lo b g k' S' W
 rx:W.heap[B0+1]?=some (.cells #[.int .u8 x.k,.int .u32 x.i,.int .u32 x.o,.int .i64 x.r,xv] 68 (0,0))
 r2:W.heap[B0+2]?=some (.cells #[.slice none 0 0,.slice none 0 0,.slice none 0 0,.slice none 0 0] 28 (0,0))
 r3:W.heap[B0+3]?=some (.cells #[.int .i64 0] 3 (0,0))
 r4:W.heap[B0+4]?=some (.cells #[.int .i64 0] 36 (0,0))
 rT:W.heap[TB]?=some (.cells #[.pointer (some ⟨b,0,none⟩)] 80 (0,0))
 rS:W.heap[SB]?=some (.cells #[sv_] 153 (0,0))
 kx:Qd (fun q=>q<w2) w3 W
theorem PutI.ck {K:K3} {l:List Stp} {S:Sto} {x:It} {B0 lo b g UB TB SB w2:Nat} {w3:World} {xv sv_:Value} {pre:List Nat} {w W:World} (h:PutI K l S x B0 lo b g UB TB SB w2 w3 xv sv_ pre w) (hk:Qh w W):PutI K l S x B0 lo b g UB TB SB w2 w3 xv sv_ pre W:=by
 obtain⟨ups,S',k',D',Au,cu,hps,h1,h2,h3,h4,h5,h6,h7,h8,h9,h10⟩:=h.ex
 exact⟨⟨ups,S',k',D',Au,cu,hps,h1,h2,h3,h4,h5,h6,fun p hp=>⟨(h7 p hp).1,(h7 p hp).2.ck hk⟩,hk.row h8,VQ h9 hk,h10.ck hk⟩,hk.row h.rx,hk.row h.r2,hk.row h.r3,hk.row h.r4,hk.row h.rT,hk.row h.rS,h.kx.trans (Qd.of_ck _ hk) fun _ _ h=>h⟩
theorem kO {S S':Sto} {lvl:Int} {l held up:List It} (hl:∀ x∈l,jd x) (hh:∀ x∈held,(x.r=0∨8≤x.r)∧x.r<256) (hS:qo S=true) (e:zo S lvl l held=.ok (up,S')):qo S'=true∧(0<up.length∧up.length≤2)∧∀ y∈up,jd y∧(8≤y.r∧y.r<256)∧y.val=[]:=by
 unfold zo at e
 split at e
 ·cases e
 ·rename_i up1 S1 e1
  split at e
  ·cases e
  ·rename_i t e2
   cases e
   obtain⟨h1,h2,h3⟩:=qbN (qdR hl) hS e1
   refine⟨Gb h1 (JG (fun a ha=>by
    obtain⟨x,hx,rfl⟩:=List.mem_map.1 ha
    have:=hh x hx
    omega) (qz.1 h1).2.1 e2),?_,fun y hy=>?_⟩
   ·rw[h2]
    unfold Vz
    split <;> simp
   ·obtain⟨⟨f,k1,k8,k9⟩,k2,p,hp,k3⟩:=h3 y hy
    have:=key0_ok (qdR hl p hp)
    rw[←k3] at this
    obtain⟨a1,a2,a3⟩:=this
    exact⟨⟨a1,a2,a3,by rw[k1];omega,by rw[k2];simp⟩,by omega,k2⟩
theorem qfu {k:K3} {ps:List Stp} {j:Nat} {up:List It} {S:Sto} {e:Int} (h:jH k (ps.take j) up S=.error e):jH k ps up S=.error e:=by
 have:ps=ps.take j++ps.drop j:=(List.take_append_drop _ _).symm
 rw[this,kJ,h]
theorem XE {W C:World} {U E:Nat} {u v u0 v0:Value} {ty1 ty2:TypeId} (hU:W.heap[U]?=some (.cells #[u0] ty1 (0,0))) (hE:W.heap[E]?=some (.cells #[v0] ty2 (0,0))) (hne:U≠E) (hC:C=(W.setCell ⟨U,0,none⟩ u).setCell ⟨E,0,none⟩ v) :
  C.heap[U]?=some (.cells #[u] ty1 (0,0))∧C.heap[E]?=some (.cells #[v] ty2 (0,0))∧(∀ k,k≠U→k≠E→C.heap[k]?=W.heap[k]?)∧C.heap.size=W.heap.size∧KeepsOthers W C∧∀ {B:Nat} {w0:World},B≤U→B≤E→Below B w0 W→Below B w0 C:=by
 subst hC
 have hs:=fun (A:World) (b j:Nat) (v:Value) (k:Nat) (hk:k≠b)=>zJ A ⟨b,j,none⟩ v k hk
 refine⟨?_,?_,fun k h1 h2=>?_,by simp,(KeepsOthers.setCell _ _ _).trans (KeepsOthers.setCell _ _ _),fun h1 h2 h=>Below.setCell (Below.setCell h (p:=⟨U,0,none⟩) h1 _) (p:=⟨E,0,none⟩) h2 _⟩
 ·rw[hs _ _ _ _ _ hne]
  exact qi hU 0 u
 ·refine qi (t:=ty2) (cs:=#[v0]) ?_ 0 v
  rw[hs _ _ _ _ _ (fun e=>hne e.symm)]
  exact hE
 ·rw[hs _ _ _ _ _ h2,hs _ _ _ _ _ h1]
def outTw (lo:Nat) (S:Sto):qS:=⟨(Nat×Nat)×(Option Addr×Nat)×(Option Addr×Nat),fun p=>Qa (some ⟨p.1.1,0,none⟩) S.bs.length S.bs.length (some ⟨p.1.2,0,none⟩) S.ws.length (S.ws.length+1) p.2.1.1 S.now.length p.2.1.2 p.2.2.1 S.last.length p.2.2.2,fun p W=>QD lo S (Qa (some ⟨p.1.1,0,none⟩) S.bs.length S.bs.length (some ⟨p.1.2,0,none⟩) S.ws.length (S.ws.length+1) p.2.1.1 S.now.length p.2.1.2 p.2.2.1 S.last.length p.2.2.2) W⟩
theorem Qx (lo:Nat) (S:Sto) (b c:Nat) (A3:Option Addr) (c3:Nat) (A4:Option Addr) (c4:Nat):(outTw lo S).f ((b,c),(A3,c3),(A4,c4))=Qa (some ⟨b,0,none⟩) S.bs.length S.bs.length (some ⟨c,0,none⟩) S.ws.length (S.ws.length+1) A3 S.now.length c3 A4 S.last.length c4:=rfl
structure PutD (q:Except Int (List It×Sto)) (B0 lo b g UB TB D:Nat) (w W:World):Prop where
 ex:∃ (ups:List It) (S':Sto) (k':Option Nat) (D':Nat→Prop) (Au:Option Addr) (cu:Nat) (hps:List (It×Value)),q=.ok (ups,S')∧qo S'=true∧0<ups.length∧hps.map (·.1)=ups ∧
  W.heap[UB]?=some (.cells #[.slice Au ups.length cu] 47 (0,0))∧W.ownsRow 0 68 5 (.slice Au ups.length cu) ups.length (qR hps)∧Bch D' B0 lo b g k' S' W∧∀ y∈ups,(y.r=0∨8≤y.r)∧y.r<256
 r2:W.heap[B0+2]?=some (.cells #[.slice none 0 0,.slice none 0 0,.slice none 0 0,.slice none 0 0] 28 (0,0))
 r3:W.heap[B0+3]?=some (.cells #[.int .i64 0] 3 (0,0))
 r4:W.heap[B0+4]?=some (.cells #[.int .i64 0] 36 (0,0))
 rT:W.heap[TB]?=some (.cells #[.pointer (some ⟨b,0,none⟩)] 80 (0,0))
 hK:W.heap[D]?=some (.deferred (some []))
 below:Below B0 w W
theorem Bch.kept {D:Nat→Prop} {B lo b g:Nat} {k:Option Nat} {S:Sto} {w W:World} (h:Bch D B lo b g k S w) (hB:Below B w W) (hr:∀ q,lo≤q→q<w.heap.size→W.heap[q]?=w.heap[q]?):Bch D B lo b g k S W:=
 h.keep hB fun q hq=>hq.elim (fun h2=>hr q (h.b3 q h2).1 (h.b3 q h2).2) fun h2=>hr q (h.dB q h2).1 (h.dB q h2).2.1
def Zv:qS:=⟨Unit,fun _=>undef,fun _ _=>True⟩
theorem qP (u:Unit):Zv.f u=undef:=rfl
theorem Zk {R:Rel}:∀ p,qD R (Zv.φ p):=fun _ _ _ _ _=>trivial
theorem ju {P:Program} {o:Oper} {a:Act} {W W':World} (hr:(execOp a.eval o).run P W=.ok .skip W') (hx:Ext W W'):QK ql P o a W Zv:=vB hr ⟨(),rfl,trivial,hx⟩
theorem same1 {w:World} {b:Nat} {x0:Value} {ty:TypeId} (h:w.heap[b]?=some (.cells #[x0] ty (0,0))):Ext w (w.setCell ⟨b,0,none⟩ x0):=Qn h rfl
theorem same4 {w:World} {b:Nat} {x0 x1 x2 x3:Value} {ty:TypeId} (h:w.heap[b]?=some (.cells #[x0,x1,x2,x3] ty (0,0))):Ext w ((((w.setCell ⟨b,0,none⟩ x0).setCell ⟨b,1,none⟩ x1).setCell ⟨b,2,none⟩ x2).setCell ⟨b,3,none⟩ x3):=by
 have e0:=Qn (j:=0) (v:=x0) h rfl
 have h0:=qb h e0
 have e1:=Qn (j:=1) (v:=x1) h0 rfl
 have h1:=qb h0 e1
 have e2:=Qn (j:=2) (v:=x2) h1 rfl
 have h2:=qb h1 e2
 exact((e0.trans e1).trans e2).trans (Qn (j:=3) (v:=x3) h2 rfl)
def JF (B:Nat) (ty:TypeId) (Φ:Array Value→World→Prop) (hΦ:∀ cs W W',W.grownBy W' (some B)→Φ cs W→Φ cs W'):Rel where
 rel W W':=W.grownBy W' (some B)∧(B<W.heap.size→W'.heap[B]?=W.heap[B]?∨∃ cs,W'.heap[B]?=some (.cells cs ty (0,0))∧Φ cs W')
 refl' W:=⟨World.grownBy.refl _ _,fun _=>.inl rfl⟩
 trans' h k:=⟨h.1.trans k.1,fun hb=>by
  rcases k.2 (Nat.lt_of_lt_of_le hb h.1.size) with e|e
  ·rw[e]
   rcases h.2 hb with e1|⟨cs,e1,e2⟩
   ·exact .inl e1
   ·exact .inr ⟨cs,e1,hΦ _ _ _ k.1 e2⟩
  ·exact .inr e⟩
 drew' W:=⟨⟨rfl,rfl,rfl,zM _,fun _ _ _=>rfl⟩,fun _=>.inl rfl⟩
section
variable {B:Nat} {ty:TypeId} {Φ:Array Value→World→Prop} {hΦ:∀ cs W W',W.grownBy W' (some B)→Φ cs W→Φ cs W'}
theorem qfY {W W':World} (h:Ext W W'):(JF B ty Φ hΦ).r W W':=⟨Zy h _,fun hb=>.inl (h.block B hb)⟩
theorem vX {W W':World} (h:(JF B ty Φ hΦ).r W W') {b:Nat} {o:Obj} (hp:b≠B) (hc:W.heap[b]?=some o):W'.heap[b]?=some o:=
 (h.1.block b (zG.1 hc).1 (fun x=>hp (by simpa using x))).trans hc
theorem qad {W W':World} (h:(JF B ty Φ hΦ).r W W') {o:Obj} (hc:W.heap[B]?=some o):W'.heap[B]?=some o∨∃ cs,W'.heap[B]?=some (.cells cs ty (0,0))∧Φ cs W':=by
 have:=h.2 (zG.1 hc).1
 rwa [hc] at this
theorem Tc {W W':World} {B0:Nat} (h:(JF B ty Φ hΦ).r W W') (h1:B0≤B) (h2:B0≤W.heap.size):Below B0 W W':=(Below.refl _ _).grown h.1 h2 (fun g hg=>by simp at hg;omega)
theorem Ts {W W':World} (h:(JF B ty Φ hΦ).r W W') {k:Nat} (hk:k<W.heap.size) (hp:k≠B):W'.heap[k]?=W.heap[k]?:=h.1.block k hk fun x=>hp (by simpa using x)
theorem qaL {lo:Nat} {S:Sto} (hB:B<lo):∀ p,qD (JF B ty Φ hΦ) ((outTw lo S).φ p):=fun p W W' he h =>
 QD.keep h (zM _) he.1.size fun b h1 hb=>Ts he hb (by omega)
def Yi (B:Nat) (ty:TypeId) (Φ:Array Value→World→Prop):qS:=⟨Unit,fun _=>undef,fun _ W=>∃ cs,W.heap[B]?=some (.cells cs ty (0,0))∧Φ cs W⟩
theorem Qp (u:Unit):(Yi B ty Φ).f u=undef:=rfl
theorem Gk:∀ p,qD (JF B ty Φ hΦ) ((Yi B ty Φ).φ p):=fun _ W W' he ⟨cs,h1,h2⟩=>by
 rcases qad he h1 with e|e
 ·exact⟨cs,e,hΦ _ _ _ he.1 h2⟩
 ·exact e
theorem qeP {P:Program} {o:Oper} {a:Act} {W w':World} {cs:Array Value} (hr:(execOp a.eval o).run P W=.ok .skip w') (hg:W.grownBy w' (some B)) (hw:w'.heap[B]?=some (.cells cs ty (0,0))) (hp:Φ cs W):QK (JF B ty Φ hΦ) P o a W (Yi B ty Φ):=
 vB hr ⟨(),rfl,⟨cs,hw,hΦ _ _ _ hg hp⟩,hg,fun _=>.inr ⟨cs,hw,hΦ _ _ _ hg hp⟩⟩
end
def ZX (lo:Nat) (S:Sto) (cs:Array Value) (W:World):Prop:=∃ x0 x1 x2 x3,cs=#[x0,x1,x2,x3]∧QD lo S (.agg cs) W
theorem ZX.keep {lo:Nat} {S:Sto} {B:Nat} (hB:B<lo):∀ cs W W',W.grownBy W' (some B)→ZX lo S cs W→ZX lo S cs W':=fun cs W W' hg h=>by
 obtain⟨x0,x1,x2,x3,e,hT⟩:=h
 exact⟨x0,x1,x2,x3,e,QD.keep hT (zM _) hg.size fun k h1 hk=>hg.block k hk fun e=>by simp at e;omega⟩
theorem qef {P:Program} {o:Oper} {a:Act} {W:World} {lo B:Nat} {S:Sto} {ty:TypeId} {x0 x1 x2 x3:Value} (hB:B<lo) (h:∃ u0 u1 u2 u3,W.heap[B]?=some (.cells #[u0,u1,u2,u3] ty (0,0))) (hT:QD lo S (.agg #[x0,x1,x2,x3]) W)
  (hr:(execOp a.eval o).run P W=.ok .skip ((((W.setCell ⟨B,0,none⟩ x0).setCell ⟨B,1,none⟩ x1).setCell ⟨B,2,none⟩ x2).setCell ⟨B,3,none⟩ x3)) :
  QK (JF B ty (ZX lo S) (ZX.keep hB)) P o a W (Yi B ty (ZX lo S)):=by
 obtain⟨u0,u1,u2,u3,h⟩:=h
 exact qeP hr (Qw.trans (Qw.trans (Qw.trans Qw))) (vw h x0 x1 x2 x3) ⟨x0,x1,x2,x3,rfl,hT⟩
theorem twin_own {W W':World} {lo B:Nat} {S:Sto} {ty:TypeId} (hB:B<lo) {u0 u1 u2 u3:Value} (h:(JF B ty (ZX lo S) (ZX.keep hB)).r W W') (hc:W.heap[B]?=some (.cells #[u0,u1,u2,u3] ty (0,0))):∃ u0 u1 u2 u3,W'.heap[B]?=some (.cells #[u0,u1,u2,u3] ty (0,0)):=by
 rcases qad h hc with e|⟨cs,e,x0,x1,x2,x3,rfl,_⟩
 ·exact⟨_,_,_,_,e⟩
 ·exact⟨_,_,_,_,e⟩
end Go.Proofs.YtpbniokljofedaaGreat
namespace Go.Proofs.YtpbniokljofedaaGreat
open Go.RowKit Go.Shelf
attribute [local go_sem] Oper.semAt_some
theorem Gm {n b D:Nat} {v:Value} {R:Ending→World→Prop} {a:Act} {W:World} (h4:a.tmps[4]?.getD undef=.pointer (some ⟨b+1+1,0,none⟩)) (hd:a.defers=[{ target:=.collected D,args:=#[] }])
  (hK:W.heap[D]?=some (.deferred (some []))) (hD:b+2<D) (hB:W.heap[b+2]?=some (.cells #[v] 26 (0,0)))
  (hR:∀ W',W'=W.putObj D (.deferred none)→R (.returned v) W') :
  bodyPostM Fence.wide n Tryz.prog Tryz.f50 R .ret a W:=by
 have k4:=qa ((World.putObj_heap_other (o:=.deferred none) (show b+2≠D by omega)).trans hB)
 change LeavesInM Fence.wide n Tryz.prog Tryz.f50 a.tmps R a.defers .returning W
 rw[hd]
 refine⟨by simp,.inl ⟨_,_,rfl,run_takeDeferred hK,v,?_,hR _ rfl⟩⟩
 simp[results,Tryz.results50,go_sem,h4,k4]
set_option maxRecDepth 100000 in
theorem qhL (A1:Option Addr) (n1 c1:Nat) (A2:Option Addr) (n2 c2:Nat) (S:Sto) (hS:qo S=true) (m:Nat) (hm:m<256) (w:World) (hb:Bls w w.heap.size (.slice A1 n1 c1) S.bs) (hw:Wrs w w.heap.size (.slice A2 n2 c2) S.ws) :
  Calls Tryz.prog 50 #[YS A1 n1 c1 A2 n2 c2,.int .i64 (m:Int)] w (zE (fun u W=>Bys W W.heap.size u (Jn S m)) w):=by
 obtain⟨hl1,hl2,hl3,hl4⟩:=qV hS
 have hbl:=QJ hS
 have hseen:Jn S m=match jL S.ws m with|some l=>l|none=>S.bs[m]:=by
  unfold Jn;rw[zL (by omega)];rfl
 obtain⟨hn1,hc1,hm1,hA1⟩:=hb.at_
 obtain⟨b1,o1,rfl,hb1⟩:=hA1 (by omega)
 obtain⟨A0,c0,hcb,hbyb⟩:=hb.get (bs:=S.bs) m (by omega)
 have hn1':n1=256:=by rw[hn1,hl1]
 generalize S.bs[m]=l0 at *
 generalize Jn S m=l at *
 generalize hwsE:S.ws=ws at *
 obtain⟨ps,hps,⟨A2',c2',e2,hw1,hw2,hw3⟩,hw4⟩:=hw
 rw[←hps] at hseen e2 hw1 hw3 hl2
 clear hn1 hS hl1 hl3 hl4 hA1 hbl hwsE hb
 subst hn1'
 simp only[Value.slice.injEq] at e2
 obtain⟨rfl,hw5,rfl⟩:=e2
 rw[←hw5] at hw1 hw3 hl2
 replace hw5:=zH hw5
 replace hseen:=zH hseen
 have hpl:ps.length=n2:=by rw[hw5.out];simp
 obtain⟨us,hus⟩:∃ us:List W2,us=ps.map fun p=>((p.1.1,VE p.2):W2):=⟨_,rfl⟩
 have hul:us.length=n2:=by rw[hus,List.length_map,hpl]
 have hua:∀ j,(us[j]?.getD w2z).1=atN ws j:=fun j=>by
  unfold atN
  rw[hus,←hps,List.getElem?_map,List.getElem?_map]
  cases ps[j]? <;> rfl
 have hud:∀ j W,Ext w W→Bys W W.heap.size (sv (us[j]?.getD w2z).2) (datN ws j):=fun j W hx=>by
  unfold datN
  rw[hus,←hps,List.getElem?_map,List.getElem?_map]
  rcases hj:ps[j]? with _|p
  ·exact⟨none,0,rfl,zM _,by unfold maxLen;omega,by simp,fun hn=>absurd hn (by simp)⟩
  ·obtain⟨⟨A',c',e'⟩,hy⟩:=hw4 p (List.mem_of_getElem? hj)
   have:sv (VE p.2)=p.2:=by rw[e'];rfl
   simp only[Option.map_some,Option.getD_some]
   rw[this]
   exact(hy.below hx).more hx.size
 refine(callsIn_wide (n:=3)).1 ?_
 refine callsIn_of_wp_marks Tryz.func50 rfl trivial ?_ rfl
 simp only[Tryz.ntmps50,List.size_toArray,List.length_cons,List.length_nil,Nat.reduceAdd,Nat.reduceSub,Array.replicate_succ,Array.replicate_zero,List.push_toArray,List.append_toArray,List.nil_append,List.cons_append]
 refine wpIn_wide.2 ?_
 go_wp2_with fail
 generalize hw1':(World.alloc (World.alloc (World.alloc w _) _) _)=w2
 have x2:Ext w w2:=by rw[←hw1'];exact((zN _ _).trans (zN _ _)).trans (zN _ _)
 have s2:w.heap.size+3≤w2.heap.size:=by rw[←hw1'];simp
 have ra2:w2.heap[w.heap.size]?=some (.cells #[.slice (some ⟨b1,o1,none⟩) 256 c1,.slice A2 n2 c2] 25 (0,0)):=by rw[←hw1'];exact(zK _ _ _ (by simp <;> omega)).trans ((zK _ _ _ (by simp <;> omega)).trans (zI _ _ _ rfl))
 have rb2:w2.heap[w.heap.size+1]?=some (.cells #[.int .i64 (m:Int)] 3 (0,0)):=by rw[←hw1'];exact(zK _ _ _ (by simp <;> omega)).trans (zI _ _ _ (by simp))
 have rc2:w2.heap[w.heap.size+2]?=some (.cells #[.slice none 0 0] 26 (0,0)):=by rw[←hw1'];exact zI _ _ _ (by simp)
 clear hw1'
 have ka2:=qa ra2
 have kb2:=qa rb2
 refine(YL A2 n2 c2 w2).mono ?_
 rintro e w3 ⟨rfl,rfl⟩
 go_wp2_with fail
 have x5:Ext w2 (w2.alloc (.cells #[.slice A2 n2 c2] 23)):=zN _ _
 obtain⟨b2,hb2,hSW⟩:∃ b2,b2<w.heap.size∧SW (w2.alloc (.cells #[.slice A2 n2 c2] 23)) w2.heap.size b2 (.slice A2 n2 c2) us:=by
  have hbox:(w2.alloc (.cells #[.slice A2 n2 c2] 23)).cell? ⟨w2.heap.size,0,none⟩=some (.slice A2 n2 c2):=by rw[qa (zI _ _ _ rfl)];rfl
  by_cases hz:n2=0
  ·have:us=[]:=List.length_eq_zero_iff.1 (by omega)
   exact⟨b1,hb1,hbox,.inl ⟨this,A2,c2,by rw[hz]⟩⟩
  ·obtain⟨b2,o2,rfl,hlt,hc⟩:=hw3.2 (by omega)
   refine⟨b2,hlt,hbox,.inr ⟨o2,c2,by rw[hul],fun i hi=>?_⟩⟩
   have hi':i<ps.length:=by omega
   obtain⟨g0,g1⟩:=YB ps i hi'
   have hx:=x2.trans x5
   rw[hus]
   refine⟨?_,?_⟩
   ·rw[Ext.cell hx (hc _ _ g0),List.getElem?_map,zL hi'];rfl
   ·obtain⟨⟨A',c',e'⟩,_⟩:=hw4 ps[i] (List.getElem_mem hi')
    rw[Nat.add_assoc,Ext.cell hx (hc _ _ g1),List.getElem?_map,zL hi']
    simp only[Option.map_some,Option.getD_some]
    rw[e']
    rfl
 clear hus hw3
 replace hua:=zH hua
 replace hud:=zH hud
 refine(wpIn_wide (n:=3)).1 ?_
 refine wpIn_rangeFunc_ownH rfl (by omega) (gf:=141) (lb:=#[.pointer (some ⟨w2.heap.size,0,none⟩)]) rfl trivial (enters_of Tryz.func141 (by kernel_rfl) rfl)
  (qeq (3-1) (by omega) w2.heap.size b2 _ _ (by rw[hul];omega) _ (by simp) (by simp;omega) hSW) Qu.t (Qu.b (by simp) (by simp;omega)) (Below.refl _ _) (fun _=>rfl)
  (fun pre W'=>((W'.heap[w.heap.size]?=some (.cells #[.slice (some ⟨b1,o1,none⟩) 256 c1,.slice A2 n2 c2] 25 (0,0))∧W'.heap[w.heap.size+1]?=some (.cells #[.int .i64 (m:Int)] 3 (0,0)))∧(W'.heap[w.heap.size+2]?=some (.cells #[.slice none 0 0] 26 (0,0))∧W'.heap[w2.heap.size]?=some (.cells #[.slice A2 n2 c2] 23 (0,0))))∧(Below w.heap.size w W'∧∀ y∈pre,atN ws y≠(m:Int)))
  (fun c pre W'=>(∃ pre' x Wb,c=.ret∧pre=pre'++[x]∧atN ws x=(m:Int)∧(∀ y∈pre',atN ws y≠(m:Int))∧Wb.heap[w.heap.size+2]?=some (.cells #[sv (us[x]?.getD w2z).2] 26 (0,0))∧Qh Wb W')∧Below w.heap.size w W')
  (OwnFrom.and (OwnFrom.and (OwnFrom.and (Qv _ _ _ _) (Qv _ _ _ _)) (OwnFrom.and (Qv _ _ _ _) (Qv _ _ _ _))) (OwnFrom.and (ownFrom_below (zM _) (by simp;omega)) (kL _ _)))
  (fun c=>OwnFrom.and (fun s A C row hs hg hr=>by
   obtain⟨pre',x,Wb,h1,h2,h3,h4,h5,h6⟩:=hs
   exact⟨pre',x,Wb,h1,h2,h3,h4,h5,h6.grown hg fun r e=>(hr r e).2⟩) (ownFrom_below (zM _) (by simp;omega)))
  ⟨⟨⟨qb ra2 x5,qb rb2 x5⟩,⟨qb rc2 x5,zI _ _ _ rfl⟩⟩,x2.trans x5,fun y hy=>by cases hy⟩
  (fun x a' W'=>∃ t8,a'={ tmps:=#[YS (some ⟨b1,o1,none⟩) 256 c1 A2 n2 c2,.int .i64 (m:Int),.pointer (some ⟨w.heap.size,0,none⟩),.pointer (some ⟨w.heap.size+1,0,none⟩),.pointer (some ⟨w.heap.size+1+1,0,none⟩),undef,.pointer (some ⟨t8,0,none⟩),.pointer (some ⟨w.heap.size,1,none⟩),.slice A2 n2 c2,.func (.func 141) #[] #[.pointer (some ⟨w2.heap.size,0,none⟩)],
    .int .i64 (x:Int),.agg #[.int .i64 (us[x]?.getD w2z).1,sv (us[x]?.getD w2z).2],undef,undef,undef,undef,undef,undef,undef,undef,undef,undef,undef],defers:=[] }∧W'.heap[t8]?=some (.cells #[.int .i64 (us[x]?.getD w2z).1,sv (us[x]?.getD w2z).2] 130 (0,0)))
  (fun x a' s A C row hs hg hr=>by
   obtain⟨t8,e,h⟩:=hs
   exact⟨t8,e,Qv (β:=Unit) _ _ _ _ () A C row h hg hr⟩) ?assign ?body ?done ?stop
 case assign =>
  rintro l' pre x W' K ⟨⟨⟨i1,i2⟩,⟨i3,i7⟩⟩,i4,i5⟩ hK
  gi_wp2
  have z1:=(zG.1 i1).1
  have z2:=(zG.1 i2).1
  have z3:=(zG.1 i3).1
  have z7:=(zG.1 i7).1
  have z4:=i4.size
  refine hK _ _ ((KeepsOthers.alloc _ _).from _) ⟨zK _ _ _ z7,zK _ _ _ (by omega)⟩ ⟨⟨⟨(zK _ _ _ z1).trans i1,(zK _ _ _ z2).trans i2⟩,⟨(zK _ _ _ z3).trans i3,(zK _ _ _ z7).trans i7⟩⟩,Below.alloc i4 z4 _,i5⟩ ⟨W'.heap.size,rfl,zI _ _ _ rfl⟩
 case body =>
  rintro l' pre x a' W' hl ⟨rr,hlp⟩ ⟨⟨⟨i1,i2⟩,⟨i3,i7⟩⟩,i4,i5⟩ ⟨t8,rfl,hr8⟩ _
  have hax:=hua.out x
  generalize hu9:(us[x]?.getD w2z)=u9 at *
  obtain⟨a9,A9,n9,c9⟩:=u9
  simp only at hax
  subst hax
  have k8:=qa hr8
  have k2:=qa i2
  have k3:=qa i3
  have f3:=qd i3
  replace i5:=zH i5
  replace hu9:=zH hu9
  clear ka2 kb2
  by_cases hq:atN ws x=(m:Int)
  ·have hqe:(atN ws x == (m:Int))=true:=by rw[beq_iff_eq];exact hq
   replace hq:=zH hq
   gi_wp2_with fail
   refine⟨(KeepsOthers.setCell _ _ _).from _,⟨rfl,pre,x,rfl,hq.out,i5.out,_,?_,Qh.refl _⟩,Below.setCell i4 (p:=⟨w.heap.size+1+1,0,none⟩) (by simp;omega) _⟩
   rw[hu9.out]
   exact qi i3 0 _
  ·have hqe:(atN ws x == (m:Int))=false:=by rw[beq_eq_false_iff_ne];exact hq
   replace hq:=zH hq
   gi_wp2_with fail
   refine⟨KeepsFrom.refl _ _,Qu.refl _ _ _,⟨⟨i1,i2⟩,⟨i3,i7⟩⟩,i4,fun y hy=>?_⟩
   rcases List.mem_append.1 hy with h|h
   ·exact i5.out y h
   ·obtain rfl:y=x:=by simpa using h
    exact hq.out
 case done =>
  rintro D ys W' hD rfl ⟨⟨⟨i1,i2⟩,⟨i3,_⟩⟩,i4,i5⟩ hK
  have h0:=qeU (ws:=ws) (a:=(m:Int)) (by rw[show ws.length=us.length by rw[hul,←hpl,←hps,List.length_map]];exact i5)
  have hll:l=l0:=by rw[hseen.out,hps,h0]
  have hcb':=Ext.cell i4 hcb
  rw[←hll] at hcb' hbyb
  clear h0 hll hcb
  have k1:=qa i1
  have k2:=qa i2
  have k3:=qa i3
  have f3:=qd i3
  have im:(m:Int)<256:=by omega
  have im2:decide (m<256)=true:=decide_eq_true hm
  replace i5:=zH i5
  replace hbyb:=zH hbyb
  clear ka2 kb2 hw4 hw5
  go_wp2_with fail
  have hDw:w.heap.size+2<D:=by simp at hD;omega
  have q3:=qi i3 0 (.slice A0 l.length c0)
  have qK:=(zJ W' ⟨w.heap.size+1+1,0,none⟩ (.slice A0 l.length c0) D (by simp;omega)).trans hK
  have qx:=Below.setCell i4 (p:=⟨w.heap.size+1+1,0,none⟩) (by simp;omega) (.slice A0 l.length c0)
  generalize World.setCell W' _ _=wf at *
  exact Gm (b:=w.heap.size) rfl rfl qK hDw q3 (fun W' e=>by
   have hX:Ext w W':=e ▸ qx.trans (belowK_b (w:=w) (zM _) wf D _ _ (by omega) qK rfl rfl)
   exact⟨_,rfl,(hbyb.out.below hX).more hX.size,hX⟩)
 case stop =>
  rintro D c pre W' hD ⟨k,hk,hpre⟩ ⟨⟨pre',x,Wb,rfl,rfl,hx,hpp,hRB,hCK⟩,i4⟩ hK
  gi_wp2_with fail
  have hDw:w.heap.size+2<D:=by simp at hD;omega
  have hl2:l=datN ws x:=by rw[hseen.out,hps,qfh (ws:=ws) (k:=k) (by rw[←hps,List.length_map,hpl,←hul];exact hk) (by rw[show ws.length=us.length by rw[hul,←hpl,←hps,List.length_map]];exact hpre) hx hpp]
  exact Gm (b:=w.heap.size) rfl rfl hK hDw (hCK.row hRB) (fun W'' e=>by
   have hX:Ext w W'':=e ▸ i4.trans (belowK_b (w:=w) (zM _) W' D _ _ (by omega) hK rfl rfl)
   exact⟨_,rfl,by rw[hl2];exact hud.out x W'' hX,hX⟩)
end Go.Proofs.YtpbniokljofedaaGreat
namespace Go.Proofs.YtpbniokljofedaaGreat
open Go.RowKit
theorem TP {R:Ending→World→Prop} {a:Act} {W:World} {b:Nat} {x0 x1 v:Value} (h4:a.tmps[4]?.getD undef=.pointer (some ⟨b,0,none⟩)) (h5:a.tmps[5]?.getD undef=v) (hd:a.defers=[])
  (hrow:W.heap[b]?=some (.cells #[x0,x1] 49 (0,0))) (hR:R (.returned (.tuple #[.agg #[x0,x1],v])) W):bodyPost Tryz.prog Tryz.f22 R .ret a W:=by
 refine bodyPost_ret (v:=.tuple #[.agg #[x0,x1],v]) ?_ hd hR
 have k:=qa hrow
 simp[results,Tryz.results22,go_sem,h4,h5,k]
set_option maxRecDepth 100000 in
theorem qhx (A1:Option Addr) (n1 c1:Nat) (A2:Option Addr) (n2 c2:Nat) (A3:Option Addr) (n3 c3:Nat) (A4:Option Addr) (n4 c4:Nat) (S:Sto) (a:Int) (w:World) (h:qT w w.heap.size (.slice A1 n1 c1) (.slice A2 n2 c2) (.slice A3 n3 c3) (.slice A4 n4 c4) S) :
  Calls Tryz.prog 22 #[Qa A1 n1 c1 A2 n2 c2 A3 n3 c3 A4 n4 c4,.int .i64 a] w (zE (qbk w.heap.size (if Ji S a=0 then qu S a.toNat else none)) w):=by
 have HA:=zH (fun W (hx:Ext w W)=>qam A1 n1 c1 A2 n2 c2 A3 n3 c3 A4 n4 c4 S a W (h.ext hx))
 obtain⟨q,hq⟩:∃ q,(if Ji S a=0 then qu S a.toNat else none)=q:=⟨_,rfl⟩
 rw[hq]
 replace hq:=zH hq
 replace h:=zH h
 go_enter Tryz.func22,Tryz.ntmps22
 go_wp2_with fail
 generalize hw1:(World.alloc (World.alloc w _) _)=w1
 have x1:Ext w w1:=by rw[←hw1];exact(zN _ _).trans (zN _ _)
 have r1:w1.heap[w.heap.size]?=some (.cells #[.slice A1 n1 c1,.slice A2 n2 c2,.slice A3 n3 c3,.slice A4 n4 c4] 28 (0,0)):=by rw[←hw1];exact(zK _ _ _ (by simp)).trans (zI _ _ _ rfl)
 have q1:w1.heap[w.heap.size+1]?=some (.cells #[.int .i64 0,.slice none 0 0] 49 (0,0)):=by rw[←hw1];exact zI _ _ _ (by simp)
 clear hw1
 have k1:=qa r1
 go_wp2_with fail
 refine(HA.out w1 x1).mono ?_
 clear HA
 rintro e w2 ⟨rfl,hB⟩
 have x2:Ext w w2:=x1.trans hB
 have r2:=qb r1 hB
 have q2:=qb q1 hB
 have z2:w.heap.size+1<w2.heap.size:=(zG.1 q2).1
 clear hB r1 q1 x1 k1
 have k2:=qa r2
 have kq2:=qa q2
 have fq2:=qd q2
 by_cases hE:Ji S a=0
 ·obtain⟨hS,n,rfl,h8,h256,hc⟩:=Yq hE
  have hNA:q=QF (Jn S n):=by rw[←hq.out,if_pos hE,Int.toNat_natCast];unfold qu;exact if_neg hc
  rw[hE]
  clear hq
  have HS:=zH (fun W (hx:Ext w W)=>qhL A1 n1 c1 A2 n2 c2 S hS n h256 W ((h.out.bs.below hx).more hx.size) ((h.out.ws.below hx).more hx.size))
  have HR:=zH (fun v W (hv:Bys W W.heap.size v (Jn S n))=>qhW v (Jn S n) W hv)
  replace hE:=zH hE
  replace hS:=zH hS
  replace hNA:=zH hNA
  replace hc:=zH hc
  generalize Jn S n=l at *
  go_wp2_with fail
  refine(HS.out w2 x2).mono ?_
  clear HS
  rintro e w3 ⟨u,rfl,hu,hB⟩
  have x3:Ext w w3:=x2.trans hB
  have q3:=qb q2 hB
  clear hB k2 r2 kq2 fq2 q2
  go_wp2_with fail
  refine(HR.out u w3 hu).mono ?_
  clear HR hu
  rintro e w4 ⟨u4,rfl,hu,hB⟩
  have hB:Ext w3 w4:=hB
  have x4:Ext w w4:=x3.trans hB
  have q4:=qb q3 hB
  have z3:=x3.size
  have z4:w.heap.size+1<w4.heap.size:=(zG.1 q4).1
  have z3q:w.heap.size+1<w3.heap.size:=(zG.1 q3).1
  clear hB q3
  have kq4:=qa q4
  have fq4:=qd q4
  rcases hQ:QF l with _|⟨lvl,xs⟩
  ·rw[hQ] at hu
   obtain⟨er,hne,rfl⟩:=hu
   have hq:q=none:=by rw[hNA.out,hQ]
   replace hq:=zH hq
   have hne2:(er != 0)=true:=by rw[bne_iff_ne];exact hne
   replace hne:=zH hne
   go_wp2_with fail
   generalize hwf:(World.alloc _ _)=wf
   have rf:wf.heap[w.heap.size+1]?=some (.cells #[.int .i64 0,.slice none 0 0] 49 (0,0)):=by rw[←hwf];exact(zK _ _ _ (by simpa using z4)).trans (qi (qi q4 0 _) 1 _)
   have bf:Below w.heap.size w wf:=by rw[←hwf];exact Below.alloc (Below.setCell (Below.setCell x4 (p:=⟨w.heap.size+1,0,none⟩) (by simp) _) (p:=⟨w.heap.size+1,1,none⟩) (by simp) _) (by simp;omega) _
   exact TP (b:=w.heap.size+1) rfl rfl rfl rf ⟨_,rfl,(by rw[hq.out];exact⟨8,by decide,rfl⟩),bf⟩
  ·rw[hQ] at hu
   obtain⟨A,c,rfl,hi⟩:=hu
   have hq:q=some (lvl,xs):=by rw[hNA.out,hQ]
   replace hq:=zH hq
   replace hi:=zH hi
   go_wp2_with fail
   generalize hwf:(World.alloc _ _)=wf
   have rf:wf.heap[w.heap.size+1]?=some (.cells #[.int .i64 lvl,.slice A xs.length c] 49 (0,0)):=by rw[←hwf];exact(zK _ _ _ (by simpa using z4)).trans (qi (qi q4 0 _) 1 _)
   have bf:Below w.heap.size w wf:=by rw[←hwf];exact Below.alloc (Below.setCell (Below.setCell x4 (p:=⟨w.heap.size+1,0,none⟩) (by simp) _) (p:=⟨w.heap.size+1,1,none⟩) (by simp) _) (by simp;omega) _
   have hfi:Zz w.heap.size wf (.slice A xs.length c) xs:=by
    refine(hi.out.keep (by have:=bf.size;rw[←hwf];simp) fun p h1 h2=>?_).mono z3
    rw[←hwf,World.cell?_alloc_lt _ _ _ (by simpa using h2),World.cell?_setCell_other _ _ _ _ (fun e=>by subst e;simp at h1;omega),World.cell?_setCell_other _ _ _ _ (fun e=>by subst e;simp at h1;omega)]
   exact TP (b:=w.heap.size+1) rfl rfl rfl rf ⟨_,rfl,(by rw[hq.out];exact⟨A,c,rfl,hfi⟩),bf⟩
 ·have hqn:=zH (show q=none by rw[←hq.out,if_neg hE])
  clear hq
  have hne:(Ji S a != 0)=true:=by rw[bne_iff_ne];exact hE
  generalize Ji S a=er at *
  go_wp2_with fail
  refine TP (b:=w.heap.size+1) rfl rfl rfl (qi (qi q2 0 _) 1 _) ⟨_,rfl,(by rw[hqn.out];exact⟨er,hE,rfl⟩),?_⟩
  exact Below.setCell (Below.setCell x2 (p:=⟨w.heap.size+1,0,none⟩) (by simp) _) (p:=⟨w.heap.size+1,1,none⟩) (by simp) _
end Go.Proofs.YtpbniokljofedaaGreat
