/- Texts BackS, PutI, PutD, DMake, NewOk, Round, Grow, PutM, InsW, joined. -/
import Derived.Test.YtpbniokljofedaaGreatZG06
import Derived.Test.YtpbniokljofedaaGreatZG11
import Derived.Test.YtpbniokljofedaaGreatZG13
import Derived.Test.YtpbniokljofedaaGreatZG15
import Derived.Test.YtpbniokljofedaaGreatZG19
import Derived.Test.YtpbniokljofedaaGreatZG20
import Derived.Test.YtpbniokljofedaaGreatZG21
set_option linter.unusedSimpArgs false
set_option linter.unusedVariables false
set_option maxHeartbeats 8000000
open Go.Proofs.Tryz
namespace Go.Proofs.YtpbniokljofedaaGreat
open Go.RowKit Go.Shelf
attribute [local go_sem] Oper.semAt_some
abbrev Us:Type:=Stp×Sl
abbrev usz:Us:=((0,[],0),(none,0,0))
set_option maxRecDepth 100000 in
theorem backs_in (n:Nat) (hn:1<=n) (l Bs b off len cap:Nat) (us:List Us) (bI:len<1099511627776) (J Jx:List Nat->World->Prop) (hY:∀ pre (x:Nat) W,J pre W->pre.length<len->YieldAt Fence.wide (n-1) prog l #[.int .i64 (x:Int),.agg #[.int .i64 ((us[x]?.getD usz).1.1:Int),sv (us[x]?.getD usz).2,.int .i64 ((us[x]?.getD usz).1.2.2:Int)]] W fun e W' =>
   (e=.returned (.bool true)/\J (pre++[x]) W'/\Qx Bs b W W')\/(e=.returned (.bool false)/\Jx (pre++[x]) W'))
  (W:World) (lm:W.cell? ⟨Bs,0,none⟩=some (.slice (some ⟨b,off,none⟩) len cap)) (hc:∀ i,i<len->W.cell? ⟨b,off+i*3,none⟩=some (.int .i64 ((us[i]?.getD usz).1.1:Int))/\W.cell? ⟨b,off+i*3+1,none⟩=some (sv (us[i]?.getD usz).2)/\W.cell? ⟨b,off+i*3+2,none⟩=some (.int .i64 ((us[i]?.getD usz).1.2.2:Int))) (h0:J [] W) :
  CallsIn Fence.wide n prog 146 #[.func (.yield l) #[] #[],.pointer (some ⟨Bs,0,none⟩)] W fun e W'=>(∃ v,e=.returned v) /\
   ((∃ ys,ys=jc (fun j=>len-1-j) len/\J ys W')\/(∃ pre,(∃ k,k<=len/\pre=jc (fun j=>len-1-j) k)/\Jx pre W')):=by
 refine callsIn_of_wp func146 rfl trivial ?_ rfl;simp only[ntmps146,List.size_toArray,List.length_cons,List.length_nil,Nat.reduceAdd,Nat.reduceSub,Array.replicate_succ,Array.replicate_zero,List.push_toArray,List.append_toArray,List.nil_append,List.cons_append]
 gi_wp2
 gi_loopw [3] (fun i wr=>∃ k:Nat,k<=len/\i=.int .i64 ((len:Int)-1-k)/\J (jc (fun j=>len-1-j) k) wr/\Qx Bs b W wr)
  (fun i _=>(intOf i+1).toNat)
 case atStart=>exact⟨0,Nat.zero_le _,zA2,h0,Qx.refl _ _ _⟩
 case round =>
  obtain⟨k,hk,rfl,iQ,cZ⟩:=hrel;have hBr:wr.cell? ⟨Bs,0,none⟩=some (.slice (some ⟨b,off,none⟩) len cap):=(World.cell?_of_block (w:=W) cZ.1).trans lm;by_cases hlt:k<len
  ·obtain⟨fn,tmps,assign,body,hy,hR⟩:=hY _ (len-1-k) wr iQ (by rw[Zt];exact hlt);have dU:=(World.cell?_of_block (w:=W) (a:=⟨b,off+(len-1-k)*3,none⟩) cZ.2).trans (hc (len-1-k) zO).1;have dV:=(World.cell?_of_block (w:=W) (a:=⟨b,off+(len-1-k)*3+1,none⟩) cZ.2).trans (hc (len-1-k) zO).2.1;have bP:=(World.cell?_of_block (w:=W) (a:=⟨b,off+(len-1-k)*3+2,none⟩) cZ.2).trans (hc (len-1-k) zO).2.2;try dsimp only at hy
   obtain⟨i,hi⟩:∃ i:Nat,len-1-k=i:=⟨_,rfl⟩
   have hi2:(len:Int)-1-k=(i:Int):=zO;have hil:i<len:=zO;have hik:k+i+1<=len/\len<=k+i+1:=zO;have HU:=zH (Vy (fun j=>len-1-j) k);obtain⟨u,hu⟩:∃ u,us[i]?.getD usz=u:=⟨_,rfl⟩
   rw[hi] at dU dV bP hy hR;rw[hu] at dU dV bP hy;rw[hi2];clear hi2;clear hu;have HI:=zH hi;clear hi
   gi_wp2
   refine hR.mono ?_;rintro e W3 (⟨rfl,hJ3,oC⟩|⟨rfl,mV⟩)
   ·gi_wp2
    go_roundw
    case rel=>exact⟨k+1,zO,by go_num,by rw[HU.out,HI.out];exact hJ3,cZ.t oC⟩
    case measure=>simp[intOf]
   ·gi_wp2
    refine bodyPost_ret (results_none rfl _ _ _) rfl ?_;exact⟨⟨_,rfl⟩,.inr ⟨_,⟨k+1,zO,by rw[HU.out,HI.out]⟩,mV⟩⟩
  ·obtain rfl:k=len:=zO
   gi_wp2
   go_end0;exact⟨⟨_,rfl⟩,.inl ⟨_,rfl,iQ⟩⟩
set_option maxRecDepth 100000 in
theorem qdA (n l Bs c:Nat) (A:Option Addr) (J:List Nat->World->Prop) (W:World) (lm:W.cell? ⟨Bs,0,none⟩=some (.slice A 0 c)) (h0:J [] W):CallsIn Fence.wide n prog 146 #[.func (.yield l) #[] #[],.pointer (some ⟨Bs,0,none⟩)] W fun e W'=>(∃ v,e=.returned v)/\J [] W':=by
 refine callsIn_of_wp func146 rfl trivial ?_ rfl;simp only[ntmps146,List.size_toArray,List.length_cons,List.length_nil,Nat.reduceAdd,Nat.reduceSub,Array.replicate_succ,Array.replicate_zero,List.push_toArray,List.append_toArray,List.nil_append,List.cons_append]
 gi_wp2
 gi_loopw [3] (fun i wr=>i=.int .i64 (-1)/\J [] wr) (fun _ _=>0)
 case atStart=>exact⟨rfl,h0⟩
 case round =>
  obtain⟨rfl,iQ⟩:=hrel
  gi_wp2
  go_end0;exact⟨⟨_,rfl⟩,iQ⟩
def SWs (W:World) (Bs b:Nat) (v:Value) (us:List Us):Prop:=
 W.cell? ⟨Bs,0,none⟩=some v/\((us=[]/\∃ A c,v=.slice A 0 c)\/∃ off cap,v=.slice (some ⟨b,off,none⟩) us.length cap/\∀ i,i<us.length->W.cell? ⟨b,off+i*3,none⟩=some (.int .i64 ((us[i]?.getD usz).1.1:Int))/\W.cell? ⟨b,off+i*3+1,none⟩=some (sv (us[i]?.getD usz).2)/\W.cell? ⟨b,off+i*3+2,none⟩=some (.int .i64 ((us[i]?.getD usz).1.2.2:Int)))
theorem SWs.keep {W W':World} {Bs b:Nat} {v:Value} {us:List Us} (h:SWs W Bs b v us) (hk:Qx Bs b W W'):SWs W' Bs b v us:=by
 refine⟨(World.cell?_of_block (w:=W) hk.1).trans h.1,?_⟩;rcases h.2 with h|⟨off,cap,e,hc⟩
 ·exact .inl h
 ·exact .inr ⟨off,cap,e,fun i hi=>⟨(World.cell?_of_block (w:=W) hk.2).trans (hc i hi).1,(World.cell?_of_block (w:=W) hk.2).trans (hc i hi).2.1,(World.cell?_of_block (w:=W) hk.2).trans (hc i hi).2.2⟩⟩
theorem qeV (n:Nat) (hn:1<=n) (Bs b:Nat) (v:Value) (us:List Us) (bI:us.length<1099511627776) (w:World) (lm:Bs<w.heap.size) (hb:b<w.heap.size) (hS:SWs w Bs b v us):SeqStopsK Fence.wide n prog 146 #[.pointer (some ⟨Bs,0,none⟩)] (fun x:Nat=>#[.int .i64 (x:Int),.agg #[.int .i64 ((us[x]?.getD usz).1.1:Int),sv (us[x]?.getD usz).2,.int .i64 ((us[x]?.getD usz).1.2.2:Int)]]) (Qx Bs b) (fun ys=>ys=jc (fun j=>us.length-1-j) us.length)
   (fun pre=>∃ k,k<=us.length/\pre=jc (fun j=>us.length-1-j) k) us.length w:=fun l J Jx W hW _ _ hY h0=>by
 obtain⟨hc,h⟩:=hS.keep (Qx.below hW lm hb);rcases h with ⟨rfl,A,c,rfl⟩|⟨off,cap,rfl,dD⟩
 ·exact(qdA n l Bs c A J W hc h0).mono fun e W' ⟨he,hj⟩=>⟨he,.inl ⟨_,rfl,hj⟩⟩
 ·exact backs_in n hn l Bs b off us.length cap us bI J Jx hY W hc dD h0
theorem qbZ (A:Option Addr) (m c:Nat) (w:World):Calls prog 100 #[.slice A m c] w (fun e w'=>e=.returned (.func (.func 146) #[] #[.pointer (some ⟨w.heap.size,0,none⟩)])/\w'=w.alloc (.cells #[.slice A m c] 153)):=by
 go_enter func100,ntmps100;go_wp2;go_ret;exact⟨rfl,rfl⟩
end Go.Proofs.YtpbniokljofedaaGreat
namespace Go.Proofs.YtpbniokljofedaaGreat
open Go.RowKit
section
variable {w W:World}
theorem Rd.ck {B size n:Nat} {A:Option Addr} {xs:List Value} (h:Rd w B size A n xs) (hk:Ql w W):Rd W B size A n xs:=⟨h.1,fun hn=>by obtain⟨b,off,e,hb,hc⟩:=h.2 hn;exact⟨b,off,e,hb,fun j u hu=>hk.cell (hc j u hu)⟩⟩
theorem Bys.ck {B:Nat} {v:Value} {l:List UInt8} (h:Bys w B v l) (hk:Ql w W):Bys W B v l:=by obtain⟨A,c,e,hc,hm,hr⟩:=h;exact⟨A,c,e,hc,hm,hr.ck hk⟩
theorem Bls.ck {B:Nat} {v:Value} {bs:List (List UInt8)} (h:Bls w B v bs) (hk:Ql w W):Bls W B v bs:=by obtain⟨vs,A,c,e,h1,h2,h3,h4⟩:=h;exact⟨vs,A,c,e,h1,h2,h3.ck hk,fun i u l hu hl=>(h4 i u l hu hl).ck hk⟩
theorem Qh.of_ck (X:Nat->Prop) (hk:Ql w W):Qh X w W:=fun _ _ _ hv=>hk.cell hv
theorem Bch.ck {D:Nat->Prop} {B lo b g:Nat} {k:Option Nat} {S:Sto} (h:Bch D B lo b g k S w) (hk:Ql w W):Bch D B lo b g k S W:=by
 obtain⟨A1,n1,c1,v2,c3,A4,c4,xO,ho,⟨ps,e,hw,hp⟩,h1,h4⟩:=h.ex;refine⟨h.lob,h.blo,fun q hq=>⟨(h.dB q hq).1,by have:=(h.dB q hq).2.1;have:=hk.size;omega,(h.dB q hq).2.2⟩,A1,n1,c1,v2,c3,A4,c4,hk.row xO,Ke ho hk,⟨ps,e,?_,fun p af=>⟨(hp p af).1,fun C hC=>(hp p af).2 C ((Qh.of_ck _ hk).trans hC fun _ _ h=>h)⟩⟩,h1.ck hk,h4.ck hk⟩;rcases hw with ⟨e,hm,A,e2,hr⟩|⟨q,e,e2,how⟩
 ·exact .inl ⟨e,hm,A,e2,hr.ck hk⟩
 ·exact .inr ⟨q,e,e2,Ke how hk⟩
end
theorem kh.of_own {X:Nat->Prop} {w:World} {lo n:Nat} {v:Value} {ps:List (It×Value)} (ho:w.ownsRow lo 68 5 v n (qY ps)) (hl:ps.length=n) (hX:∀ q,v.ownBlock=some q->¬X q) (hp:∀ p∈ps,(∃ A c,p.2=.slice A p.1.val.length c)/\∀ C,Qh X w C->Bys C C.heap.size p.2 p.1.val):kh X w v (ps.map (·.1)):=fun C hC=>by
 have oh:∀ A c,v=.slice A n c->Rd C C.heap.size 5 A n (qY ps):=fun A c e=>by
  refine⟨ho.1,fun hn=>?_⟩;rcases ho.2 with ⟨_,h0⟩|⟨g,cap,cur,hv,hb,hg,iI,_,hsz,oI⟩
  ·omega
  ·have aG:¬X g:=hX g (by rw[hv];rfl);rw[hv] at e;cases e;have hc:∀ j u,(qY ps)[j]?=some u->w.cell? ⟨g,0+j,none⟩=some u:=fun j u hu=>by
    rw[Nat.zero_add,qa hg,<-Array.getElem?_toList];rw[<-oI,List.getElem?_take] at hu;split at hu
    ·exact hu
    ·cases hu
   have hl0:0<(qY ps).length:=by rw[ho.1];omega
   exact⟨g,0,rfl,World.block_lt_of_cell? C ⟨g,0+0,none⟩ (hC _ _ aG (hc 0 _ (zL hl0))),fun j u hu=>hC _ _ aG (hc j u hu)⟩
 obtain⟨A,c,rfl,h1,h2⟩:=qz ho;subst hl;exact⟨ps,rfl,⟨A,c,by rw[List.length_map],by rw[List.length_map];exact h1,h2,by rw[List.length_map];exact oh A c rfl⟩,fun p af=>⟨(hp p af).1,(hp p af).2 C hC⟩⟩
theorem Bch.others {D:Nat->Prop} {B lo b g:Nat} {k:Option Nat} {S:Sto} {w W:World} (h:Bch D B lo b g k S w) (hk:Qe lo b g k w W):KeepsOthers w W:=⟨hk.below.size,fun q o hq ho=>by
 refine hk.row hq fun hx=>?_;obtain⟨A1,n1,c1,v2,c3,A4,c4,xO,aX,⟨ps,_,hw,_⟩,_,_⟩:=h.ex;have key:∀ cs ty fr,w.heap[q]?=some (.cells cs ty fr)->False:=fun cs ty fr hc=>by rw[hc] at hq;cases hq;cases ho
 rcases hx with rfl|rfl|e
 ·exact key _ _ _ xO
 ·obtain⟨cur,hg⟩:=ja aX rfl;exact key _ _ _ hg
 ·rcases hw with ⟨e1,_⟩|⟨q',e1,e2,how⟩
  ·rw[e1] at e;cases e
  ·rw[e1] at e;cases e;obtain⟨cur,hg⟩:=ja how e2;exact key _ _ _ hg⟩
def sAt (l:List Stp) (x:Nat):Stp:=l[x]?.getD (0,[],0)
theorem sAt_ok {k:K3} {l:List Stp} (h:∀ s∈l,qeJ k s) (x:Nat):qeJ k (sAt l x):=by
 unfold sAt;rcases hx:l[x]? with _|s
 ·exact⟨zD,(fun y hy=>by cases hy),Nat.zero_le _,zM _,fun h=>absurd h (Nat.lt_irrefl 0),fun _=>rfl⟩
 ·exact h s (List.mem_of_getElem? hx)
theorem qgn (l:List Stp) (k:Nat) (hk:k<=l.length):(jc (fun j=>l.length-1-j) k).map (sAt l)=l.reverse.take k:=by
 apply List.ext_getElem?;intro i;unfold jc;rw[List.getElem?_map,List.getElem?_map,List.getElem?_take];by_cases hi:i<k
 ·rw[List.getElem?_range hi,if_pos hi,List.getElem?_reverse zO];simp only[Option.map_some,sAt];rw[zL zO];simp
 ·rw[List.getElem?_eq_none zA1,if_neg hi];rfl
structure PutI (K:K3) (l:List Stp) (S:Sto) (x:It) (B0 lo b g UB TB SB w2:Nat) (w3:World) (xv sv_:Value) (pre:List Nat) (W:World):Prop where
 ex:∃ (ups:List It) (S':Sto) (k':Option Nat) (D':Nat->Prop) (Au:Option Addr) (cu:Nat) (au:List (It×Value)),jp K (pre.map (sAt l)) [x] S=.ok (ups,S')/\qm S'=true/\0<ups.length/\ups.length<=2/\au.map (·.1)=ups /\
  (∀ y∈ups,Zm y/\(y.r=0\/8<=y.r)/\y.r<256)/\(∀ p∈au,(∃ A c,p.2=.slice A p.1.val.length c)/\Bys W B0 p.2 p.1.val)/\W.heap[UB]?=some (.cells #[.slice Au ups.length cu] 47 (0,0))/\W.ownsRow 0 68 5 (.slice Au ups.length cu) ups.length (qY au)/\Bch D' B0 lo b g k' S' W
 rx:W.heap[B0+1]?=some (.cells #[.int .u8 x.k,.int .u32 x.i,.int .u32 x.o,.int .i64 x.r,xv] 68 (0,0))
 r2:W.heap[B0+2]?=some (.cells #[.slice none 0 0,.slice none 0 0,.slice none 0 0,.slice none 0 0] 28 (0,0))
 r3:W.heap[B0+3]?=some (.cells #[.int .i64 0] 3 (0,0))
 r4:W.heap[B0+4]?=some (.cells #[.int .i64 0] 36 (0,0))
 rT:W.heap[TB]?=some (.cells #[.pointer (some ⟨b,0,none⟩)] 80 (0,0))
 rS:W.heap[SB]?=some (.cells #[sv_] 153 (0,0))
 kx:Qh (fun q=>q<w2) w3 W
theorem PutI.ck {K:K3} {l:List Stp} {S:Sto} {x:It} {B0 lo b g UB TB SB w2:Nat} {w3:World} {xv sv_:Value} {pre:List Nat} {w W:World} (h:PutI K l S x B0 lo b g UB TB SB w2 w3 xv sv_ pre w) (hk:Ql w W):PutI K l S x B0 lo b g UB TB SB w2 w3 xv sv_ pre W:=by obtain⟨ups,S',k',D',Au,cu,au,h1,h2,h3,h4,h5,h6,h7,h8,h9,h10⟩:=h.ex;exact⟨⟨ups,S',k',D',Au,cu,au,h1,h2,h3,h4,h5,h6,fun p hp=>⟨(h7 p hp).1,(h7 p hp).2.ck hk⟩,hk.row h8,Ke h9 hk,h10.ck hk⟩,hk.row h.rx,hk.row h.r2,hk.row h.r3,hk.row h.r4,hk.row h.rT,hk.row h.rS,h.kx.trans (Qh.of_ck _ hk) fun _ _ h=>h⟩
theorem KL {S S':Sto} {lvl:Int} {l held up:List It} (hl:∀ x∈l,Zm x) (hh:∀ x∈held,(x.r=0\/8<=x.r)/\x.r<256) (hS:qm S=true) (e:QW S lvl l held=.ok (up,S')):qm S'=true/\(0<up.length/\up.length<=2)/\∀ y∈up,Zm y/\(8<=y.r/\y.r<256)/\y.val=[]:=by
 unfold QW at e;split at e
 ·cases e
 ·rename_i xk S1 e1;split at e
  ·cases e
  ·rename_i t e2;cases e;obtain⟨h1,h2,h3⟩:=Gb (Xg hl) hS e1;refine⟨Ue h1 (Ju (fun a ha=>by obtain⟨x,hx,rfl⟩:=List.mem_map.1 ha;have:=hh x hx;omega) (qE.1 h1).2.1 e2),?_,fun y hy=>?_⟩
   ·rw[h2];unfold ZM;split <;> simp
   ·obtain⟨⟨f,k1,k8,k9⟩,k2,p,hp,k3⟩:=h3 y hy;have:=qiQ (Xg hl p hp);rw[<-k3] at this;obtain⟨a1,a2,a3⟩:=this;exact⟨⟨a1,a2,a3,by rw[k1];omega,by rw[k2];simp⟩,zO,k2⟩
theorem qhl {k:K3} {ps:List Stp} {j:Nat} {up:List It} {S:Sto} {e:Int} (h:jp k (ps.take j) up S=.error e):jp k ps up S=.error e:=by have:ps=ps.take j++ps.drop j:=(List.take_append_drop _ _).symm;rw[this,Vh,h]
theorem UC {W C:World} {U E:Nat} {u v u0 v0:Value} {yJ oL:TypeId} (hU:W.heap[U]?=some (.cells #[u0] yJ (0,0))) (hE:W.heap[E]?=some (.cells #[v0] oL (0,0))) (aG:U≠E) (hC:C=(W.setCell ⟨U,0,none⟩ u).setCell ⟨E,0,none⟩ v):C.heap[U]?=some (.cells #[u] yJ (0,0))/\C.heap[E]?=some (.cells #[v] oL (0,0))/\(∀ k,k≠U->k≠E->C.heap[k]?=W.heap[k]?)/\C.heap.size=W.heap.size/\KeepsOthers W C/\∀ {B:Nat} {w0:World},B<=U->B<=E->Below B w0 W->Below B w0 C:=by
 subst hC;have hs:=fun (A:World) (b j:Nat) (v:Value) (k:Nat) (hk:k≠b)=>zJ A ⟨b,j,none⟩ v k hk;refine⟨?_,?_,fun k h1 h2=>?_,zA2,(KeepsOthers.setCell _ _ _).trans (KeepsOthers.setCell _ _ _),fun h1 h2 h=>Below.setCell (Below.setCell h (p:=⟨U,0,none⟩) h1 _) (p:=⟨E,0,none⟩) h2 _⟩
 ·rw[hs _ _ _ _ _ aG];exact qi hU 0 u
 ·refine qi (t:=oL) (cs:=#[v0]) ?_ 0 v;rw[hs _ _ _ _ _ (fun e=>aG e.symm)];exact hE
 ·rw[hs _ _ _ _ _ h2,hs _ _ _ _ _ h1]
def outTw (lo:Nat) (S:Sto):Qa:=⟨(Nat×Nat)×(Option Addr×Nat)×(Option Addr×Nat),fun p=>Qd (some ⟨p.1.1,0,none⟩) S.bs.length S.bs.length (some ⟨p.1.2,0,none⟩) S.ws.length (S.ws.length+1) p.2.1.1 S.now.length p.2.1.2 p.2.2.1 S.last.length p.2.2.2,fun p W=>QP lo S (Qd (some ⟨p.1.1,0,none⟩) S.bs.length S.bs.length (some ⟨p.1.2,0,none⟩) S.ws.length (S.ws.length+1) p.2.1.1 S.now.length p.2.1.2 p.2.2.1 S.last.length p.2.2.2) W⟩
theorem QD (lo:Nat) (S:Sto) (b c:Nat) (A3:Option Addr) (c3:Nat) (A4:Option Addr) (c4:Nat):(outTw lo S).f ((b,c),(A3,c3),(A4,c4))=Qd (some ⟨b,0,none⟩) S.bs.length S.bs.length (some ⟨c,0,none⟩) S.ws.length (S.ws.length+1) A3 S.now.length c3 A4 S.last.length c4:=rfl
structure PutD (q:Except Int (List It×Sto)) (B0 lo b g UB TB D:Nat) (w W:World):Prop where
 ex:∃ (ups:List It) (S':Sto) (k':Option Nat) (D':Nat->Prop) (Au:Option Addr) (cu:Nat) (au:List (It×Value)),q=.ok (ups,S')/\qm S'=true/\0<ups.length/\au.map (·.1)=ups /\
  W.heap[UB]?=some (.cells #[.slice Au ups.length cu] 47 (0,0))/\W.ownsRow 0 68 5 (.slice Au ups.length cu) ups.length (qY au)/\Bch D' B0 lo b g k' S' W/\∀ y∈ups,(y.r=0\/8<=y.r)/\y.r<256
 r2:W.heap[B0+2]?=some (.cells #[.slice none 0 0,.slice none 0 0,.slice none 0 0,.slice none 0 0] 28 (0,0))
 r3:W.heap[B0+3]?=some (.cells #[.int .i64 0] 3 (0,0))
 r4:W.heap[B0+4]?=some (.cells #[.int .i64 0] 36 (0,0))
 rT:W.heap[TB]?=some (.cells #[.pointer (some ⟨b,0,none⟩)] 80 (0,0))
 hK:W.heap[D]?=some (.deferred (some []))
 below:Below B0 w W
theorem Bch.kept {D:Nat->Prop} {B lo b g:Nat} {k:Option Nat} {S:Sto} {w W:World} (h:Bch D B lo b g k S w) (hB:Below B w W) (hr:∀ q,lo<=q->q<w.heap.size->W.heap[q]?=w.heap[q]?):Bch D B lo b g k S W:=
 h.keep hB fun q hq=>hq.elim (fun h2=>hr q (h.b3 q h2).1 (h.b3 q h2).2) fun h2=>hr q (h.dB q h2).1 (h.dB q h2).2.1
def Yd (S:Sto):Except Int (Nat×Sto):=if qm S=true then Zz S 0 [] else .error 8
def MadeQ (lo:Nat) (q:Except Int (Nat×Sto)) (u:Value) (W:World):Prop:=match q with
 | .error e=>u=.tuple #[Qd none 0 0 none 0 0 none 0 0 none 0 0,.int .i64 0,.int .i64 e]
 | .ok (r,S')=>∃ v,u=.tuple #[v,.int .i64 (r:Int),.int .i64 0]/\QP lo S' v W
theorem kh.nil (X:Nat->Prop) (w:World):kh X w (.slice none 0 0) []:=fun C _=>Its.nil C _
theorem Uf {S S':Sto} {r:Nat} (h:Yd S=.ok (r,S')):qm S=true/\Zz S 0 []=.ok (r,S')/\qm S'=true/\8<=r/\r<256:=by
 unfold Yd at h;split at h
 ·rename_i hS;obtain⟨h1,h2,h3,_⟩:=Ky (fun x hx=>by cases hx) hS h;exact⟨hS,h,h1,h2,h3⟩
 ·cases h
theorem US {R:Ending->World->Prop} {a:Act} {W:World} {b:Nat} {x0 x1 x2 x3 u v:Value} (h4:a.tmps[4]?.getD undef=.pointer (some ⟨b,0,none⟩)) (h5:a.tmps[5]?.getD undef=u) (h6:a.tmps[6]?.getD undef=v) (hd:a.defers=[]) (aF:W.heap[b]?=some (.cells #[x0,x1,x2,x3] 28 (0,0))) (hR:R (.returned (.tuple #[.agg #[x0,x1,x2,x3],u,v])) W):bodyPost prog Tryz.f92 R .ret a W:=by
 refine bodyPost_ret (v:=.tuple #[.agg #[x0,x1,x2,x3],u,v]) ?_ hd hR;have k:=qa aF;simp[results,results92,go_sem,h4,h5,h6,k]
theorem qfY {R:Ending->World->Prop} {a:Act} {W:World} {b:Nat} {x0 x1 x2 x3 u v:Value} (h4:a.tmps[2]?.getD undef=.pointer (some ⟨b,0,none⟩)) (h5:a.tmps[3]?.getD undef=u) (h6:a.tmps[4]?.getD undef=v) (hd:a.defers=[]) (aF:W.heap[b]?=some (.cells #[x0,x1,x2,x3] 28 (0,0))) (hR:R (.returned (.tuple #[.agg #[x0,x1,x2,x3],u,v])) W):bodyPost prog Tryz.f51 R .ret a W:=by
 refine bodyPost_ret (v:=.tuple #[.agg #[x0,x1,x2,x3],u,v]) ?_ hd hR;have k:=qa aF;simp[results,results51,go_sem,h4,h5,h6,k]
set_option maxRecDepth 100000 in
theorem qjE (A1:Option Addr) (n1 c1:Nat) (A2:Option Addr) (n2 c2:Nat) (A3:Option Addr) (n3 c3:Nat) (A4:Option Addr) (n4 c4:Nat) (S:Sto) (w:World) (h:qU w w.heap.size (.slice A1 n1 c1) (.slice A2 n2 c2) (.slice A3 n3 c3) (.slice A4 n4 c4) S):Calls prog 92 #[Qd A1 n1 c1 A2 n2 c2 A3 n3 c3 A4 n4 c4,jE 0 none 0 0] w (Za (MadeQ w.heap.size (Yd S)) w):=by
 have HC:=zH (fun W (hW:Ext w W)=>Jw A1 n1 c1 A2 n2 c2 A3 n3 c3 A4 n4 c4 S W (h.ext hW));have HN:=zH (fun W=>VH 0 none 0 0 [] W (Its.nil W W.heap.size));rw[show Qb 0 []=true from rfl,show JA true=0 from rfl] at HN;have HO:=zH (fun (hS:qm S=true) W (hW:Ext w W)=>qdV A1 n1 c1 A2 n2 c2 A3 n3 c3 A4 n4 c4 S (by have:=(Qc hS).2.2.1;omega) W (h.ext hW));replace h:=zH h;go_enter func92,ntmps92;go_wp2_with fail;generalize aA:World.alloc (World.alloc (World.alloc _ _) _) _=w1;have x1:Ext w w1:=by rw[<-aA];exact((zN _ _).trans (zN _ _)).trans (zN _ _)
 have r1:w1.heap[w.heap.size]?=some (.cells #[.slice A1 n1 c1,.slice A2 n2 c2,.slice A3 n3 c3,.slice A4 n4 c4] 28 (0,0)):=by rw[<-aA];exact(zK _ _ _ zA1).trans ((zK _ _ _ zA2).trans (zI _ _ _ rfl))
 have p1:w1.heap[w.heap.size+1]?=some (.cells #[.int .i64 0,.slice none 0 0] 49 (0,0)):=by rw[<-aA];exact(zK _ _ _ zA2).trans (zI _ _ _ zA2)
 have q1:w1.heap[w.heap.size+1+1]?=some (.cells #[.slice none 0 0,.slice none 0 0,.slice none 0 0,.slice none 0 0] 28 (0,0)):=by rw[<-aA];exact zI _ _ _ zA2
 clear aA;refine(HC.out w1 x1).mono ?_;rintro e w2 ⟨rfl,hB⟩;have x2:Ext w w2:=x1.trans hB;have r2:=qb r1 hB;have p2:=qb p1 hB;have q2:=qb q1 hB;have kp:=qa p2;have kq:=qa q2;have fq:=qe q2;have zq2:w.heap.size+1+1<w2.heap.size:=(zG.1 q2).1;clear r1 p1 q1 x1 hB HC;rcases hS:qm S with _|_
 ·have hq:=zH (show Yd S=.error 8 by unfold Yd;rw[hS];rfl);rw[Jp rfl];replace hS:=zH hS;go_wp2_with fail;exact US (b:=w.heap.size+2) rfl rfl rfl rfl (Vm q2 _ _ _ _) ⟨_,rfl,by rw[hq.out];rfl,Zf x2 zO _ _ _ _⟩
 ·have hq:=zH (show Yd S=Zz S 0 [] by unfold Yd;rw[if_pos hS]);rw[JM rfl];have HOS:=zH (HO.out hS);replace hS:=zH hS;clear HO;go_wp2_with fail;refine(HN.out w2).mono ?_;rintro e w3 ⟨rfl,hB⟩;have x3:Ext w w3:=x2.trans hB;have r3:=qb r2 hB;have p3:=qb p2 hB;have q3:=qb q2 hB;have kr:=qa r3;clear r2 p2 q2 x2 hB HN kp kq fq zq2;go_wp2_with fail;refine(HOS.out w3 x3).mono ?_;rintro e w4 ⟨u,rfl,⟨b,P3,d3,rfl,aP,aF,aB⟩,hB⟩;have bV:Ext w3 w4:=hB;have x4:Ext w w4:=x3.trans bV;have p4:=qb p3 bV;have q4:=qb q3 bV;have kp:=qa p4;have z3:=x3.size;obtain⟨g,iC⟩:=Bch.of_on (B:=w.heap.size) z3 hS.out (h.out.below x4) aP aF aB;have HM:=zH (qcF (fun _=>False) w.heap.size w3.heap.size b g none S 0 none 0 0 [] (fun x hx=>by cases hx) (Qc hS.out).2.1 w4 iC (kh.nil _ _));replace iC:=zH iC;clear hB aF aB r3 p3 q3 kr HOS;go_wp2_with fail;refine HM.out.mono ?_;clear HM;rintro e w5 ⟨dX,aT⟩;have nB:∀ {q cs ty fr},w4.heap[q]?=some (.cells cs ty fr)->ty≠191->ty≠5->ty≠130->¬B3 b g none q:=fun hr h1 h2 h3=>iC.out.notB3 hr h1 h2 h3;have q5:=dX.row q4 (nB q4 zD zD zD);have x5:Below w.heap.size w w5:=Below.trans (B:=w.heap.size) x4 (Below.mono dX.below z3);have kq:=qa q5;have fq:=qe q5;have zq5:w.heap.size+1+1<w5.heap.size:=(zG.1 q5).1;clear nB dX kp p4 q4;rcases hmx:Zz S 0 [] with er|⟨f,S'⟩
  ·rw[hmx] at aT;obtain rfl:=aT;have hne0:(er != 0)=true:=by rw[bne_iff_ne];exact Xu hmx
   replace hmx:=zH hmx;go_wp2_with fail;exact US (b:=w.heap.size+2) rfl rfl rfl rfl (Vm q5 _ _ _ _) ⟨_,rfl,by rw[hq.out,hmx.out];rfl,Zf x5 zO _ _ _ _⟩
  ·rw[hmx] at aT;obtain⟨rfl,k',D',hNk,hND,bz⟩:=aT;have fK:Gu S':=zu (Ky (fun x hx=>by cases hx) hS.out hmx).1;obtain⟨E1,m1,e1,E2,m2,e2,e3,E4,e4,hrb,hsb⟩:=bz.sto;have HT:=zH (KJ b E1 m1 e1 E2 m2 e2 (some ⟨g,0,none⟩) 256 e3 E4 256 e4 S' fK w5 hrb hsb);replace hmx:=zH hmx;clear bz hrb hsb fK kq fq hNk hND;go_wp2_with fail;refine HT.out.mono ?_;rintro e w6 ⟨u,rfl,hT,hB⟩;have dC:Ext w5 w6:=hB;have x6:Below w.heap.size w w6:=x5.trans (Below.mono dC x5.size);have q6:=qb q5 dC;have kq:=qa q6;have fq:=qe q6;obtain⟨BB,WW,gg,B3,tY,B4,d4,rfl,-⟩:=id hT;replace hT:=zH hT;clear HT hB q5;go_wp2_with fail;refine US (b:=w.heap.size+2) rfl rfl rfl rfl (Vm q6 _ _ _ _) ⟨_,rfl,?_,Zf x6 zO _ _ _ _⟩;rw[hq.out,hmx.out];exact⟨_,rfl,QP.set4 hT.out zO zO _ _ _ _⟩
set_option maxRecDepth 100000 in
theorem pnew_any (A1:Option Addr) (n1 c1:Nat) (A2:Option Addr) (n2 c2:Nat) (A3:Option Addr) (n3 c3:Nat) (A4:Option Addr) (n4 c4:Nat) (S:Sto) (w:World) (h:qU w w.heap.size (.slice A1 n1 c1) (.slice A2 n2 c2) (.slice A3 n3 c3) (.slice A4 n4 c4) S):Calls prog 51 #[Qd A1 n1 c1 A2 n2 c2 A3 n3 c3 A4 n4 c4] w (Za (MadeQ w.heap.size (Yd S)) w):=by
 have HM:=zH (fun W (hW:Ext w W)=>qjE A1 n1 c1 A2 n2 c2 A3 n3 c3 A4 n4 c4 S W (h.ext hW));clear h;go_enter func51,ntmps51;go_wp2_with fail;generalize aA:World.alloc (World.alloc _ _) _=w1;have x1:Ext w w1:=by rw[<-aA];exact(zN _ _).trans (zN _ _)
 have q1:w1.heap[w.heap.size+1]?=some (.cells #[.slice none 0 0,.slice none 0 0,.slice none 0 0,.slice none 0 0] 28 (0,0)):=by rw[<-aA];exact zI _ _ _ zA2
 clear aA;refine(HM.out w1 x1).mono ?_;clear HM;rintro e w6 ⟨u,rfl,hu,hB⟩;have dC:Ext w1 w6:=hB;have x6:Below w.heap.size w w6:=x1.trans dC;have q6:=qb q1 dC;have kq:=qa q6;have fq:=qe q6;have z1:=(zG.1 q1).1;rcases hq:Yd S with er|⟨r,S'⟩
 ·rw[hq] at hu;obtain rfl:u=_:=hu;replace hq:=zH hq;clear hB q1;go_wp2_with fail;exact qfY (b:=w.heap.size+1) rfl rfl rfl rfl (Vm q6 _ _ _ _) ⟨_,rfl,by rw[hq.out];rfl,Zf x6 zO _ _ _ _⟩
 ·rw[hq] at hu;obtain⟨v,rfl,hT⟩:=hu;obtain⟨BB,WW,gg,B3,tY,B4,d4,rfl,-⟩:=id hT;replace hT:=zH hT;replace hq:=zH hq;clear hB q1;go_wp2_with fail;refine qfY (b:=w.heap.size+1) rfl rfl rfl rfl (Vm q6 _ _ _ _) ⟨_,rfl,?_,Zf x6 zO _ _ _ _⟩;rw[hq.out];exact⟨_,rfl,QP.set4 hT.out zO zO _ _ _ _⟩
theorem qkA (S:Sto) (a:Nat) (data:List UInt8):Jb (vc S a data) a=data:=by
 have h:jk (S.ws++[((a:Int),data)]) (a:Int)=some data:=by unfold jk;rw[List.reverse_append,List.reverse_singleton,List.singleton_append,List.find?_cons];simp
 unfold Jb vc;simp only;rw[h]
theorem qfQ {S:Sto} {a:Nat} (ha:a<S.now.length) (data:List UInt8):qu (vc S a data) a=QL data:=by
 unfold qu;rw[qkA];have:(vc S a data).now[a]?=some 1:=by show (S.now.set a 1)[a]?=some 1;rw[List.getElem?_set_self ha]
 rw[this];rfl
theorem qhb:QL (Zh (Qq 0 []))=some (0,[]):=by decide +kernel
theorem new_node {S S':Sto} {r:Nat} (h:Yd S=.ok (r,S')):qu S' r=some (0,[]):=by obtain⟨hS,hm,_,h8,h256⟩:=Uf h;obtain⟨t,_,_,_,_,_,_,rfl,ht⟩:=qbg hS hm;rw[qfQ (by show r<t.length;rw[Tz ht];exact h256),qhb]
theorem new_tree {S S':Sto} {r:Nat} (h:Yd S=.ok (r,S')):okL S' (-1) (r:Int)=true:=by obtain⟨_,_,_,h8,h256⟩:=Uf h;unfold okL;rw[if_pos zO,Int.toNat_natCast,new_node h];rfl
theorem GT (k:Nat):∀ n,n<256 ^ k->JF (qB n k)=n:=by
 induction k with
 |zero=>intro n h;simp at h;subst h;rfl
 |succ k ih =>
  intro n h;simp only[qB,JF];rw[ih (n / 256) (by rw[Nat.div_lt_iff_lt_mul zO];rw[Nat.pow_succ] at h;exact h)];simp[UInt8.toNat_ofNat'];omega
theorem Gr {n:Nat} (h:n<256):(UInt8.ofNat n).toNat=n:=by simp[UInt8.toNat_ofNat'];omega
theorem Xd {l A r:List UInt8} {a k n:Nat} (h:l.drop a=A++r) (hA:A=qB n k) (hn:n<256 ^ k) (hl:a+k<=l.length):Zk l a k=(n:Int):=by unfold Zk;rw[if_pos hl,h,List.take_left' (by rw[hA,Qy]),hA,GT k n hn]
theorem Vr {l A r:List UInt8} {a k:Nat} (h:l.drop a=A++r) (hk:A.length=k):l.drop (a+k)=r:=by rw[<-List.drop_drop,h,List.drop_left' hk]
theorem item_rt {x:It} (h:Zm x) (hb:itB x.r x.val.length=true) (r:List UInt8):zX (Zp x++r)=some (x,12+x.val.length):=by
 obtain⟨⟨k0,k1⟩,⟨i0,i1⟩,⟨o0,o1⟩,⟨r0,r1⟩,hv⟩:=h;obtain⟨k,i,o,rr,v⟩:=x;obtain⟨k,rfl⟩:=Int.eq_ofNat_of_zero_le k0;obtain⟨i,rfl⟩:=Int.eq_ofNat_of_zero_le i0;obtain⟨o,rfl⟩:=Int.eq_ofNat_of_zero_le o0;obtain⟨rr,rfl⟩:=Int.eq_ofNat_of_zero_le r0;simp only at k1 i1 o1 r1 hv hb ⊢;have hlen:(Zp ⟨(k:Int),(i:Int),(o:Int),(rr:Int),v⟩++r).length=12+v.length+r.length:=by rw[List.length_append,YV]
 have d1:(Zp ⟨(k:Int),(i:Int),(o:Int),(rr:Int),v⟩++r).drop 1=qB i 4++(qB o 4++(qB rr 2++(UInt8.ofNat v.length :: (v++r)))):=by simp[Zp,List.append_assoc]
 have e0:(Zp ⟨(k:Int),(i:Int),(o:Int),(rr:Int),v⟩++r)[0]?.getD 0=UInt8.ofNat k:=by simp[Zp]
 generalize Zp ⟨(k:Int),(i:Int),(o:Int),(rr:Int),v⟩++r=l at *;have d5:l.drop 5=_:=Vr (k:=4) d1 (Qy _ _);have d9:l.drop 9=_:=Vr (k:=4) d5 (Qy _ _);have d11:l.drop 11=_:=Vr (k:=2) d9 (Qy _ _);have d12:l.drop 12=v++r:=by rw[show 12=11+1 from rfl,<-List.drop_drop,d11];rfl
 have e11:l[11]?.getD 0=UInt8.ofNat v.length:=by
  have:l[11]?=(l.drop 11)[0]?:=by rw[List.getElem?_drop]
  rw[this,d11];rfl
 have hsz:vp l=12+v.length:=by unfold vp;rw[e11,Gr zO]
 have hit:qal l=⟨(k:Int),(i:Int),(o:Int),(rr:Int),v⟩:=by unfold qal;rw[e0,Gr zO,Xd d1 rfl zO zO,Xd d5 rfl zO zO,Xd d9 rfl zO zO,d12,hsz,List.take_left' zO]
 unfold zX;rw[hit,hsz,if_neg zO];simp only[Nat.add_sub_cancel_left];rw[if_pos hb]
theorem its_rt {xs:List It} (h:∀ x∈xs,Zm x/\itB x.r x.val.length=true) (r:List UInt8):∀ k,k<=xs.length->QU (QS xs++r) k=some (xs.take k,QS (xs.drop k)++r)
 |0,_=>by simp[QU]
 |k+1,hk=>by
  have hk':k<xs.length:=zO;have hx:=h xs[k] (List.getElem_mem hk');have e:QS (xs.drop k)=Zp xs[k]++QS (xs.drop (k+1)):=by
   conv=>lhs;rw[List.drop_eq_getElem_cons hk']
   unfold QS;rw[List.flatMap_cons]
  have hr:zX (QS (xs.drop k)++r)=some (xs[k],12+xs[k].val.length):=by rw[e,List.append_assoc];exact item_rt hx.1 hx.2 _
  rw[TS (its_rt h r k zO) hr,List.take_succ_eq_append_getElem hk',e,List.append_assoc,List.drop_left' (YV _)]
theorem node_rt {lvl:Int} {xs:List It} (hm:Qb lvl xs=true) (hok:∀ x∈xs,Zm x):QL (Zh (Qq lvl xs))=some (lvl,xs):=by
 obtain⟨h0,h6,h5,hit⟩:=jx hm;obtain⟨L,rfl⟩:=Int.eq_ofNat_of_zero_le h0;have nO:(Qq (L:Int) xs).length<=124:=by have:=KY xs hok;unfold Qq;simp only[List.length_cons];omega
 have hlen:(Zh (Qq (L:Int) xs)).length=128:=vl nO;have d0:(Zh (Qq (L:Int) xs)).drop 0=qB (crc (Kf 124 (Qq (L:Int) xs))) 4++Kf 124 (Qq (L:Int) xs):=by simp[Zh]
 have d4:(Zh (Qq (L:Int) xs)).drop 4=Kf 124 (Qq (L:Int) xs):=by have:=Vr (k:=4) d0 (Qy _ _);simpa using this
 have ht4:(Zh (Qq (L:Int) xs)).take 4=qB (crc (Kf 124 (Qq (L:Int) xs))) 4:=by unfold Zh;exact List.take_left' (Qy _ _)
 have uo:GZ (Zh (Qq (L:Int) xs))=true:=by unfold GZ;rw[ht4,d4,GT 4 _ (by have:=qgV (Kf 124 (Qq (L:Int) xs));omega)];simp
 obtain⟨z,hz,hzz⟩:∃ z,Kf 124 (Qq (L:Int) xs)=78 :: UInt8.ofNat L :: UInt8.ofNat xs.length :: (QS xs++z)/\VZ z=true:=⟨List.replicate (124-(Qq (L:Int) xs).length) 0,by simp[Kf,Qq],by simp[VZ]⟩
 rw[hz] at d4;have g:∀ j:Nat,(Zh (Qq (L:Int) xs))[4+j]?=(78 :: UInt8.ofNat L :: UInt8.ofNat xs.length :: (QS xs++z))[j]?:=fun j=>by rw[<-d4,List.getElem?_drop]
 have g4:=g 0;have g5:=g 1;have g6:=g 2;have d7:(Zh (Qq (L:Int) xs)).drop 7=QS xs++z:=by rw[show 7=4+3 from rfl,<-List.drop_drop,d4];rfl
 simp only[Nat.add_zero,Nat.reduceAdd,List.getElem?_cons_zero,List.getElem?_cons_succ] at g4 g5 g6;rw[GS hlen uo,g4,g5,g6,d7];simp only[Option.getD_some];rw[Gr (show L<256 by omega),Gr (show xs.length<256 by omega)];have hr:=its_rt (fun x hx=>⟨hok x hx,hit x hx⟩) z xs.length (zM _);rw[List.take_length,List.drop_length] at hr;have e78:(78:UInt8).toNat=78:=rfl;rw[e78,GR h5 hr,if_pos ⟨hm,by simpa [QS] using hzz⟩]
theorem SM.trans {S1 S2 S3:Sto} (h:SM S1 S2) (h':SM S2 S3):SM S1 S3:=⟨fun r nd e=>h'.node r nd (h.node r nd e),fun r e=>h'.pos r (h.pos r e)⟩
theorem qdG (t:List UInt8) {a:Nat} (ha:a<t.length) (v:UInt8) (b:Nat):qZ (t.set a v) b=if b=a then v.toNat else qZ t b:=by
 unfold qZ;by_cases h:b=a
 ·subst h;rw[if_pos rfl,List.getElem?_set_self ha];rfl
 ·rw[if_neg h,List.getElem?_set_ne (Ne.symm h)]
theorem cnt_lt {t:List UInt8} {a:Nat} (h:qZ t a≠0):a<t.length:=by apply Classical.byContradiction;intro hn;exact h (by unfold qZ;rw[List.getElem?_eq_none zO];rfl)
theorem cnt_u8 (t:List UInt8) (a:Nat):qZ t a<256:=UInt8.toNat_lt _
theorem qbH:∀ {l:List Nat} {t t':List UInt8},ZC l t=.ok t'->∀ b,b≠0->qZ t' b=qZ t b+l.count b
 | [],t,t',h,b,_=>by simp only[ZC] at h;cases h;simp
 |a :: r,t,t',h,b,hb=>by
  simp only[ZC] at h;split at h
  ·cases h
  ·rename_i t1 h1;rw[qbH h b hb,List.count_cons];unfold JR at h1;split at h1
   ·rename_i h0;cases h1;rw[if_neg zA1];omega
   ·split at h1
    ·cases h1
    ·split at h1
     ·cases h1
     ·rename_i h2 h3;cases h1;have hu:=cnt_u8 t a;unfold jo;rw[qdG t (cnt_lt h2),Gr zO];by_cases e:b=a
      ·subst e;simp;omega
      ·rw[if_neg e,if_neg zA1];omega
theorem Tr:∀ {l:List Nat} {t t':List UInt8},QJ l t=.ok t'->∀ b,b≠0->qZ t' b+l.count b=qZ t b
 | [],t,t',h,b,_=>by simp only[QJ] at h;cases h;simp
 |a :: r,t,t',h,b,hb=>by
  simp only[QJ] at h;rw[List.count_cons];split at h
  ·rename_i h0;rw[if_neg zA1];exact Tr h b hb
  ·split at h
   ·cases h
   ·rename_i h0 h2;have:=Tr h b hb;have hu:=cnt_u8 t a;unfold kZ at this;rw[qdG t (cnt_lt h2),Gr zO] at this;by_cases e:b=a
    ·subst e;rw[if_pos rfl] at this;simp;omega
    ·rw[if_neg e] at this;rw[if_neg zA1];omega
theorem now0 {S:Sto} (hS:qm S=true):qZ S.now 0=0:=qaa (qE.1 hS).2.1
theorem span_nil {S:Sto} {h:Nat} {xs:List It} (e:qD S h xs=some none):xs=[]:=by
 rcases UD xs with rfl|⟨r,y,rfl⟩
 ·rfl
 ·exfalso;rw[VQ] at e;obtain⟨_,_,⟨_,e2⟩|⟨_,_,_,_,e2⟩⟩:=XB e <;> cases e2
theorem qkc {S S':Sto} {h f:Nat} {p:List It} (hS:qm S=true) (lH:∀ x∈p,Zm x) (aN:(qD S h p).isSome=true) (e:Zz S (h:Int) p=.ok (f,S')):SM S S'/\qm S'=true/\(∀ b,b≠0->qZ S.now b+(qT p).count b<=qZ S'.now b)/\qu S' f=some ((h:Int),p)/\8<=f/\f<256:=by
 obtain⟨t,hm,ht,hw,h8,hf,y9,rfl,htm⟩:=qbg hS e;have hmay:=(Ky lH hS e).1;have hl:=Tz htm;have hc:=qbH ht;have h0:qZ t f=0:=by unfold ZV at y9;simp only[Bool.and_eq_true,decide_eq_true_eq] at y9;exact y9.2.1
 have s1:SM S (qy S t):=qie fun r hr=>by
  by_cases hr0:r=0
  ·subst hr0;have:=now0 hS;unfold qZ at this;omega
  ·have:=hc r hr0;unfold qZ at this;omega
 have s2:SM (qy S t) (vc (qy S t) f (Zh (Qq (h:Int) p))):=sm_put _ h0 (by show f<t.length;omega);refine⟨s1.trans s2,hmay,fun b hb=>?_,?_,h8,hf⟩
 ·show _<=qZ (t.set f 1) b;rw[qdG t zO];have:=hc b hb;split
  ·rename_i e;subst e;have e1:(1:UInt8).toNat=1:=rfl;omega
  ·omega
 ·rw[qfQ (show f<t.length by omega)];exact node_rt hm lH
theorem made_one {S:Sto} {h f:Nat} {p:List It} (hn:qu S f=some ((h:Int),p)) (h8:8<=f) (hf:f<256) (aN:(qD S h p).isSome=true) (aG:p≠[]):(∃ l,jr S (h+1) (qan (kj p) f)=some (qo (qan (kj p) f),l))/\qC S (h+1) [qan (kj p) f]=qC S h p:=by
 have hr:(qan (kj p) f).r=(f:Int):=rfl;have hk:qo (qan (kj p) f)=kj p:=rfl;constructor
 ·rcases hq:qD S h p with _|_|⟨f0,l0⟩
  ·rw[hq] at aN;cases aN
  ·exact absurd (span_nil hq) aG
  ·refine⟨l0,?_⟩;have hf0:f0=kj p:=by
    obtain⟨x,r,rfl⟩:∃ x r,p=x :: r:=by
     cases p with
     |nil=>exact absurd rfl aG
     |cons x r=>exact⟨x,r,rfl⟩
    obtain⟨⟨a,r1,e1,ha⟩,-⟩:=qdq hq;obtain⟨l,ho⟩:=(ju.1 aN).1 x List.mem_cons_self;obtain⟨⟨a2,r2,e2,aj⟩,-⟩:=Uk S h x _ _ ho;have:qC S h (x :: r)=qC S h [x]++qC S h r:=Qt h [x] r;rw[this,e2,List.cons_append,List.cons.injEq] at e1;rw[<-ha,<-e1.1,aj];rfl
   rw[Vv,hr,hk];unfold Va;rw[if_pos zO];simp only[Int.toNat_natCast,hn,if_true,hq,Option.getD_some,hf0]
 ·simp only[qC,List.flatMap_cons,List.flatMap_nil,List.append_nil,hr,Int.toNat_natCast,hn]
theorem SM.each {S S':Sto} (hm:SM S S') {h:Nat} {xs:List It} (e:kQ S h xs):kQ S' h xs:=fun y hy=>by obtain⟨l,ho⟩:=e y hy;exact⟨l,hm.one h y _ ho⟩
theorem GC {S:Sto} {h:Nat} {xs ys:List It} (h1:kQ S h xs) (h2:kQ S h ys):kQ S h (xs++ys):=fun y hy=>(List.mem_append.1 hy).elim (h1 y) (h2 y)
theorem qbf {h:Nat}:∀ {ps:List (List It)} {S S':Sto} {up:List It},(∀ p∈ps,p≠[]/\(∀ x∈p,Zm x)/\(qD S h p).isSome=true)->qm S=true->jf (h:Int) ps S=.ok (up,S') ->
  SM S S'/\qm S'=true/\(∀ b,b≠0->qZ S.now b+(qT ps.flatten).count b<=qZ S'.now b)/\kQ S' (h+1) up/\qC S' (h+1) up=qC S h ps.flatten
 | [],S,S',up,_,hS,e=>by cases e;exact⟨⟨fun _ _ e=>e,fun _ e=>e⟩,hS,fun b _=>by simp[qT],fun y hy=>(List.not_mem_nil hy).elim,by simp[JB]⟩
 |p :: ps,S,S',up,hp,hS,e=>by
  simp only[jf] at e;split at e
  ·cases e
  ·rename_i f S1 e1;obtain⟨aG,lH,aN⟩:=hp p List.mem_cons_self;obtain⟨m1,xx,dV,oD,h8,hf⟩:=qkc hS lH aN e1;split at e
   ·cases e
   ·rename_i xk S2 e2;cases e;obtain⟨m2,hS2,bP,fJ,hi2⟩:=qbf (fun q hq=>⟨(hp q (List.mem_cons_of_mem _ hq)).1,(hp q (List.mem_cons_of_mem _ hq)).2.1,m1.spanOk (hp q (List.mem_cons_of_mem _ hq)).2.2⟩) xx e2;have hsp2:=m2.spanOk (m1.spanOk aN);obtain⟨ho,hi⟩:=made_one (m2.node _ _ oD) h8 hf hsp2 aG;refine⟨m1.trans m2,hS2,fun b hb=>?_,?_,?_⟩
    ·have:=dV b hb;have:=bP b hb;simp only[List.flatten_cons,qT,List.map_append,List.count_append] at *;omega
    ·intro y hy;rcases List.mem_cons.1 hy with rfl|hy
     ·exact ho
     ·exact fJ y hy
    ·have e3:qan (kj p) f :: xk=[qan (kj p) f]++xk:=rfl;rw[e3,Qt,hi,hi2,List.flatten_cons,Qt,(m1.trans m2).items h p aN];congr 1;have:∀ qs:List (List It),(∀ q∈qs,(qD S h q).isSome=true)->qC S1 h qs.flatten=qC S h qs.flatten:=fun qs=>by
      induction qs with
      |nil=>intro _;simp[JB]
      |cons q qs ih =>
       intro hq;rw[List.flatten_cons,Qt,Qt,m1.items h q (hq q List.mem_cons_self),ih fun q' lX=>hq q' (List.mem_cons_of_mem _ lX)]
     exact this ps fun q hq=>(hp q (List.mem_cons_of_mem _ hq)).2.2
theorem each_pos {S:Sto} {h:Nat} {xs:List It} (e:kQ S h xs) {x:It} (hx:x∈xs) (h0:x.r.toNat≠0):0<qZ S.now x.r.toNat:=by
 obtain⟨l,ho⟩:=e x hx;cases h with
 |zero =>
  unfold jr at ho;split at ho
  ·rename_i hc;rcases hc with hc|hc
   ·rw[hc] at h0;exact absurd rfl h0
   ·exact hc
  ·cases ho
 |succ h =>
  unfold jr at ho;split at ho
  ·split at ho
   ·cases ho
   ·rename_i hn;unfold qu at hn;split at hn
    ·cases hn
    ·rename_i hc;unfold qZ;omega
  ·cases ho
theorem qhN (l:List It):(ZM l).flatten=l:=by unfold ZM;split <;> simp
theorem UF {S:Sto} {h:Nat} {xs ys zs:List It} (e:(qD S h (xs++ys++zs)).isSome=true):(qD S h ys).isSome=true:=by obtain⟨h1,h2⟩:=ju.1 e;rw[Qt,Qt] at h2;exact ju.2 ⟨fun y hy=>h1 y (by simp[hy]),(List.pairwise_append.1 (List.pairwise_append.1 h2).1).2.1⟩
theorem Ti {S S':Sto} {h:Nat} {l held up:List It} (hS:qm S=true) (hl:∀ x∈l,Zm x) (hh:∀ x∈held,itB x.r x.val.length=true) (hsub:∀ b,b≠0->(qT held).count b<=(qT l).count b) (aG:l≠[]) (aN:(qD S h l).isSome=true) (e:QW S (h:Int) l held=.ok (up,S')):SM S S'/\qm S'=true/\(qD S' (h+1) up).isSome=true/\qC S' (h+1) up=qC S h l/\up≠[]:=by
 have hmay:=KM hl hh hS e;unfold QW at e;split at e
 ·cases e
 ·rename_i xk S1 e1;split at e
  ·cases e
  ·rename_i t e2;cases e;have hp:∀ p∈ZM l,p≠[]/\(∀ x∈p,Zm x)/\(qD S h p).isSome=true:=fun p hp=>by
    refine⟨?_,Xg hl p hp,?_⟩
    ·intro hn;subst hn;unfold ZM at hp;split at hp
     ·rename_i h5;simp only[List.mem_cons,List.not_mem_nil,or_false] at hp;rcases hp with hp|hp
      ·have:=congrArg List.length hp;simp at this;omega
      ·have:=congrArg List.length hp;simp at this;omega
     ·simp only[List.mem_cons,List.not_mem_nil,or_false] at hp;exact aG hp.symm
    ·unfold ZM at hp;split at hp
     ·simp only[List.mem_cons,List.not_mem_nil,or_false] at hp;rcases hp with rfl|rfl
      ·exact UF (xs:=[]) (zs:=l.drop 3) (by simpa using aN)
      ·exact UF (xs:=l.take 3) (zs:=[]) (by simpa using aN)
     ·simp only[List.mem_cons,List.not_mem_nil,or_false] at hp;subst hp;exact aN
   obtain⟨m1,xx,hc,he,hi⟩:=qbf hp hS e1;rw[qhN] at hc hi;have hlc:=Tr e2;have m2:SM S1 (qy S1 t):=qie fun r hr=>by
    show 0<qZ t r;have nM:0<qZ S1.now r:=hr;by_cases hr0:r=0
    ·subst hr0;have:=now0 xx;omega
    ·have h1:=hc r hr0;have h2:=hlc r hr0;have h3:=hsub r hr0;by_cases hz:(qT l).count r=0
     ·omega
     ·obtain⟨x,hx,oJ⟩:∃ x∈l,x.r.toNat=r:=by have:=List.count_pos_iff.1 (Nat.pos_of_ne_zero hz);unfold qT at this;simpa using this
      have:=each_pos (ju.1 aN).1 hx zO;rw[oJ] at this;omega
   have ry:(qC S1 (h+1) up).Pairwise (fun a b=>qM (qo a) (qo b)=true):=by rw[hi];exact(ju.1 aN).2
   have hs1:(qD S1 (h+1) up).isSome=true:=ju.2 ⟨he,ry⟩;refine⟨m1.trans m2,hmay.1,m2.spanOk hs1,?_,?_⟩
   ·rw[m2.items (h+1) up hs1,hi]
   ·intro hn;have h2:=hmay.2.1;rw[hn] at h2;unfold ZM at h2;split at h2 <;> simp at h2
def UpOk (y:It):Prop:=Zm y/\(y.r=0\/8<=y.r)/\y.r<256
theorem replL_ok {ys up:List It} {p m:Nat} (h1:∀ y∈ys,Zm y) (h2:∀ y∈up,Zm y):∀ y∈VL ys p m up,Zm y:=fun y hy=>by
 unfold VL at hy;rcases List.mem_append.1 hy with hy|hy
 ·rcases List.mem_append.1 hy with hy|hy
  ·exact h1 y (List.mem_of_mem_take hy)
  ·exact h2 y hy
 ·exact h1 y (List.mem_of_mem_drop hy)
theorem qcO {k:K3}:∀ {ps:List Stp} {up up':List It} {S S':Sto},(∀ s∈ps,qeJ k s)->(∀ y∈up,UpOk y)->qm S=true->jp k ps up S=.ok (up',S')->qm S'=true/\(∀ y∈up',UpOk y)/\(ps≠[]->0<up'.length/\up'.length<=2/\∀ y∈up',8<=y.r/\y.val=[])
 | [],up,up',S,S',_,hu,hS,e=>by cases e;exact⟨hS,hu,fun h=>absurd rfl h⟩
 |(lvl,xs,p) :: ps,up,up',S,S',hw,hu,hS,e=>by
  have hw0:=hw _ List.mem_cons_self;simp only[jp] at e;split at e
  ·cases e
  ·rename_i xk S1 e1;obtain⟨h1,h2,h3⟩:=KL (replL_ok (fun y hy=>(hw0.its y hy).1) fun y hy=>(hu y hy).1) (fun y hy=>(hu y hy).2) hS e1;have hu1:∀ y∈xk,UpOk y:=fun y hy=>⟨(h3 y hy).1,.inr (h3 y hy).2.1.1,(h3 y hy).2.1.2⟩
   obtain⟨g1,g2,g3⟩:=qcO (fun s hs=>hw s (List.mem_cons_of_mem _ hs)) hu1 h1 e;refine⟨g1,g2,fun _=>?_⟩;by_cases hp:ps=[]
   ·subst hp;cases e;exact⟨h2.1,h2.2,fun y hy=>⟨(h3 y hy).2.1.1,(h3 y hy).2.2⟩⟩
   ·exact g3 hp
theorem askP_up {S:Sto} {x:It} (hx:Zm x) (h:Td S x=0):UpOk x:=by
 unfold Td at h;split at h
 ·rename_i h1;unfold itB at h1;simp only[decide_eq_true_eq] at h1;have:=hx.2.2.2.1;exact⟨hx,zO,zO⟩
 ·cases h
theorem preX_may {S S2:Sto} {lvl a:Nat} {xs up:List It} {x:It} (hS:qm S=true) (hn:qu S a=some ((lvl:Int),xs)) (aN:(qD S lvl xs).isSome=true) (hx:UpOk x) (e:Gg S lvl xs x=.ok (up,S2)):qm S2=true/\0<up.length/\∀ y∈up,UpOk y/\8<=y.r:=by
 have hwl:=qaG (k:=qo x) lvl (qN hn).1 aN;unfold Gg at e;split at e
 ·cases e
 ·split at e
  ·cases e
  ·rename_i xk S1 e1;obtain⟨h1,h2,h3⟩:=qcO (fun s hs=>qiq lvl hn aN s (List.mem_reverse.1 hs)) (fun y hy=>by rw[List.mem_singleton.1 hy];exact hx) hS e1;obtain⟨h4,h5,h6⟩:=h3 (fun e=>by have:=congrArg List.length e;simp[hwl] at this);split at e
   ·obtain⟨k1,k2,k3⟩:=KL (fun y hy=>(h2 y hy).1) (fun y hy=>(h2 y hy).2) h1 e;exact⟨k1,k2.1,fun y hy=>⟨⟨(k3 y hy).1,.inr (k3 y hy).2.1.1,(k3 y hy).2.1.2⟩,(k3 y hy).2.1.1⟩⟩
   ·cases e;exact⟨h1,h4,fun y hy=>⟨h2 y hy,(h6 y hy).1⟩⟩
theorem qgd {S S':Sto} {lvl a r:Nat} {xs:List It} {x:It} (hS:qm S=true) (ha:8<=a) (hn:qu S a=some ((lvl:Int),xs)) (aN:(qD S lvl xs).isSome=true) (hx:Zm x) (e:Tx S lvl xs a x=.ok (r,S')):qm S'=true/\8<=r/\r<256:=by
 unfold Tx at e;split at e
 ·rename_i h0;rw[qek] at e;split at e
  ·cases e
  ·rename_i up S2 e2;obtain⟨h1,h2,h3⟩:=preX_may hS hn aN (askP_up hx h0) e2;split at e
   ·cases e
   ·rename_i t ht;simp only[Except.ok.injEq,Prod.mk.injEq] at e;obtain⟨rfl,rfl⟩:=e;obtain⟨y,ys,rfl⟩:∃ y ys,up=y :: ys:=by
     cases up with
     |nil=>simp at h2
     |cons y ys=>exact⟨y,ys,rfl⟩
    obtain⟨h4,h5⟩:=h3 y List.mem_cons_self;have h6:=h4.2.2;exact⟨Ue h1 (Ya ha (qE.1 h1).2.1 ht),by simp only[Yk];omega,by simp only[Yk];omega⟩
 ·cases e
theorem qcN {k:K3}:∀ {ps:List Stp} {up:List It} {S:Sto} {e:Int},jp k ps up S=.error e->e≠0
 | [],up,S,e,h=>by cases h
 |(lvl,xs,p) :: ps,up,S,e,h=>by
  simp only[jp] at h;split at h
  ·rename_i e1 h1;cases h;exact KK h1
  ·exact qcN h
theorem preX_err {S:Sto} {lvl:Nat} {xs:List It} {x:It} {e:Int} (h:Gg S lvl xs x=.error e):e≠0:=by
 unfold Gg at h;split at h
 ·cases h;decide
 ·split at h
  ·rename_i e1 h1;cases h;exact qcN h1
  ·split at h
   ·exact KK h
   ·cases h
theorem qgc {S:Sto} {lvl a:Nat} {xs:List It} {x:It} {e:Int} (h:Tx S lvl xs a x=.error e):e≠0:=by
 unfold Tx at h;split at h
 ·rw[qek] at h;split at h
  ·rename_i e1 h1;cases h;exact preX_err h1
  ·split at h
   ·cases h;decide
   ·cases h
 ·rename_i h0;cases h;exact h0
def YA (k:K3) (x:It) (l:List It):List It:=(l.filter fun y=>qM (qo y) k)++[x]++l.filter fun y=>qM k (qo y)
abbrev Ord (l:List It):Prop:=l.Pairwise fun a b=>qM (qo a) (qo b)=true
theorem Kw (k:K3):qM k k=false:=Yb k
theorem qiO {x:It} {l:List It} (h:Ord l):Ord (YA (qo x) x l):=by
 unfold YA;refine List.pairwise_append.2 ⟨List.pairwise_append.2 ⟨h.sublist List.filter_sublist,List.pairwise_singleton _ _,fun a ha b hb=>?_⟩,h.sublist List.filter_sublist,fun a ha b hb=>?_⟩
 ·rw[List.mem_singleton.1 hb];exact(List.mem_filter.1 ha).2
 ·have h2:=(List.mem_filter.1 hb).2;rcases List.mem_append.1 ha with ha|ha
  ·exact Jj (List.mem_filter.1 ha).2 h2
  ·rw[List.mem_singleton.1 ha];exact h2
theorem ins_mid {k:K3} {x:It} {A B C:List It} (hA:∀ y∈A,qM (qo y) k=true) (hC:∀ y∈C,qM k (qo y)=true):YA k x (A++B++C)=A++YA k x B++C:=by
 have a1:A.filter (fun y=>qM (qo y) k)=A:=List.filter_eq_self.2 hA;have a2:A.filter (fun y=>qM k (qo y))=[]:=List.filter_eq_nil_iff.2 fun y hy e=>by have:=Jj (hA y hy) e;rw[Kw] at this;cases this
 have c1:C.filter (fun y=>qM k (qo y))=C:=List.filter_eq_self.2 hC;have c2:C.filter (fun y=>qM (qo y) k)=[]:=List.filter_eq_nil_iff.2 fun y hy e=>by have:=Jj (hC y hy) e;rw[Kw] at this;cases this
 unfold YA;simp only[List.filter_append,a1,a2,c1,c2,List.append_nil,List.nil_append,List.append_assoc]
theorem leaf_ins {k:K3} {x:It} {xs:List It} (h:Ord xs):VL xs (qA xs k) (JE k 0 xs) [x]=YA k x xs:=by
 have hp:=fun i hi=>Jk (k:=k) h i hi;have hle:=Jl xs k;have e1:xs.take (qA xs k)=xs.filter fun y=>qM (qo y) k:=by
  conv=>rhs;rw[<-List.take_append_drop (qA xs k) xs]
  rw[List.filter_append,List.filter_eq_self.2,List.filter_eq_nil_iff.2,List.append_nil]
  ·intro y hy e;obtain⟨i,hi,rfl⟩:=List.mem_iff_getElem.1 hy;rw[List.length_drop] at hi;rw[List.getElem_drop] at e;have:=(hp _ zO).1 e;omega
  ·intro y hy;obtain⟨i,hi,rfl⟩:=List.mem_iff_getElem.1 hy;rw[List.length_take] at hi;rw[List.getElem_take];exact(hp _ zO).2 zO
 have hk:∀ i (hi:i<xs.length),qM k (qo xs[i])=true↔qA xs k+JE k 0 xs<=i:=fun i hi=>by
  unfold JE;by_cases hlt:qA xs k<xs.length
  ·rw[kI hlt];by_cases he:qo xs[qA xs k]=k
   ·rw[if_neg (by simp[he])];constructor
    ·intro e;apply Classical.byContradiction;intro hn;by_cases hi2:i<qA xs k
     ·have:=Jj e ((hp i hi).2 hi2);rw[Kw] at this;cases this
     ·obtain rfl:i=qA xs k:=zO;rw[he,Kw] at e;cases e
    ·intro hi2;have:=Yf h (i:=qA xs k) (j:=i) zO hi
     rwa [he] at this
   ·rw[if_pos (by simp[he])];have lG:qM (qo xs[qA xs k]) k=false:=by rw[<-Bool.not_eq_true];intro e;have:=(hp _ hlt).1 e;omega
    have iY:qM k (qo xs[qA xs k])=true:=by
     rcases hq:qM k (qo xs[qA xs k]) with _|_
     ·exact absurd (qdO hq lG) he
     ·rfl
    constructor
    ·intro e;apply Classical.byContradiction;intro hn;have:=Jj e ((hp i hi).2 zO);rw[Kw] at this;cases this
    ·intro hi2;by_cases hi3:i=qA xs k
     ·subst hi3;exact iY
     ·exact Jj iY (Yf h zO hi)
  ·rw[Xt hlt,if_pos zA2];constructor
   ·intro e;have:=Jj e ((hp i hi).2 zO);rw[Kw] at this;cases this
   ·intro hi2;omega
 have e2:xs.drop (qA xs k+JE k 0 xs)=xs.filter fun y=>qM k (qo y):=by
  conv=>rhs;rw[<-List.take_append_drop (qA xs k+JE k 0 xs) xs]
  rw[List.filter_append,List.filter_eq_nil_iff.2,List.filter_eq_self.2,List.nil_append]
  ·intro y hy;obtain⟨i,hi,rfl⟩:=List.mem_iff_getElem.1 hy;rw[List.length_drop] at hi;rw[List.getElem_drop];exact(hk _ zO).2 zO
  ·intro y hy e;obtain⟨i,hi,rfl⟩:=List.mem_iff_getElem.1 hy;rw[List.length_take] at hi;rw[List.getElem_take] at e;have:=(hk _ zO).1 e;omega
 unfold VL YA;rw[e1,e2]
end Go.Proofs.YtpbniokljofedaaGreat
