/- Lemmas of the proof. -/
import Derived.Test.YtmeadnlmepcmbaaGreatZG13
set_option linter.all false
set_option maxHeartbeats 8000000
open Go.Proofs.Tryz
namespace Go.Proofs.YtmeadnlmepcmbaaGreat
open Go.RowKit Go.Shelf
attribute [local go_sem] Oper.semAt_some
abbrev Us:Type:=Stp×Sl
abbrev usz:Us:=((0,[],0),(none,0,0))
set_option maxRecDepth 100000 in
theorem backs_in(n:Nat)(hn:1<=n)(l Bs b off len cap:Nat)(us:List Us)(hFH:len<1099511627776)(J Jx:List Nat->World->Prop)(hY:∀pre (x:Nat) W,J pre W->pre.length<len->YieldAt Fence.wide (n-1) prog l #[.int .i64 (x:Int),.agg #[.int .i64 ((us[x]?.getD usz).1.1:Int),sv (us[x]?.getD usz).2,.int .i64 ((us[x]?.getD usz).1.2.2:Int)]] W λe W'=>
   (e=.returned (.bool true)/\J (pre++[x]) W'/\Qu Bs b W W')\/(e=.returned (.bool false)/\Jx (pre++[x]) W'))
  (W:World) (hBs:W.cell? ⟨Bs,0,none⟩=some (.slice (some ⟨b,off,none⟩) len cap)) (hc:∀i,i<len->W.cell? ⟨b,off+i*3,none⟩=some (.int .i64 ((us[i]?.getD usz).1.1:Int))/\W.cell? ⟨b,off+i*3+1,none⟩=some (sv (us[i]?.getD usz).2)/\W.cell? ⟨b,off+i*3+2,none⟩=some (.int .i64 ((us[i]?.getD usz).1.2.2:Int))) (h0:J [] W) :
  CallsIn Fence.wide n prog 176 #[.func (.yield l) #[] #[],.pointer (some ⟨Bs,0,none⟩)] W λe W'=>(∃v,e=.returned v) /\
   ((∃ys,ys=ZO (λj=>len-1-j) len/\J ys W')\/(∃pre,(∃k,k<=len/\pre=ZO (λj=>len-1-j) k)/\Jx pre W')):=by
 refine callsIn_of_wp func176 rfl trivial ?_ rfl;simp only[ntmps176,List.size_toArray,List.length_cons,List.length_nil,Nat.reduceAdd,Nat.reduceSub,Array.replicate_succ,Array.replicate_zero,List.push_toArray,List.append_toArray,List.nil_append,List.cons_append]
 gi_wp2
 gi_loopw [3] (λi wr=>∃k:Nat,k<=len/\i=.int .i64 ((len:Int)-1-k)/\J (ZO (λj=>len-1-j) k) wr/\Qu Bs b W wr)
  (λi _=>(intOf i+1).toNat)
 case atStart=>exact⟨0,Nat.zero_le _,zA3,h0,Qu.refl _ _ _⟩
 case round=>
  obtain⟨k,hk,rfl,hJs,hnx⟩:=hrel;have hBr:wr.cell? ⟨Bs,0,none⟩=some (.slice (some ⟨b,off,none⟩) len cap):=(World.cell?_of_block (w:=W) hnx.1).trans hBs;by_cases hlt:k<len
  ·obtain⟨fn,tmps,assign,body,hy,hR⟩:=hY _ (len-1-k) wr hJs (by rw[Zt];exact hlt);have hc0:=(World.cell?_of_block (w:=W) (a:=⟨b,off+(len-1-k)*3,none⟩) hnx.2).trans (hc (len-1-k) zO).1;have hc1:=(World.cell?_of_block (w:=W) (a:=⟨b,off+(len-1-k)*3+1,none⟩) hnx.2).trans (hc (len-1-k) zO).2.1;have hc2:=(World.cell?_of_block (w:=W) (a:=⟨b,off+(len-1-k)*3+2,none⟩) hnx.2).trans (hc (len-1-k) zO).2.2;try dsimp only at hy
   obtain⟨i,hi⟩:∃i:Nat,len-1-k=i:=⟨_,rfl⟩
   have hi2:(len:Int)-1-k=(i:Int):=zO;have hil:i<len:=zO;have hik:k+i+1<=len/\len<=k+i+1:=zO;have HU:=zH (Vi (λj=>len-1-j) k);obtain⟨u,hu⟩:∃u,us[i]?.getD usz=u:=⟨_,rfl⟩
   rw[hi]at hc0 hc1 hc2 hy hR;rw[hu]at hc0 hc1 hc2 hy;rw[hi2];clear hi2;clear hu;have HI:=zH hi;clear hi
   gi_wp2
   refine hR.mono ?_;rintro e W3 (⟨rfl,hJ3,hk3⟩|⟨rfl,hUK⟩)
   ·gi_wp2
    go_roundw
    case rel=>exact⟨k+1,zO,by go_num,by rw[HU.out,HI.out];exact hJ3,hnx.t hk3⟩
    case measure=>simp[intOf]
   ·gi_wp2
    refine bodyPost_ret (results_none rfl _ _ _) rfl ?_;exact⟨⟨_,rfl⟩,.inr ⟨_,⟨k+1,zO,by rw[HU.out,HI.out]⟩,hUK⟩⟩
  ·obtain rfl:k=len:=zO
   gi_wp2
   go_end0;exact⟨⟨_,rfl⟩,.inl ⟨_,rfl,hJs⟩⟩
set_option maxRecDepth 100000 in
theorem qeH(n l Bs c:Nat)(A:OA)(J:List Nat->World->Prop)(W:World)(hBs:W.cell? ⟨Bs,0,none⟩=some (.slice A 0 c))(h0:J [] W):CallsIn Fence.wide n prog 176 #[.func (.yield l) #[] #[],.pointer (some ⟨Bs,0,none⟩)] W λe W'=>(∃v,e=.returned v)/\J [] W':=by
 refine callsIn_of_wp func176 rfl trivial ?_ rfl;simp only[ntmps176,List.size_toArray,List.length_cons,List.length_nil,Nat.reduceAdd,Nat.reduceSub,Array.replicate_succ,Array.replicate_zero,List.push_toArray,List.append_toArray,List.nil_append,List.cons_append]
 gi_wp2
 gi_loopw [3] (λi wr=>i=.int .i64 (-1)/\J [] wr) (λ_ _=>0)
 case atStart=>exact⟨rfl,h0⟩
 case round=>
  obtain⟨rfl,hJs⟩:=hrel
  gi_wp2
  go_end0;exact⟨⟨_,rfl⟩,hJs⟩
def SWs(W:World)(Bs b:Nat)(v:Value)(us:List Us):Prop:=
 W.cell? ⟨Bs,0,none⟩=some v/\((us=[]/\∃A c,v=.slice A 0 c)\/∃off cap,v=.slice (some ⟨b,off,none⟩) us.length cap/\∀i,i<us.length->W.cell? ⟨b,off+i*3,none⟩=some (.int .i64 ((us[i]?.getD usz).1.1:Int))/\W.cell? ⟨b,off+i*3+1,none⟩=some (sv (us[i]?.getD usz).2)/\W.cell? ⟨b,off+i*3+2,none⟩=some (.int .i64 ((us[i]?.getD usz).1.2.2:Int)))
theorem SWs.keep{W W':World}{Bs b:Nat}{v:Value}{us:List Us}(h:SWs W Bs b v us)(hk:Qu Bs b W W'):SWs W' Bs b v us:=by
 refine⟨(World.cell?_of_block (w:=W) hk.1).trans h.1,?_⟩;rcases h.2 with h|⟨off,cap,e,hc⟩
 ·exact .inl h
 ·exact .inr ⟨off,cap,e,λi hi=>⟨(World.cell?_of_block (w:=W) hk.2).trans (hc i hi).1,(World.cell?_of_block (w:=W) hk.2).trans (hc i hi).2.1,(World.cell?_of_block (w:=W) hk.2).trans (hc i hi).2.2⟩⟩
theorem qga(n:Nat)(hn:1<=n)(Bs b:Nat)(v:Value)(us:List Us)(hFH:us.length<1099511627776)(w:World)(hBs:Bs<w.heap.size)(hb:b<w.heap.size)(hS:SWs w Bs b v us):SeqStopsK Fence.wide n prog 176 #[.pointer (some ⟨Bs,0,none⟩)] (λx:Nat=>#[.int .i64 (x:Int),.agg #[.int .i64 ((us[x]?.getD usz).1.1:Int),sv (us[x]?.getD usz).2,.int .i64 ((us[x]?.getD usz).1.2.2:Int)]]) (Qu Bs b) (λys=>ys=ZO (λj=>us.length-1-j) us.length)
   (λpre=>∃k,k<=us.length/\pre=ZO (λj=>us.length-1-j) k) us.length w:=λl J Jx W hW _ _ hY h0=>by
 obtain⟨hc,h⟩:=hS.keep (Qu.below hW hBs hb);rcases h with⟨rfl,A,c,rfl⟩|⟨off,cap,rfl,hcs⟩
 ·exact(qeH n l Bs c A J W hc h0).mono λe W' ⟨he,hj⟩=>⟨he,.inl ⟨_,rfl,hj⟩⟩
 ·exact backs_in n hn l Bs b off us.length cap us hFH J Jx hY W hc hcs h0
theorem qcY(A m c)(w:World):Calls prog 129 #[.slice A m c] w (λe w'=>e=.returned (.func (.func 176) #[] #[.pointer (some ⟨w.heap.size,0,none⟩)])/\w'=w.alloc (.cells #[.slice A m c] 180)):=by
 go_enter func129,ntmps129;go_wp2;go_ret;exact⟨rfl,rfl⟩
end Go.Proofs.YtmeadnlmepcmbaaGreat
namespace Go.Proofs.YtmeadnlmepcmbaaGreat
open Go.RowKit
section
variable {w W:World}
theorem Rd.ck{B size n:Nat}{A:OA}{xs:List Value}(h:Rd w B size A n xs)(hk:Qe w W):Rd W B size A n xs:=⟨h.1,λhn=>by obtain⟨b,off,e,hb,hc⟩:=h.2 hn;exact⟨b,off,e,hb,λj u hu=>hk.cell (hc j u hu)⟩⟩
theorem Bys.ck{B:Nat}{v:Value}{l:List UInt8}(h:Bys w B v l)(hk:Qe w W):Bys W B v l:=by obtain⟨A,c,e,hc,hm,hr⟩:=h;exact⟨A,c,e,hc,hm,hr.ck hk⟩
theorem Bls.ck{B:Nat}{v:Value}{bs:List (List UInt8)}(h:Bls w B v bs)(hk:Qe w W):Bls W B v bs:=by obtain⟨vs,A,c,e,h1,h2,h3,h4⟩:=h;exact⟨vs,A,c,e,h1,h2,h3.ck hk,λi u l hu hl=>(h4 i u l hu hl).ck hk⟩
theorem qT.of_ck(X:Nat->Prop)(hk:Qe w W):qT X w W:=λ_ _ _ hv=>hk.cell hv
theorem Bch.ck{D:Nat->Prop}{B lo b g:Nat}{k:Option Nat}{S:Sto}(h:Bch D B lo b g k S w)(hk:Qe w W):Bch D B lo b g k S W:=by
 obtain⟨A1,n1,c1,v2,c3,A4,c4,hro,ho,⟨ps,e,hw,hp⟩,h1,h4⟩:=h.ex;refine⟨h.lob,h.blo,λq hq=>⟨(h.dB q hq).1,by have:=(h.dB q hq).2.1;have:=hk.size;omega,(h.dB q hq).2.2⟩,A1,n1,c1,v2,c3,A4,c4,hk.row hro,KX ho hk,⟨ps,e,?_,λp hpm=>⟨(hp p hpm).1,λC hC=>(hp p hpm).2 C ((qT.of_ck _ hk).trans hC λ_ _ h=>h)⟩⟩,h1.ck hk,h4.ck hk⟩;rcases hw with⟨e,hm,A,e2,hr⟩|⟨q,e,e2,how⟩
 ·exact .inl ⟨e,hm,A,e2,hr.ck hk⟩
 ·exact .inr ⟨q,e,e2,KX how hk⟩
end
theorem kO.of_own{X:Nat->Prop}{w:World}{lo n:Nat}{v:Value}{ps:List (It×Value)}(ho:w.ownsRow lo 51 5 v n (qC ps))(hl:ps.length=n)(hX:∀q,v.ownBlock=some q->¬X q)(hp:∀p∈ps,(∃A c,p.2=.slice A p.1.val.length c)/\∀C,qT X w C->Bys C C.heap.size p.2 p.1.val):kO X w v (ps.map (·.1)):=λC hC=>by
 have hrd:∀A c,v=.slice A n c->Rd C C.heap.size 5 A n (qC ps):=λA c e=>by
  refine⟨ho.1,λhn=>?_⟩;rcases ho.2 with⟨_,h0⟩|⟨g,cap,cur,hv,hb,hg,hnc,_,hsz,htk⟩
  ·omega
  ·have hne:¬X g:=hX g (by rw[hv];rfl);rw[hv]at e;cases e;have hc:∀j u,(qC ps)[j]?=some u->w.cell? ⟨g,0+j,none⟩=some u:=λj u hu=>by
    rw[Nat.zero_add,qa hg,<-Array.getElem?_toList];rw[<-htk,List.getElem?_take]at hu;split at hu
    ·exact hu
    ·cases hu
   have hl0:0<(qC ps).length:=by rw[ho.1];omega
   exact⟨g,0,rfl,World.block_lt_of_cell? C ⟨g,0+0,none⟩ (hC _ _ hne (hc 0 _ (zL hl0))),λj u hu=>hC _ _ hne (hc j u hu)⟩
 obtain⟨A,c,rfl,h1,h2⟩:=qG ho;subst hl;exact⟨ps,rfl,⟨A,c,by rw[List.length_map],by rw[List.length_map];exact h1,h2,by rw[List.length_map];exact hrd A c rfl⟩,λp hpm=>⟨(hp p hpm).1,(hp p hpm).2 C hC⟩⟩
theorem Bch.others{D:Nat->Prop}{B lo b g:Nat}{k:Option Nat}{S:Sto}{w W:World}(h:Bch D B lo b g k S w)(hk:Qh lo b g k w W):KeepsOthers w W:=⟨hk.below.size,λq o hq ho=>by
 refine hk.row hq λhx=>?_;obtain⟨A1,n1,c1,v2,c3,A4,c4,hro,hno,⟨ps,_,hw,_⟩,_,_⟩:=h.ex;have key:∀cs ty fr,w.heap[q]?=some (.cells cs ty fr)->False:=λcs ty fr hc=>by rw[hc]at hq;cases hq;cases ho
 rcases hx with rfl|rfl|e
 ·exact key _ _ _ hro
 ·obtain⟨cur,hg⟩:=Zz hno rfl;exact key _ _ _ hg
 ·rcases hw with⟨e1,_⟩|⟨q',e1,e2,how⟩
  ·rw[e1]at e;cases e
  ·rw[e1]at e;cases e;obtain⟨cur,hg⟩:=Zz how e2;exact key _ _ _ hg⟩
def sAt(l:List Stp)(x:Nat):Stp:=l[x]?.getD (0,[],0)
theorem sAt_ok{k:K3}{l:List Stp}(h:∀s∈l,qfP k s)(x:Nat):qfP k (sAt l x):=by
 unfold sAt;rcases hx:l[x]? with _|s
 ·exact⟨zA1,(λy hy=>by cases hy),Nat.zero_le _,zM _,λh=>absurd h (Nat.lt_irrefl 0),λ_=>rfl⟩
 ·exact h s (List.mem_of_getElem? hx)
theorem Gm(l:List Stp)(k:Nat)(hk:k<=l.length):(ZO (λj=>l.length-1-j) k).map (sAt l)=l.reverse.take k:=by
 apply List.ext_getElem?;intro i;unfold ZO;rw[List.getElem?_map,List.getElem?_map,List.getElem?_take];by_cases hi:i<k
 ·rw[List.getElem?_range hi,if_pos hi,List.getElem?_reverse zO];simp only[Option.map_some,sAt];rw[zL zO];simp
 ·rw[List.getElem?_eq_none zA2,if_neg hi];rfl
structure PutI(K:K3)(l:List Stp)(S:Sto)(x:It)(B0 lo b g UB TB SB w2:Nat)(w3:World)(xv sv_:Value)(pre:List Nat)(W:World):Prop where
 ex:∃(ups:List It)(S':Sto)(k':Option Nat)(D':Nat->Prop)(Au:OA)(cu:Nat)(hps:List (It×Value)),jK K (pre.map (sAt l)) [x] S=.ok (ups,S')/\qm S'=true/\0<ups.length/\ups.length<=2/\hps.map (·.1)=ups /\
  (∀y∈ups,QY y/\(y.r=0\/8<=y.r)/\y.r<256)/\(∀p∈hps,(∃A c,p.2=.slice A p.1.val.length c)/\Bys W B0 p.2 p.1.val)/\W.heap[UB]?=some (.cells #[.slice Au ups.length cu] 55 (0,0))/\W.ownsRow 0 51 5 (.slice Au ups.length cu) ups.length (qC hps)/\Bch D' B0 lo b g k' S' W
 rx:W.heap[B0+1]?=some (.cells #[.int .u8 x.k,.int .u32 x.i,.int .u32 x.o,.int .i64 x.r,xv] 51 (0,0))
 r2:W.heap[B0+2]?=some (.cells #[.slice none 0 0,.slice none 0 0,.slice none 0 0,.slice none 0 0] 28 (0,0))
 r3:W.heap[B0+3]?=some (.cells #[.int .i64 0] 3 (0,0))
 r4:W.heap[B0+4]?=some (.cells #[.int .i64 0] 37 (0,0))
 rT:W.heap[TB]?=some (.cells #[.pointer (some ⟨b,0,none⟩)] 92 (0,0))
 rS:W.heap[SB]?=some (.cells #[sv_] 180 (0,0))
 kx:qT (λq=>q<w2) w3 W
theorem PutI.ck{K:K3}{l:List Stp}{S:Sto}{x:It}{B0 lo b g UB TB SB w2:Nat}{w3:World}{xv sv_:Value}{pre:List Nat}{w W:World}(h:PutI K l S x B0 lo b g UB TB SB w2 w3 xv sv_ pre w)(hk:Qe w W):PutI K l S x B0 lo b g UB TB SB w2 w3 xv sv_ pre W:=by obtain⟨ups,S',k',D',Au,cu,hps,h1,h2,h3,h4,h5,h6,h7,h8,h9,h10⟩:=h.ex;exact⟨⟨ups,S',k',D',Au,cu,hps,h1,h2,h3,h4,h5,h6,λp hp=>⟨(h7 p hp).1,(h7 p hp).2.ck hk⟩,hk.row h8,KX h9 hk,h10.ck hk⟩,hk.row h.rx,hk.row h.r2,hk.row h.r3,hk.row h.r4,hk.row h.rT,hk.row h.rS,h.kx.trans (qT.of_ck _ hk) λ_ _ h=>h⟩
theorem kV{S S':Sto}{lvl:Int}{l held up:List It}(hl:∀x∈l,QY x)(hh:∀x∈held,(x.r=0\/8<=x.r)/\x.r<256)(hS:qm S=true)(e:Qs S lvl l held=.ok (up,S')):qm S'=true/\(0<up.length/\up.length<=2)/\∀y∈up,QY y/\(8<=y.r/\y.r<256)/\y.val=[]:=by
 unfold Qs at e;split at e
 ·cases e
 ·rename_i up1 S1 e1;split at e
  ·cases e
  ·rename_i t e2;cases e;obtain⟨h1,h2,h3⟩:=GN (XP hl) hS e1;refine⟨vy h1 (JR (λa ha=>by obtain⟨x,hx,rfl⟩:=List.mem_map.1 ha;have:=hh x hx;omega) (Qg.1 h1).2.1 e2),?_,λy hy=>?_⟩
   ·rw[h2];unfold Zl;split<;>simp
   ·obtain⟨⟨f,k1,k8,k9⟩,k2,p,hp,k3⟩:=h3 y hy;have:=qeT (XP hl p hp);rw[<-k3]at this;obtain⟨a1,a2,a3⟩:=this;exact⟨⟨a1,a2,a3,by rw[k1];omega,by rw[k2];simp⟩,zO,k2⟩
theorem qio{k:K3}{ps:List Stp}{j:Nat}{up:List It}{S:Sto}{e:Int}(h:jK k (ps.take j) up S=.error e):jK k ps up S=.error e:=by have:ps=ps.take j++ps.drop j:=(List.take_append_drop _ _).symm;rw[this,VV,h]
theorem vD{W C:World}{U E:Nat}{u v u0 v0:Value}{ty1 ty2:TypeId}(hU:W.heap[U]?=some (.cells #[u0] ty1 (0,0)))(hE:W.heap[E]?=some (.cells #[v0] ty2 (0,0)))(hne:U≠E)(hC:C=(W.setCell ⟨U,0,none⟩ u).setCell ⟨E,0,none⟩ v):C.heap[U]?=some (.cells #[u] ty1 (0,0))/\C.heap[E]?=some (.cells #[v] ty2 (0,0))/\(∀k,k≠U->k≠E->C.heap[k]?=W.heap[k]?)/\C.heap.size=W.heap.size/\KeepsOthers W C/\∀{B:Nat}{w0:World},B<=U->B<=E->Below B w0 W->Below B w0 C:=by
 subst hC;have hs:=λ(A:World)(b j:Nat)(v:Value)(k:Nat)(hk:k≠b)=>zJ A ⟨b,j,none⟩ v k hk;refine⟨?_,?_,λk h1 h2=>?_,zA3,(KeepsOthers.setCell _ _ _).trans (KeepsOthers.setCell _ _ _),λh1 h2 h=>Below.setCell (Below.setCell h (p:=⟨U,0,none⟩) h1 _) (p:=⟨E,0,none⟩) h2 _⟩
 ·rw[hs _ _ _ _ _ hne];exact qo hU 0 u
 ·refine qo (t:=ty2) (cs:=#[v0]) ?_ 0 v;rw[hs _ _ _ _ _ (λe=>hne e.symm)];exact hE
 ·rw[hs _ _ _ _ _ h2,hs _ _ _ _ _ h1]
def qed(lo:Nat)(S:Sto):qZ:=⟨(Nat×Nat)×(OA×Nat)×(OA×Nat),λp=>Qp (some ⟨p.1.1,0,none⟩) S.bs.length S.bs.length (some ⟨p.1.2,0,none⟩) S.ws.length (S.ws.length+1) p.2.1.1 S.now.length p.2.1.2 p.2.2.1 S.last.length p.2.2.2,λp W=>zp lo S (Qp (some ⟨p.1.1,0,none⟩) S.bs.length S.bs.length (some ⟨p.1.2,0,none⟩) S.ws.length (S.ws.length+1) p.2.1.1 S.now.length p.2.1.2 p.2.2.1 S.last.length p.2.2.2) W⟩
theorem Qa(lo:Nat)(S:Sto)(b c:Nat)(A3:OA)(c3:Nat)(A4:OA)(c4:Nat):(qed lo S).f ((b,c),(A3,c3),(A4,c4))=Qp (some ⟨b,0,none⟩) S.bs.length S.bs.length (some ⟨c,0,none⟩) S.ws.length (S.ws.length+1) A3 S.now.length c3 A4 S.last.length c4:=rfl
structure PutD(q:Except Int (List It×Sto))(B0 lo b g UB TB D:Nat)(w W:World):Prop where
 ex:∃(ups:List It)(S':Sto)(k':Option Nat)(D':Nat->Prop)(Au:OA)(cu:Nat)(hps:List (It×Value)),q=.ok (ups,S')/\qm S'=true/\0<ups.length/\hps.map (·.1)=ups /\
  W.heap[UB]?=some (.cells #[.slice Au ups.length cu] 55 (0,0))/\W.ownsRow 0 51 5 (.slice Au ups.length cu) ups.length (qC hps)/\Bch D' B0 lo b g k' S' W/\∀y∈ups,(y.r=0\/8<=y.r)/\y.r<256
 r2:W.heap[B0+2]?=some (.cells #[.slice none 0 0,.slice none 0 0,.slice none 0 0,.slice none 0 0] 28 (0,0))
 r3:W.heap[B0+3]?=some (.cells #[.int .i64 0] 3 (0,0))
 r4:W.heap[B0+4]?=some (.cells #[.int .i64 0] 37 (0,0))
 rT:W.heap[TB]?=some (.cells #[.pointer (some ⟨b,0,none⟩)] 92 (0,0))
 hK:W.heap[D]?=some (.deferred (some []))
 below:Below B0 w W
theorem Bch.kept{D:Nat->Prop}{B lo b g:Nat}{k:Option Nat}{S:Sto}{w W:World}(h:Bch D B lo b g k S w)(hB:Below B w W)(hr:∀q,lo<=q->q<w.heap.size->W.heap[q]?=w.heap[q]?):Bch D B lo b g k S W:=
 h.keep hB λq hq=>hq.elim (λh2=>hr q (h.b3 q h2).1 (h.b3 q h2).2) λh2=>hr q (h.dB q h2).1 (h.dB q h2).2.1
def jn(lo n:Nat)(us:List Value):qZ:=⟨OA×Nat,λp=>.slice p.1 n p.2,λp W=>W.ownsRow lo 51 5 (.slice p.1 n p.2) n us⟩
theorem qE(lo n:Nat)(us:List Value)(A c):(jn lo n us).f (A,c)=.slice A n c:=rfl
theorem ZK(lo n:Nat)(us:List Value):∀p,qS qj ((jn lo n us).φ p):=λp W W' he h=>by have he:Ext W W':=he;have h:W.ownsRow lo 51 5 (.slice p.1 n p.2) n us:=h;exact Zb h λq hq=>Below.block he q (QM h q hq).2
def qcf(S:Sto):Except Int (Nat×Sto):=if qm S=true then zX S 0 []else .error 8
def MadeQ(lo:Nat)(q:Except Int (Nat×Sto))(u:Value)(W:World):Prop:=match q with
 |.error e=>u=.tuple #[Qp none 0 0 none 0 0 none 0 0 none 0 0,.int .i64 0,.int .i64 e]
 |.ok (r,S')=>∃v,u=.tuple #[v,.int .i64 (r:Int),.int .i64 0]/\zp lo S' v W
theorem kO.nil(X:Nat->Prop)(w:World):kO X w (.slice none 0 0) []:=λC _=>Its.nil C _
theorem newE_may{S S':Sto}{r:Nat}(h:qcf S=.ok (r,S')):qm S=true/\zX S 0 []=.ok (r,S')/\qm S'=true/\8<=r/\r<256:=by
 unfold qcf at h;split at h
 ·rename_i hS;obtain⟨h1,h2,h3,_⟩:=Yk (λx hx=>by cases hx) hS h;exact⟨hS,h,h1,h2,h3⟩
 ·cases h
theorem GF{R:Ending->World->Prop}{a:Act}{W:World}{b:Nat}{x0 x1 x2 x3 u v:Value}(h4:a.tmps[4]?.getD undef=.pointer (some ⟨b,0,none⟩))(h5:a.tmps[5]?.getD undef=u)(h6:a.tmps[6]?.getD undef=v)(hd:a.defers=[])(hBT:W.heap[b]?=some (.cells #[x0,x1,x2,x3] 28 (0,0)))(hR:R (.returned (.tuple #[.agg #[x0,x1,x2,x3],u,v])) W):bodyPost prog Tryz.f155 R .ret a W:=by
 refine bodyPost_ret (v:=.tuple #[.agg #[x0,x1,x2,x3],u,v]) ?_ hd hR;have k:=qa hBT;simp[results,results155,go_sem,h4,h5,h6,k]
theorem qhb{R:Ending->World->Prop}{a:Act}{W:World}{b:Nat}{x0 x1 x2 x3 u v:Value}(h4:a.tmps[2]?.getD undef=.pointer (some ⟨b,0,none⟩))(h5:a.tmps[3]?.getD undef=u)(h6:a.tmps[4]?.getD undef=v)(hd:a.defers=[])(hBT:W.heap[b]?=some (.cells #[x0,x1,x2,x3] 28 (0,0)))(hR:R (.returned (.tuple #[.agg #[x0,x1,x2,x3],u,v])) W):bodyPost prog Tryz.f102 R .ret a W:=by
 refine bodyPost_ret (v:=.tuple #[.agg #[x0,x1,x2,x3],u,v]) ?_ hd hR;have k:=qa hBT;simp[results,results102,go_sem,h4,h5,h6,k]
set_option maxRecDepth 100000 in
theorem qkt(A1 n1 c1 A2 n2 c2 A3 n3 c3 A4 n4 c4)(S:Sto)(w:World)(h:Qq w w.heap.size (.slice A1 n1 c1) (.slice A2 n2 c2) (.slice A3 n3 c3) (.slice A4 n4 c4) S):Calls prog 155 #[Qp A1 n1 c1 A2 n2 c2 A3 n3 c3 A4 n4 c4,jL 0 none 0 0] w (zm (MadeQ w.heap.size (qcf S)) w):=by
 have HC:=zH (λW (hW:Ext w W)=>Kh A1 n1 c1 A2 n2 c2 A3 n3 c3 A4 n4 c4 S W (h.ext hW));have HN:=zH (λW=>Ke 0 none 0 0 [] W (Its.nil W W.heap.size));rw[show Qj 0 []=true from rfl,show vO true=0 from rfl]at HN;have HO:=zH (λ(hS:qm S=true) W (hW:Ext w W)=>qfb A1 n1 c1 A2 n2 c2 A3 n3 c3 A4 n4 c4 S (by have:=(Qb hS).2.2.1;omega) W (h.ext hW));replace h:=zH h;go_enter func155,ntmps155;go_wp2_with fail;generalize hw1:World.alloc (World.alloc (World.alloc _ _) _) _=w1;have x1:Ext w w1:=by rw[<-hw1];exact((zN _ _).trans (zN _ _)).trans (zN _ _)
 have r1:w1.heap[w.heap.size]?=some (.cells #[.slice A1 n1 c1,.slice A2 n2 c2,.slice A3 n3 c3,.slice A4 n4 c4] 28 (0,0)):=by rw[<-hw1];exact(zK _ _ _ zA2).trans ((zK _ _ _ zA3).trans (zI _ _ _ rfl))
 have p1:w1.heap[w.heap.size+1]?=some (.cells #[.int .i64 0,.slice none 0 0] 113 (0,0)):=by rw[<-hw1];exact(zK _ _ _ zA3).trans (zI _ _ _ zA3)
 have q1:w1.heap[w.heap.size+1+1]?=some (.cells #[.slice none 0 0,.slice none 0 0,.slice none 0 0,.slice none 0 0] 28 (0,0)):=by rw[<-hw1];exact zI _ _ _ zA3
 clear hw1;refine(HC.out w1 x1).mono ?_;rintro e w2 ⟨rfl,hB⟩;have x2:Ext w w2:=x1.trans hB;have r2:=qb r1 hB;have p2:=qb p1 hB;have q2:=qb q1 hB;have kp:=qa p2;have kq:=qa q2;have fq:=qg q2;have zq2:w.heap.size+1+1<w2.heap.size:=(zG.1 q2).1;clear r1 p1 q1 x1 hB HC;rcases hS:qm S with _|_
 ·have hq:=zH (show qcf S=.error 8 by unfold qcf;rw[hS];rfl);rw[VU rfl];replace hS:=zH hS;go_wp2_with fail;exact GF (b:=w.heap.size+2) rfl rfl rfl rfl (qcv q2 _ _ _ _) ⟨_,rfl,by rw[hq.out];rfl,vR x2 zO _ _ _ _⟩
 ·have hq:=zH (show qcf S=zX S 0 []by unfold qcf;rw[if_pos hS]);rw[Ky rfl];have HOS:=zH (HO.out hS);replace hS:=zH hS;clear HO;go_wp2_with fail;refine(HN.out w2).mono ?_;rintro e w3 ⟨rfl,hB⟩;have x3:Ext w w3:=x2.trans hB;have r3:=qb r2 hB;have p3:=qb p2 hB;have q3:=qb q2 hB;have kr:=qa r3;clear r2 p2 q2 x2 hB HN kp kq fq zq2;go_wp2_with fail;refine(HOS.out w3 x3).mono ?_;rintro e w4 ⟨u,rfl,⟨b,P3,d3,rfl,hlo,hBT,hAE⟩,hB⟩;have hB4:Ext w3 w4:=hB;have x4:Ext w w4:=x3.trans hB4;have p4:=qb p3 hB4;have q4:=qb q3 hB4;have kp:=qa p4;have z3:=x3.size;obtain⟨g,hOS⟩:=Bch.of_on (B:=w.heap.size) z3 hS.out (h.out.below x4) hlo hBT hAE;have HM:=zH (GA (λ_=>False) w.heap.size w3.heap.size b g none S 0 none 0 0 [] (λx hx=>by cases hx) (Qb hS.out).2.1 w4 hOS (kO.nil _ _));replace hOS:=zH hOS;clear hB hBT hAE r3 p3 q3 kr HOS;go_wp2_with fail;refine HM.out.mono ?_;clear HM;rintro e w5 ⟨hkb,hBU⟩;have nB:∀{q cs ty fr},w4.heap[q]?=some (.cells cs ty fr)->ty≠223->ty≠5->ty≠142->¬B3 b g none q:=λhr h1 h2 h3=>hOS.out.notB3 hr h1 h2 h3;have q5:=hkb.row q4 (nB q4 zA1 zA1 zA1);have x5:Below w.heap.size w w5:=Below.trans (B:=w.heap.size) x4 (Below.mono hkb.below z3);have kq:=qa q5;have fq:=qg q5;have zq5:w.heap.size+1+1<w5.heap.size:=(zG.1 q5).1;clear nB hkb kp p4 q4;rcases hmx:zX S 0 []with er|⟨f,S'⟩
  ·rw[hmx]at hBU;obtain rfl:=hBU;have hWM:(er != 0)=true:=by rw[bne_iff_ne];exact Ti hmx
   replace hmx:=zH hmx;go_wp2_with fail;exact GF (b:=w.heap.size+2) rfl rfl rfl rfl (qcv q5 _ _ _ _) ⟨_,rfl,by rw[hq.out,hmx.out];rfl,vR x5 zO _ _ _ _⟩
  ·rw[hmx]at hBU;obtain⟨rfl,k',D',hNk,hND,hbc⟩:=hBU;have hsh:Uv S':=jF (Yk (λx hx=>by cases hx) hS.out hmx).1;obtain⟨E1,m1,e1,E2,m2,e2,e3,E4,e4,hrb,hsb⟩:=hbc.sto;have HT:=zH (Yz b E1 m1 e1 E2 m2 e2 (some ⟨g,0,none⟩) 256 e3 E4 256 e4 S' hsh w5 hrb hsb);replace hmx:=zH hmx;clear hbc hrb hsb hsh kq fq hNk hND;go_wp2_with fail;refine HT.out.mono ?_;rintro e w6 ⟨u,rfl,hT,hB⟩;have hB6:Ext w5 w6:=hB;have x6:Below w.heap.size w w6:=x5.trans (Below.mono hB6 x5.size);have q6:=qb q5 hB6;have kq:=qa q6;have fq:=qg q6;obtain⟨BB,WW,gg,B3,d3',B4,d4,rfl,-⟩:=id hT;replace hT:=zH hT;clear HT hB q5;go_wp2_with fail;refine GF (b:=w.heap.size+2) rfl rfl rfl rfl (qcv q6 _ _ _ _) ⟨_,rfl,?_,vR x6 zO _ _ _ _⟩;rw[hq.out,hmx.out];exact⟨_,rfl,zp.set4 hT.out zO zO _ _ _ _⟩
set_option maxRecDepth 100000 in
theorem pnew_any(A1 n1 c1 A2 n2 c2 A3 n3 c3 A4 n4 c4)(S:Sto)(w:World)(h:Qq w w.heap.size (.slice A1 n1 c1) (.slice A2 n2 c2) (.slice A3 n3 c3) (.slice A4 n4 c4) S):Calls prog 102 #[Qp A1 n1 c1 A2 n2 c2 A3 n3 c3 A4 n4 c4] w (zm (MadeQ w.heap.size (qcf S)) w):=by
 have HM:=zH (λW (hW:Ext w W)=>qkt A1 n1 c1 A2 n2 c2 A3 n3 c3 A4 n4 c4 S W (h.ext hW));clear h;go_enter func102,ntmps102;go_wp2_with fail;generalize hw1:World.alloc (World.alloc _ _) _=w1;have x1:Ext w w1:=by rw[<-hw1];exact(zN _ _).trans (zN _ _)
 have q1:w1.heap[w.heap.size+1]?=some (.cells #[.slice none 0 0,.slice none 0 0,.slice none 0 0,.slice none 0 0] 28 (0,0)):=by rw[<-hw1];exact zI _ _ _ zA3
 clear hw1;refine(HM.out w1 x1).mono ?_;clear HM;rintro e w6 ⟨u,rfl,hu,hB⟩;have hB6:Ext w1 w6:=hB;have x6:Below w.heap.size w w6:=x1.trans hB6;have q6:=qb q1 hB6;have kq:=qa q6;have fq:=qg q6;have z1:=(zG.1 q1).1;rcases hq:qcf S with er|⟨r,S'⟩
 ·rw[hq]at hu;obtain rfl:u=_:=hu;replace hq:=zH hq;clear hB q1;go_wp2_with fail;exact qhb (b:=w.heap.size+1) rfl rfl rfl rfl (qcv q6 _ _ _ _) ⟨_,rfl,by rw[hq.out];rfl,vR x6 zO _ _ _ _⟩
 ·rw[hq]at hu;obtain⟨v,rfl,hT⟩:=hu;obtain⟨BB,WW,gg,B3,d3',B4,d4,rfl,-⟩:=id hT;replace⟨hT,hq⟩:=zH2 hT hq;clear hB q1;go_wp2_with fail;refine qhb (b:=w.heap.size+1) rfl rfl rfl rfl (qcv q6 _ _ _ _) ⟨_,rfl,?_,vR x6 zO _ _ _ _⟩;rw[hq.out];exact⟨_,rfl,zp.set4 hT.out zO zO _ _ _ _⟩
theorem qlo(S:Sto)(a:Nat)(data:List UInt8):jW (vl S a data) a=data:=by
 have h:jA (S.ws++[((a:Int),data)]) (a:Int)=some data:=by unfold jA;rw[List.reverse_append,List.reverse_singleton,List.singleton_append,List.find?_cons];simp
 unfold jW vl;simp only;rw[h]
theorem node_put{S:Sto}{a:Nat}(ha:a<S.now.length)(data:List UInt8):qk (vl S a data) a=QK data:=by
 unfold qk;rw[qlo];have:(vl S a data).now[a]?=some 1:=by show(S.now.set a 1)[a]?=some 1;rw[List.getElem?_set_self ha]
 rw[this];rfl
theorem qaG(k:Nat):∀n,n<256^k->ve (qM n k)=n:=by
 induction k with
 |zero=>intro n h;simp at h;subst h;rfl
 |succ k ih=>
  intro n h;simp only[qM,ve];rw[ih (n/256) (by rw[Nat.div_lt_iff_lt_mul zO];rw[Nat.pow_succ]at h;exact h)];simp[UInt8.toNat_ofNat'];omega
theorem qab{n:Nat}(h:n<256):(UInt8.ofNat n).toNat=n:=by simp[UInt8.toNat_ofNat'];omega
theorem XK{l A r:List UInt8}{a k n:Nat}(h:l.drop a=A++r)(hA:A=qM n k)(hn:n<256^k)(hl:a+k<=l.length):Zu l a k=(n:Int):=by unfold Zu;rw[if_pos hl,h,List.take_left' (by rw[hA,QD]),hA,qaG k n hn]
theorem kE{l A r:List UInt8}{a k:Nat}(h:l.drop a=A++r)(hk:A.length=k):l.drop (a+k)=r:=by rw[<-List.drop_drop,h,List.drop_left' hk]
theorem item_rt{x:It}(h:QY x)(hb:itB x.r x.val.length=true)(r:List UInt8):Zc (ZE x++r)=some (x,12+x.val.length):=by
 obtain⟨⟨k0,k1⟩,⟨i0,i1⟩,⟨o0,o1⟩,⟨r0,r1⟩,hv⟩:=h;obtain⟨k,i,o,rr,v⟩:=x;obtain⟨k,rfl⟩:=Int.eq_ofNat_of_zero_le k0;obtain⟨i,rfl⟩:=Int.eq_ofNat_of_zero_le i0;obtain⟨o,rfl⟩:=Int.eq_ofNat_of_zero_le o0;obtain⟨rr,rfl⟩:=Int.eq_ofNat_of_zero_le r0;simp only at k1 i1 o1 r1 hv hb⊢;have hlen:(ZE ⟨(k:Int),(i:Int),(o:Int),(rr:Int),v⟩++r).length=12+v.length+r.length:=by rw[List.length_append,XE]
 have d1:(ZE ⟨(k:Int),(i:Int),(o:Int),(rr:Int),v⟩++r).drop 1=qM i 4++(qM o 4++(qM rr 2++(UInt8.ofNat v.length::(v++r)))):=by simp[ZE,List.append_assoc]
 have e0:(ZE ⟨(k:Int),(i:Int),(o:Int),(rr:Int),v⟩++r)[0]?.getD 0=UInt8.ofNat k:=by simp[ZE]
 generalize ZE ⟨(k:Int),(i:Int),(o:Int),(rr:Int),v⟩++r=l at*;have d5:l.drop 5=_:=kE (k:=4) d1 (QD _ _);have d9:l.drop 9=_:=kE (k:=4) d5 (QD _ _);have d11:l.drop 11=_:=kE (k:=2) d9 (QD _ _);have d12:l.drop 12=v++r:=by rw[show 12=11+1 from rfl,<-List.drop_drop,d11];rfl
 have e11:l[11]?.getD 0=UInt8.ofNat v.length:=by
  have:l[11]?=(l.drop 11)[0]?:=by rw[List.getElem?_drop]
  rw[this,d11];rfl
 have hsz:Vg l=12+v.length:=by unfold Vg;rw[e11,qab zO]
 have hit:qbb l=⟨(k:Int),(i:Int),(o:Int),(rr:Int),v⟩:=by unfold qbb;rw[e0,qab zO,XK d1 rfl zO zO,XK d5 rfl zO zO,XK d9 rfl zO zO,d12,hsz,List.take_left' zO]
 unfold Zc;rw[hit,hsz,if_neg zO];simp only[Nat.add_sub_cancel_left];rw[if_pos hb]
theorem its_rt{xs:List It}(h:∀x∈xs,QY x/\itB x.r x.val.length=true)(r:List UInt8):∀k,k<=xs.length->QX (QU xs++r) k=some (xs.take k,QU (xs.drop k)++r)
 |0,_=>by simp[QX]
 |k+1,hk=>by
  have hk':k<xs.length:=zO;have hx:=h xs[k] (List.getElem_mem hk');have e:QU (xs.drop k)=ZE xs[k]++QU (xs.drop (k+1)):=by
   conv=>lhs;rw[List.drop_eq_getElem_cons hk']
   unfold QU;rw[List.flatMap_cons]
  have hr:Zc (QU (xs.drop k)++r)=some (xs[k],12+xs[k].val.length):=by rw[e,List.append_assoc];exact item_rt hx.1 hx.2 _
  rw[UG (its_rt h r k zO) hr,List.take_succ_eq_append_getElem hk',e,List.append_assoc,List.drop_left' (XE _)]
theorem node_rt{lvl:Int}{xs:List It}(hm:Qj lvl xs=true)(hok:∀x∈xs,QY x):QK (Zi (Qx lvl xs))=some (lvl,xs):=by
 obtain⟨h0,h6,h5,hit⟩:=jR hm;obtain⟨L,rfl⟩:=Int.eq_ofNat_of_zero_le h0;have htl:(Qx (L:Int) xs).length<=124:=by have:=YJ xs hok;unfold Qx;simp only[List.length_cons];omega
 have hlen:(Zi (Qx (L:Int) xs)).length=128:=Vf htl;have d0:(Zi (Qx (L:Int) xs)).drop 0=qM (crc (KY 124 (Qx (L:Int) xs))) 4++KY 124 (Qx (L:Int) xs):=by simp[Zi]
 have d4:(Zi (Qx (L:Int) xs)).drop 4=KY 124 (Qx (L:Int) xs):=by have:=kE (k:=4) d0 (QD _ _);simpa using this
 have ht4:(Zi (Qx (L:Int) xs)).take 4=qM (crc (KY 124 (Qx (L:Int) xs))) 4:=by unfold Zi;exact List.take_left' (QD _ _)
 have hQN:qaQ (Zi (Qx (L:Int) xs))=true:=by unfold qaQ;rw[ht4,d4,qaG 4 _ (by have:=qib (KY 124 (Qx (L:Int) xs));omega)];simp
 obtain⟨z,hz,hzz⟩:∃z,KY 124 (Qx (L:Int) xs)=78::UInt8.ofNat L::UInt8.ofNat xs.length::(QU xs++z)/\Kq z=true:=⟨List.replicate (124-(Qx (L:Int) xs).length) 0,by simp[KY,Qx],by simp[Kq]⟩
 rw[hz]at d4;have g:∀j:Nat,(Zi (Qx (L:Int) xs))[4+j]?=(78::UInt8.ofNat L::UInt8.ofNat xs.length::(QU xs++z))[j]?:=λj=>by rw[<-d4,List.getElem?_drop]
 have g4:=g 0;have g5:=g 1;have g6:=g 2;have d7:(Zi (Qx (L:Int) xs)).drop 7=QU xs++z:=by rw[show 7=4+3 from rfl,<-List.drop_drop,d4];rfl
 simp only[Nat.add_zero,Nat.reduceAdd,List.getElem?_cons_zero,List.getElem?_cons_succ]at g4 g5 g6;rw[qaF hlen hQN,g4,g5,g6,d7];simp only[Option.getD_some];rw[qab (show L<256 by omega),qab (show xs.length<256 by omega)];have hr:=its_rt (λx hx=>⟨hok x hx,hit x hx⟩) z xs.length (zM _);rw[List.take_length,List.drop_length]at hr;have e78:(78:UInt8).toNat=78:=rfl;rw[e78,qaE h5 hr,if_pos ⟨hm,by simpa [QU]using hzz⟩]
theorem SM.trans{S1 S2 S3:Sto}(h:SM S1 S2)(h':SM S2 S3):SM S1 S3:=⟨λr nd e=>h'.node r nd (h.node r nd e),λr e=>h'.pos r (h.pos r e)⟩
theorem Kv(t:List UInt8){a:Nat}(ha:a<t.length)(v:UInt8)(b:Nat):qP (t.set a v) b=if b=a then v.toNat else qP t b:=by
 unfold qP;by_cases h:b=a
 ·subst h;rw[if_pos rfl,List.getElem?_set_self ha];rfl
 ·rw[if_neg h,List.getElem?_set_ne (Ne.symm h)]
theorem cnt_lt{t:List UInt8}{a:Nat}(h:qP t a≠0):a<t.length:=by apply Classical.byContradiction;intro hn;exact h (by unfold qP;rw[List.getElem?_eq_none zO];rfl)
theorem cnt_u8(t:List UInt8)(a:Nat):qP t a<256:=UInt8.toNat_lt _
theorem Un:∀{l:List Nat}{t t':List UInt8},ZM l t=.ok t'->∀b,b≠0->qP t' b=qP t b+l.count b
 |[],t,t',h,b,_=>by simp only[ZM]at h;cases h;simp
 |a::r,t,t',h,b,hb=>by
  simp only[ZM]at h;split at h
  ·cases h
  ·rename_i t1 h1;rw[Un h b hb,List.count_cons];unfold ZG at h1;split at h1
   ·rename_i h0;cases h1;rw[if_neg zA2];omega
   ·split at h1
    ·cases h1
    ·split at h1
     ·cases h1
     ·rename_i h2 h3;cases h1;have hu:=cnt_u8 t a;unfold QZ;rw[Kv t (cnt_lt h2),qab zO];by_cases e:b=a
      ·subst e;simp;omega
      ·rw[if_neg e,if_neg zA2];omega
theorem Ue:∀{l:List Nat}{t t':List UInt8},looseL l t=.ok t'->∀b,b≠0->qP t' b+l.count b=qP t b
 |[],t,t',h,b,_=>by simp only[looseL]at h;cases h;simp
 |a::r,t,t',h,b,hb=>by
  simp only[looseL]at h;rw[List.count_cons];split at h
  ·rename_i h0;rw[if_neg zA2];exact Ue h b hb
  ·split at h
   ·cases h
   ·rename_i h0 h2;have:=Ue h b hb;have hu:=cnt_u8 t a;unfold vM at this;rw[Kv t (cnt_lt h2),qab zO]at this;by_cases e:b=a
    ·subst e;rw[if_pos rfl]at this;simp;omega
    ·rw[if_neg e]at this;rw[if_neg zA2];omega
theorem now0{S:Sto}(hS:qm S=true):qP S.now 0=0:=qaR (Qg.1 hS).2.1
theorem span_nil{S:Sto}{h:Nat}{xs:List It}(e:qz S h xs=some none):xs=[]:=by
 rcases Gp xs with rfl|⟨r,y,rfl⟩
 ·rfl
 ·exfalso;rw[Kk]at e;obtain⟨_,_,⟨_,e2⟩|⟨_,_,_,_,e2⟩⟩:=Tq e<;>cases e2
theorem Yl{S S':Sto}{h f:Nat}{p:List It}(hS:qm S=true)(hio:∀x∈p,QY x)(hsp:(qz S h p).isSome=true)(e:zX S (h:Int) p=.ok (f,S')):SM S S'/\qm S'=true/\(∀b,b≠0->qP S.now b+(qB p).count b<=qP S'.now b)/\qk S' f=some ((h:Int),p)/\8<=f/\f<256:=by
 obtain⟨t,hm,ht,hw,h8,hf,hfb,rfl,htm⟩:=qca hS e;have hmay:=(Yk hio hS e).1;have hl:=Up htm;have hc:=Un ht;have h0:qP t f=0:=by unfold Jv at hfb;simp only[Bool.and_eq_true,decide_eq_true_eq]at hfb;exact hfb.2.1
 have s1:SM S (qv S t):=qiZ λr hr=>by
  by_cases hr0:r=0
  ·subst hr0;have:=now0 hS;unfold qP at this;omega
  ·have:=hc r hr0;unfold qP at this;omega
 have s2:SM (qv S t) (vl (qv S t) f (Zi (Qx (h:Int) p))):=sm_put _ h0 (by show f<t.length;omega);refine⟨s1.trans s2,hmay,λb hb=>?_,?_,h8,hf⟩
 ·show _<=qP (t.set f 1) b;rw[Kv t zO];have:=hc b hb;split
  ·rename_i e;subst e;have e1:(1:UInt8).toNat=1:=rfl;omega
  ·omega
 ·rw[node_put (show f<t.length by omega)];exact node_rt hm hio
theorem made_one{S:Sto}{h f:Nat}{p:List It}(hn:qk S f=some ((h:Int),p))(h8:8<=f)(hf:f<256)(hsp:(qz S h p).isSome=true)(hne:p≠[]):(∃l,jv S (h+1) (jk (jj p) f)=some (qp (jk (jj p) f),l))/\qu S (h+1) [jk (jj p) f]=qu S h p:=by
 have hr:(jk (jj p) f).r=(f:Int):=rfl;have hk:qp (jk (jj p) f)=jj p:=rfl;constructor
 ·rcases hq:qz S h p with _|_|⟨f0,l0⟩
  ·rw[hq]at hsp;cases hsp
  ·exact absurd (span_nil hq) hne
  ·refine⟨l0,?_⟩;have hf0:f0=jj p:=by
    obtain⟨x,r,rfl⟩:∃x r,p=x::r:=by
     cases p with
     |nil=>exact absurd rfl hne
     |cons x r=>exact⟨x,r,rfl⟩
    obtain⟨⟨a,r1,e1,ha⟩,-⟩:=qet hq;obtain⟨l,ho⟩:=(QQ.1 hsp).1 x List.mem_cons_self;obtain⟨⟨a2,r2,e2,ha2⟩,-⟩:=UV S h x _ _ ho;have:qu S h (x::r)=qu S h [x]++qu S h r:=Qd h [x] r;rw[this,e2,List.cons_append,List.cons.injEq]at e1;rw[<-ha,<-e1.1,ha2];rfl
   rw[vk,hr,hk];unfold Va;rw[if_pos zO];simp only[Int.toNat_natCast,hn,if_true,hq,Option.getD_some,hf0]
 ·simp only[qu,List.flatMap_cons,List.flatMap_nil,List.append_nil,hr,Int.toNat_natCast,hn]
theorem SM.each{S S':Sto}(hm:SM S S'){h:Nat}{xs:List It}(e:VK S h xs):VK S' h xs:=λy hy=>by obtain⟨l,ho⟩:=e y hy;exact⟨l,hm.one h y _ ho⟩
theorem JY{S:Sto}{h:Nat}{xs ys:List It}(h1:VK S h xs)(h2:VK S h ys):VK S h (xs++ys):=λy hy=>(List.mem_append.1 hy).elim (h1 y) (h2 y)
theorem qbZ{h:Nat}:∀{ps:List (List It)}{S S':Sto}{up:List It},(∀p∈ps,p≠[]/\(∀x∈p,QY x)/\(qz S h p).isSome=true)->qm S=true->makeL (h:Int) ps S=.ok (up,S') ->
  SM S S'/\qm S'=true/\(∀b,b≠0->qP S.now b+(qB ps.flatten).count b<=qP S'.now b)/\VK S' (h+1) up/\qu S' (h+1) up=qu S h ps.flatten
 |[],S,S',up,_,hS,e=>by cases e;exact⟨⟨λ_ _ e=>e,λ_ e=>e⟩,hS,λb _=>by simp[qB],λy hy=>(List.not_mem_nil hy).elim,by simp[jQ]⟩
 |p::ps,S,S',up,hp,hS,e=>by
  simp only[makeL]at e;split at e
  ·cases e
  ·rename_i f S1 e1;obtain⟨hne,hio,hsp⟩:=hp p List.mem_cons_self;obtain⟨m1,hS1,hc1,hn1,h8,hf⟩:=Yl hS hio hsp e1;split at e
   ·cases e
   ·rename_i up1 S2 e2;cases e;obtain⟨m2,hS2,hc2,he2,hi2⟩:=qbZ (λq hq=>⟨(hp q (List.mem_cons_of_mem _ hq)).1,(hp q (List.mem_cons_of_mem _ hq)).2.1,m1.spanOk (hp q (List.mem_cons_of_mem _ hq)).2.2⟩) hS1 e2;have hsp2:=m2.spanOk (m1.spanOk hsp);obtain⟨ho,hi⟩:=made_one (m2.node _ _ hn1) h8 hf hsp2 hne;refine⟨m1.trans m2,hS2,λb hb=>?_,?_,?_⟩
    ·have:=hc1 b hb;have:=hc2 b hb;simp only[List.flatten_cons,qB,List.map_append,List.count_append]at*;omega
    ·intro y hy;rcases List.mem_cons.1 hy with rfl|hy
     ·exact ho
     ·exact he2 y hy
    ·have e3:jk (jj p) f::up1=[jk (jj p) f]++up1:=rfl;rw[e3,Qd,hi,hi2,List.flatten_cons,Qd,(m1.trans m2).items h p hsp];congr 1;have:∀qs:List (List It),(∀q∈qs,(qz S h q).isSome=true)->qu S1 h qs.flatten=qu S h qs.flatten:=λqs=>by
      induction qs with
      |nil=>intro _;simp[jQ]
      |cons q qs ih=>
       intro hq;rw[List.flatten_cons,Qd,Qd,m1.items h q (hq q List.mem_cons_self),ih λq' hq'=>hq q' (List.mem_cons_of_mem _ hq')]
     exact this ps λq hq=>(hp q (List.mem_cons_of_mem _ hq)).2.2
theorem each_pos{S:Sto}{h:Nat}{xs:List It}(e:VK S h xs){x:It}(hx:x∈xs)(h0:x.r.toNat≠0):0<qP S.now x.r.toNat:=by
 obtain⟨l,ho⟩:=e x hx;cases h with
 |zero=>
  unfold jv at ho;split at ho
  ·rename_i hc;rcases hc with hc|hc
   ·rw[hc]at h0;exact absurd rfl h0
   ·exact hc
  ·cases ho
 |succ h=>
  unfold jv at ho;split at ho
  ·split at ho
   ·cases ho
   ·rename_i hn;unfold qk at hn;split at hn
    ·cases hn
    ·rename_i hc;unfold qP;omega
  ·cases ho
theorem qcn(l:List It):(Zl l).flatten=l:=by unfold Zl;split<;>simp
theorem VG{S:Sto}{h:Nat}{xs ys zs:List It}(e:(qz S h (xs++ys++zs)).isSome=true):(qz S h ys).isSome=true:=by obtain⟨h1,h2⟩:=QQ.1 e;rw[Qd,Qd]at h2;exact QQ.2 ⟨λy hy=>h1 y (by simp[hy]),(List.pairwise_append.1 (List.pairwise_append.1 h2).1).2.1⟩
theorem vV{S S':Sto}{h:Nat}{l held up:List It}(hS:qm S=true)(hl:∀x∈l,QY x)(hh:∀x∈held,itB x.r x.val.length=true)(wEF:∀b,b≠0->(qB held).count b<=(qB l).count b)(hne:l≠[])(hsp:(qz S h l).isSome=true)(e:Qs S (h:Int) l held=.ok (up,S')):SM S S'/\qm S'=true/\(qz S' (h+1) up).isSome=true/\qu S' (h+1) up=qu S h l/\up≠[]:=by
 have hmay:=jZ hl hh hS e;unfold Qs at e;split at e
 ·cases e
 ·rename_i up1 S1 e1;split at e
  ·cases e
  ·rename_i t e2;cases e;have hp:∀p∈Zl l,p≠[]/\(∀x∈p,QY x)/\(qz S h p).isSome=true:=λp hp=>by
    refine⟨?_,XP hl p hp,?_⟩
    ·intro hn;subst hn;unfold Zl at hp;split at hp
     ·rename_i h5;simp only[List.mem_cons,List.not_mem_nil,or_false]at hp;rcases hp with hp|hp
      ·have:=congrArg List.length hp;simp at this;omega
      ·have:=congrArg List.length hp;simp at this;omega
     ·simp only[List.mem_cons,List.not_mem_nil,or_false]at hp;exact hne hp.symm
    ·unfold Zl at hp;split at hp
     ·simp only[List.mem_cons,List.not_mem_nil,or_false]at hp;rcases hp with rfl|rfl
      ·exact VG (xs:=[]) (zs:=l.drop 3) (by simpa using hsp)
      ·exact VG (xs:=l.take 3) (zs:=[]) (by simpa using hsp)
     ·simp only[List.mem_cons,List.not_mem_nil,or_false]at hp;subst hp;exact hsp
   obtain⟨m1,hS1,hc,he,hi⟩:=qbZ hp hS e1;rw[qcn]at hc hi;have hlc:=Ue e2;have m2:SM S1 (qv S1 t):=qiZ λr hr=>by
    show 0<qP t r;have hr':0<qP S1.now r:=hr;by_cases hr0:r=0
    ·subst hr0;have:=now0 hS1;omega
    ·have h1:=hc r hr0;have h2:=hlc r hr0;have h3:=wEF r hr0;by_cases hz:(qB l).count r=0
     ·omega
     ·obtain⟨x,hx,hxr⟩:∃x∈l,x.r.toNat=r:=by have:=List.count_pos_iff.1 (Nat.pos_of_ne_zero hz);unfold qB at this;simpa using this
      have:=each_pos (QQ.1 hsp).1 hx zO;rw[hxr]at this;omega
   have hZV:(qu S1 (h+1) up).Pairwise (λa b=>qV (qp a) (qp b)=true):=by rw[hi];exact(QQ.1 hsp).2
   have hs1:(qz S1 (h+1) up).isSome=true:=QQ.2 ⟨he,hZV⟩;refine⟨m1.trans m2,hmay.1,m2.spanOk hs1,?_,?_⟩
   ·rw[m2.items (h+1) up hs1,hi]
   ·intro hn;have h2:=hmay.2.1;rw[hn]at h2;unfold Zl at h2;split at h2<;>simp at h2
def UpOk(y:It):Prop:=QY y/\(y.r=0\/8<=y.r)/\y.r<256
theorem replL_ok{ys up:List It}{p m:Nat}(h1:∀y∈ys,QY y)(h2:∀y∈up,QY y):∀y∈zY ys p m up,QY y:=λy hy=>by
 unfold zY at hy;rcases List.mem_append.1 hy with hy|hy
 ·rcases List.mem_append.1 hy with hy|hy
  ·exact h1 y (List.mem_of_mem_take hy)
  ·exact h2 y hy
 ·exact h1 y (List.mem_of_mem_drop hy)
theorem qdO{k:K3}:∀{ps:List Stp}{up up':List It}{S S':Sto},(∀s∈ps,qfP k s)->(∀y∈up,UpOk y)->qm S=true->jK k ps up S=.ok (up',S')->qm S'=true/\(∀y∈up',UpOk y)/\(ps≠[]->0<up'.length/\up'.length<=2/\∀y∈up',8<=y.r/\y.val=[])
 |[],up,up',S,S',_,hu,hS,e=>by cases e;exact⟨hS,hu,λh=>absurd rfl h⟩
 |(lvl,xs,p)::ps,up,up',S,S',hw,hu,hS,e=>by
  have hw0:=hw _ List.mem_cons_self;simp only[jK]at e;split at e
  ·cases e
  ·rename_i up1 S1 e1;obtain⟨h1,h2,h3⟩:=kV (replL_ok (λy hy=>(hw0.its y hy).1) λy hy=>(hu y hy).1) (λy hy=>(hu y hy).2) hS e1;have hu1:∀y∈up1,UpOk y:=λy hy=>⟨(h3 y hy).1,.inr (h3 y hy).2.1.1,(h3 y hy).2.1.2⟩
   obtain⟨g1,g2,g3⟩:=qdO (λs hs=>hw s (List.mem_cons_of_mem _ hs)) hu1 h1 e;refine⟨g1,g2,λ_=>?_⟩;by_cases hp:ps=[]
   ·subst hp;cases e;exact⟨h2.1,h2.2,λy hy=>⟨(h3 y hy).2.1.1,(h3 y hy).2.2⟩⟩
   ·exact g3 hp
theorem askP_up{S:Sto}{x:It}(hx:QY x)(h:TS S x=0):UpOk x:=by
 unfold TS at h;split at h
 ·rename_i h1;unfold itB at h1;simp only[decide_eq_true_eq]at h1;have:=hx.2.2.2.1;exact⟨hx,zO,zO⟩
 ·cases h
theorem preX_may{S S2:Sto}{lvl a:Nat}{xs up:List It}{x:It}(hS:qm S=true)(hn:qk S a=some ((lvl:Int),xs))(hsp:(qz S lvl xs).isSome=true)(hx:UpOk x)(e:GS S lvl xs x=.ok (up,S2)):qm S2=true/\0<up.length/\∀y∈up,UpOk y/\8<=y.r:=by
 have hwl:=km (k:=qp x) lvl (qF hn).1 hsp;unfold GS at e;split at e
 ·cases e
 ·split at e
  ·cases e
  ·rename_i up1 S1 e1;obtain⟨h1,h2,h3⟩:=qdO (λs hs=>qfD lvl hn hsp s (List.mem_reverse.1 hs)) (λy hy=>by rw[List.mem_singleton.1 hy];exact hx) hS e1;obtain⟨h4,h5,h6⟩:=h3 (λe=>by have:=congrArg List.length e;simp[hwl]at this);split at e
   ·obtain⟨k1,k2,k3⟩:=kV (λy hy=>(h2 y hy).1) (λy hy=>(h2 y hy).2) h1 e;exact⟨k1,k2.1,λy hy=>⟨⟨(k3 y hy).1,.inr (k3 y hy).2.1.1,(k3 y hy).2.1.2⟩,(k3 y hy).2.1.1⟩⟩
   ·cases e;exact⟨h1,h4,λy hy=>⟨h2 y hy,(h6 y hy).1⟩⟩
theorem putY_may{S S':Sto}{lvl a r:Nat}{xs:List It}{x:It}(hS:qm S=true)(ha:8<=a)(hn:qk S a=some ((lvl:Int),xs))(hsp:(qz S lvl xs).isSome=true)(hx:QY x)(e:GT S lvl xs a x=.ok (r,S')):qm S'=true/\8<=r/\r<256:=by
 unfold GT at e;split at e
 ·rename_i h0;rw[qfm]at e;split at e
  ·cases e
  ·rename_i up S2 e2;obtain⟨h1,h2,h3⟩:=preX_may hS hn hsp (askP_up hx h0) e2;split at e
   ·cases e
   ·rename_i t ht;simp only[Except.ok.injEq,Prod.mk.injEq]at e;obtain⟨rfl,rfl⟩:=e;obtain⟨y,ys,rfl⟩:∃y ys,up=y::ys:=by
     cases up with
     |nil=>simp at h2
     |cons y ys=>exact⟨y,ys,rfl⟩
    obtain⟨h4,h5⟩:=h3 y List.mem_cons_self;have h6:=h4.2.2;exact⟨vy h1 (Vb ha (Qg.1 h1).2.1 ht),by simp only[VP];omega,by simp only[VP];omega⟩
 ·cases e
theorem qdN{k:K3}:∀{ps:List Stp}{up:List It}{S:Sto}{e:Int},jK k ps up S=.error e->e≠0
 |[],up,S,e,h=>by cases h
 |(lvl,xs,p)::ps,up,S,e,h=>by
  simp only[jK]at h;split at h
  ·rename_i e1 h1;cases h;exact vT h1
  ·exact qdN h
theorem preX_err{S:Sto}{lvl:Nat}{xs:List It}{x:It}{e:Int}(h:GS S lvl xs x=.error e):e≠0:=by
 unfold GS at h;split at h
 ·cases h;decide
 ·split at h
  ·rename_i e1 h1;cases h;exact qdN h1
  ·split at h
   ·exact vT h
   ·cases h
theorem putY_err{S:Sto}{lvl a:Nat}{xs:List It}{x:It}{e:Int}(h:GT S lvl xs a x=.error e):e≠0:=by
 unfold GT at h;split at h
 ·rw[qfm]at h;split at h
  ·rename_i e1 h1;cases h;exact preX_err h1
  ·split at h
   ·cases h;decide
   ·cases h
 ·rename_i h0;cases h;exact h0
def Xi(k:K3)(x:It)(l:List It):List It:=(l.filter λy=>qV (qp y) k)++[x]++l.filter λy=>qV k (qp y)
abbrev Ord(l:List It):Prop:=l.Pairwise λa b=>qV (qp a) (qp b)=true
theorem Vz(k:K3):qV k k=false:=YL k
theorem qjG{x:It}{l:List It}(h:Ord l):Ord (Xi (qp x) x l):=by
 unfold Xi;refine List.pairwise_append.2 ⟨List.pairwise_append.2 ⟨h.sublist List.filter_sublist,List.pairwise_singleton _ _,λa ha b hb=>?_⟩,h.sublist List.filter_sublist,λa ha b hb=>?_⟩
 ·rw[List.mem_singleton.1 hb];exact(List.mem_filter.1 ha).2
 ·have h2:=(List.mem_filter.1 hb).2;rcases List.mem_append.1 ha with ha|ha
  ·exact JF (List.mem_filter.1 ha).2 h2
  ·rw[List.mem_singleton.1 ha];exact h2
theorem ins_mid{k:K3}{x:It}{A B C:List It}(hA:∀y∈A,qV (qp y) k=true)(hC:∀y∈C,qV k (qp y)=true):Xi k x (A++B++C)=A++Xi k x B++C:=by
 have a1:A.filter (λy=>qV (qp y) k)=A:=List.filter_eq_self.2 hA;have a2:A.filter (λy=>qV k (qp y))=[]:=List.filter_eq_nil_iff.2 λy hy e=>by have:=JF (hA y hy) e;rw[Vz]at this;cases this
 have c1:C.filter (λy=>qV k (qp y))=C:=List.filter_eq_self.2 hC;have c2:C.filter (λy=>qV (qp y) k)=[]:=List.filter_eq_nil_iff.2 λy hy e=>by have:=JF (hC y hy) e;rw[Vz]at this;cases this
 unfold Xi;simp only[List.filter_append,a1,a2,c1,c2,List.append_nil,List.nil_append,List.append_assoc]
theorem leaf_ins{k:K3}{x:It}{xs:List It}(h:Ord xs):zY xs (qA xs k) (vd k 0 xs) [x]=Xi k x xs:=by
 have hp:=λi hi=>Jl (k:=k) h i hi;have hle:=Jm xs k;have e1:xs.take (qA xs k)=xs.filter λy=>qV (qp y) k:=by
  conv=>rhs;rw[<-List.take_append_drop (qA xs k) xs]
  rw[List.filter_append,List.filter_eq_self.2,List.filter_eq_nil_iff.2,List.append_nil]
  ·intro y hy e;obtain⟨i,hi,rfl⟩:=List.mem_iff_getElem.1 hy;rw[List.length_drop]at hi;rw[List.getElem_drop]at e;have:=(hp _ zO).1 e;omega
  ·intro y hy;obtain⟨i,hi,rfl⟩:=List.mem_iff_getElem.1 hy;rw[List.length_take]at hi;rw[List.getElem_take];exact(hp _ zO).2 zO
 have hk:∀i (hi:i<xs.length),qV k (qp xs[i])=true↔qA xs k+vd k 0 xs<=i:=λi hi=>by
  unfold vd;by_cases hlt:qA xs k<xs.length
  ·rw[JM hlt];by_cases he:qp xs[qA xs k]=k
   ·rw[if_neg (by simp[he])];constructor
    ·intro e;apply Classical.byContradiction;intro hn;by_cases hi2:i<qA xs k
     ·have:=JF e ((hp i hi).2 hi2);rw[Vz]at this;cases this
     ·obtain rfl:i=qA xs k:=zO;rw[he,Vz]at e;cases e
    ·intro hi2;have:=KU h (i:=qA xs k) (j:=i) zO hi
     rwa [he]at this
   ·rw[if_pos (by simp[he])];have hge:qV (qp xs[qA xs k]) k=false:=by rw[<-Bool.not_eq_true];intro e;have:=(hp _ hlt).1 e;omega
    have hgt:qV k (qp xs[qA xs k])=true:=by
     rcases hq:qV k (qp xs[qA xs k])with _|_
     ·exact absurd (qeU hq hge) he
     ·rfl
    constructor
    ·intro e;apply Classical.byContradiction;intro hn;have:=JF e ((hp i hi).2 zO);rw[Vz]at this;cases this
    ·intro hi2;by_cases hi3:i=qA xs k
     ·subst hi3;exact hgt
     ·exact JF hgt (KU h zO hi)
  ·rw[VX hlt,if_pos zA3];constructor
   ·intro e;have:=JF e ((hp i hi).2 zO);rw[Vz]at this;cases this
   ·intro hi2;omega
 have e2:xs.drop (qA xs k+vd k 0 xs)=xs.filter λy=>qV k (qp y):=by
  conv=>rhs;rw[<-List.take_append_drop (qA xs k+vd k 0 xs) xs]
  rw[List.filter_append,List.filter_eq_nil_iff.2,List.filter_eq_self.2,List.nil_append]
  ·intro y hy;obtain⟨i,hi,rfl⟩:=List.mem_iff_getElem.1 hy;rw[List.length_drop]at hi;rw[List.getElem_drop];exact(hk _ zO).2 zO
  ·intro y hy e;obtain⟨i,hi,rfl⟩:=List.mem_iff_getElem.1 hy;rw[List.length_take]at hi;rw[List.getElem_take]at e;have:=(hk _ zO).1 e;omega
 unfold zY Xi;rw[e1,e2]
theorem Uo{S:Sto}{h:Nat}{xs:List It}{k:K3}(hs:(qz S h xs).isSome=true)(h0:0<xs.length):(∀y∈qu S h (xs.take (Qy xs k)),qV (qp y) k=true)/\∀y∈qu S h (xs.drop (Qy xs k+1)),qV k (qp y)=true:=by
 have ho:=(ZN hs).2;have hp:=λi hi=>Jl (k:=k) ho i hi;have hle:=Jm xs k;have hlt:=QT (k:=k) h0;constructor
 ·intro y hy;have hl:=items_lt hs hlt hy;have hGA:0<Qy xs k:=by
   rcases Nat.eq_zero_or_pos (Qy xs k)with e|e
   ·rw[e,List.take_zero,jQ]at hy;cases hy
   ·exact e
  have hk:leK (qp xs[Qy xs k]) k:=by
   by_cases hi:VN xs k=true
   ·have e1:Qy xs k=qA xs k:=by unfold Qy;rw[if_pos hi]
    have hCB:qA xs k<xs.length:=zO;rw[JM hCB,decide_eq_true_eq]at hi;have:xs[Qy xs k]=xs[qA xs k]:=by congr 1
    rw[this,hi];exact UO k
   ·have e1:Qy xs k=qA xs k-1:=by unfold Qy;rw[if_neg hi]
    exact kG ((hp _ hlt).2 zO)
  exact XG hl hk
 ·intro y hy;obtain⟨j,hj,hy⟩:=qkG hy;rw[List.length_drop]at hj;rw[List.getElem_drop]at hy;have hl:=one_low hs (j:=Qy xs k+1+j) zO hy;refine XG ?_ hl;have wBE:∀i (hi:i<xs.length),Qy xs k<i->qV k (qp xs[i])=true:=λi hi hgt=>by
   by_cases his:VN xs k=true
   ·have e1:Qy xs k=qA xs k:=by unfold Qy;rw[if_pos his]
    have hCB:qA xs k<xs.length:=zO;rw[JM hCB,decide_eq_true_eq]at his;have:=KU ho (i:=qA xs k) (j:=i) zO hi
    rwa [his]at this
   ·have e1:Qy xs k=qA xs k-1:=by unfold Qy;rw[if_neg his]
    have hCB:qA xs k<xs.length:=zO;have hge:qV (qp xs[qA xs k]) k=false:=by rw[<-Bool.not_eq_true];intro e;have:=(hp _ hCB).1 e;omega
    rw[JM hCB,decide_eq_true_eq]at his;have hgk:qV k (qp xs[qA xs k])=true:=by
     rcases hq:qV k (qp xs[qA xs k])with _|_
     ·exact absurd (qeU hq hge) his
     ·rfl
    by_cases hi3:i=qA xs k
    ·subst hi3;exact hgk
    ·exact JF hgk (KU ho zO hi)
  exact wBE _ zO zO
theorem qcs(A B C:List It)(b:Nat):(qB B).count b<=(qB (A++B++C)).count b:=by simp only[qB,List.map_append,List.count_append];omega
structure qfN(S:Sto)(x:It):Prop where
 ok:QY x
 it:itB x.r x.val.length=true
 one:jv S 0 x=some (qp x,qp x)
theorem qfN.of{S:Sto}{x:It}(hx:QY x)(h:TS S x=0):qfN S x:=by
 unfold TS at h;split at h
 ·rename_i h1;split at h
  ·cases h
  ·rename_i h2;refine⟨hx,h1,?_⟩;unfold jv;rw[if_pos];by_cases hr:x.r=0
   ·exact .inl hr
   ·exact .inr (Nat.pos_of_ne_zero λe=>h2 ⟨hr,e⟩)
 ·cases h
theorem qbJ{S:Sto}{x:It}(hS:qm S=true)(hx:qfN S x):∀(h:Nat){a:Nat}{xs up:List It}{S':Sto},qk S a=some ((h:Int),xs)->(qz S h xs).isSome=true->jK (qp x) (jl S (qp x) h xs).reverse [x] S=.ok (up,S') ->
  SM S S'/\qm S'=true/\(qz S' (h+1) up).isSome=true/\qu S' (h+1) up=Xi (qp x) x (qu S h xs)/\up≠[]/\∀y∈up,QY y/\itB y.r y.val.length=true
 |0,a,xs,up,S',hn,hs,e=>by
  rw[Ko,List.reverse_singleton,GJ]at e;simp only at e;have ho:Ord xs:=(ZN hs).2;rw[leaf_ins ho]at e;have hmx:=(qF hn).2.1;have wHO:∀y∈Xi (qp x) x xs,y=x\/y∈xs:=λy hy=>by
   unfold Xi at hy;simp only[List.mem_append,List.mem_filter,List.mem_singleton]at hy;rcases hy with(hy|hy)|hy
   ·exact .inr hy.1
   ·exact .inl hy
   ·exact .inr hy.1
  have hl:∀y∈Xi (qp x) x xs,QY y:=λy hy=>by
   rcases wHO y hy with rfl|hy
   ·exact hx.ok
   ·exact(hmx y hy).1
  have hh:∀y∈[x],itB y.r y.val.length=true:=λy hy=>by rw[List.mem_singleton.1 hy];exact hx.it
  have hsp:(qz S 0 (Xi (qp x) x xs)).isSome=true:=QQ.2 ⟨λy hy=>by
   rcases wHO y hy with rfl|hy
   ·exact⟨_,hx.one⟩
   ·exact(QQ.1 hs).1 y hy,qjG ho⟩
  have hb:=vV (h:=0) hS hl hh (λb _=>by unfold Xi;exact qcs _ [x] _ b) (by unfold Xi;simp) hsp e;exact⟨hb.1,hb.2.1,hb.2.2.1,hb.2.2.2.1,hb.2.2.2.2,(jZ hl hh hS e).2.2.1⟩
 |h+1,a,xs,up,S',hn,hs,e=>by
  have h0:=Vm (qF hn).1 zO;have hlt:=QT (k:=qp x) h0;obtain⟨b,e1,-,-,zs,e4,e5⟩:=QE (QG hs _ (List.getElem_mem hlt));have hnb:qk S (xs[Qy xs (qp x)].r).toNat=some ((h:Int),zs):=by rw[e1,Int.toNat_natCast];exact e4
  rw[JK (zL hlt) hnb,List.reverse_cons,VV]at e;split at e
  ·cases e
  ·rename_i up1 S1 eg;obtain⟨m1,hS1,wOL,hi1,hUW,hWV⟩:=qbJ hS hx h e4 e5 eg;rw[GJ]at e;simp only at e;have hm1:vd (qp x) (h+1) xs=1:=by unfold vd;rw[if_neg zO]
   rw[hm1]at e;unfold zY at e;obtain⟨hA,hC⟩:=Uo (k:=qp x) hs h0;have hmx:=(qF hn).2.1;generalize hp:Qy xs (qp x)=p at*;have hLB:xs=xs.take p++[xs[p]]++xs.drop (p+1):=by rw[List.append_assoc,List.singleton_append,List.getElem_cons_drop,List.take_append_drop]
   have hs':=hs;rw[hLB]at hs';have hsA:(qz S (h+1) (xs.take p)).isSome=true:=VG (xs:=[]) (ys:=xs.take p) (zs:=[xs[p]]++xs.drop (p+1)) (by rw[List.nil_append,<-List.append_assoc];exact hs');have hsC:(qz S (h+1) (xs.drop (p+1))).isSome=true:=VG (xs:=xs.take p++[xs[p]]) (ys:=xs.drop (p+1)) (zs:=[]) (by rw[List.append_nil];exact hs');have hB:qu S (h+1) [xs[p]]=qu S h zs:=by simp only[qu,List.flatMap_cons,List.flatMap_nil,List.append_nil,hnb]
   have wJP:qu S1 (h+1) (xs.take p++up1++xs.drop (p+1))=Xi (qp x) x (qu S (h+1) xs):=by
    conv=>rhs;rw[hLB,Qd,Qd,ins_mid hA hC,hB,<-hi1]
    rw[Qd,Qd,m1.items _ _ hsA,m1.items _ _ hsC]
   have hl:∀y∈xs.take p++up1++xs.drop (p+1),QY y:=λy hy=>by
    rcases List.mem_append.1 hy with hy|hy
    ·rcases List.mem_append.1 hy with hy|hy
     ·exact(hmx y (List.mem_of_mem_take hy)).1
     ·exact(hWV y hy).1
    ·exact(hmx y (List.mem_of_mem_drop hy)).1
   have hsp:(qz S1 (h+1) (xs.take p++up1++xs.drop (p+1))).isSome=true:=QQ.2 ⟨JY (JY (m1.each (QQ.1 hsA).1) (QQ.1 wOL).1) (m1.each (QQ.1 hsC).1),by rw[wJP];exact qjG (ZN hs).1⟩;have hb:=vV (h:=h+1) hS1 hl (λy hy=>(hWV y hy).2) (λb _=>qcs _ up1 _ b) (by simp[hUW]) hsp e;exact⟨m1.trans hb.1,hb.2.1,hb.2.2.1,hb.2.2.2.1.trans wJP,hb.2.2.2.2,(jZ hl (λy hy=>(hWV y hy).2) hS1 e).2.2.1⟩
theorem qgL{lvl:Int}:∀{ps:List (List It)}{S S':Sto}{up:List It},makeL lvl ps S=.ok (up,S')->up.length=ps.length
 |[],S,S',up,h=>by cases h;rfl
 |p::r,S,S',up,h=>by
  simp only[makeL]at h;split at h
  ·cases h
  ·split at h
   ·cases h
   ·rename_i hl;cases h;simp[qgL hl]
theorem qdP{k:K3}:∀{ps:List Stp}{up up':List It}{S S':Sto},jK k ps up S=.ok (up',S')->up.length<=2->up'.length<=2
 |[],up,up',S,S',h,h0=>by cases h;exact h0
 |(lvl,xs,p)::r,up,up',S,S',h,h0=>by
  simp only[jK]at h;split at h
  ·cases h
  ·rename_i up1 S1 hb;refine qdP h ?_;unfold Qs at hb;split at hb
   ·cases hb
   ·rename_i hm;split at hb
    ·cases hb
    ·cases hb;rw[qgL hm];unfold Zl;split<;>simp
theorem UW{S:Sto}{H:Nat}{y:It}(h:(qz S (H+1) [y]).isSome=true):∃ys,qk S y.r.toNat=some ((H:Int),ys)/\(qz S H ys).isSome=true/\qu S (H+1) [y]=qu S H ys:=by
 obtain⟨b,e1,-,-,ys,e4,e5⟩:=QE (QG h y zA3);have hn:qk S y.r.toNat=some ((H:Int),ys):=by rw[e1,Int.toNat_natCast];exact e4
 exact⟨ys,hn,e5,by simp only[qu,List.flatMap_cons,List.flatMap_nil,List.append_nil,hn]⟩
theorem qkZ{S S':Sto}{h a r:Nat}{xs:List It}{x:It}(hS:qm S=true)(hx:qfN S x)(hn:qk S a=some ((h:Int),xs))(hs:(qz S h xs).isSome=true)(e:putX S h xs a x=.ok (r,S')):∃S2 t,∃(H:Nat)(ys:List It),S'=qv S2 t/\SM S S2/\qm S2=true/\qk S2 r=some ((H:Int),ys)/\(qz S2 H ys).isSome=true/\qu S2 H ys=Xi (qp x) x (qu S h xs)/\QC S2 (-1) S2.now a=some t:=by
 unfold putX at e;split at e
 ·cases e
 ·split at e
  ·cases e
  ·rename_i up S1 eg;obtain⟨m1,hS1,wOL,hi1,hUW,hWV⟩:=qbJ hS hx h hn hs eg;have hwl:=km (k:=qp x) h (qF hn).1 hs;split at e
   ·cases e
   ·rename_i up2 S2 eb;split at e
    ·cases e
    ·rename_i t hl;cases e;split at eb
     ·rename_i hlen;rw[hwl]at eb;have hb:=vV (h:=h+1) hS1 (λy hy=>(hWV y hy).1) (λy hy=>(hWV y hy).2) (λb _=>zM _) hUW wOL eb;have hmay:=jZ (λy hy=>(hWV y hy).1) (λy hy=>(hWV y hy).2) hS1 eb;have hup:up.length<=2:=qdP eg zA3;obtain⟨y,rfl⟩:∃y,up2=[y]:=by have h1:=hmay.2.1;unfold Zl at h1;rw[if_neg zO]at h1;exact List.length_eq_one_iff.1 (by simpa using h1)
      obtain⟨ys,g1,g2,g3⟩:=UW hb.2.2.1;exact⟨S2,t,h+1,ys,rfl,m1.trans hb.1,hb.2.1,g1,g2,by rw[<-g3,hb.2.2.2.1,hi1],hl⟩
     ·cases eb;rename_i hlen;obtain⟨y,rfl⟩:∃y,up=[y]:=List.length_eq_one_iff.1 (by have:=List.length_pos_iff.2 hUW;omega);obtain⟨ys,g1,g2,g3⟩:=UW wOL;exact⟨S1,t,h,ys,rfl,m1,hS1,g1,g2,by rw[<-g3,hi1],hl⟩
def ZJ(S:Sto)(xs:List It)(i:Nat):List It:=match xs[i]? with
 |none=>[]
 |some y=>match qk S y.r.toNat with
  |none=>[]
  |some (_,ys)=>ys
def Zr(S:Sto)(xs:List It)(p:Nat)(l:List It):List It×Nat×Nat:=
 if p+1=xs.length then
  if p=0 then(l,p,1)else if 5<(ZJ S xs (p-1)).length+l.length then(l,p,1) else(ZJ S xs (p-1)++l,p-1,2)
 else if 5<(ZJ S xs (p+1)).length+l.length then(l,p,1) else(l++ZJ S xs (p+1),p,2)
def JQ(S:Sto)(s:Stp)(l hs:List It):Except Int (List It×List It×Sto):=
 if l=[]then .ok (zY s.2.1 s.2.2 1 [],[],S) else
 match Qs S ((s.1:Int)-1) (Zr S s.2.1 s.2.2 l).1 hs with
 |.error e=>.error e
 |.ok (up,S')=>.ok (zY s.2.1 (Zr S s.2.1 s.2.2 l).2.1 (Zr S s.2.1 s.2.2 l).2.2 up,up,S')
def jz:List Stp->List It->List It->Sto->Except Int (List It×List It×Sto)
 |[],l,hs,S=>.ok (l,hs,S)
 |s::r,l,hs,S=>match JQ S s l hs with
  |.error e=>.error e
  |.ok (l',hs',S')=>jz r l' hs' S'
theorem vq:∀(ps qs:List Stp)(l hs:List It)(S:Sto),jz (ps++qs) l hs S=match jz ps l hs S with
  |.error e=>.error e
  |.ok (l',hs',S')=>jz qs l' hs' S'
 |[],qs,l,hs,S=>rfl
 |s::ps,qs,l,hs,S=>by
  simp only[List.cons_append,jz];rcases JQ S s l hs with e|⟨l',hs',S'⟩
  ·rfl
  ·exact vq ps qs l' hs' S'
theorem GE(s:Stp)(l hs:List It)(S:Sto):jz [s] l hs S=JQ S s l hs:=by simp only[jz];rcases JQ S s l hs with e|⟨l',hs',S'⟩<;>rfl
def qbR(l:List Stp):List It:=match l with
 |[]=>[]
 |s::_=>zY s.2.1 s.2.2 1 []
def qbA(k:K3)(l:List Stp)(S:Sto):Except Int (List It×List It×Sto):=jz l.tail (qbR l) [] S
def Zx:Nat->Sto->Nat->Except Int (Nat×Sto)
 |0,S,f=>.ok (f,S)
 |n+1,S,f=>match qk S f with
  |none=>.error 8
  |some (lvl,ys)=>match ys with
   |[y]=>if lvl=0 then .ok (f,S)else match ZG S.now y.r.toNat with
    |.error e=>.error e
    |.ok t=>match QC (qv S t) (-1) t f with
     |none=>.error 8
     |some t'=>Zx n (qv S t') y.r.toNat
   |_=>.ok (f,S)
def KZ(S:Sto)(L:Nat)(xs:List It)(k:K3):Except Int (Nat×Sto):=
 match qbA k (jl S k L xs).reverse S with
 |.error e=>.error e
 |.ok (l,hs,S1)=>match Qs S1 (if l=[]then 0 else(((jl S k L xs).length-1:Nat):Int)) l hs with
  |.error e=>.error e
  |.ok (up,S2)=>Zx 7 S2 (VP up)
def delX(S:Sto)(L:Nat)(xs:List It)(root:Nat)(k:K3):Except Int (Nat×Sto):=
 match KZ S L xs k with
 |.error e=>.error e
 |.ok (g,S3)=>match QC S3 (-1) S3.now root with
  |none=>.error 8
  |some t=>.ok (g,qv S3 t)
def Xs(S:Sto)(L:Nat)(xs:List It)(root:Nat)(k:K3):Except Int (Nat×Sto):=if(Vc S k L xs).isSome=true then delX S L xs root k else .error 6
def JH(k:K3)(l:List It):List It:=l.filter λy=>!decide (qp y=k)
theorem Ve(k:K3)(a b:List It):JH k (a++b)=JH k a++JH k b:=List.filter_append a b
theorem XR{k:K3}{l:List It}(h:∀y∈l,qV (qp y) k=true):JH k l=l:=List.filter_eq_self.2 λy hy=>by have:=h y hy;simp only[Bool.not_eq_true',decide_eq_false_iff_not];intro e;rw[e,Vz]at this;cases this
theorem XS{k:K3}{l:List It}(h:∀y∈l,qV k (qp y)=true):JH k l=l:=List.filter_eq_self.2 λy hy=>by have:=h y hy;simp only[Bool.not_eq_true',decide_eq_false_iff_not];intro e;rw[e,Vz]at this;cases this
theorem qfp{k:K3}{l:List It}(h:Ord l):Ord (JH k l):=List.Pairwise.sublist List.filter_sublist h
theorem leaf_rem{k:K3}{xs:List It}(h:Ord xs)(hi:VN xs k=true):zY xs (qA xs k) 1 []=JH k xs:=by
 have hlt:qA xs k<xs.length:=by
  rcases Nat.lt_or_ge (qA xs k) xs.length with h1|h1
  ·exact h1
  ·rw[VX zO]at hi;cases hi
 have hk:=hi;rw[JM hlt,decide_eq_true_eq]at hk;have e:xs=xs.take (qA xs k)++([xs[qA xs k]]++xs.drop (qA xs k+1)):=by rw[List.singleton_append,<-List.drop_eq_getElem_cons hlt,List.take_append_drop]
 have e1:JH k (xs.take (qA xs k))=xs.take (qA xs k):=XR λy hy=>by obtain⟨i,hi',rfl⟩:=List.mem_iff_getElem.1 hy;rw[List.length_take]at hi';rw[List.getElem_take];exact(Jl h i zO).2 zO
 have e2:JH k (xs.drop (qA xs k+1))=xs.drop (qA xs k+1):=XS λy hy=>by
  obtain⟨i,hi',rfl⟩:=List.mem_iff_getElem.1 hy;rw[List.length_drop]at hi';rw[List.getElem_drop];have h1:=KU h (i:=qA xs k) (j:=qA xs k+1+i) zO zO
  rwa [hk]at h1
 have e3:JH k [xs[qA xs k]]=[]:=by simp[JH,hk]
 conv=>rhs;rw[e,Ve,Ve,e1,e2,e3]
 simp[zY]
theorem qjT{S S2:Sto}{h:Nat}{k:K3}{A X C up:List It}(hs:(qz S (h+1) (A++X++C)).isSome=true)(m:SM S S2)(hA:JH k (qu S (h+1) A)=qu S (h+1) A)(hC:JH k (qu S (h+1) C)=qu S (h+1) C)(hu:VK S2 (h+1) up)(hi:qu S2 (h+1) up=JH k (qu S (h+1) X)):(qz S2 (h+1) (A++up++C)).isSome=true/\qu S2 (h+1) (A++up++C)=JH k (qu S (h+1) (A++X++C)):=by
 have hsA:(qz S (h+1) A).isSome=true:=VG (xs:=[]) (ys:=A) (zs:=X++C) (by rw[List.nil_append,<-List.append_assoc];exact hs);have hsC:(qz S (h+1) C).isSome=true:=VG (xs:=A++X) (ys:=C) (zs:=[]) (by rw[List.append_nil];exact hs);have e:qu S2 (h+1) (A++up++C)=JH k (qu S (h+1) (A++X++C)):=by rw[Qd,Qd,m.items _ _ hsA,m.items _ _ hsC,hi,Qd,Qd,Ve,Ve,hA,hC]
 refine⟨QQ.2 ⟨JY (JY (m.each (QQ.1 hsA).1) hu) (m.each (QQ.1 hsC).1),?_⟩,e⟩;rw[e];exact qfp (ZN hs).1
end Go.Proofs.YtmeadnlmepcmbaaGreat
