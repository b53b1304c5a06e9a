/- Lemmas of the proof. -/
import Derived.Deep.LoopGhost
import Derived.Test.YtmeadnlmepcmbaaGreatZS14
set_option linter.all false
set_option maxHeartbeats 8000000
open Go.Proofs.Tryz
open Go.Value renaming slice→I,int→Oa,pointer→Od
open Option renaming some→M,none→Y
open Go.Obj renaming cells→O
open Go renaming World→Z,Value→Ob
open Go.IntKind renaming i64→Oc
open Go.World renaming alloc→Oe
open Bool renaming true→Of,false→Og
namespace Go.Proofs.YtmeadnlmepcmbaaGreat
open Go.RowKit Go.Shelf
attribute [local go_sem] Oper.semAt_some
variable {W W':World}{v:Value}
abbrev Us:Type:=Stp×Sl
abbrev usz:Us:=((0,[],0),(Y,0,0))
set_option maxRecDepth 100000 in
theorem backs_in(n:Nat)(hn:1<=n)(l Bs b off len cap:Nat)(us:List Us)(hDE:len<1099511627776)(J Jx:List Nat->Z->Prop)(hY:∀pre (x:Nat) W,J pre W->pre.length<len->YieldAt Fence.wide (n-1) prog l #[(x:Int),.agg #[Oa Oc ((us[x]?.getD usz).1.1:Int),sv (us[x]?.getD usz).2,Oa Oc ((us[x]?.getD usz).1.2.2:Int)]] W λe W'=>
   (e=.returned (.bool Of)/\J (pre++[x]) W'/\Qx Bs b W W')\/(e=.returned (.bool Og)/\Jx (pre++[x]) W'))
  (W:Z) (hBs:W.cell? Bs=M (I (b,off) len cap)) (hc:∀i,i<len->W.cell? ⟨b,off+i*3,Y⟩=M (Oa Oc ((us[i]?.getD usz).1.1:Int))/\W.cell? ⟨b,off+i*3+1,Y⟩=M (sv (us[i]?.getD usz).2)/\W.cell? ⟨b,off+i*3+2,Y⟩=M (Oa Oc ((us[i]?.getD usz).1.2.2:Int))) (h0:J [] W) :
  CallsIn Fence.wide n prog 176 #[.func (.yield l) #[] #[],Od Bs] W λe W'=>(∃v,e=.returned v) /\
   ((∃ys,ys=jf (λj=>len-1-j) len/\J ys W')\/(∃pre,(∃k,k<=len/\pre=jf (λj=>len-1-j) k)/\Jx pre W')):=by
 refine callsIn_of_wp func176 rfl trivial ?_ rfl;simp only[ntmps176,List.size_toArray,List.length_cons,List.length_nil,Nat.reduceAdd,Nat.reduceSub,Array.replicate_succ,Array.replicate_zero,List.push_toArray,List.append_toArray,List.nil_append,List.cons_append]
 gi_wp2
 gi_loopw [3] (λi wr=>∃k:Nat,k<=len/\i=Oa Oc ((len:Int)-1-k)/\J (jf (λj=>len-1-j) k) wr/\Qx Bs b W wr)
  (λi _=>(intOf i+1).toNat)
 case atStart=>exact⟨0,Nat.zero_le _,zA3,h0,Qx.refl _ _ _⟩
 case round=>
  obtain⟨k,hk,rfl,hJs,hnx⟩:=hrel;have hBr:wr.cell? Bs=M (I (b,off) len cap):=(World.cell?_of_block (w:=W) hnx.1).trans hBs;by_cases hlt:k<len
  ·obtain⟨fn,tmps,assign,body,hy,hR⟩:=hY _ (len-1-k) wr hJs (by rw[ZA];exact hlt);have hc0:=(World.cell?_of_block (w:=W) (a:=⟨b,off+(len-1-k)*3,Y⟩) hnx.2).trans (hc (len-1-k) zO).1;have hc1:=(World.cell?_of_block (w:=W) (a:=⟨b,off+(len-1-k)*3+1,Y⟩) hnx.2).trans (hc (len-1-k) zO).2.1;have hc2:=(World.cell?_of_block (w:=W) (a:=⟨b,off+(len-1-k)*3+2,Y⟩) hnx.2).trans (hc (len-1-k) zO).2.2;try dsimp only at hy
   obtain⟨i,hi⟩:∃i:Nat,len-1-k=i:=⟨_,rfl⟩
   have hi2:(len:Int)-1-k=(i:Int):=zO;have hil:i<len:=zO;have hik:k+i+1<=len/\len<=k+i+1:=zO;have HU:=zH (VA (λj=>len-1-j) k);obtain⟨u,hu⟩:∃u,us[i]?.getD usz=u:=⟨_,rfl⟩
   rw[hi]at hc0 hc1 hc2 hy hR;rw[hu]at hc0 hc1 hc2 hy;rw[hi2];clear hi2;clear hu;have HI:=zH hi;clear hi
   gi_wp2
   refine hR.mono ?_;rintro e W3 (⟨rfl,hJ3,hk3⟩|⟨rfl,hKP⟩)
   ·gi_wp2
    go_roundw
    case rel=>exact⟨k+1,zO,by go_num,by rw[HU.out,HI.out];exact hJ3,hnx.t hk3⟩
    case measure=>simp[intOf]
   gi_wp2
   refine bodyPost_ret (results_none rfl _ _ _) rfl ?_;exact⟨⟨_,rfl⟩,.inr ⟨_,⟨k+1,zO,by rw[HU.out,HI.out]⟩,hKP⟩⟩
  obtain rfl:k=len:=zO
  gi_wp2
  go_end0;exact⟨⟨_,rfl⟩,.inl ⟨_,rfl,hJs⟩⟩
set_option maxRecDepth 100000 in
theorem qfL(n l Bs c:Nat)(A:OA)(J:List Nat->Z->Prop)(W:Z)(hBs:W.cell? Bs=M (I A 0 c))(h0:J [] W):CallsIn Fence.wide n prog 176 #[.func (.yield l) #[] #[],Od Bs] W λe W'=>(∃v,e=.returned v)/\J [] W':=by
 refine callsIn_of_wp func176 rfl trivial ?_ rfl;simp only[ntmps176,List.size_toArray,List.length_cons,List.length_nil,Nat.reduceAdd,Nat.reduceSub,Array.replicate_succ,Array.replicate_zero,List.push_toArray,List.append_toArray,List.nil_append,List.cons_append]
 gi_wp2
 gi_loopw [3] (λi wr=>i=Oa Oc (-1)/\J [] wr) (λ_ _=>0)
 case atStart=>exact⟨rfl,h0⟩
 case round=>
  obtain⟨rfl,hJs⟩:=hrel
  gi_wp2
  go_end0;exact⟨⟨_,rfl⟩,hJs⟩
def SWs(W:Z)(Bs b:Nat)(v:Ob)(us:List Us):Prop:=
 W.cell? Bs=v/\((us=[]/\∃A c,v=I A 0 c)\/∃off cap,v=I (M ⟨b,off,Y⟩) us.length cap/\∀i,i<us.length->W.cell? ⟨b,off+i*3,Y⟩=M (Oa Oc ((us[i]?.getD usz).1.1:Int))/\W.cell? ⟨b,off+i*3+1,Y⟩=M (sv (us[i]?.getD usz).2)/\W.cell? ⟨b,off+i*3+2,Y⟩=M (Oa Oc ((us[i]?.getD usz).1.2.2:Int)))
theorem SWs.keep{Bs b:Nat}{us:List Us}(h:SWs W Bs b v us)(hk:Qx Bs b W W'):SWs W' Bs b v us:=by
 refine⟨(World.cell?_of_block (w:=W) hk.1).trans h.1,?_⟩;rcases h.2 with h|⟨off,cap,e,hc⟩
 exact .inl h;exact .inr ⟨off,cap,e,λi hi=>⟨(World.cell?_of_block (w:=W) hk.2).trans (hc i hi).1,(World.cell?_of_block (w:=W) hk.2).trans (hc i hi).2.1,(World.cell?_of_block (w:=W) hk.2).trans (hc i hi).2.2⟩⟩
theorem qhe(n:Nat)(hn:1<=n)(Bs b:Nat)(v:Ob)(us:List Us)(hDE:us.length<1099511627776)(w:Z)(hBs:Bs<w)(hb:b<w)(hS:SWs w Bs b v us):SeqStopsK Fence.wide n prog 176 #[Od Bs] (λx:Nat=>#[(x:Int),.agg #[Oa Oc ((us[x]?.getD usz).1.1:Int),sv (us[x]?.getD usz).2,Oa Oc ((us[x]?.getD usz).1.2.2:Int)]]) (Qx Bs b) (λys=>ys=jf (λj=>us.length-1-j) us.length)
   (λpre=>∃k,k<=us.length/\pre=jf (λj=>us.length-1-j) k) us.length w:=λl J Jx W hW _ _ hY h0=>by
 obtain⟨hc,h⟩:=hS.keep (Qx.below hW hBs hb);rcases h with⟨rfl,A,c,rfl⟩|⟨off,cap,rfl,hcs⟩
 exact(qfL n l Bs c A J W hc h0).mono λe W' ⟨he,hj⟩=>⟨he,.inl ⟨_,rfl,hj⟩⟩
 exact backs_in n hn l Bs b off us.length cap us hDE J Jx hY W hc hcs h0
theorem qdT(A m c)(w:Z):Calls prog 129 #[I A m c] w (λe w'=>e=.returned (.func (.func 176) #[] #[Od w])/\w'=w.alloc (O #[I A m c] 180)):=by go_enter func129,ntmps129;go_wp2;go_ret;exact⟨rfl,rfl⟩
end Go.Proofs.YtmeadnlmepcmbaaGreat
namespace Go.Proofs.YtmeadnlmepcmbaaGreat
open Go.RowKit
variable {X D:Nat->Prop}{w W w3 C W':World}{lo n j U E B:Nat}{v xv sv_ x0 x1 x2 x3:Value}{ps:List (It×Value)}{k:Option Nat}{S S':Sto}{l:List Stp}{K:K3}{x:It}{pre:List Nat}{lvl e:Int}{up:List It}{ty1 ty2 ty:TypeId}{R:Rel}{P:Program}{o:Oper}{a:Act}
section
variable {w W:World}
theorem Rd.ck{B size n:Nat}{A:OA}{xs:List Ob}(h:Rd w B size A n xs)(hk:Qj w W):Rd W B size A n xs:=⟨h.1,λhn=>by obtain⟨b,off,e,hb,hc⟩:=h.2 hn;exact⟨b,off,e,hb,λj u hu=>hk.cell (hc j u hu)⟩⟩
theorem Bys.ck{B:Nat}{v:Ob}{l:List UInt8}(h:Bys w B v l)(hk:Qj w W):Bys W B v l:=by obtain⟨A,c,e,hc,hm,hr⟩:=h;exact⟨A,c,e,hc,hm,hr.ck hk⟩
theorem Bls.ck{B:Nat}{v:Ob}{bs:List (List UInt8)}(h:Bls w B v bs)(hk:Qj w W):Bls W B v bs:=by obtain⟨vs,A,c,e,h1,h2,h3,h4⟩:=h;exact⟨vs,A,c,e,h1,h2,h3.ck hk,λi u l hu hl=>(h4 i u l hu hl).ck hk⟩
theorem qY.of_ck(X:Nat->Prop)(hk:Qj w W):qY X w W:=λ_ _ _ hv=>hk.cell hv
theorem Bch.ck{D:Nat->Prop}{B lo b g:Nat}{k:Option Nat}{S:Sto}(h:Bch D B lo b g k S w)(hk:Qj w W):Bch D B lo b g k S W:=by
 obtain⟨A1,n1,c1,v2,c3,A4,c4,hro,ho,⟨ps,e,hw,hp⟩,h1,h4⟩:=h.ex;refine⟨h.lob,h.blo,λq hq=>⟨(h.dB q hq).1,by have:=(h.dB q hq).2.1;have:=hk.size;omega,(h.dB q hq).2.2⟩,A1,n1,c1,v2,c3,A4,c4,hk.row hro,Yr ho hk,⟨ps,e,?_,λp hpm=>⟨(hp p hpm).1,λC hC=>(hp p hpm).2 C ((qY.of_ck _ hk).trans hC λ_ _ h=>h)⟩⟩,h1.ck hk,h4.ck hk⟩;rcases hw with⟨e,hm,A,e2,hr⟩|⟨q,e,e2,how⟩
 exact .inl ⟨e,hm,A,e2,hr.ck hk⟩;exact .inr ⟨q,e,e2,Yr how hk⟩
end
theorem Kk.of_own(ho:w.ownsRow lo 51 5 v n (qG ps))(hl:ps.length=n)(hX:∀q,v.ownBlock=M q->¬X q)(hp:∀p∈ps,(∃A c,p.2=I A p.1.val.length c)/\∀C,qY X w C->Bys C C.heap.size p.2 p.1.val):Kk X w v (ps.map (·.1)):=λC hC=>by
 have hrd:∀A c,v=I A n c->Rd C C 5 A n (qG ps):=λA c e=>by
  refine⟨ho.1,λhn=>?_⟩;rcases ho.2 with⟨_,h0⟩|⟨g,cap,cur,hv,hb,hg,hnc,_,hsz,htk⟩
  omega;have hne:¬X g:=hX g (by rw[hv];rfl);rw[hv]at e;cases e;have hc:∀j u,(qG ps)[j]?=M u->w.cell? ⟨g,0+j,Y⟩=M u:=λj u hu=>by rw[Nat.zero_add,qa hg,<-Array.getElem?_toList];rw[<-htk,List.getElem?_take]at hu;split at hu;exact hu;cases hu
  have hl0:0<(qG ps).length:=by rw[ho.1];omega
  exact⟨g,0,rfl,World.block_lt_of_cell? C ⟨g,0+0,Y⟩ (hC _ _ hne (hc 0 _ (zL hl0))),λj u hu=>hC _ _ hne (hc j u hu)⟩
 obtain⟨A,c,rfl,h1,h2⟩:=qM ho;subst hl;exact⟨ps,rfl,⟨A,c,by rw[List.length_map],by rw[List.length_map];exact h1,h2,by rw[List.length_map];exact hrd A c rfl⟩,λp hpm=>⟨(hp p hpm).1,(hp p hpm).2 C hC⟩⟩
theorem Bch.others{B lo b g:Nat}(h:Bch D B lo b g k S w)(hk:Ql lo b g k w W):KeepsOthers w W:=⟨hk.below.size,λq o hq ho=>by
 refine hk.row hq λhx=>?_;obtain⟨A1,n1,c1,v2,c3,A4,c4,hro,hno,⟨ps,_,hw,_⟩,_,_⟩:=h.ex;have key:∀cs ty fr,w.heap[q]?=M (O cs ty fr)->False:=λcs ty fr hc=>by rw[hc]at hq;cases hq;cases ho
 rcases hx with rfl|rfl|e
 exact key _ _ _ hro;obtain⟨cur,hg⟩:=ZH hno rfl;exact key _ _ _ hg
 ·rcases hw with⟨e1,_⟩|⟨q',e1,e2,how⟩
  rw[e1]at e;cases e
  ·rw[e1]at e;cases e;obtain⟨cur,hg⟩:=ZH how e2;exact key _ _ _ hg⟩
def sAt(l:List Stp)(x:Nat):Stp:=l[x]?.getD (0,[],0)
theorem sAt_ok{k:K3}(h:∀s∈l,qgS k s)(x:Nat):qgS k (sAt l x):=by
 unfold sAt;rcases hx:l[x]? with _|s
 exact⟨zA1,(λy hy=>by cases hy),Nat.zero_le _,zM _,λh=>absurd h (Nat.lt_irrefl 0),λ_=>rfl⟩;exact h s (List.mem_of_getElem? hx)
theorem qac(l:List Stp)(k:Nat)(hk:k<=l.length):(jf (λj=>l.length-1-j) k).map (sAt l)=l.reverse.take k:=by apply List.ext_getElem?;intro i;unfold jf;rw[List.getElem?_map,List.getElem?_map,List.getElem?_take];by_cases hi:i<k;rw[List.getElem?_range hi,if_pos hi,List.getElem?_reverse zO];simp only[Option.map_some,sAt];rw[zL zO];simp;rw[List.getElem?_eq_none zA2,if_neg hi];rfl
structure PutI(K:K3)(l:List Stp)(S:Sto)(x:It)(B0 lo b g UB TB SB w2:Nat)(w3:Z)(xv sv_:Ob)(pre:List Nat)(W:Z):Prop where
 ex:∃(ups:List It)(S':Sto)(k':Option Nat)(D':Nat->Prop)(Au:OA)(cu:Nat)(hps:List (It×Ob)),jE K (pre.map (sAt l)) [x] S=.ok (ups,S')/\qk S'=Of/\0<ups.length/\ups.length<=2/\hps.map (·.1)=ups /\
  (∀y∈ups,QW y/\(y.r=0\/8<=y.r)/\y.r<256)/\(∀p∈hps,(∃A c,p.2=I A p.1.val.length c)/\Bys W B0 p.2 p.1.val)/\W.heap[UB]?=M (O #[I Au ups.length cu] 55)/\W.ownsRow 0 51 5 (I Au ups.length cu) ups.length (qG hps)/\Bch D' B0 lo b g k' S' W
 rx:W.heap[B0+1]?=M (O #[Oa .u8 x.k,Oa .u32 x.i,Oa .u32 x.o,Oa Oc x.r,xv] 51)
 r2:W.heap[B0+2]?=M (O #[I Y 0 0,I Y 0 0,I Y 0 0,I Y 0 0] 28)
 r3:W.heap[B0+3]?=M (O #[Oa Oc 0] 3)
 r4:W.heap[B0+4]?=M (O #[Oa Oc 0] 37)
 rT:W.heap[TB]?=M (O #[Od b] 92)
 rS:W.heap[SB]?=M (O #[sv_] 180)
 kx:qY (λq=>q<w2) w3 W
theorem PutI.ck{B0 lo b g UB TB SB w2:Nat}(h:PutI K l S x B0 lo b g UB TB SB w2 w3 xv sv_ pre w)(hk:Qj w W):PutI K l S x B0 lo b g UB TB SB w2 w3 xv sv_ pre W:=by obtain⟨ups,S',k',D',Au,cu,hps,h1,h2,h3,h4,h5,h6,h7,h8,h9,h10⟩:=h.ex;exact⟨⟨ups,S',k',D',Au,cu,hps,h1,h2,h3,h4,h5,h6,λp hp=>⟨(h7 p hp).1,(h7 p hp).2.ck hk⟩,hk.row h8,Yr h9 hk,h10.ck hk⟩,hk.row h.rx,hk.row h.r2,hk.row h.r3,hk.row h.r4,hk.row h.rT,hk.row h.rS,h.kx.trans (qY.of_ck _ hk) λ_ _ h=>h⟩
theorem Kp{l held up:List It}(hl:∀x∈l,QW x)(hh:∀x∈held,(x.r=0\/8<=x.r)/\x.r<256)(hS:qk S=Of)(e:Qr S lvl l held=.ok (up,S')):qk S'=Of/\(0<up.length/\up.length<=2)/\∀y∈up,QW y/\(8<=y.r/\y.r<256)/\y.val=[]:=by unfold Qr at e;split at e;cases e;rename_i up1 S1 e1;split at e;cases e;rename_i t e2;cases e;obtain⟨h1,h2,h3⟩:=qaE (Ty hl) hS e1;refine⟨vX h1 (vx (λa ha=>by obtain⟨x,hx,rfl⟩:=List.mem_map.1 ha;have:=hh x hx;omega) (qE.1 h1).2.1 e2),?_,λy hy=>?_⟩;rw[h2];unfold Zi;split<;>simp;obtain⟨⟨f,k1,k8,k9⟩,k2,p,hp,k3⟩:=h3 y hy;have:=qfW (Ty hl p hp);rw[<-k3]at this;obtain⟨a1,a2,a3⟩:=this;exact⟨⟨a1,a2,a3,by rw[k1];omega,by rw[k2];simp⟩,zO,k2⟩
theorem qjH{k:K3}{ps:List Stp}(h:jE k (ps.take j) up S=.error e):jE k ps up S=.error e:=by have:ps=ps.take j++ps.drop j:=(List.take_append_drop _ _).symm;rw[this,vR,h]
theorem Vc{u u0 v0:Ob}(hU:W.heap[U]?=M (O #[u0] ty1))(hE:W.heap[E]?=M (O #[v0] ty2))(hne:U≠E)(hC:C=(W.setCell U u).setCell E v):C.heap[U]?=M (O #[u] ty1)/\C.heap[E]?=M (O #[v] ty2)/\(∀k,k≠U->k≠E->C.heap[k]?=W.heap[k]?)/\C.heap.size=W/\KeepsOthers W C/\∀{B:Nat}{w0:Z},B<=U->B<=E->Below B w0 W->Below B w0 C:=by subst hC;have hs:=λ(A:Z)(b j:Nat)(v:Ob)(k:Nat)(hk:k≠b)=>zJ A ⟨b,j,Y⟩ v k hk;refine⟨?_,?_,λk h1 h2=>?_,zA3,(KeepsOthers.setCell _ _ _).trans (KeepsOthers.setCell _ _ _),λh1 h2 h=>Below.setCell (Below.setCell h (p:=⟨U,0,Y⟩) h1 _) (p:=⟨E,0,Y⟩) h2 _⟩;rw[hs _ _ _ _ _ hne];exact qj hU 0 u;refine qj (t:=ty2) (cs:=#[v0]) ?_ 0 v;rw[hs _ _ _ _ _ (λe=>hne e.symm)];exact hE;rw[hs _ _ _ _ _ h2,hs _ _ _ _ _ h1]
def qfa(lo:Nat)(S:Sto):Qd:=⟨(Nat×Nat)×(OA×Nat)×(OA×Nat),λp=>Qp p.1.1 S.bs.length S.bs.length p.1.2 S.ws.length (S.ws.length+1) p.2.1.1 S.now.length p.2.1.2 p.2.2.1 S.last.length p.2.2.2,λp W=>zm lo S (Qp p.1.1 S.bs.length S.bs.length p.1.2 S.ws.length (S.ws.length+1) p.2.1.1 S.now.length p.2.1.2 p.2.2.1 S.last.length p.2.2.2) W⟩
theorem Qe(lo:Nat)(S:Sto)(b c:Nat)(A3:OA)(c3:Nat)(A4:OA)(c4:Nat):(qfa lo S).f ((b,c),(A3,c3),(A4,c4))=Qp b S.bs.length S.bs.length c S.ws.length (S.ws.length+1) A3 S.now.length c3 A4 S.last.length c4:=rfl
structure PutD(q:Except Int (List It×Sto))(B0 lo b g UB TB D:Nat)(w W:Z):Prop where
 ex:∃(ups:List It)(S':Sto)(k':Option Nat)(D':Nat->Prop)(Au:OA)(cu:Nat)(hps:List (It×Ob)),q=.ok (ups,S')/\qk S'=Of/\0<ups.length/\hps.map (·.1)=ups /\
  W.heap[UB]?=M (O #[I Au ups.length cu] 55)/\W.ownsRow 0 51 5 (I Au ups.length cu) ups.length (qG hps)/\Bch D' B0 lo b g k' S' W/\∀y∈ups,(y.r=0\/8<=y.r)/\y.r<256
 r2:W.heap[B0+2]?=M (O #[I Y 0 0,I Y 0 0,I Y 0 0,I Y 0 0] 28)
 r3:W.heap[B0+3]?=M (O #[Oa Oc 0] 3)
 r4:W.heap[B0+4]?=M (O #[Oa Oc 0] 37)
 rT:W.heap[TB]?=M (O #[Od b] 92)
 hK:W.heap[D]?=M (.deferred (M []))
 below:Below B0 w W
theorem Bch.kept{B lo b g:Nat}(h:Bch D B lo b g k S w)(hB:Below B w W)(hr:∀q,lo<=q->q<w.heap.size->W.heap[q]?=w.heap[q]?):Bch D B lo b g k S W:=
 h.keep hB λq hq=>hq.elim (λh2=>hr q (h.b3 q h2).1 (h.b3 q h2).2) λh2=>hr q (h.dB q h2).1 (h.dB q h2).2.1
def jI(lo n:Nat)(us:List Ob):Qd:=⟨OA×Nat,λp=>I p.1 n p.2,λp W=>W.ownsRow lo 51 5 (I p.1 n p.2) n us⟩
theorem qI(lo n:Nat)(us:List Ob)(A c):(jI lo n us).f (A,c)=I A n c:=rfl
theorem ZZ(lo n:Nat)(us:List Ob):∀p,qU qp ((jI lo n us).φ p):=λp W W' he h=>by have he:Ext W W':=he;have h:W.ownsRow lo 51 5 (I p.1 n p.2) n us:=h;exact Zh h λq hq=>Below.block he q (zl h q hq).2
def jo:Qd:=⟨Unit,λ_=>undef,λ_ _=>True⟩
theorem qL(u:Unit):jo.f u=undef:=rfl
theorem ja:∀p,qU R (jo.φ p):=λ_ _ _ _ _=>trivial
theorem VO(hr:(execOp a.eval o).run P W=.ok .skip W')(hx:Ext W W'):Qw qp P o a W jo:=JM hr ⟨(),rfl,trivial,hx⟩
theorem qfm{b:Nat}(h:w.heap[b]?=M (O #[x0] ty)):Ext w (w.setCell b x0):=QI h rfl
theorem same4{b:Nat}(h:w.heap[b]?=M (O #[x0,x1,x2,x3] ty)):Ext w ((((w.setCell b x0).setCell (b,1) x1).setCell (b,2) x2).setCell (b,3) x3):=by have e0:=QI (j:=0) (v:=x0) h rfl;have h0:=qb h e0;have e1:=QI (j:=1) (v:=x1) h0 rfl;have h1:=qb h0 e1;have e2:=QI (j:=2) (v:=x2) h1 rfl;have h2:=qb h1 e2;exact((e0.trans e1).trans e2).trans (QI (j:=3) (v:=x3) h2 rfl)
def vB(B:Nat)(ty:TypeId)(Φ:Array Ob->Z->Prop)(hΦ:∀cs W W',W.grownBy W' (M B)->Φ cs W->Φ cs W'):Rel where
 rel W W':=W.grownBy W' (M B)/\(B<W->W'.heap[B]?=W.heap[B]?\/∃cs,W'.heap[B]?=M (O cs ty)/\Φ cs W')
 refl' W:=⟨World.grownBy.refl _ _,λ_=>.inl rfl⟩
 trans' h k:=⟨h.1.trans k.1,λhb=>by
  rcases k.2 (Nat.lt_of_lt_of_le hb h.1.size)with e|e
  rw[e];rcases h.2 hb with e1|⟨cs,e1,e2⟩
  exact .inl e1;exact .inr ⟨cs,e1,hΦ _ _ _ k.1 e2⟩
  ·exact .inr e⟩
 drew' W:=⟨⟨rfl,rfl,rfl,zM _,λ_ _ _=>rfl⟩,λ_=>.inl rfl⟩
section
variable {B:Nat} {ty:TypeId} {Φ:Array Value->World->Prop} {hΦ:∀ cs W W',W.grownBy W' (some B)->Φ cs W->Φ cs W'}
theorem qdu{W W':Z}(h:Ext W W'):(vB B ty Φ hΦ).r W W':=⟨ZN h _,λhb=>.inl (h.block B hb)⟩
theorem jy{W W':Z}(h:(vB B ty Φ hΦ).r W W'){b:Nat}{o:Obj}(hp:b≠B)(hc:W.heap[b]?=o):W'.heap[b]?=o:=
 (h.1.block b (zG.1 hc).1 (λx=>hp (by simpa using x))).trans hc
theorem qdv{W W':Z}(h:(vB B ty Φ hΦ).r W W'){o:Obj}(hc:W.heap[B]?=o):W'.heap[B]?=o\/∃cs,W'.heap[B]?=M (O cs ty)/\Φ cs W':=by
 have:=h.2 (zG.1 hc).1
 rwa [hc]at this
theorem kR{W W':Z}{B0:Nat}(h:(vB B ty Φ hΦ).r W W')(h1:B0<=B)(h2:B0<=W):Below B0 W W':=(Below.refl _ _).grown h.1 h2 (λg hg=>by simp at hg;omega)
theorem Xy{W W':Z}(h:(vB B ty Φ hΦ).r W W'){k:Nat}(hk:k<W)(hp:k≠B):W'.heap[k]?=W.heap[k]?:=h.1.block k hk λx=>hp (by simpa using x)
theorem Uy{lo:Nat}{S:Sto}(hB:B<lo):∀p,qU (vB B ty Φ hΦ) ((qfa lo S).φ p):=λp W W' he h=>
 zm.keep h (zM _) he.1.size λb h1 hb=>Xy he hb zO
def Ye(B:Nat)(ty:TypeId)(Φ:Array Ob->Z->Prop):Qd:=⟨Unit,λ_=>undef,λ_ W=>∃cs,W.heap[B]?=M (O cs ty)/\Φ cs W⟩
theorem qN(u:Unit):(Ye B ty Φ).f u=undef:=rfl
theorem Tx:∀p,qU (vB B ty Φ hΦ) ((Ye B ty Φ).φ p):=λ_ W W' he ⟨cs,h1,h2⟩=>by
 rcases qdv he h1 with e|e
 exact⟨cs,e,hΦ _ _ _ he.1 h2⟩;exact e
theorem qhK{P:Program}{o:Oper}{a:Act}{W w':Z}{cs:Array Ob}(hr:(execOp a.eval o).run P W=.ok .skip w')(hg:W.grownBy w' (M B))(hw:w'.heap[B]?=M (O cs ty))(hp:Φ cs W):Qw (vB B ty Φ hΦ) P o a W (Ye B ty Φ):=
 JM hr ⟨(),rfl,⟨cs,hw,hΦ _ _ _ hg hp⟩,hg,λ_=>.inr ⟨cs,hw,hΦ _ _ _ hg hp⟩⟩
end
def Zg(lo:Nat)(S:Sto)(cs:Array Ob)(W:Z):Prop:=∃x0 x1 x2 x3,cs=#[x0,x1,x2,x3]/\zm lo S (.agg cs) W
theorem Zg.keep(hB:B<lo):∀cs W W',W.grownBy W' (M B)->Zg lo S cs W->Zg lo S cs W':=λcs W W' hg h=>by obtain⟨x0,x1,x2,x3,e,hT⟩:=h;exact⟨x0,x1,x2,x3,e,zm.keep hT (zM _) hg.size λk h1 hk=>hg.block k hk λe=>by simp at e;omega⟩
theorem qbh(hB:B<lo)(h:∃u0 u1 u2 u3,W.heap[B]?=M (O #[u0,u1,u2,u3] ty))(hT:zm lo S (.agg #[x0,x1,x2,x3]) W)(hr:(execOp a.eval o).run P W=.ok .skip ((((W.setCell B x0).setCell (B,1) x1).setCell (B,2) x2).setCell (B,3) x3)):Qw (vB B ty (Zg lo S) (Zg.keep hB)) P o a W (Ye B ty (Zg lo S)):=by obtain⟨u0,u1,u2,u3,h⟩:=h;exact qhK hr (QP.trans (QP.trans (QP.trans QP))) (KO h x0 x1 x2 x3) ⟨x0,x1,x2,x3,rfl,hT⟩
theorem qiN(hB:B<lo){u0 u1 u2 u3:Ob}(h:(vB B ty (Zg lo S) (Zg.keep hB)).r W W')(hc:W.heap[B]?=M (O #[u0,u1,u2,u3] ty)):∃u0 u1 u2 u3,W'.heap[B]?=M (O #[u0,u1,u2,u3] ty):=by
 rcases qdv h hc with e|⟨cs,e,x0,x1,x2,x3,rfl,_⟩
 exact⟨_,_,_,_,e⟩;exact⟨_,_,_,_,e⟩
end Go.Proofs.YtmeadnlmepcmbaaGreat
namespace Go.Proofs.YtmeadnlmepcmbaaGreat
open Go.RowKit Go.Shelf
attribute [local go_sem] Oper.semAt_some
variable {v:Value}{R:Ending->World->Prop}{a:Act}{W:World}
theorem qds{n b D:Nat}(h4:a.tmps[4]?.getD undef=Od (b+1+1,0))(hd:a.defers=[{target:=.collected D,args:=#[]}])(hK:W.heap[D]?=M (.deferred (M [])))(hD:b+2<D)(hB:W.heap[b+2]?=M (O #[v] 26))(hR:∀W',W'=W.putObj D (.deferred Y)->R v W'):bodyPostM Fence.wide n prog Tryz.f137 R .ret a W:=by have k4:=qa ((World.putObj_heap_other (o:=.deferred Y) (show b+2≠D by omega)).trans hB);change LeavesInM Fence.wide n prog Tryz.f137 a.tmps R a.defers .returning W;rw[hd];refine⟨zA3,.inl ⟨_,_,rfl,run_takeDeferred hK,v,?_,hR _ rfl⟩⟩;simp[results,results137,go_sem,h4,k4]
set_option maxRecDepth 100000 in
theorem qmI(A1 n1 c1 A2 n2 c2)(S:Sto)(hS:qk S=Of)(m:Nat)(hm:m<256)(w:Z)(hb:Bls w w (I A1 n1 c1) S.bs)(hw:Wrs w w (I A2 n2 c2) S.ws):Calls prog 137 #[Te A1 n1 c1 A2 n2 c2,(m:Int)] w (zv (λu W=>Bys W W u (Jm S m)) w):=by
 obtain⟨hl1,hl2,hl3,hl4⟩:=qZ hS;have hbl:=QY hS;have hIQ:Jm S m=match jW S.ws m with|some l=>l|none=>S.bs[m]:=by unfold Jm;rw[zL zO];rfl
 obtain⟨hn1,hc1,hm1,hA1⟩:=hb.at_;obtain⟨b1,o1,rfl,hb1⟩:=hA1 zO;obtain⟨A0,c0,hcb,hVX⟩:=hb.get (bs:=S.bs) m zO;have wGP:n1=256:=by rw[hn1,hl1]
 generalize S.bs[m]=l0 at*;generalize Jm S m=l at*;generalize hwsE:S.ws=ws at*;obtain⟨ps,hps,⟨A2',c2',e2,hw1,hw2,hw3⟩,hw4⟩:=hw;rw[<-hps]at hIQ e2 hw1 hw3 hl2;clear hn1 hS hl1 hl3 hl4 hA1 hbl hwsE hb;subst wGP;simp only[Value.slice.injEq]at e2;obtain⟨rfl,hw5,rfl⟩:=e2;rw[<-hw5]at hw1 hw3 hl2;replace⟨hw5,hIQ⟩:=zH2 hw5 hIQ;have hpl:ps.length=n2:=by rw[hw5.out];simp
 obtain⟨us,hus⟩:∃us:List W2,us=ps.map λp=>((p.1.1,kV p.2):W2):=⟨_,rfl⟩
 have hul:us.length=n2:=by rw[hus,List.length_map,hpl]
 have hua:∀j,(us[j]?.getD w2z).1=atN ws j:=λj=>by unfold atN;rw[hus,<-hps,List.getElem?_map,List.getElem?_map];cases ps[j]?<;>rfl
 have hud:∀j W,Ext w W->Bys W W.heap.size (sv (us[j]?.getD w2z).2) (datN ws j):=λj W hx=>by
  unfold datN;rw[hus,<-hps,List.getElem?_map,List.getElem?_map];rcases hj:ps[j]? with _|p
  exact⟨Y,0,rfl,zM _,zA7,zA3,λhn=>absurd hn zA3⟩;obtain⟨⟨A',c',e'⟩,hy⟩:=hw4 p (List.mem_of_getElem? hj);have:sv (kV p.2)=p.2:=by rw[e'];rfl
  simp only[Option.map_some,Option.getD_some];rw[this];exact(hy.below hx).more hx.size
 refine(callsIn_wide (n:=3)).1 ?_;refine callsIn_of_wp_marks func137 rfl trivial ?_ rfl;simp only[ntmps137,List.size_toArray,List.length_cons,List.length_nil,Nat.reduceAdd,Nat.reduceSub,Array.replicate_succ,Array.replicate_zero,List.push_toArray,List.append_toArray,List.nil_append,List.cons_append];refine wpIn_wide.2 ?_;go_wp2_with fail;generalize hMH:(Oe (Oe (Oe w _) _) _)=w2;have x2:Ext w w2:=by rw[<-hMH];exact((zN _ _).trans (zN _ _)).trans (zN _ _)
 have s2:w.heap.size+3<=w2:=by rw[<-hMH];simp
 have ra2:w2.heap[w.heap.size]?=M (O #[I (b1,o1) 256 c1,I A2 n2 c2] 25):=by rw[<-hMH];exact(zK _ _ _ zA4).trans ((zK _ _ _ zA4).trans (zI _ _ _ rfl))
 have rb2:w2.heap[w.heap.size+1]?=M (O #[(m:Int)] 3):=by rw[<-hMH];exact(zK _ _ _ zA4).trans (zI _ _ _ zA3)
 have rc2:w2.heap[w.heap.size+2]?=M (O #[I Y 0 0] 26):=hMH▸zI _ _ _ zA3;clear hMH;have ka2:=qa ra2;have kb2:=qa rb2;refine(Ut A2 n2 c2 w2).mono ?_;rintro e w3 ⟨rfl,rfl⟩;go_wp2_with fail;have x5:Ext w2 (w2.alloc (O #[I A2 n2 c2] 23)):=zN _ _;obtain⟨b2,hb2,hSW⟩:∃b2,b2<w.heap.size/\SW (w2.alloc (O #[I A2 n2 c2] 23)) w2 b2 (I A2 n2 c2) us:=by
  have hYD:(w2.alloc (O #[I A2 n2 c2] 23)).cell? w2=M (I A2 n2 c2):=by rw[qa (zI _ _ _ rfl)];rfl
  by_cases hz:n2=0;have:us=[]:=List.length_eq_zero_iff.1 zO;exact⟨b1,hb1,hYD,.inl ⟨this,A2,c2,by rw[hz]⟩⟩;obtain⟨b2,o2,rfl,hlt,hc⟩:=hw3.2 zO;refine⟨b2,hlt,hYD,.inr ⟨o2,c2,by rw[hul],λi hi=>?_⟩⟩;have hi':i<ps.length:=zO;obtain⟨g0,g1⟩:=Yy ps i hi';have hx:=x2.trans x5;rw[hus];refine⟨?_,?_⟩;rw[Ext.cell hx (hc _ _ g0),List.getElem?_map,zL hi'];rfl;obtain⟨⟨A',c',e'⟩,_⟩:=hw4 ps[i] (List.getElem_mem hi');rw[Nat.add_assoc,Ext.cell hx (hc _ _ g1),List.getElem?_map,zL hi'];simp only[Option.map_some,Option.getD_some];rw[e'];rfl
 clear hus hw3;replace⟨hua,hud⟩:=zH2 hua hud;refine(wpIn_wide (n:=3)).1 ?_;refine wpIn_rangeFunc_ownH rfl zO (gf:=189) (lb:=#[Od (M ⟨w2.heap.size,0,Y⟩)]) rfl trivial (enters_of func189 zQ rfl)
  (qha (3-1) zO w2.heap.size b2 _ _ (by rw[hul];omega) _ zA3 zA2 hSW) Qx.t (Qx.b zA3 zA2) (Below.refl _ _) (λ_=>rfl)
  (λpre W'=>((W'.heap[w.heap.size]?=M (O #[I (M ⟨b1,o1,Y⟩) 256 c1,I A2 n2 c2] 25 (0,0))/\W'.heap[w.heap.size+1]?=M (O #[Oa Oc (m:Int)] 3 (0,0)))/\(W'.heap[w.heap.size+2]?=M (O #[I Y 0 0] 26 (0,0))/\W'.heap[w2.heap.size]?=M (O #[I A2 n2 c2] 23 (0,0))))/\(Below w.heap.size w W'/\∀y∈pre,atN ws y≠(m:Int)))
  (λc pre W'=>(∃pre' x Wb,c=.ret/\pre=pre'++[x]/\atN ws x=(m:Int)/\(∀y∈pre',atN ws y≠(m:Int))/\Wb.heap[w.heap.size+2]?=M (O #[sv (us[x]?.getD w2z).2] 26 (0,0))/\Qj Wb W')/\Below w.heap.size w W')
  (OwnFrom.and (OwnFrom.and (OwnFrom.and (QL _ _ _ _) (QL _ _ _ _)) (OwnFrom.and (QL _ _ _ _) (QL _ _ _ _))) (OwnFrom.and (ownFrom_below (zM _) zA2) (Xv _ _)))
  (λc=>OwnFrom.and (λs A C row hs hg hr=>by obtain⟨pre',x,Wb,h1,h2,h3,h4,h5,h6⟩:=hs;exact⟨pre',x,Wb,h1,h2,h3,h4,h5,h6.grown hg λr e=>(hr r e).2⟩) (ownFrom_below (zM _) zA2))
  ⟨⟨⟨qb ra2 x5,qb rb2 x5⟩,⟨qb rc2 x5,zI _ _ _ rfl⟩⟩,x2.trans x5,λy hy=>by cases hy⟩
  (λx a' W'=>∃t8,a'={tmps:=#[Te (M ⟨b1,o1,Y⟩) 256 c1 A2 n2 c2,Oa Oc (m:Int),Od (M ⟨w.heap.size,0,Y⟩),Od (M ⟨w.heap.size+1,0,Y⟩),Od (M ⟨w.heap.size+1+1,0,Y⟩),undef,Od (M ⟨t8,0,Y⟩),Od (M ⟨w.heap.size,1,Y⟩),I A2 n2 c2,.func (.func 189) #[] #[Od (M ⟨w2.heap.size,0,Y⟩)],
    Oa Oc (x:Int),.agg #[Oa Oc (us[x]?.getD w2z).1,sv (us[x]?.getD w2z).2],undef,undef,undef,undef,undef,undef,undef,undef,undef,undef,undef],defers:=[]}/\W'.heap[t8]?=M (O #[Oa Oc (us[x]?.getD w2z).1,sv (us[x]?.getD w2z).2] 142 (0,0)))
  (λx a' s A C row hs hg hr=>by obtain⟨t8,e,h⟩:=hs;exact⟨t8,e,QL (β:=Unit) _ _ _ _ () A C row h hg hr⟩) ?assign ?body ?done ?stop
 case assign=>
  rintro l' pre x W' K ⟨⟨⟨i1,i2⟩,⟨i3,i7⟩⟩,i4,i5⟩ hK
  gi_wp2
  have z1:=(zG.1 i1).1;have z2:=(zG.1 i2).1;have z3:=(zG.1 i3).1;have z7:=(zG.1 i7).1;have z4:=i4.size;refine hK _ _ ((KeepsOthers.alloc _ _).from _) ⟨zK _ _ _ z7,zK _ _ _ zO⟩ ⟨⟨⟨(zK _ _ _ z1).trans i1,(zK _ _ _ z2).trans i2⟩,⟨(zK _ _ _ z3).trans i3,(zK _ _ _ z7).trans i7⟩⟩,Below.alloc i4 z4 _,i5⟩ ⟨W'.heap.size,rfl,zI _ _ _ rfl⟩
 case body=>
  rintro l' pre x a' W' hl ⟨rr,hlp⟩ ⟨⟨⟨i1,i2⟩,⟨i3,i7⟩⟩,i4,i5⟩ ⟨t8,rfl,hr8⟩ _;have hax:=hua.out x;generalize hu9:(us[x]?.getD w2z)=u9 at*;obtain⟨a9,A9,n9,c9⟩:=u9;simp only at hax;subst hax;have k8:=qa hr8;have k2:=qa i2;have k3:=qa i3;have f3:=qd i3;replace⟨i5,hu9⟩:=zH2 i5 hu9;clear ka2 kb2;by_cases hq:atN ws x=(m:Int)
  ·have hqe:(atN ws x==(m:Int))=Of:=by rw[beq_iff_eq];exact hq
   replace hq:=zH hq
   gi_wp2_with fail
   refine⟨(KeepsOthers.setCell _ _ _).from _,⟨rfl,pre,x,rfl,hq.out,i5.out,_,?_,Qj.refl _⟩,Below.setCell i4 (p:=⟨w.heap.size+1+1,0,Y⟩) zA2 _⟩;rw[hu9.out];exact qj i3 0 _
  have hqe:(atN ws x==(m:Int))=Og:=by rw[beq_eq_false_iff_ne];exact hq
  replace hq:=zH hq
  gi_wp2_with fail
  refine⟨KeepsFrom.refl _ _,Qx.refl _ _ _,⟨⟨i1,i2⟩,⟨i3,i7⟩⟩,i4,λy hy=>?_⟩;rcases List.mem_append.1 hy with h|h
  exact i5.out y h;obtain rfl:y=x:=by simpa using h
  exact hq.out
 case done=>
  rintro D ys W' hD rfl ⟨⟨⟨i1,i2⟩,⟨i3,_⟩⟩,i4,i5⟩ hK;have h0:=qjh (ws:=ws) (a:=(m:Int)) (by rw[show ws.length=us.length by rw[hul,<-hpl,<-hps,List.length_map]];exact i5);have hll:l=l0:=by rw[hIQ.out,hps,h0]
  have hcb':=Ext.cell i4 hcb;rw[<-hll]at hcb' hVX;clear h0 hll hcb;have k1:=qa i1;have k2:=qa i2;have k3:=qa i3;have f3:=qd i3;have im:(m:Int)<256:=zO;replace⟨i5,hVX⟩:=zH2 i5 hVX;clear ka2 kb2 hw4 hw5;go_wp2_with fail;have hDw:w.heap.size+2<D:=by simp at hD;omega
  have q3:=qj i3 0 (I A0 l.length c0);have qK:=(zJ W' ⟨w.heap.size+1+1,0,Y⟩ (I A0 l.length c0) D zA2).trans hK;have qx:=Below.setCell i4 (p:=⟨w.heap.size+1+1,0,Y⟩) zA2 (I A0 l.length c0);generalize World.setCell W' _ _=wf at*;exact qds (b:=w.heap.size) rfl rfl qK hDw q3 (λW' e=>by have hX:Ext w W':=e▸qx.trans (belowK_b (w:=w) (zM _) wf D _ _ zO qK rfl rfl);exact⟨_,rfl,(hVX.out.below hX).more hX.size,hX⟩)
 case stop=>
  rintro D c pre W' hD ⟨k,hk,hpre⟩ ⟨⟨pre',x,Wb,rfl,rfl,hx,hpp,hRB,hCK⟩,i4⟩ hK
  gi_wp2_with fail
  have hDw:w.heap.size+2<D:=by simp at hD;omega
  have hl2:l=datN ws x:=by rw[hIQ.out,hps,qji (ws:=ws) (k:=k) (by rw[<-hps,List.length_map,hpl,<-hul];exact hk) (by rw[show ws.length=us.length by rw[hul,<-hpl,<-hps,List.length_map]];exact hpre) hx hpp]
  exact qds (b:=w.heap.size) rfl rfl hK hDw (hCK.row hRB) (λW'' e=>by have hX:Ext w W'':=e▸i4.trans (belowK_b (w:=w) (zM _) W' D _ _ zO hK rfl rfl);exact⟨_,rfl,by rw[hl2];exact hud.out x W'' hX,hX⟩)
end Go.Proofs.YtmeadnlmepcmbaaGreat
namespace Go.Proofs.YtmeadnlmepcmbaaGreat
open Go.RowKit
variable {R:Ending->World->Prop}{W w w':World}{a j n lo D:Nat}{S:Sto}{lvl:Int}{xs:List It}{P:Program}{Q:Exit->Act->World->Prop}{tm l:List Value}{c:Code}{mask:List Bool}{rel:Nat->(Nat->Value)->List Nat->World->Prop}{K:Act->World->Prop}{df:List Deferred}{Ds:List Nat}
theorem qaJ{a:Act}{b:Nat}{x0 x1 v:Ob}(h4:a.tmps[4]?.getD undef=Od b)(h5:a.tmps[5]?.getD undef=v)(hd:a.defers=[])(hAH:W.heap[b]?=M (O #[x0,x1] 113))(hR:R (.returned (.tuple #[.agg #[x0,x1],v])) W):bodyPost prog Tryz.f72 R .ret a W:=by refine bodyPost_ret (v:=.tuple #[.agg #[x0,x1],v]) ?_ hd hR;have k:=qa hAH;simp[results,results72,go_sem,h4,h5,k]
set_option maxRecDepth 100000 in
theorem qfi(A1 n1 c1 A2 n2 c2 A3 n3 c3 A4 n4 c4)(S:Sto)(a:Int)(w:Z)(h:Qi w w (I A1 n1 c1) (I A2 n2 c2) (I A3 n3 c3) (I A4 n4 c4) S):Calls prog 72 #[Qp A1 n1 c1 A2 n2 c2 A3 n3 c3 A4 n4 c4,a] w (zv (qcl w (if Js S a=0 then qm S a.toNat else Y)) w):=by
 have HA:=zH (λW (hx:Ext w W)=>qdm A1 n1 c1 A2 n2 c2 A3 n3 c3 A4 n4 c4 S a W (h.ext hx));obtain⟨q,hq⟩:∃q,(if Js S a=0 then qm S a.toNat else Y)=q:=⟨_,rfl⟩
 rw[hq];replace⟨hq,h⟩:=zH2 hq h;go_enter func72,ntmps72;go_wp2_with fail;generalize hw1:(Oe (Oe w _) _)=w1;have x1:Ext w w1:=by rw[<-hw1];exact(zN _ _).trans (zN _ _)
 have r1:w1.heap[w.heap.size]?=M (O #[I A1 n1 c1,I A2 n2 c2,I A3 n3 c3,I A4 n4 c4] 28):=by rw[<-hw1];exact(zK _ _ _ zA3).trans (zI _ _ _ rfl)
 have q1:w1.heap[w.heap.size+1]?=M (O #[Oa Oc 0,I Y 0 0] 113):=hw1▸zI _ _ _ zA3;clear hw1;have k1:=qa r1;go_wp2_with fail;refine(HA.out w1 x1).mono ?_;clear HA;rintro e w2 ⟨rfl,hB⟩;have x2:Ext w w2:=x1.trans hB;have r2:=qb r1 hB;have q2:=qb q1 hB;clear hB r1 q1 x1 k1;have k2:=qa r2;have kq2:=qa q2;have fq2:=qd q2;by_cases hE:Js S a=0
 ·obtain⟨hS,n,rfl,h8,h256,hc⟩:=KQ hE;have hNA:q=QO (Jm S n):=by rw[<-hq.out,if_pos hE,Int.toNat_natCast];unfold qm;exact if_neg hc
  rw[hE];clear hq;have HS:=zH (λW (hx:Ext w W)=>qmI A1 n1 c1 A2 n2 c2 S hS n h256 W ((h.out.bs.below hx).more hx.size) ((h.out.ws.below hx).more hx.size));have HR:=zH (λv W (hv:Bys W W.heap.size v (Jm S n))=>qmt v (Jm S n) W hv);replace⟨hE,hS,hNA,hc⟩:=zH4 hE hS hNA hc;generalize Jm S n=l at*;go_wp2_with fail;refine(HS.out w2 x2).mono ?_;clear HS;rintro e w3 ⟨u,rfl,hu,hB⟩;have x3:Ext w w3:=x2.trans hB;have q3:=qb q2 hB;clear hB k2 r2 kq2 fq2 q2;go_wp2_with fail;refine(HR.out u w3 hu).mono ?_;clear HR hu;rintro e w4 ⟨u4,rfl,hu,hB⟩;have hB:Ext w3 w4:=hB;have x4:Ext w w4:=x3.trans hB;have q4:=qb q3 hB;have z3:=x3.size;have z4:w.heap.size+1<w4:=(zG.1 q4).1;have z3q:w.heap.size+1<w3:=(zG.1 q3).1;clear hB q3;have kq4:=qa q4;have fq4:=qd q4;rcases hQ:QO l with _|⟨lvl,xs⟩
  ·rw[hQ]at hu;obtain⟨er,hne,rfl⟩:=hu;have hq:q=Y:=by rw[hNA.out,hQ]
   replace hq:=zH hq;have hQG:(er != 0)=Of:=by rw[bne_iff_ne];exact hne
   replace hne:=zH hne;go_wp2_with fail;generalize hwf:(Oe _ _)=wf;have rf:wf.heap[w.heap.size+1]?=M (O #[Oa Oc 0,I Y 0 0] 113):=by rw[<-hwf];exact(zK _ _ _ (by simpa using z4)).trans (qj (qj q4 0 _) 1 _)
   have bf:Below w w wf:=hwf▸Below.alloc (Below.setCell (Below.setCell x4 (p:=⟨w.heap.size+1,0,Y⟩) zA3 _) (p:=⟨w.heap.size+1,1,Y⟩) zA3 _) zA2 _;exact qaJ (b:=w.heap.size+1) rfl rfl rfl rf ⟨_,rfl,(by rw[hq.out];exact⟨8,zA1,rfl⟩),bf⟩
  rw[hQ]at hu;obtain⟨A,c,rfl,hi⟩:=hu;have hq:q=M (lvl,xs):=by rw[hNA.out,hQ]
  replace⟨hq,hi⟩:=zH2 hq hi;go_wp2_with fail;generalize hwf:(Oe _ _)=wf;have rf:wf.heap[w.heap.size+1]?=M (O #[lvl,I A xs.length c] 113):=by rw[<-hwf];exact(zK _ _ _ (by simpa using z4)).trans (qj (qj q4 0 _) 1 _)
  have bf:Below w w wf:=hwf▸Below.alloc (Below.setCell (Below.setCell x4 (p:=⟨w.heap.size+1,0,Y⟩) zA3 _) (p:=⟨w.heap.size+1,1,Y⟩) zA3 _) zA2 _;have hfi:jr w wf (I A xs.length c) xs:=by refine(hi.out.keep (by have:=bf.size;rw[<-hwf];simp) λp h1 h2=>?_).mono z3;rw[<-hwf,World.cell?_alloc_lt _ _ _ (by simpa using h2),World.cell?_setCell_other _ _ _ _ (λe=>by subst e;simp at h1;omega),World.cell?_setCell_other _ _ _ _ (λe=>by subst e;simp at h1;omega)]
  exact qaJ (b:=w.heap.size+1) rfl rfl rfl rf ⟨_,rfl,(by rw[hq.out];exact⟨A,c,rfl,hfi⟩),bf⟩
 have hqn:=zH (show q=Y by rw[<-hq.out,if_neg hE]);clear hq;have hne:(Js S a != 0)=Of:=by rw[bne_iff_ne];exact hE
 generalize Js S a=er at*;go_wp2_with fail;refine qaJ (b:=w.heap.size+1) rfl rfl rfl (qj (qj q2 0 _) 1 _) ⟨_,rfl,(by rw[hqn.out];exact⟨er,hE,rfl⟩),?_⟩;exact Below.setCell (Below.setCell x2 (p:=⟨w.heap.size+1,0,Y⟩) zA3 _) (p:=⟨w.heap.size+1,1,Y⟩) zA3 _
structure WyI(ty:TypeId)(P:Nat->List It->Prop)(S:Sto)(K:K3)(full:List Stp)(lo:Nat)(w1:Z)(v i:Ob)(wr:Z):Prop where
 ex:∃(h r:Nat)(ys:List It)(pre:List Stp)(Av:OA)(cv:Nat),v=I Av pre.length cv/\i=Oa Oc (r:Int)/\8<=r/\r<256/\qm S r=M ((h:Int),ys)/\(qC S h ys).isSome=Of/\full=pre++jA S K h ys/\pre.length+h<6/\jL ty lo wr v pre/\Below lo w1 wr/\P h ys
set_option maxRecDepth 100000 in
theorem way_any(A1 n1 c1 A2 n2 c2 A3 n3 c3 A4 n4 c4)(S:Sto)(hS:qk S=Of)(a lvl:Nat)(xs:List It)(ha:8<=a)(ha2:a<256)(hn:qm S a=M ((lvl:Int),xs))(hsp:(qC S lvl xs).isSome=Of)(k i o:Int)(w:Z)(hst:Qi w w (I A1 n1 c1) (I A2 n2 c2) (I A3 n3 c3) (I A4 n4 c4) S):Calls prog 127 #[Qp A1 n1 c1 A2 n2 c2 A3 n3 c3 A4 n4 c4,(a:Int),Xk k i o] w (zv (λu W=>XX w W u (jA S (k,i,o) lvl xs)) w):=by
 obtain⟨i0,hi,hz0,hz1,hz2⟩:=info_parts Tryz.info_step;obtain⟨full,hEP⟩:∃full,jA S (k,i,o) lvl xs=full:=⟨_,rfl⟩
 rw[hEP];have hl6:lvl<6:=by have:=Zc hn;omega
 have HI0:=zH (λW=>(⟨⟨lvl,a,xs,[],Y,0,rfl,rfl,ha,ha2,hn,hsp,hEP.symm,by simpa using hl6,jL.nil _ _ _,Below.refl _ _,trivial⟩⟩:WyI 187 (λ_ _=>True) S (k,i,o) full W.heap.size W (I Y 0 0) (Oa Oc (a:Int)) W));have HN:=zH (λ(r:Nat) W (hx:Ext w W)=>qfi A1 n1 c1 A2 n2 c2 A3 n3 c3 A4 n4 c4 S (r:Int) W (hst.ext hx));replace⟨hS,hi⟩:=zH2 hS hi;clear hst hn hsp hEP ha ha2 hl6;go_enter func127,ntmps127;go_wp2_with fail;generalize hw1:(Oe (Oe w _) _)=w1;have x1:Ext w w1:=by rw[<-hw1];exact(zN _ _).trans (zN _ _)
 have rs1:w1.heap[w.heap.size]?=M (O #[I A1 n1 c1,I A2 n2 c2,I A3 n3 c3,I A4 n4 c4] 28):=by rw[<-hw1];exact(zK _ _ _ zA3).trans (zI _ _ _ rfl)
 have rk1:w1.heap[w.heap.size+1]?=M (O #[Oa .u8 k,Oa .u32 i,Oa .u32 o] 49):=hw1▸zI _ _ _ zA3;have z1:w.heap.size<=w1:=by rw[<-hw1];simp;omega
 clear hw1;have I0:=zH (HI0.out w1);clear HI0;go_wp2_with fail;go_loopw [6,7] (λv j wr=>WyI 187 (λ_ _=>True) S (k,i,o) full w1.heap.size w1 v j wr) (λ_ j _=>vF S j)
 case atStart=>exact I0.out
 case round=>
  obtain⟨h,r,ys,pre,Av,cv,rfl,rfl,h8,h256,hn,hsp,hEP,hlen,hso,xr,-⟩:=hrel.ex;clear I0 hrel;have hlv:=VR hn;obtain⟨hm1,hm2,-⟩:=qJ hn;have hyl:ys.length<=5:=by unfold Qq Jy at hm1;simp at hm1;omega
  have hEJ:0<h->0<ys.length:=λh0=>vW hm1 h0;have xr1:Ext w1 wr:=xr;have HNr:=HN.out r wr (x1.trans xr1);rw[show Js S (r:Int)=0 by rw[qbW hS.out h8 h256,if_neg (show ¬Zy S r=0 from λe=>by unfold qm at hn;rw[if_pos (show(S.now[r]?.getD 0).toNat=0 from e)]at hn;cases hn)],if_pos rfl,Int.toNat_natCast,hn]at HNr;have rsr:=qb rs1 xr1;have rkr:=qb rk1 xr1;have ksr:=qa rsr;replace⟨hsp,hn,hm2,hEP,hso,hlv⟩:=zH6 hsp hn hm2 hEP hso hlv;replace hEJ:=zH hEJ;clear hm1;go_wp2_with fail;refine HNr.mono ?_;clear HNr;rintro e w4 ⟨u,rfl,⟨A9,c9,rfl,hBE⟩,hB⟩;have hB:Ext wr w4:=hB;have xx4:Ext w1 w4:=xr1.trans hB;have rk4:=qb rkr hB;have so4:=zH (hso.out.ext hB);have z4:w.heap.size+1<w4:=(zG.1 rk4).1;have kk4:=qa rk4;have zwr:w1.heap.size<=wr:=xr.size;have z4r:wr.heap.size<=w4:=hB.size;replace hBE:=zH hBE;have hWN:Hid (∀q,(Value.slice Av pre.length cv).ownBlock=M q->q<wr.heap.size):=zH λq hq=>by obtain⟨ps,-,ho,-⟩:=hso.out;exact(zl ho q hq).2
  clear hB rsr rkr ksr hso xr xr1;go_wp2_with fail;generalize hw5:(Oe w4 _)=w5;have x45:Ext w4 w5:=hw5▸zN _ _;have rn5:w5.heap[w4.heap.size]?=M (O #[h,I A9 ys.length c9] 113):=hw5▸zI _ _ _ rfl;clear hw5;have rk5:=qb rk4 x45;have kn5:=qa rn5;have kk5:=qa rk5;clear kk4;go_wp2_with fail;refine(qaI (h:Int) A9 c9 ys k i o _ w5 hyl (hBE.out.ext x45)).mono ?_;rintro e w6 ⟨rfl,hB⟩;have x56:Ext w4 w6:=x45.trans hB;have rn6:=qb rn5 hB;have kn6:=qa rn6;have hGL:=zH (hBE.out.ext x56);have xx6:Ext w1 w6:=xx4.trans x56;have so6:=zH (so4.out.ext x56);clear rn5 x45 hB x56 rk4 rk5 kk5 kn5 xx4 hBE so4;obtain⟨ips,hFJ,hsx⟩:=hGL.out.toE (X:=OwnL w1.heap.size (I Av pre.length cv)) (λq hq hx=>hx.elim (λh1=>by have:=hWN.out q h1;omega) λh1=>zO);replace⟨hsx,hFJ⟩:=zH2 hsx hFJ;have hA:=hGL.out.its.at_.2.2.2;clear hGL;obtain⟨ie,hie⟩:∃ie,kD ys (k,i,o)=ie:=⟨_,rfl⟩
  obtain⟨p,hp⟩:∃p,qD ys (k,i,o)=p:=⟨_,rfl⟩
  have hMY:=JI ys (k,i,o);rw[hie,hp];rw[hp]at hMY;obtain⟨ps,e0,ho,hpp⟩:=so6.out;have hgr:∀W':Z,w6.grownBy W' (Value.slice Av pre.length cv).ownBlock->qY (OwnL w1 (I Av pre.length cv)) w6 W':=λW' hg=>qY.of_heap λq hq hX=>hg.block q hq λe=>hX (.inl e.symm);replace⟨hpp,hgr⟩:=zH2 hpp hgr;clear so6;rcases Nat.eq_zero_or_pos h with h0|h0
  ·have hh1:((h:Int)==0)=Of:=by rw[beq_iff_eq];omega
   have hh2:decide (h=0)=Of:=decide_eq_true h0;have hf2:full=pre++[(0,ys,p)]:=by rw[hEP.out,h0,kj,hp]
   subst h0;replace hf2:=zH hf2;clear hA hEJ hie hp;go_wp2_with (at_builtin;refine Qa ?_);refine Qs.go (ZB w6 rfl (.tmp 28) (.tmp 32) 180 rfl w1.heap.size 187 i0 _ 3 40 underlying180 hi.out hz0 hz1 hz2 rfl zA1 (I Av pre.length cv) pre.length (ZW ps) zE ho #[Oa Oc 0,I A9 ys.length c9,Oa Oc (p:Int)] zE rfl zA8 zO zA1 xx6.size ?_);intro v' W' hBV hg hB hat;have hF:jL 187 w1 W' v' (pre++[(0,ys,p)]):=jL.push (s:=(0,ys,p)) xx6.size e0 hpp.out hFJ.out hsx.out hBV hg hat;have hBW:Ext w W':=x1.trans (Below.trans xx6 hB);replace⟨hF,hBW⟩:=zH2 hF hBW;clear hBV hg hat hB;go_wp2_with fail;go_ret;exact⟨_,rfl,by rw[hf2.out];exact hF.out.toE.mono z1,hBW.out⟩
  have hh1:((h:Int)==0)=Og:=by rw[beq_eq_false_iff_ne];omega
  obtain⟨h',hh⟩:∃h',h=h'+1:=⟨h-1,zO⟩
  obtain⟨j,hj⟩:∃j,QE ys (k,i,o)=j:=⟨_,rfl⟩
  have hjl:j<ys.length:=hj▸za (hEJ.out h0);obtain⟨b',e1,f8,f256,zs,e4,e5⟩:=QH (h:=h') (by rw[<-hh];exact QC hsp.out _ (List.getElem_mem hjl));have hfl:full=(pre++[(h,ys,j)])++jA S (k,i,o) h' zs:=by rw[hEP.out,hh,JL (by rw[hj];exact zL hjl) (by rw[e1,Int.toNat_natCast];exact e4),hj,List.append_assoc];rfl
  have hms:vF S (b':Int)<vF S (r:Int):=by rw[VR e4,hlv.out];omega
  obtain⟨b9,off,rfl,hb9⟩:=hA zO;have hBM:∀(v':Ob)(W':Z),w6.ownsRow w1.heap.size 187 3 (I Av pre.length cv) pre.length (ZW ps)->W'.ownsRow w1.heap.size 187 3 v' (pre.length+1) (ZW ps++[Oa Oc (h:Int),I (M ⟨b9,off,Y⟩) ys.length c9,Oa Oc (j:Int)])->w6.grownBy W' (Value.slice Av pre.length cv).ownBlock->(v'.ownBlock=(Value.slice Av pre.length cv).ownBlock\/∃g,v'.ownBlock=M g/\w6.heap.size<=g)->Below w1.heap.size w6 W' ->
    WyI 187 (λ_ _=>True) S (k,i,o) full w1.heap.size w1 v' (Oa Oc (b':Int)) W'/\vF S (Oa Oc (b':Int))<vF S (Oa Oc (r:Int)):=λv' W' _ hBV hg hat hB=>by
   obtain⟨A7,c7,rfl,-,-⟩:=qM hBV;have hF:jL 187 w1 W' (I A7 (pre.length+1) c7) (pre++[(h,ys,j)]):=jL.push (s:=(h,ys,j)) xx6.size e0 hpp.out hFJ.out hsx.out hBV hg hat;exact⟨⟨h',b',zs,_,A7,c7,zA3,rfl,f8,f256,e4,e5,hfl,zA2,hF,Below.trans xx6 hB,trivial⟩,hms⟩
  have hit:∀W':Z,w6.grownBy W' (Value.slice Av pre.length cv).ownBlock->W'.cell? (b9,off+j*5+3)=M (Oa Oc (b':Int))/\W'.heap[w4.heap.size]?=M (O #[(h:Int),I (b9,off) ys.length c9] 113):=λW' hg=>by obtain⟨A',c',-,-,-,d3,-,-⟩:=(show Its W' W'.heap.size (I (M ⟨b9,off,Y⟩) ys.length c9) ys by have:=hsx.out.its (hgr.out W' hg);rw[hFJ.out]at this;exact this).item j hjl;rw[e1]at d3;refine⟨d3,(hg.block _ (zG.1 rn6).1 λe=>?_).trans rn6⟩;have:=hWN.out _ e.symm;omega
  replace⟨hBM,hit,hEJ,hh⟩:=zH4 hBM hit hEJ hh;clear hA hfl hms e4 e5 hsp hn hEP hlv hpp hgr;have hAP:(ie=Of/\p=j)\/(ie=Og/\max (0:Int) ((p:Int)-1)=(j:Int)):=by unfold QE at hj;rw[hie,hp]at hj;cases ie;right;refine⟨rfl,?_⟩;simp only[Bool.false_eq_true,if_false]at hj;omega;left;exact⟨rfl,by simpa using hj⟩
  clear hie hp hj;rcases hAP with⟨rfl,rfl⟩|⟨rfl,hmax⟩
  ·go_wp2_with (at_builtin;refine Qa ?_);refine Qs.go (ZB w6 rfl (.tmp 39) (.tmp 43) 180 rfl w1.heap.size 187 i0 _ 3 40 underlying180 hi.out hz0 hz1 hz2 rfl zA1 (I Av pre.length cv) pre.length (ZW ps) zE ho #[Oa Oc (h:Int),I (M ⟨b9,off,Y⟩) ys.length c9,Oa Oc (p:Int)] zE rfl zA8 zO zA1 xx6.size ?_);intro v' W' hBV hg hB hat;obtain⟨d3,rnW⟩:=hit.out W' hg;have knW:=qa rnW;have hF:=zH (hBM.out v' W' ho hBV hg hat hB);clear hBM hit hBV hg hat hB ho;go_wp2_with fail;exact hF.out
  go_wp2_with (at_builtin;refine Qa ?_);refine Qs.go (ZB w6 rfl (.tmp 39) (.tmp 43) 180 rfl w1.heap.size 187 i0 _ 3 40 underlying180 hi.out hz0 hz1 hz2 rfl zA1 (I Av pre.length cv) pre.length (ZW ps) zE ho #[Oa Oc (h:Int),I (M ⟨b9,off,Y⟩) ys.length c9,Oa Oc (j:Int)] zE rfl zA8 zO zA1 xx6.size ?_);intro v' W' hBV hg hB hat;obtain⟨d3,rnW⟩:=hit.out W' hg;have knW:=qa rnW;have hF:=zH (hBM.out v' W' ho hBV hg hat hB);clear hBM hit hBV hg hat hB ho;go_wp2_with fail;exact hF.out
def YQ(s:Stp):Bool:=decide (s.2.1.length<5)
def ThinIx(l:List Stp)(u:Ob):Prop:=(∃j:Nat,u=Oa Oc (j:Int)/\l.any YQ=Of)\/(u=Oa Oc (-1)/\l.any YQ=Og)
set_option maxRecDepth 100000 in
theorem qmM(lvl p:Int)(A n c)(w:Z):Calls prog 175 #[.agg #[lvl,I A n c,p]] w (Ret (.bool (decide (n<5))) w):=by
 go_enter func175,ntmps175;by_cases h:n<5
 ·have h1:decide ((n:Int)<5)=Of:=decide_eq_true zO;rw[decide_eq_true h];replace h:=zH h;go_wp2;go_ret;exact⟨rfl,zN _ _⟩
 have h1:decide ((n:Int)<5)=Og:=decide_eq_false zO;rw[decide_eq_false h];replace h:=zH h;go_wp2;go_ret;exact⟨rfl,zN _ _⟩
set_option maxRecDepth 100000 in
theorem qmN(v:Ob)(l:List Stp)(hl:l.length<=100)(w:Z)(h:Yl w w v l):Calls prog 198 #[v,.func (.func 175) #[] #[]] w (zv (λu _=>ThinIx l u) w):=by
 obtain⟨ps,hps,⟨A,c,rfl,hc1,hc2,hr⟩,hpp⟩:=h;have hpl:ps.length=l.length:=by rw[<-hps,List.length_map]
 replace⟨hr,hc2⟩:=zH2 hr hc2;go_enter func198,ntmps198;go_wp2_with fail;go_loopw [8] (λi wr=>∃k:Nat,k<=l.length/\i=Oa Oc (k:Int)/\Ext w wr/\(l.take k).any YQ=Og) (λi _=>l.length-(intOf i).toNat)
 case atStart=>exact⟨0,Nat.zero_le _,rfl,Ext.refl _,rfl⟩
 case round=>
  obtain⟨k,hk,rfl,xr,hno⟩:=hrel;replace hno:=zH hno;by_cases hlt:k<l.length
  ·obtain⟨bv,offv,rfl,hbv,hBZ⟩:=hr.out.2 zO;have hkp:k<ps.length:=zO;obtain⟨d0,d1,d2⟩:=Kd ps k hkp;replace d0:=Ext.cell xr (hBZ _ _ d0);replace d1:=Ext.cell xr (hBZ _ _ d1);replace d2:=Ext.cell xr (hBZ _ _ d2);rw[<-Nat.add_assoc]at d1 d2;obtain⟨Ax,cx,hx2⟩:=(hpp ps[k] (List.getElem_mem hkp)).1;have hxe:ps[k].1=l[k]:=by simp only[<-hps,List.getElem_map]
   rw[hx2,hxe]at d1;rw[hxe]at d0 d2;have HAT:=zH (λ(he:YQ l[k]=Of)=>show l.any YQ=Of from List.any_eq_true.2 ⟨l[k],List.getElem_mem hlt,he⟩);have HNO:=zH (λ(he:YQ l[k]=Og)=>show(l.take (k+1)).any YQ=Og by rw[List.take_succ_eq_append_getElem hlt,List.any_append,hno.out];simp[he]);unfold YQ at HAT HNO;generalize l[k]=u at*;obtain⟨ul,uxs,up⟩:=u;dsimp only at d0 d1 d2 HAT HNO;clear hBZ hx2 hxe;have hLF:=zH (IntWalk.wrap64_in ((k:Int)+1) zO);have hV:=qmM (ul:Int) (up:Int) Ax uxs.length cx wr;go_wp2_with fail;refine hV.mono ?_;rintro e w2 ⟨rfl,hB⟩;clear d0 d1 d2 hV;by_cases he:uxs.length<5
   ·rw[decide_eq_true he];have HQ:=zH (HAT.out (decide_eq_true he));clear HAT HNO;replace he:=zH he;go_wp2_with fail;refine bodyPost_ret (v:=Oa Oc (k:Int)) ?_ rfl ⟨_,rfl,.inl ⟨k,rfl,HQ.out⟩,Ext.trans xr hB⟩;simp[results,results198,go_sem]
   rw[decide_eq_false he];have HQ:=zH (HNO.out (decide_eq_false he));clear HAT HNO;replace he:=zH he;have hw1:=hLF.out;go_wp2_with fail;refine⟨⟨k+1,hlt,rfl,Ext.trans xr hB,HQ.out⟩,?_⟩;simp[intOf];omega
  obtain rfl:k=l.length:=zO;have HQ:=zH (show l.any YQ=Og by have:=hno.out;rwa [List.take_length]at this);go_wp2_with fail;refine bodyPost_ret (v:=Oa Oc (-1)) ?_ rfl ⟨_,rfl,.inr ⟨rfl,HQ.out⟩,xr⟩;simp[results,results198,go_sem]
set_option maxRecDepth 100000 in
theorem thin_any(v:Ob)(l:List Stp)(hl:l.length<=100)(w:Z)(h:Yl w w v l):Calls prog 174 #[v,.func (.func 175) #[] #[]] w (Ret (.bool (l.any YQ)) w):=by
 have HX:=qmN v l hl w h;clear h;go_enter func174,ntmps174;go_wp2_with fail;refine HX.mono ?_;rintro e w2 ⟨u,rfl,hu,hB⟩;rcases hu with⟨j,rfl,hj⟩|⟨rfl,hj⟩
 ·have hd:decide ((0:Int)<=(j:Int))=Of:=decide_eq_true zO;go_wp2_with fail;go_ret;exact⟨by rw[hj];rfl,hB⟩
 go_wp2_with fail;go_ret;exact⟨by rw[hj];rfl,hB⟩
set_option maxRecDepth 100000 in
theorem tall_any(v:Ob)(l:List Stp)(hl:l.length<=100)(hl0:0<l.length)(k i o:Int)(hl5:∀s∈l,s.2.1.length<=5)(w:Z)(h:Yl w w v l):Calls prog 128 #[v,Xk k i o] w (Ret (.bool (qbD (k,i,o) l)) w):=by
 have HT:=zH (λW (hx:Ext w W)=>thin_any v l hl W ((h.below hx).more hx.size));obtain⟨ps,hps,⟨A,c,rfl,hc1,hc2,hr⟩,hpp⟩:=h;have hpl:ps.length=l.length:=by rw[<-hps,List.length_map]
 obtain⟨bv,offv,rfl,hbv,hBZ⟩:=hr.2 hl0;obtain⟨m,hm⟩:∃m,l.length=m+1:=⟨l.length-1,zO⟩
 have hmp:m<ps.length:=zO;have hml:m<l.length:=zO;obtain⟨d0,d1,d2⟩:=Kd ps m hmp;replace d0:=hBZ _ _ d0;replace d1:=hBZ _ _ d1;replace d2:=hBZ _ _ d2;rw[<-Nat.add_assoc]at d1 d2;obtain⟨⟨Ax,cx,hx2⟩,hBE⟩:=hpp ps[m] (List.getElem_mem hmp);have hxe:ps[m].1=l[m]:=by simp only[<-hps,List.getElem_map]
 rw[hx2,hxe]at d1 hBE;rw[hxe]at d0;have hlast:l.getLast?=M l[m]:=by rw[List.getLast?_eq_getElem?,hm,Nat.add_sub_cancel];exact zL hml
 have hq:qbD (k,i,o) l=(decide (l.length=6)&&!(l.any YQ)&&!(kD l[m].2.1 (k,i,o))):=by unfold qbD;rw[hlast];simp only;congr 2;rw[Bool.eq_iff_iff];simp[List.all_eq_true,YQ]
 have hu5:=hl5 l[m] (List.getElem_mem hml);rw[hq];generalize l[m]=u at*;obtain⟨ul,uxs,up⟩:=u;dsimp only at d0 d1 hBE hu5⊢;have HP:=zH (λW (hx:Ext w W)=>qdk (ul:Int) Ax cx uxs k i o W hu5 ((hBE.below hx).more hx.size));clear hq hlast hBZ hr hx2 hxe hpp hBE d2 hps;replace hm:=zH hm;generalize l.any YQ=bt at*;generalize kD uxs (k,i,o)=bi at*;generalize qD uxs (k,i,o)=pn at*;replace hc2:=zH hc2;go_enter func128,ntmps128;go_wp2_with fail;generalize hw1:Oe _ _=w1;have x1:Ext w w1:=hw1▸zN _ _;have r1:w1.heap[w.heap.size]?=M (O #[Oa .u8 k,Oa .u32 i,Oa .u32 o] 49):=hw1▸zI _ _ _ rfl;clear hw1;refine(HT.out w1 x1).mono ?_;clear HT;rintro e w2 ⟨rfl,hB⟩;have x2:Ext w w2:=x1.trans hB;have r2:=qb r1 hB;clear r1 hB x1;go_upto_region 2 with fail;have g0:∀W,qp.r w2 W->W.cell? (bv,offv+m*3)=M (Oa Oc (ul:Int)):=λW h=>Ext.cell (x2.trans h) d0;have g1:∀W,qp.r w2 W->W.cell? (bv,offv+m*3+1)=M (I Ax uxs.length cx):=λW h=>Ext.cell (x2.trans h) d1;have g2:∀W,qp.r w2 W->∀i_1,W.cell? ⟨w,i_1,Y⟩=#[Oa .u8 k,Oa .u32 i,Oa .u32 o][i_1]?:=λW h=>qa (qb r2 h);clear d0 d1;have hwl:=zH (show IntKind.i64.wrap ((l.length:Int)-1)=(m:Int)by rw[IntKind.wrap_i64];have:=hm.out;omega);refine qw zQ ?_;refine Qb (w:=w2) qp (qV [(8,one (.tuple #[Oa Oc (pn:Int),.bool bi]))]) (List.replicate 14 Of) 0 zQ zQ zQ zQ zQ zQ zQ ?st (Rel.drew _ _) ?walk
 case st=>exact ql (by simp only[List.forall_mem_cons];exact⟨Tu _,λ_ h=>by cases h⟩)
 case walk=>
  intro K hK;dsimp only[qA,List.replicate];refine zB6 ?_;refine qe (Od (M ⟨bv,offv+m*3,Y⟩)) zA0 zA0 (λW hW _=>⟨W,?_,Rel.refl _ W⟩) ?_
  ·go_simp;rw[hwl.out,if_pos zO];simp
  refine zB6 ?_;refine qH (one _) zA0 zA0 (λW hW _=>?_) (λ(_:Unit)=>?_)
  ·have hW':Ext w2 W:=hW;refine Qh ?_ ((HP.out W (x2.trans hW')).mono λe w' h=>⟨(),h.1,trivial,h.2⟩);go_simp
  refine zB6 ?_;refine qF (hK _ _ λW hW hF=>?_);clear hF hK;have hW:Ext w2 W:=hW;have xW:Ext w W:=x2.trans hW;refine zB8 ?_;go_wp2;refine Qt ?_;clear HP g0 g1 g2 r2;by_cases h6:l.length=6
  ·have e6:((l.length:Int)==6)=Of:=by rw[beq_iff_eq];omega
   have d6:=decide_eq_true h6;replace h6:=zH h6;cases bt
   ·cases bi;all_goals
     go_wp2_with fail;go_ret;exact⟨by rw[d6];rfl,xW⟩
   go_wp2_with fail;go_ret;exact⟨by rw[d6];rfl,xW⟩
  have e6:((l.length:Int)==6)=Og:=by rw[beq_eq_false_iff_ne];omega
  have d6:=decide_eq_false h6;replace h6:=zH h6;go_wp2_with fail;go_ret;exact⟨by rw[d6];rfl,xW⟩
def kG:List UInt8->Nat
 |[]=>0
 |x::r=>x.toNat+kG r
theorem qdD:∀(t:List UInt8)(a:Nat)(x:UInt8),a<t.length->kG (t.set a x)+qO t a=kG t+x.toNat
 |[],a,x,h=>by simp at h
 |y::r,0,x,h=>by simp[kG,qO];omega
 |y::r,a+1,x,h=>by
  have:=qdD r a x (by simpa using h);simp only[zC,kG];have e:qO (y::r) (a+1)=qO r a:=by simp[qO]
  rw[e];omega
theorem Yz{t:List UInt8}(h:t.length<=a):qO t a=0:=by unfold qO;rw[List.getElem?_eq_none h];rfl
theorem VC{t:List UInt8}(h:a<t.length)(x:UInt8):qO (t.set a x) a=x.toNat:=by unfold qO;rw[List.getElem?_set_self h];rfl
theorem Jt{t:List UInt8}(h:j≠a)(x:UInt8):qO (t.set a x) j=qO t j:=by unfold qO;rw[List.getElem?_set_ne zO]
theorem KT(t:List UInt8)(a:Nat):qO t a<256:=(t[a]?.getD 0).toNat_lt
theorem qcu{t:List UInt8}(h:qO t a≠0):kG (Vi t a)+1=kG t:=by
 have hl:a<t.length:=by by_cases h1:a<t.length;exact h1;exact absurd (Yz zO) h
 have e:=qdD t a (UInt8.ofNat (qO t a-1)) hl;have h2:=KT t a;have h3:(UInt8.ofNat (qO t a-1)).toNat=qO t a-1:=by rw[UInt8.toNat_ofNat'];omega
 unfold Vi;omega
theorem qfQ(t:List UInt8)(a j:Nat):qO (Vi t a) j<=qO t j:=by unfold Vi;by_cases hj:j=a;subst hj;by_cases hl:j<t.length;rw[VC hl];have h2:=KT t j;rw[UInt8.toNat_ofNat'];omega;rw[Yz (by simpa using hl)];omega;rw[Jt hj];omega
theorem qan{t:List UInt8}(h:qO t a=1):kG (t.set a 0)+1=kG t:=by
 have hl:a<t.length:=by by_cases h1:a<t.length;exact h1;rw[Yz zO]at h;cases h
 have e:=qdD t a 0 hl;rw[h]at e;simpa using e
theorem zero_le(t:List UInt8)(a j:Nat):qO (t.set a 0) j<=qO t j:=by by_cases hj:j=a;subst hj;by_cases hl:j<t.length;rw[VC hl];simp;rw[Yz (by simpa using hl)];omega;rw[Jt hj];omega
theorem Kg:∀{l:List Nat}{t t':List UInt8},looseL l t=.ok t'->kG t'<=kG t/\∀j,qO t' j<=qO t j
 |[],t,t',e=>by cases e;exact⟨zM _,λ_=>zM _⟩
 |a::l,t,t',e=>by by_cases ha:a=0;subst ha;rw[ZQ]at e;exact Kg e;by_cases h0:qO t a=0;rw[js ha h0]at e;cases e;rw[ZP ha h0]at e;obtain⟨h1,h2⟩:=Kg e;have:=qcu h0;exact⟨zO,λj=>Nat.le_trans (h2 j) (qfQ t a j)⟩
theorem Xr{t:List UInt8}(h:qO t a≠0)(hle:qO t a<=qO S.now a):qm (qu S t) a=qm S a:=by
 have e1:qm (qu S t) a=if qO t a=0 then Y else QO (Jm S a):=rfl
 have e2:qm S a=if qO S.now a=0 then Y else QO (Jm S a):=rfl
 rw[e1,e2,if_neg h,if_neg zO]
theorem qcZ(h:qm S a=M (lvl,xs))(hl:0<lvl):∀r∈qB xs,8<=r/\r<256:=λr hr=>by
 have h1:=YJ h r hr;obtain⟨x,hx,rfl⟩:=List.mem_map.1 hr;have hm:=(qJ h).1;have hio:=((qJ h).2.1 x hx).1.2.2.2.1.1;unfold Qq at hm;simp only[Bool.and_eq_true]at hm;obtain⟨i,hi,e⟩:=List.mem_iff_getElem.1 hx;have h2:=List.all_eq_true.1 hm.2 i (List.mem_range.2 hi);unfold qba at h2;rw[zL hi]at h2;simp only[Bool.and_eq_true]at h2;have h3:=h2.2;rw[e,decide_eq_true hl]at h3;have h4:x.r≠0:=by intro h5;rw[h5]at h3;simp at h3
 omega
structure LvI(S:Sto)(a:Nat)(st:List (Nat×Int))(t:List UInt8):Prop where
 eq:QD S (-1) S.now a=JW S st.reverse t
 may:Qu t=Of
 le:∀j,qO t j<=qO S.now j
 few:st.length+5*kG t<=5*kG S.now+1
 at_:∀p∈st,8<=p.1/\p.1<256/\-1<=p.2/\p.2<6
theorem qjU(S:Sto)(x:Nat×Int)(t:List UInt8):JW S [x] t=QD S x.2 t x.1:=by unfold JW;cases QD S x.2 t x.1<;>rfl
theorem LvI.start(hS:qk S=Of)(ha:8<=a)(ha2:a<256):LvI S a [(a,-1)] S.now:=by
 refine⟨(qjU S (a,-1) S.now).symm,(qE.1 hS).2.1,λ_=>zM _,zA2,λp hp=>?_⟩;obtain rfl:p=(a,-1):=by simpa using hp
 exact⟨ha,ha2,zA3,zA3⟩
theorem LvI.done{t:List UInt8}(h:LvI S a [] t):QD S (-1) S.now a=t:=h.eq
section
variable {S:Sto} {a:Nat} {s:List (Nat×Int)} {x:Nat×Int} {t:List UInt8}
theorem LvI.eq'(h:LvI S a (s++[x]) t):QD S (-1) S.now a=match QD S x.2 t x.1 with
  |none=>Y
  |some t'=>JW S s.reverse t':=by
 rw[h.eq,List.reverse_append];rfl
theorem LvI.top(h:LvI S a (s++[x]) t):8<=x.1/\x.1<256/\-1<=x.2/\x.2<6:=h.at_ x zA3
theorem LvI.bad0(h:LvI S a (s++[x]) t)(h0:qO t x.1=0):QD S (-1) S.now a=Y:=by rw[h.eq',VP,if_pos h0]
theorem LvI.more(h:LvI S a (s++[x]) t)(h1:1<qO t x.1):LvI S a s (Vi t x.1):=by have hd:=qcu (t:=t) (a:=x.1) zO;have hf:=h.few;simp only[List.length_append,List.length_cons,List.length_nil]at hf;refine⟨?_,je h.may h.top.1 _,λj=>Nat.le_trans (qfQ t x.1 j) (h.le j),zO,λp hp=>h.at_ p (by simp[hp])⟩;rw[h.eq',VP,if_neg zO,if_pos h1]
theorem LvI.one(h:LvI S a (s++[x]) t)(h1:qO t x.1=1):QD S (-1) S.now a=match(match qm S x.1 with
  |none=>Y
  |some (l,xs)=>if 0<=x.2/\l≠x.2 then Y else if 0<l then JW S ((qB xs).map λr=>(r,l-1)) (t.set x.1 0) else
   match looseL (qB xs) (t.set x.1 0) with
   |.error _=>Y
   |.ok t'=>M t') with
  |none=>Y
  |some t'=>JW S s.reverse t':=by
 rw[h.eq',VP,if_neg zO,if_neg zO]<;>rfl
theorem LvI.none_(h:LvI S a (s++[x]) t)(h1:qO t x.1=1)(hn:qm S x.1=Y):QD S (-1) S.now a=Y:=by rw[h.one h1,hn]
theorem LvI.level(h:LvI S a (s++[x]) t)(h1:qO t x.1=1){l:Int}{xs:List It}(hn:qm S x.1=M (l,xs))(h0:0<=x.2)(hl:l≠x.2):QD S (-1) S.now a=Y:=by rw[h.one h1,hn];simp only;rw[if_pos ⟨h0,hl⟩]
theorem LvI.push(h:LvI S a (s++[x]) t)(h1:qO t x.1=1){l:Int}{xs:List It}(hn:qm S x.1=M (l,xs))(h0:¬(0<=x.2/\l≠x.2))(hl:0<l):LvI S a (s++((qB xs).map λr=>(r,l-1)).reverse) (t.set x.1 0):=by
 have hd:=qan h1;have hf:=h.few;have h6:=Zc hn;have hlen:(qB xs).length=xs.length:=by unfold qB;simp
 simp only[List.length_append,List.length_cons,List.length_nil]at hf;refine⟨?_,je h.may h.top.1 _,λj=>Nat.le_trans (zero_le t x.1 j) (h.le j),by simp only[List.length_append,List.length_reverse,List.length_map];omega,λp hp=>?_⟩;rw[h.one h1,hn,List.reverse_append,List.reverse_reverse,Uw];simp only;rw[if_neg h0,if_pos hl]<;>rfl;rcases List.mem_append.1 hp with hp|hp
 exact h.at_ p (by simp[hp]);obtain⟨r,hr,rfl⟩:=List.mem_map.1 (List.mem_reverse.1 hp);have:=qcZ hn hl r hr;exact⟨this.1,this.2,by simp only;omega,by simp only;omega⟩
theorem LvI.leafBad(h:LvI S a (s++[x]) t)(h1:qO t x.1=1){l:Int}{xs:List It}(hn:qm S x.1=M (l,xs))(h0:¬(0<=x.2/\l≠x.2))(hl:¬0<l){e:Int}(he:looseL (qB xs) (t.set x.1 0)=.error e):QD S (-1) S.now a=Y:=by rw[h.one h1,hn];simp only;rw[if_neg h0,if_neg hl,he]
theorem LvI.leaf(h:LvI S a (s++[x]) t)(h1:qO t x.1=1){l:Int}{xs:List It}(hn:qm S x.1=M (l,xs))(h0:¬(0<=x.2/\l≠x.2))(hl:¬0<l){t':List UInt8}(he:looseL (qB xs) (t.set x.1 0)=.ok t'):LvI S a s t':=by have hd:=qan h1;obtain⟨hs,hj⟩:=Kg he;have hf:=h.few;simp only[List.length_append,List.length_cons,List.length_nil]at hf;refine⟨?_,vx (λb hb=>(YJ hn b hb).1) (je h.may h.top.1 _) he,λj=>Nat.le_trans (hj j) (Nat.le_trans (zero_le t x.1 j) (h.le j)),zO,λp hp=>h.at_ p (by simp[hp])⟩;rw[h.one h1,hn];simp only;rw[if_neg h0,if_neg hl,he]
end
def mixL:List Bool->Nat->List Ob->(Nat->Ob)->List Ob
 |[],_,l,_=>l
 |_::_,_,[],_=>[]
 |b::m,i,x::r,g=>(bif b then g i else x)::mixL m (i+1) r g
def qcV(D:Nat):Deferred:={target:=.collected D,args:=#[]}
theorem qgK(mask:List Bool)(n₀:Nat)(rel:Nat->(Nat->Ob)->List Nat->Z->Prop)(h₀:rel n₀ (λi=>tm.getD i undef) [] w)(hmix:mixL mask 0 tm (λi=>tm.getD i undef)=tm)(round:∀(n:Nat)(g:Nat->Ob)(Ds:List Nat)(wr:Z)(K:Act->Z->Prop),rel n g Ds wr->(∀(n':Nat)(g':Nat->Ob)(Ds':List Nat)(w':Z),n'<n->rel n' g' Ds' w'->K {tmps:=(mixL mask 0 tm g').toArray,defers:=Ds'.map qcV} w')->c.wp P (Exit.then K Q) {tmps:=(mixL mask 0 tm g).toArray,defers:=Ds.map qcV} wr):(Code.loop c).wp P Q {tmps:=tm.toArray,defers:=[]} w:=by refine wp_loop_ghost (λn a w=>∃g Ds,a={tmps:=(mixL mask 0 tm g).toArray,defers:=Ds.map qcV}/\rel n g Ds w) n₀ ⟨_,[],by rw[hmix];rfl,h₀⟩ ?_;rintro n a wr ⟨g,Ds,rfl,h⟩;exact round n g Ds wr _ h λn' g' Ds' w' hlt hr=>⟨n',hlt,g',Ds',rfl,hr⟩
theorem qcY(hK:∀(n':Nat)(g':Nat->Ob)(Ds':List Nat)(w':Z),n'<n->rel n' g' Ds' w'->K {tmps:=(mixL mask 0 tm g').toArray,defers:=Ds'.map qcV} w')(n':Nat)(hlt:n'<n)(Ds':List Nat)(hdf:df=Ds'.map qcV)(heq:l=mixL mask 0 tm (λi=>l.getD i undef))(hr:rel n' (λi=>l.getD i undef) Ds' w'):K {tmps:=l.toArray,defers:=df} w':=by
 have:=hK n' _ Ds' w' hlt hr;rw[<-heq]at this
 rwa [hdf]
structure Jk(lo:Nat)(Ds:List Nat)(w:Z):Prop where
 nodup:Ds.Nodup
 at_:∀D∈Ds,lo<=D/\w.heap[D]?=M (.deferred (M []))
theorem Jk.nil(lo:Nat)(w:Z):Jk lo [] w:=⟨List.nodup_nil,λ_ h=>by cases h⟩
theorem Jk.keep(h:Jk lo Ds w)(hk:∀(q:Nat)(o:Obj),w.heap[q]?=o->o.isCells=Og->W.heap[q]?=o):Jk lo Ds W:=⟨h.nodup,λD hD=>⟨(h.at_ D hD).1,hk D _ (h.at_ D hD).2 rfl⟩⟩
theorem Jk.cons(h:Jk lo Ds w)(hk:∀(q:Nat)(o:Obj),w.heap[q]?=o->o.isCells=Og->W.heap[q]?=o)(hD:w.heap.size<=D)(hl:lo<=D)(hr:W.heap[D]?=M (.deferred (M []))):Jk lo (D::Ds) W:=by
 have h1:=h.keep hk;refine⟨List.nodup_cons.2 ⟨λhm=>?_,h1.nodup⟩,λq hq=>?_⟩;have:=(zG.1 (h.at_ D hm).2).1;omega;rcases List.mem_cons.1 hq with rfl|hq
 exact⟨hl,hr⟩;exact h1.at_ q hq
theorem GE {F:Fence} {n:Nat} {P:Program} {fn:Func} {tmps:Array Value} {R:Ending->World->Prop} {lo:Nat}:∀ (Ds:List Nat) (W:World),Jk lo Ds W -> (∀ W',(∀ q,q∉Ds->W'.heap[q]?=W.heap[q]?)->W'.heap.size=W.heap.size->W'.os=W.os->W'.tape=W.tape->W'.output=W.output->LeavesIn F n P fn tmps R [] .returning W')->LeavesInM F n P fn tmps R (Ds.map qcV) .returning W
 | [],W,_,h=>h W (fun _ _=>rfl) rfl rfl rfl rfl
 |D :: Ds,W,hm,h=>by
  refine⟨zA3,.inl ⟨D,_,rfl,run_takeDeferred (hm.at_ D List.mem_cons_self).2,?_⟩⟩;have hnd:=List.nodup_cons.1 hm.nodup;refine GE (lo:=lo) Ds (W.putObj D (.deferred none)) ⟨hnd.2,fun q hq=>⟨(hm.at_ q (List.mem_cons_of_mem _ hq)).1,(World.putObj_heap_other (o:=.deferred none) (fun e=>by subst e;exact hnd.1 hq)).trans (hm.at_ q (List.mem_cons_of_mem _ hq)).2⟩⟩ ?_;intro W' h1 h2 h3 h4 h5;refine h W' (fun q hq=>?_) ?_ ?_ ?_ ?_
  ·exact(h1 q fun hx=>hq (List.mem_cons_of_mem _ hx)).trans (World.putObj_heap_other (o:=.deferred none) fun e=>hq (by rw[e];exact List.mem_cons_self))
  ·rw[h2];simp
  ·rw[h3];rfl
  ·rw[h4];rfl
  ·rw[h5];rfl
end Go.Proofs.YtmeadnlmepcmbaaGreat
