/- Texts StepsW, BackN, DRead, RSeen, RNode, FWalkW, joined. -/
import Derived.Test.YtpbniokljofedaaGreatZI18
set_option linter.unusedSimpArgs false
set_option linter.unusedVariables false
set_option maxHeartbeats 8000000
open Go.Proofs.Tryz
namespace Go.Proofs.YtpbniokljofedaaGreat
open Go.RowKit
theorem Tryz.info_step:(Tryz.prog.info? 160).map (fun i=>(i.zero,i.size,i.bytes))=some (some (.agg #[.int .i64 0,.slice none 0 0,.int .i64 0]),3,40):=zQ
abbrev Stp:=Nat×List It×Nat
def ZZ:List (Stp×Value)->List Value
 | []=>[]
 |p :: r=>.int .i64 (p.1.1:Int) :: p.2 :: .int .i64 (p.1.2.2:Int) :: ZZ r
theorem qdc (ps:List (Stp×Value)) (p:Stp×Value):ZZ (ps++[p])=ZZ ps++[.int .i64 (p.1.1:Int),p.2,.int .i64 (p.1.2.2:Int)]:=by
 induction ps with
 |nil=>rfl
 |cons a r ih=>simp[ZZ,ih]
theorem Yh (ps:List (Stp×Value)):∀ i (h:i<ps.length),(ZZ ps)[i*3]?=some (.int .i64 (ps[i].1.1:Int))/\(ZZ ps)[i*3+1]?=some ps[i].2/\(ZZ ps)[i*3+2]?=some (.int .i64 (ps[i].1.2.2:Int)):=by
 induction ps with
 |nil=>intro i h;simp at h
 |cons p r ih =>
  intro i h;rcases i with _|i
  ·simp[ZZ]
  ·have:=ih i (by simpa using h);rw[show (i+1)*3=i*3+1+1+1 by omega];simpa [ZZ,Nat.add_assoc] using this
def OwnX (v:Value) (q:Nat):Prop:=v.ownBlock=some q
def OwnL (lo:Nat) (v:Value) (q:Nat):Prop:=v.ownBlock=some q\/q<lo
def Tn (X:Nat->Prop) (w:World) (v:Value) (ax:List (It×Value)):Prop:=(∃ A c,v=.slice A ax.length c/\ax.length<=c/\c<=maxLen/\∀ C,Qa X w C->Rd C C.heap.size 5 A ax.length (qP ax)) /\
 ∀ p∈ax,(∃ A c,p.2=.slice A p.1.val.length c)/\∀ C,Qa X w C->Bys C C.heap.size p.2 p.1.val
theorem Tn.its {X:Nat->Prop} {w:World} {v:Value} {ax:List (It×Value)} (h:Tn X w v ax) {C:World} (hC:Qa X w C):Its C C.heap.size v (ax.map (·.1)):=by obtain⟨⟨A,c,e,h1,h2,hr⟩,hp⟩:=h;exact⟨ax,rfl,⟨A,c,by rw[List.length_map];exact e,by rw[List.length_map];exact h1,h2,by rw[List.length_map];exact hr C hC⟩,fun p ai=>⟨(hp p ai).1,(hp p ai).2 C hC⟩⟩
theorem Tn.trans {X Y:Nat->Prop} {w W:World} {v:Value} {ax:List (It×Value)} (h:Tn X w v ax) (hk:Qa X w W) (hY:∀ k,k<w.heap.size->Y k->X k):Tn Y W v ax:=by obtain⟨⟨A,c,e,h1,h2,hr⟩,hp⟩:=h;exact⟨⟨A,c,e,h1,h2,fun C hC=>hr C (hk.trans hC hY)⟩,fun p ai=>⟨(hp p ai).1,fun C hC=>(hp p ai).2 C (hk.trans hC hY)⟩⟩
def jK (lo:Nat) (w:World) (v:Value) (l:List Stp):Prop:=∃ ps:List (Stp×Value),ps.map (·.1)=l/\w.ownsRow lo 160 3 v l.length (ZZ ps)/\∀ p∈ps,∃ ax,ax.map (·.1)=p.1.2.1/\Tn (OwnL lo v) w p.2 ax
def YU (lo:Nat) (w:World) (v:Value) (l:List Stp):Prop:=∃ ps:List (Stp×Value),ps.map (·.1)=l/\(∃ A c,v=.slice A l.length c/\l.length<=c/\c<=maxLen/\∀ C,Qa (fun q=>q<lo) w C->Rd C C.heap.size 3 A l.length (ZZ ps))/\∀ p∈ps,∃ ax,ax.map (·.1)=p.1.2.1/\Tn (fun q=>q<lo) w p.2 ax
def Vq (B:Nat) (w:World) (v:Value) (l:List Stp):Prop:=∃ ps:List (Stp×Value),ps.map (·.1)=l/\(∃ A c,v=.slice A l.length c/\l.length<=c/\c<=maxLen/\Rd w B 3 A l.length (ZZ ps))/\∀ p∈ps,(∃ A c,p.2=.slice A p.1.2.1.length c)/\Its w B p.2 p.1.2.1
theorem Rd.keepFrom {X:Nat->Prop} {w C:World} {B size n lo:Nat} {A:Option Addr} {xs:List Value} (h:Rd w B size A n xs) (hs:0<size) (hf:∀ a,A=some a->lo<=a.block) (hk:Qa X w C) (hX:∀ q,lo<=q->¬X q):Rd C C.heap.size size A n xs:=⟨h.1,fun hn=>by
 obtain⟨b,off,e,hb,hc⟩:=h.2 hn;have h1:lo<=b:=hf _ e;have hl:0<xs.length:=by rw[h.1];exact Nat.mul_pos hn hs
 exact⟨b,off,e,World.block_lt_of_cell? C ⟨b,off+0,none⟩ (hk _ _ (hX b h1) (hc 0 _ (zL hl))),fun j u hu=>hk _ _ (hX b h1) (hc j u hu)⟩⟩
theorem jK.toE {lo:Nat} {w:World} {v:Value} {l:List Stp} (h:jK lo w v l):YU lo w v l:=by obtain⟨ps,e,ho,hp⟩:=h;obtain⟨A,c,rfl,h1,h2⟩:=qy ho;have hf:=Ze.of_own ho;refine⟨ps,e,⟨A,c,rfl,h1,h2,fun C hC=>(Rd.of_own ho).keepFrom zO (fun a ha=>hf a _ _ (by rw[ha])) hC fun q hq hx=>zO⟩,fun p ai=>?_⟩;obtain⟨ax,e1,hi⟩:=hp p ai;exact⟨ax,e1,hi.trans (Qa.refl _ _) fun k _ hk=>.inr hk⟩
theorem YU.mono {lo lo':Nat} {w:World} {v:Value} {l:List Stp} (h:YU lo w v l) (hl:lo'<=lo):YU lo' w v l:=by obtain⟨ps,e,⟨A,c,rfl,h1,h2,hr⟩,hp⟩:=h;have hm:∀ {C},Qa (fun q=>q<lo') w C->Qa (fun q=>q<lo) w C:=fun hC=>hC.mono fun q _ hq=>zO;refine⟨ps,e,⟨A,c,rfl,h1,h2,fun C hC=>hr C (hm hC)⟩,fun p ai=>?_⟩;obtain⟨ax,e1,⟨A',c',f1,f2,f3,f4⟩,f5⟩:=hp p ai;exact⟨ax,e1,⟨A',c',f1,f2,f3,fun C hC=>f4 C (hm hC)⟩,fun q hq=>⟨(f5 q hq).1,fun C hC=>(f5 q hq).2 C (hm hC)⟩⟩
theorem Tn.shape {X:Nat->Prop} {w:World} {v:Value} {ax:List (It×Value)} {xs:List It} (h:Tn X w v ax) (e:ax.map (·.1)=xs):∃ A c,v=.slice A xs.length c:=by obtain⟨⟨A,c,e1,_⟩,_⟩:=h;exact⟨A,c,by rw[e1,<-e,List.length_map]⟩
theorem YU.read {lo:Nat} {w C:World} {v:Value} {l:List Stp} (h:YU lo w v l) (hC:Qa (fun q=>q<lo) w C):Vq C.heap.size C v l:=by obtain⟨ps,e,⟨A,c,rfl,h1,h2,hr⟩,hp⟩:=h;refine⟨ps,e,⟨A,c,rfl,h1,h2,hr C hC⟩,fun p ai=>?_⟩;obtain⟨ax,e1,hi⟩:=hp p ai;exact⟨hi.shape e1,by rw[<-e1];exact hi.its hC⟩
theorem Vq.below {B:Nat} {w w':World} {v:Value} {l:List Stp} (h:Vq B w v l) (hb:Below B w w'):Vq B w' v l:=by obtain⟨ps,e,⟨A,c,e1,e2,e3,hr⟩,hp⟩:=h;exact⟨ps,e,⟨A,c,e1,e2,e3,hr.below hb⟩,fun p h=>⟨(hp p h).1,(hp p h).2.below hb⟩⟩
theorem Vq.more {B B':Nat} {w:World} {v:Value} {l:List Stp} (h:Vq B w v l) (hb:B<=B'):Vq B' w v l:=by obtain⟨ps,e,⟨A,c,e1,e2,e3,hr⟩,hp⟩:=h;exact⟨ps,e,⟨A,c,e1,e2,e3,hr.more hb⟩,fun p h=>⟨(hp p h).1,(hp p h).2.more hb⟩⟩
theorem jK.nil (lo:Nat) (w:World):jK lo w (.slice none 0 0) []:=⟨[],rfl,World.ownsRow_nil _ _ _ _,fun p h=>by cases h⟩
theorem jK.ext {lo:Nat} {w w':World} {v:Value} {l:List Stp} (h:jK lo w v l) (hx:Ext w w'):jK lo w' v l:=by obtain⟨ps,e,ho,hp⟩:=h;refine⟨ps,e,QA ho fun q hq=>Below.block hx q (Ql ho q hq).2,fun p ai=>?_⟩;obtain⟨ax,e1,hi⟩:=hp p ai;exact⟨ax,e1,hi.trans (Qa.of_ext hx) fun _ _ h=>h⟩
theorem jK.push {lo:Nat} {w w':World} {v v':Value} {l:List Stp} {s:Stp} {u:Value} {ps:List (Stp×Value)} {ax:List (It×Value)} (aP:lo<=w.heap.size) (e:ps.map (·.1)=l) (hp:∀ p∈ps,∃ ax,ax.map (·.1)=p.1.2.1/\Tn (OwnL lo v) w p.2 ax) (hu:ax.map (·.1)=s.2.1) (hs:Tn (OwnL lo v) w u ax) (ho:w'.ownsRow lo 160 3 v' (l.length+1) (ZZ ps++[.int .i64 (s.1:Int),u,.int .i64 (s.2.2:Int)])) (hg:w.grownBy w' v.ownBlock) (dQ:v'.ownBlock=v.ownBlock\/∃ g,v'.ownBlock=some g/\w.heap.size<=g):jK lo w' v' (l++[s]):=by
 have hk:Qa (OwnL lo v) w w':=Qa.of_heap fun q hq hX=>hg.block q hq fun e=>hX (.inl e.symm);have hy:∀ q,q<w.heap.size->OwnL lo v' q->OwnL lo v q:=fun q hq hx=>by
  rcases hx with hx|hx
  ·rcases dQ with e1|⟨g,e1,e2⟩
   ·left;rw[<-e1];exact hx
   ·rw[e1] at hx;cases hx;omega
  ·exact .inr hx
 refine⟨ps++[(s,u)],by simp[e],?_,fun p ai=>?_⟩
 ·rw[List.length_append,List.length_singleton,qdc];exact ho
 ·rcases List.mem_append.1 ai with ai|ai
  ·obtain⟨ips',e1,hi⟩:=hp p ai;exact⟨ips',e1,hi.trans hk hy⟩
  ·obtain rfl:p=(s,u):=by simpa using ai
   exact⟨ax,hu,hs.trans hk hy⟩
theorem Zv.toE {lo:Nat} {w:World} {v:Value} {xs:List It} (h:Zv lo w v xs) {X:Nat->Prop} (hX:∀ q,lo<=q->¬X q):∃ ax,ax.map (·.1)=xs/\Tn X w v ax:=by
 obtain⟨ps,e1,⟨A,c,e2,e3,e4,hr⟩,hp,hf,hg⟩:=h;have el:xs.length=ps.length:=by rw[<-e1,List.length_map]
 rw[el] at e2 e3 hr;refine⟨ps,e1,⟨A,c,e2,e3,e4,fun C hC=>hr.keepFrom zO (fun a ha=>hf a _ _ (by rw[e2,ha])) hC hX⟩,fun p ai=>⟨(hp p ai).1,fun C hC=>?_⟩⟩;obtain⟨A',c',f1,f2,f3,f4⟩:=(hp p ai).2;exact⟨A',c',f1,f2,f3,f4.keepFrom zO (fun a ha=>hg p ai a _ _ (by rw[f1,ha])) hC hX⟩
theorem Zv.keepX {X:Nat->Prop} {w C:World} {lo:Nat} {v:Value} {xs:List It} (h:Zv lo w v xs) (hk:Qa X w C) (hX:∀ q,lo<=q->¬X q):Its C C.heap.size v xs:=by obtain⟨ax,rfl,hi⟩:=h.toE hX;exact hi.its hk
def Yc (xs:List It) (k:K3):Nat:=if Kv xs k=true then qG xs k else qG xs k-1
theorem qez (S:Sto) (k:K3) (xs:List It):VD S k 0 xs=[(0,xs,qG xs k)]:=rfl
theorem qag {S:Sto} {k:K3} {h:Nat} {xs zs:List It} {y:It} {l:Int} (hy:xs[Yc xs k]?=some y) (hn:qv S y.r.toNat=some (l,zs)):VD S k (h+1) xs=(h+1,xs,Yc xs k) :: VD S k h zs:=by
 show (h+1,xs,Yc xs k) :: (match xs[Yc xs k]? with
  |none=>[]
  |some y=>match qv S y.r.toNat with
   |none=>[]
   |some (_,ys)=>VD S k h ys)=_
 rw[hy];simp only;rw[hn]
theorem Js {xs:List It} {k:K3} (h:0<xs.length):Yc xs k<xs.length:=by
 unfold Yc;have:=JJ xs k;split
 ·rename_i hi;by_cases hl:qG xs k<xs.length
  ·exact hl
  ·rw[XB hl] at hi;cases hi
 ·omega
theorem qbZ {h:Nat} {xs:List It} (hm:Qe (h:Int) xs=true) (h1:0<h):0<xs.length:=by
 rcases Nat.eq_zero_or_pos xs.length with h0|h0
 ·exfalso;have hhd:jv (h:Int) xs.length=true:=by unfold Qe at hm;simp only[Bool.and_eq_true] at hm;exact hm.1
  unfold jv at hhd;simp only[decide_eq_true_eq] at hhd;exact hhd.2.2.2 zO h0
 ·exact h0
theorem qcw {S:Sto} {k:K3}:∀ (h:Nat) {xs:List It},Qe (h:Int) xs=true->(Qg S h xs).isSome=true->(VD S k h xs).length=h+1
 |0,xs,_,_=>rfl
 |h+1,xs,hm,hs=>by have hx:=qbZ hm zO;obtain⟨b,e1,-,-,zs,e4,e5⟩:=Jb (JO hs _ (List.getElem_mem (Js (k:=k) hx)));rw[qag (zL (Js hx)) (by rw[e1,Int.toNat_natCast];exact e4),List.length_cons,qcw h (Qc e4).1 e5]
end Go.Proofs.YtpbniokljofedaaGreat
namespace Go.Proofs.YtpbniokljofedaaGreat
open Go.RowKit Go.Shelf
attribute [local go_sem] Oper.semAt_some
set_option maxRecDepth 100000 in
theorem backN_in (n:Nat) (hn:1<=n) (l Bs b off len cap:Nat) (us:List W2) (aj:len<1099511627776) (J Jx:List Nat->World->Prop) (hY:∀ pre (x:Nat) W,J pre W->pre.length<len->YieldAt Fence.wide (n-1) prog l #[.int .i64 (x:Int),.agg #[.int .i64 (us[x]?.getD w2z).1,sv (us[x]?.getD w2z).2]] W fun e W' =>
   (e=.returned (.bool true)/\J (pre++[x]) W'/\Qi Bs b W W')\/(e=.returned (.bool false)/\Jx (pre++[x]) W'))
  (W:World) (fO:W.cell? ⟨Bs,0,none⟩=some (.slice (some ⟨b,off,none⟩) len cap)) (hc:∀ i,i<len->W.cell? ⟨b,off+i*2,none⟩=some (.int .i64 (us[i]?.getD w2z).1)/\W.cell? ⟨b,off+i*2+1,none⟩=some (sv (us[i]?.getD w2z).2)) (h0:J [] W) :
  CallsIn Fence.wide n prog 141 #[.func (.yield l) #[] #[],.pointer (some ⟨Bs,0,none⟩)] W fun e W'=>(∃ v,e=.returned v) /\
   ((∃ ys,ys=Zn (fun j=>len-1-j) len/\J ys W')\/(∃ pre,(∃ k,k<=len/\pre=Zn (fun j=>len-1-j) k)/\Jx pre W')):=by
 refine callsIn_of_wp func141 rfl trivial ?_ rfl;simp only[ntmps141,List.size_toArray,List.length_cons,List.length_nil,Nat.reduceAdd,Nat.reduceSub,Array.replicate_succ,Array.replicate_zero,List.push_toArray,List.append_toArray,List.nil_append,List.cons_append]
 gi_wp2
 gi_loopw [3] (fun i wr=>∃ k:Nat,k<=len/\i=.int .i64 ((len:Int)-1-k)/\J (Zn (fun j=>len-1-j) k) wr/\Qi Bs b W wr)
  (fun i _=>(intOf i+1).toNat)
 case atStart=>exact⟨0,Nat.zero_le _,zA3,h0,Qi.refl _ _ _⟩
 case round =>
  obtain⟨k,hk,rfl,fC,dR⟩:=hrel;have hBr:wr.cell? ⟨Bs,0,none⟩=some (.slice (some ⟨b,off,none⟩) len cap):=(World.cell?_of_block (w:=W) dR.1).trans fO;by_cases hlt:k<len
  ·have uK:=(World.cell?_of_block (w:=W) (a:=⟨b,off+(len-1-k)*2,none⟩) dR.2).trans (hc (len-1-k) zO).1;have hcy:=(World.cell?_of_block (w:=W) (a:=⟨b,off+(len-1-k)*2+1,none⟩) dR.2).trans (hc (len-1-k) zO).2;obtain⟨fn,tmps,assign,body,hy,hR⟩:=hY _ (len-1-k) wr fC (by rw[zj];exact hlt);try dsimp only at hy
   obtain⟨i,hi⟩:∃ i:Nat,len-1-k=i:=⟨_,rfl⟩
   have dD:(len:Int)-1-k=(i:Int):=zO;have hil:i<len:=zO;have hik:k+i+1<=len/\len<=k+i+1:=zO;have HU:=zH (Ju (fun j=>len-1-j) k);obtain⟨u,hu⟩:∃ u,us[i]?.getD w2z=u:=⟨_,rfl⟩
   rw[hi] at uK hcy hy hR;rw[hu] at uK hcy hy;rw[dD];clear dD;clear hu;have HI:=zH hi;clear hi
   gi_wp2
   refine hR.mono ?_;rintro e W3 (⟨rfl,xZ,ig⟩|⟨rfl,iH⟩)
   ·gi_wp2
    go_roundw
    case rel=>exact⟨k+1,zO,by go_num,by rw[HU.out,HI.out];exact xZ,dR.t ig⟩
    case measure=>simp[intOf]
   ·gi_wp2
    refine bodyPost_ret (results_none rfl _ _ _) rfl ?_;exact⟨⟨_,rfl⟩,.inr ⟨_,⟨k+1,zO,by rw[HU.out,HI.out]⟩,iH⟩⟩
  ·obtain rfl:k=len:=zO
   gi_wp2
   go_end0;exact⟨⟨_,rfl⟩,.inl ⟨_,rfl,fC⟩⟩
set_option maxRecDepth 100000 in
theorem qbE (n l Bs c:Nat) (A:Option Addr) (J:List Nat->World->Prop) (W:World) (fO:W.cell? ⟨Bs,0,none⟩=some (.slice A 0 c)) (h0:J [] W):CallsIn Fence.wide n prog 141 #[.func (.yield l) #[] #[],.pointer (some ⟨Bs,0,none⟩)] W fun e W'=>(∃ v,e=.returned v)/\J [] W':=by
 refine callsIn_of_wp func141 rfl trivial ?_ rfl;simp only[ntmps141,List.size_toArray,List.length_cons,List.length_nil,Nat.reduceAdd,Nat.reduceSub,Array.replicate_succ,Array.replicate_zero,List.push_toArray,List.append_toArray,List.nil_append,List.cons_append]
 gi_wp2
 gi_loopw [3] (fun i wr=>i=.int .i64 (-1)/\J [] wr) (fun _ _=>0)
 case atStart=>exact⟨rfl,h0⟩
 case round =>
  obtain⟨rfl,fC⟩:=hrel
  gi_wp2
  go_end0;exact⟨⟨_,rfl⟩,fC⟩
theorem qcR (n:Nat) (hn:1<=n) (Bs b:Nat) (v:Value) (us:List W2) (aj:us.length<1099511627776) (w:World) (fO:Bs<w.heap.size) (hb:b<w.heap.size) (hS:SW w Bs b v us):SeqStopsK Fence.wide n prog 141 #[.pointer (some ⟨Bs,0,none⟩)] (fun x:Nat=>#[.int .i64 (x:Int),.agg #[.int .i64 (us[x]?.getD w2z).1,sv (us[x]?.getD w2z).2]]) (Qi Bs b) (fun ys=>ys=Zn (fun j=>us.length-1-j) us.length)
   (fun pre=>∃ k,k<=us.length/\pre=Zn (fun j=>us.length-1-j) k) us.length w:=fun l J Jx W hW _ _ hY h0=>by
 obtain⟨hc,h⟩:=hS.keep (Qi.below hW fO hb);rcases h with ⟨rfl,A,c,rfl⟩|⟨off,cap,rfl,bV⟩
 ·exact(qbE n l Bs c A J W hc h0).mono fun e W' ⟨he,hj⟩=>⟨he,.inl ⟨_,rfl,hj⟩⟩
 ·exact backN_in n hn l Bs b off us.length cap us aj J Jx hY W hc bV h0
def atN (ws:List (Int×List UInt8)) (j:Nat):Int:=((ws[j]?).map (·.1)).getD 0
def datN (ws:List (Int×List UInt8)) (j:Nat):List UInt8:=((ws[j]?).map (·.2)).getD []
theorem Yy (n k j:Nat) (h:j<k):(Zn (fun i=>n-1-i) k)[j]?=some (n-1-j):=by unfold Zn;rw[List.getElem?_map,List.getElem?_range h];rfl
theorem XG {ws:List (Int×List UInt8)} {a:Int}:∀ (d m:Nat),m+d=ws.length->(∀ i,m<=i->i<ws.length->atN ws i≠a)->jB ws a=jB (ws.take m) a:=by
 intro d;induction d with
 |zero=>intro m hm _;rw[show m=ws.length by omega,List.take_length]
 |succ d ih =>
  intro m hm h;have aN:=h m (zM _) zO;unfold atN at aN;rw[zL zO] at aN;rw[ih (m+1) zO (fun i hi hl=>h i zO hl),Ve zO];exact if_neg aN
theorem qeJ {ws:List (Int×List UInt8)} {a:Int} {k:Nat} {pre:List Nat} {x:Nat} (hk:k<=ws.length) (he:pre++[x]=Zn (fun j=>ws.length-1-j) k) (hx:atN ws x=a) (hp:∀ y∈pre,atN ws y≠a):jB ws a=some (datN ws x):=by
 have hl:pre.length+1=k:=by have:=congrArg List.length he;simpa [Zn] using this
 have hxk:x=ws.length-1-pre.length:=by have h1:=Yy ws.length k pre.length zO;rw[<-he] at h1;simpa using h1
 have fH:x<ws.length:=zO;rw[XG (ws:=ws) (a:=a) pre.length (x+1) zO (fun i h1 h2=>by have h3:=Yy ws.length k (ws.length-1-i) zO;rw[<-he,List.getElem?_append_left zO,show ws.length-1-(ws.length-1-i)=i by omega] at h3;exact hp _ (List.mem_of_getElem? h3)),Ve fH];unfold atN at hx;unfold datN;rw[zL fH] at hx ⊢;exact if_pos hx
theorem qeI {ws:List (Int×List UInt8)} {a:Int} (hp:∀ y∈Zn (fun j=>ws.length-1-j) ws.length,atN ws y≠a):jB ws a=none:=by rw[XG (ws:=ws) (a:=a) ws.length 0 zA3 (fun i _ h2=>by have h3:=Yy ws.length ws.length (ws.length-1-i) zO;rw[show ws.length-1-(ws.length-1-i)=i by omega] at h3;exact hp _ (List.mem_of_getElem? h3))];rfl
theorem Vz {w w':World} {lo:Nat} {e:TypeId} {size:Nat} {v:Value} {n:Nat} {xs:List Value} (h:w.ownsRow lo e size v n xs) (hk:Qf w w'):w'.ownsRow lo e size v n xs:=
 ⟨h.1,h.2.imp id fun ⟨g,cap,cur,h1,h2,h3,h4⟩=>⟨g,cap,cur,h1,h2,hk.row h3,h4⟩⟩
theorem GS {n b D:Nat} {v:Value} {R:Ending->World->Prop} {a:Act} {W:World} (h4:a.tmps[4]?.getD undef=.pointer (some ⟨b+1+1,0,none⟩)) (hd:a.defers=[{ target:=.collected D,args:=#[] }]) (hK:W.heap[D]?=some (.deferred (some []))) (hD:b+2<D) (hB:W.heap[b+2]?=some (.cells #[v] 26 (0,0))) (hR:∀ W',W'=W.putObj D (.deferred none)->R (.returned v) W'):bodyPostM Fence.wide n prog Tryz.f50 R .ret a W:=by
 have k4:=qa ((World.putObj_heap_other (o:=.deferred none) (show b+2≠D by omega)).trans hB);change LeavesInM Fence.wide n prog Tryz.f50 a.tmps R a.defers .returning W;rw[hd];refine⟨zA3,.inl ⟨_,_,rfl,run_takeDeferred hK,v,?_,hR _ rfl⟩⟩;simp[results,results50,go_sem,h4,k4]
set_option maxRecDepth 100000 in
theorem qhG (A1:Option Addr) (n1 c1:Nat) (A2:Option Addr) (n2 c2:Nat) (S:Sto) (hS:qo S=true) (m:Nat) (hm:m<256) (w:World) (hb:Bls w w.heap.size (.slice A1 n1 c1) S.bs) (hw:Wrs w w.heap.size (.slice A2 n2 c2) S.ws):Calls prog 50 #[VK A1 n1 c1 A2 n2 c2,.int .i64 (m:Int)] w (QV (fun u W=>Bys W W.heap.size u (Jd S m)) w):=by
 obtain⟨oM,um,nJ,hl4⟩:=qQ hS;have cO:=za hS;have eu:Jd S m=match jB S.ws m with|some l=>l|none=>S.bs[m]:=by unfold Jd;rw[zL zO];rfl
 obtain⟨oQ,dV,hm1,hA1⟩:=hb.at_;obtain⟨b1,o1,rfl,bD⟩:=hA1 zO;obtain⟨A0,c0,uJ,xm⟩:=hb.get (bs:=S.bs) m zO;have hKM:n1=256:=by rw[oQ,oM]
 generalize S.bs[m]=l0 at *;generalize Jd S m=l at *;generalize hwsE:S.ws=ws at *;obtain⟨ps,cZ,⟨A2',c2',e2,aA,dA,aO⟩,hw4⟩:=hw;rw[<-cZ] at eu e2 aA aO um;clear oQ hS oM nJ hl4 hA1 cO hwsE hb;subst hKM;simp only[Value.slice.injEq] at e2;obtain⟨rfl,aK,rfl⟩:=e2;rw[<-aK] at aA aO um;replace aK:=zH aK;replace eu:=zH eu;have bU:ps.length=n2:=by rw[aK.out];simp
 obtain⟨us,wF⟩:∃ us:List W2,us=ps.map fun p=>((p.1.1,VB p.2):W2):=⟨_,rfl⟩
 have lZ:us.length=n2:=by rw[wF,List.length_map,bU]
 have hua:∀ j,(us[j]?.getD w2z).1=atN ws j:=fun j=>by unfold atN;rw[wF,<-cZ,List.getElem?_map,List.getElem?_map];cases ps[j]? <;> rfl
 have hud:∀ j W,Ext w W->Bys W W.heap.size (sv (us[j]?.getD w2z).2) (datN ws j):=fun j W hx=>by
  unfold datN;rw[wF,<-cZ,List.getElem?_map,List.getElem?_map];rcases hj:ps[j]? with _|p
  ·exact⟨none,0,rfl,zM _,zA7,zA3,fun hn=>absurd hn zA3⟩
  ·obtain⟨⟨A',c',e'⟩,hy⟩:=hw4 p (List.mem_of_getElem? hj);have:sv (VB p.2)=p.2:=by rw[e'];rfl
   simp only[Option.map_some,Option.getD_some];rw[this];exact(hy.below hx).more hx.size
 refine(callsIn_wide (n:=3)).1 ?_;refine callsIn_of_wp_marks func50 rfl trivial ?_ rfl;simp only[ntmps50,List.size_toArray,List.length_cons,List.length_nil,Nat.reduceAdd,Nat.reduceSub,Array.replicate_succ,Array.replicate_zero,List.push_toArray,List.append_toArray,List.nil_append,List.cons_append];refine wpIn_wide.2 ?_;go_wp2_with fail;generalize lS:(World.alloc (World.alloc (World.alloc w _) _) _)=w2;have x2:Ext w w2:=by rw[<-lS];exact((zN _ _).trans (zN _ _)).trans (zN _ _)
 have s2:w.heap.size+3<=w2.heap.size:=by rw[<-lS];simp
 have rO:w2.heap[w.heap.size]?=some (.cells #[.slice (some ⟨b1,o1,none⟩) 256 c1,.slice A2 n2 c2] 25 (0,0)):=by rw[<-lS];exact(zK _ _ _ zA4).trans ((zK _ _ _ zA4).trans (zI _ _ _ rfl))
 have pF:w2.heap[w.heap.size+1]?=some (.cells #[.int .i64 (m:Int)] 3 (0,0)):=by rw[<-lS];exact(zK _ _ _ zA4).trans (zI _ _ _ zA3)
 have ry:w2.heap[w.heap.size+2]?=some (.cells #[.slice none 0 0] 26 (0,0)):=by rw[<-lS];exact zI _ _ _ zA3
 clear lS;have ka2:=qa rO;have kb2:=qa pF;refine(YD A2 n2 c2 w2).mono ?_;rintro e w3 ⟨rfl,rfl⟩;go_wp2_with fail;have x5:Ext w2 (w2.alloc (.cells #[.slice A2 n2 c2] 23)):=zN _ _;obtain⟨b2,bI,hSW⟩:∃ b2,b2<w.heap.size/\SW (w2.alloc (.cells #[.slice A2 n2 c2] 23)) w2.heap.size b2 (.slice A2 n2 c2) us:=by
  have hAM:(w2.alloc (.cells #[.slice A2 n2 c2] 23)).cell? ⟨w2.heap.size,0,none⟩=some (.slice A2 n2 c2):=by rw[qa (zI _ _ _ rfl)];rfl
  by_cases hz:n2=0
  ·have:us=[]:=List.length_eq_zero_iff.1 zO;exact⟨b1,bD,hAM,.inl ⟨this,A2,c2,by rw[hz]⟩⟩
  ·obtain⟨b2,o2,rfl,hlt,hc⟩:=aO.2 zO;refine⟨b2,hlt,hAM,.inr ⟨o2,c2,by rw[lZ],fun i hi=>?_⟩⟩;have iK:i<ps.length:=zO;obtain⟨g0,g1⟩:=VJ ps i iK;have hx:=x2.trans x5;rw[wF];refine⟨?_,?_⟩
   ·rw[Ext.cell hx (hc _ _ g0),List.getElem?_map,zL iK];rfl
   ·obtain⟨⟨A',c',e'⟩,_⟩:=hw4 ps[i] (List.getElem_mem iK);rw[Nat.add_assoc,Ext.cell hx (hc _ _ g1),List.getElem?_map,zL iK];simp only[Option.map_some,Option.getD_some];rw[e'];rfl
 clear wF aO;replace hua:=zH hua;replace hud:=zH hud;refine(wpIn_wide (n:=3)).1 ?_;refine wpIn_rangeFunc_ownH rfl zO (gf:=141) (lb:=#[.pointer (some ⟨w2.heap.size,0,none⟩)]) rfl trivial (enters_of func141 zQ rfl)
  (qcR (3-1) zO w2.heap.size b2 _ _ (by rw[lZ];omega) _ zA3 zA2 hSW) Qi.t (Qi.b zA3 zA2) (Below.refl _ _) (fun _=>rfl)
  (fun pre W'=>((W'.heap[w.heap.size]?=some (.cells #[.slice (some ⟨b1,o1,none⟩) 256 c1,.slice A2 n2 c2] 25 (0,0))/\W'.heap[w.heap.size+1]?=some (.cells #[.int .i64 (m:Int)] 3 (0,0)))/\(W'.heap[w.heap.size+2]?=some (.cells #[.slice none 0 0] 26 (0,0))/\W'.heap[w2.heap.size]?=some (.cells #[.slice A2 n2 c2] 23 (0,0))))/\(Below w.heap.size w W'/\∀ y∈pre,atN ws y≠(m:Int)))
  (fun c pre W'=>(∃ pre' x Wb,c=.ret/\pre=pre'++[x]/\atN ws x=(m:Int)/\(∀ y∈pre',atN ws y≠(m:Int))/\Wb.heap[w.heap.size+2]?=some (.cells #[sv (us[x]?.getD w2z).2] 26 (0,0))/\Qf Wb W')/\Below w.heap.size w W')
  (OwnFrom.and (OwnFrom.and (OwnFrom.and (Qt _ _ _ _) (Qt _ _ _ _)) (OwnFrom.and (Qt _ _ _ _) (Qt _ _ _ _))) (OwnFrom.and (ownFrom_below (zM _) zA2) (Kb _ _)))
  (fun c=>OwnFrom.and (fun s A C row hs hg hr=>by obtain⟨pre',x,Wb,h1,h2,h3,h4,h5,h6⟩:=hs;exact⟨pre',x,Wb,h1,h2,h3,h4,h5,h6.grown hg fun r e=>(hr r e).2⟩) (ownFrom_below (zM _) zA2))
  ⟨⟨⟨qb rO x5,qb pF x5⟩,⟨qb ry x5,zI _ _ _ rfl⟩⟩,x2.trans x5,fun y hy=>by cases hy⟩
  (fun x a' W'=>∃ t8,a'={ tmps:=#[VK (some ⟨b1,o1,none⟩) 256 c1 A2 n2 c2,.int .i64 (m:Int),.pointer (some ⟨w.heap.size,0,none⟩),.pointer (some ⟨w.heap.size+1,0,none⟩),.pointer (some ⟨w.heap.size+1+1,0,none⟩),undef,.pointer (some ⟨t8,0,none⟩),.pointer (some ⟨w.heap.size,1,none⟩),.slice A2 n2 c2,.func (.func 141) #[] #[.pointer (some ⟨w2.heap.size,0,none⟩)],
    .int .i64 (x:Int),.agg #[.int .i64 (us[x]?.getD w2z).1,sv (us[x]?.getD w2z).2],undef,undef,undef,undef,undef,undef,undef,undef,undef,undef,undef],defers:=[] }/\W'.heap[t8]?=some (.cells #[.int .i64 (us[x]?.getD w2z).1,sv (us[x]?.getD w2z).2] 130 (0,0)))
  (fun x a' s A C row hs hg hr=>by obtain⟨t8,e,h⟩:=hs;exact⟨t8,e,Qt (β:=Unit) _ _ _ _ () A C row h hg hr⟩) ?assign ?body ?done ?stop
 case assign =>
  rintro l' pre x W' K ⟨⟨⟨i1,i2⟩,⟨i3,i7⟩⟩,i4,i5⟩ hK
  gi_wp2
  have z1:=(zG.1 i1).1;have z2:=(zG.1 i2).1;have z3:=(zG.1 i3).1;have z7:=(zG.1 i7).1;have z4:=i4.size;refine hK _ _ ((KeepsOthers.alloc _ _).from _) ⟨zK _ _ _ z7,zK _ _ _ zO⟩ ⟨⟨⟨(zK _ _ _ z1).trans i1,(zK _ _ _ z2).trans i2⟩,⟨(zK _ _ _ z3).trans i3,(zK _ _ _ z7).trans i7⟩⟩,Below.alloc i4 z4 _,i5⟩ ⟨W'.heap.size,rfl,zI _ _ _ rfl⟩
 case body =>
  rintro l' pre x a' W' hl ⟨rr,hlp⟩ ⟨⟨⟨i1,i2⟩,⟨i3,i7⟩⟩,i4,i5⟩ ⟨t8,rfl,tY⟩ _;have hax:=hua.out x;generalize hu9:(us[x]?.getD w2z)=u9 at *;obtain⟨a9,A9,n9,c9⟩:=u9;simp only at hax;subst hax;have k8:=qa tY;have k2:=qa i2;have k3:=qa i3;have f3:=qe i3;replace i5:=zH i5;replace hu9:=zH hu9;clear ka2 kb2;by_cases hq:atN ws x=(m:Int)
  ·have tX:(atN ws x == (m:Int))=true:=by rw[beq_iff_eq];exact hq
   replace hq:=zH hq
   gi_wp2_with fail
   refine⟨(KeepsOthers.setCell _ _ _).from _,⟨rfl,pre,x,rfl,hq.out,i5.out,_,?_,Qf.refl _⟩,Below.setCell i4 (p:=⟨w.heap.size+1+1,0,none⟩) zA2 _⟩;rw[hu9.out];exact qi i3 0 _
  ·have tX:(atN ws x == (m:Int))=false:=by rw[beq_eq_false_iff_ne];exact hq
   replace hq:=zH hq
   gi_wp2_with fail
   refine⟨KeepsFrom.refl _ _,Qi.refl _ _ _,⟨⟨i1,i2⟩,⟨i3,i7⟩⟩,i4,fun y hy=>?_⟩;rcases List.mem_append.1 hy with h|h
   ·exact i5.out y h
   ·obtain rfl:y=x:=by simpa using h
    exact hq.out
 case done =>
  rintro D ys W' hD rfl ⟨⟨⟨i1,i2⟩,⟨i3,_⟩⟩,i4,i5⟩ hK;have h0:=qeI (ws:=ws) (a:=(m:Int)) (by rw[show ws.length=us.length by rw[lZ,<-bU,<-cZ,List.length_map]];exact i5);have hll:l=l0:=by rw[eu.out,cZ,h0]
  have hcb':=Ext.cell i4 uJ;rw[<-hll] at hcb' xm;clear h0 hll uJ;have k1:=qa i1;have k2:=qa i2;have k3:=qa i3;have f3:=qe i3;have im:(m:Int)<256:=zO;replace i5:=zH i5;replace xm:=zH xm;clear ka2 kb2 hw4 aK;go_wp2_with fail;have hDw:w.heap.size+2<D:=by simp at hD;omega
  have q3:=qi i3 0 (.slice A0 l.length c0);have qK:=(zJ W' ⟨w.heap.size+1+1,0,none⟩ (.slice A0 l.length c0) D zA2).trans hK;have qx:=Below.setCell i4 (p:=⟨w.heap.size+1+1,0,none⟩) zA2 (.slice A0 l.length c0);generalize World.setCell W' _ _=wf at *;exact GS (b:=w.heap.size) rfl rfl qK hDw q3 (fun W' e=>by have hX:Ext w W':=e ▸ qx.trans (belowK_b (w:=w) (zM _) wf D _ _ zO qK rfl rfl);exact⟨_,rfl,(xm.out.below hX).more hX.size,hX⟩)
 case stop =>
  rintro D c pre W' hD ⟨k,hk,hpre⟩ ⟨⟨pre',x,Wb,rfl,rfl,hx,iF,hRB,hCK⟩,i4⟩ hK
  gi_wp2_with fail
  have hDw:w.heap.size+2<D:=by simp at hD;omega
  have um:l=datN ws x:=by rw[eu.out,cZ,qeJ (ws:=ws) (k:=k) (by rw[<-cZ,List.length_map,bU,<-lZ];exact hk) (by rw[show ws.length=us.length by rw[lZ,<-bU,<-cZ,List.length_map]];exact hpre) hx iF]
  exact GS (b:=w.heap.size) rfl rfl hK hDw (hCK.row hRB) (fun W'' e=>by have hX:Ext w W'':=e ▸ i4.trans (belowK_b (w:=w) (zM _) W' D _ _ zO hK rfl rfl);exact⟨_,rfl,by rw[um];exact hud.out x W'' hX,hX⟩)
end Go.Proofs.YtpbniokljofedaaGreat
namespace Go.Proofs.YtpbniokljofedaaGreat
open Go.RowKit
theorem TF {R:Ending->World->Prop} {a:Act} {W:World} {b:Nat} {x0 x1 v:Value} (h4:a.tmps[4]?.getD undef=.pointer (some ⟨b,0,none⟩)) (h5:a.tmps[5]?.getD undef=v) (hd:a.defers=[]) (aC:W.heap[b]?=some (.cells #[x0,x1] 49 (0,0))) (hR:R (.returned (.tuple #[.agg #[x0,x1],v])) W):bodyPost prog Tryz.f22 R .ret a W:=by
 refine bodyPost_ret (v:=.tuple #[.agg #[x0,x1],v]) ?_ hd hR;have k:=qa aC;simp[results,results22,go_sem,h4,h5,k]
set_option maxRecDepth 100000 in
theorem Yt (A1:Option Addr) (n1 c1:Nat) (A2:Option Addr) (n2 c2:Nat) (A3:Option Addr) (n3 c3:Nat) (A4:Option Addr) (n4 c4:Nat) (S:Sto) (a:Int) (w:World) (h:qU w w.heap.size (.slice A1 n1 c1) (.slice A2 n2 c2) (.slice A3 n3 c3) (.slice A4 n4 c4) S):Calls prog 22 #[Qd A1 n1 c1 A2 n2 c2 A3 n3 c3 A4 n4 c4,.int .i64 a] w (QV (UV w.heap.size (if ZQ S a=0 then qv S a.toNat else none)) w):=by
 have HA:=zH (fun W (hx:Ext w W)=>qfE A1 n1 c1 A2 n2 c2 A3 n3 c3 A4 n4 c4 S a W (h.ext hx));obtain⟨q,hq⟩:∃ q,(if ZQ S a=0 then qv S a.toNat else none)=q:=⟨_,rfl⟩
 rw[hq];replace hq:=zH hq;replace h:=zH h;go_enter func22,ntmps22;go_wp2_with fail;generalize aA:(World.alloc (World.alloc w _) _)=w1;have x1:Ext w w1:=by rw[<-aA];exact(zN _ _).trans (zN _ _)
 have r1:w1.heap[w.heap.size]?=some (.cells #[.slice A1 n1 c1,.slice A2 n2 c2,.slice A3 n3 c3,.slice A4 n4 c4] 28 (0,0)):=by rw[<-aA];exact(zK _ _ _ zA3).trans (zI _ _ _ rfl)
 have q1:w1.heap[w.heap.size+1]?=some (.cells #[.int .i64 0,.slice none 0 0] 49 (0,0)):=by rw[<-aA];exact zI _ _ _ zA3
 clear aA;have k1:=qa r1;go_wp2_with fail;refine(HA.out w1 x1).mono ?_;clear HA;rintro e w2 ⟨rfl,hB⟩;have x2:Ext w w2:=x1.trans hB;have r2:=qb r1 hB;have q2:=qb q1 hB;clear hB r1 q1 x1 k1;have k2:=qa r2;have kq2:=qa q2;have fq2:=qe q2;by_cases hE:ZQ S a=0
 ·obtain⟨hS,n,rfl,h8,h256,hc⟩:=qbC hE;have hNA:q=QD (Jd S n):=by rw[<-hq.out,if_pos hE,Int.toNat_natCast];unfold qv;exact if_neg hc
  rw[hE];clear hq;have HS:=zH (fun W (hx:Ext w W)=>qhG A1 n1 c1 A2 n2 c2 S hS n h256 W ((h.out.bs.below hx).more hx.size) ((h.out.ws.below hx).more hx.size));have HR:=zH (fun v W (hv:Bys W W.heap.size v (Jd S n))=>qho v (Jd S n) W hv);replace hE:=zH hE;replace hS:=zH hS;replace hNA:=zH hNA;replace hc:=zH hc;generalize Jd S n=l at *;go_wp2_with fail;refine(HS.out w2 x2).mono ?_;clear HS;rintro e w3 ⟨u,rfl,hu,hB⟩;have x3:Ext w w3:=x2.trans hB;have q3:=qb q2 hB;clear hB k2 r2 kq2 fq2 q2;go_wp2_with fail;refine(HR.out u w3 hu).mono ?_;clear HR hu;rintro e w4 ⟨u4,rfl,hu,hB⟩;have hB:Ext w3 w4:=hB;have x4:Ext w w4:=x3.trans hB;have q4:=qb q3 hB;have z3:=x3.size;have z4:w.heap.size+1<w4.heap.size:=(zG.1 q4).1;have z3q:w.heap.size+1<w3.heap.size:=(zG.1 q3).1;clear hB q3;have kq4:=qa q4;have fq4:=qe q4;rcases hQ:QD l with _|⟨lvl,xs⟩
  ·rw[hQ] at hu;obtain⟨er,aN,rfl⟩:=hu;have hq:q=none:=by rw[hNA.out,hQ]
   replace hq:=zH hq;have pg:(er != 0)=true:=by rw[bne_iff_ne];exact aN
   replace aN:=zH aN;go_wp2_with fail;generalize aZ:(World.alloc _ _)=wf;have rf:wf.heap[w.heap.size+1]?=some (.cells #[.int .i64 0,.slice none 0 0] 49 (0,0)):=by rw[<-aZ];exact(zK _ _ _ (by simpa using z4)).trans (qi (qi q4 0 _) 1 _)
   have bf:Below w.heap.size w wf:=by rw[<-aZ];exact Below.alloc (Below.setCell (Below.setCell x4 (p:=⟨w.heap.size+1,0,none⟩) zA3 _) (p:=⟨w.heap.size+1,1,none⟩) zA3 _) zA2 _
   exact TF (b:=w.heap.size+1) rfl rfl rfl rf ⟨_,rfl,(by rw[hq.out];exact⟨8,zA1,rfl⟩),bf⟩
  ·rw[hQ] at hu;obtain⟨A,c,rfl,hi⟩:=hu;have hq:q=some (lvl,xs):=by rw[hNA.out,hQ]
   replace hq:=zH hq;replace hi:=zH hi;go_wp2_with fail;generalize aZ:(World.alloc _ _)=wf;have rf:wf.heap[w.heap.size+1]?=some (.cells #[.int .i64 lvl,.slice A xs.length c] 49 (0,0)):=by rw[<-aZ];exact(zK _ _ _ (by simpa using z4)).trans (qi (qi q4 0 _) 1 _)
   have bf:Below w.heap.size w wf:=by rw[<-aZ];exact Below.alloc (Below.setCell (Below.setCell x4 (p:=⟨w.heap.size+1,0,none⟩) zA3 _) (p:=⟨w.heap.size+1,1,none⟩) zA3 _) zA2 _
   have hfi:Zv w.heap.size wf (.slice A xs.length c) xs:=by refine(hi.out.keep (by have:=bf.size;rw[<-aZ];simp) fun p h1 h2=>?_).mono z3;rw[<-aZ,World.cell?_alloc_lt _ _ _ (by simpa using h2),World.cell?_setCell_other _ _ _ _ (fun e=>by subst e;simp at h1;omega),World.cell?_setCell_other _ _ _ _ (fun e=>by subst e;simp at h1;omega)]
   exact TF (b:=w.heap.size+1) rfl rfl rfl rf ⟨_,rfl,(by rw[hq.out];exact⟨A,c,rfl,hfi⟩),bf⟩
 ·have hqn:=zH (show q=none by rw[<-hq.out,if_neg hE]);clear hq;have aN:(ZQ S a != 0)=true:=by rw[bne_iff_ne];exact hE
  generalize ZQ S a=er at *;go_wp2_with fail;refine TF (b:=w.heap.size+1) rfl rfl rfl (qi (qi q2 0 _) 1 _) ⟨_,rfl,(by rw[hqn.out];exact⟨er,hE,rfl⟩),?_⟩;exact Below.setCell (Below.setCell x2 (p:=⟨w.heap.size+1,0,none⟩) zA3 _) (p:=⟨w.heap.size+1,1,none⟩) zA3 _
abbrev sp7 (f l:K3) (b:Bool):Array Value:=#[.int .u8 f.1,.int .u32 f.2.1,.int .u32 f.2.2,.int .u8 l.1,.int .u32 l.2.1,.int .u32 l.2.2,.bool b]
theorem set7 {cs:Array Value} (hs:cs.size=7) (x0 x1 x2 x3 x4 x5 x6:Value) : ((((((cs.setIfInBounds 0 x0).setIfInBounds 1 x1).setIfInBounds 2 x2).setIfInBounds 3 x3).setIfInBounds 4 x4).setIfInBounds 5 x5).setIfInBounds 6 x6=#[x0,x1,x2,x3,x4,x5,x6]:=by
 apply Array.ext_getElem?;intro j;by_cases hj:j<7
 ·have:j=0\/j=1\/j=2\/j=3\/j=4\/j=5\/j=6:=zO;rcases this with rfl|rfl|rfl|rfl|rfl|rfl|rfl <;> simp[hs]
 ·rw[Array.getElem?_eq_none zA2,Array.getElem?_eq_none zA2]
theorem row7 {w:World} {b:Nat} {ty:TypeId} {cs:Array Value} (h:w.heap[b]?=some (.cells cs ty (0,0))) (hs:cs.size=7) (x0 x1 x2 x3 x4 x5 x6:Value) : (((((((w.setCell ⟨b,0,none⟩ x0).setCell ⟨b,1,none⟩ x1).setCell ⟨b,2,none⟩ x2).setCell ⟨b,3,none⟩ x3).setCell ⟨b,4,none⟩ x4).setCell ⟨b,5,none⟩ x5).setCell ⟨b,6,none⟩ x6).heap[b]?=some (.cells #[x0,x1,x2,x3,x4,x5,x6] ty (0,0)):=by
 have:=qi (qi (qi (qi (qi (qi (qi h 0 x0) 1 x1) 2 x2) 3 x3) 4 x4) 5 x5) 6 x6;rw[this,set7 hs]
theorem qbK {w0 w:World} {B b:Nat} (h:Below B w0 w) (hb:B<=b) (x0 x1 x2 x3 x4 x5 x6:Value):Below B w0 (((((((w.setCell ⟨b,0,none⟩ x0).setCell ⟨b,1,none⟩ x1).setCell ⟨b,2,none⟩ x2).setCell ⟨b,3,none⟩ x3).setCell ⟨b,4,none⟩ x4).setCell ⟨b,5,none⟩ x5).setCell ⟨b,6,none⟩ x6):=
 Below.setCell (Below.setCell (Below.setCell (Below.setCell (Below.setCell (Below.setCell (Below.setCell h (p:=⟨b,0,none⟩) hb _) (p:=⟨b,1,none⟩) hb _) (p:=⟨b,2,none⟩) hb _) (p:=⟨b,3,none⟩) hb _) (p:=⟨b,4,none⟩) hb _) (p:=⟨b,5,none⟩) hb _) (p:=⟨b,6,none⟩) hb _
theorem qfH {S:Sto} {h:Nat} {xs:List It} (hs:(Qg S h xs).isSome=true) {k:Nat} (hk:k<xs.length) : ∃ l,Vx S h xs[k]=some (qE xs[k],l)/\∀ f0 l0,(0<k->Qg S h (xs.take k)=some (some (f0,l0)))->(0<k->QH l0 (qE xs[k])=true)/\Qg S h (xs.take (k+1))=some (some (if k=0 then qE xs[k] else f0,l)):=by
 have h2:=qaa hs (k+1);rw[vS hk] at h2 ⊢;unfold Yd at h2 ⊢;rcases hA:Qg S h (xs.take k) with _|a
 ·rw[hA] at h2;cases h2
 ·rcases hO:Vx S h xs[k] with _|⟨f,l⟩
  ·rw[hA,hO] at h2;cases h2
  ·rw[hA,hO] at h2;simp only at h2;split at h2
   ·rename_i hf;subst hf;refine⟨l,rfl,fun f0 l0 hp=>?_⟩;simp only[if_true];rcases a with _|⟨f1,l1⟩
    ·obtain rfl:k=0:=by
      rcases Nat.eq_zero_or_pos k with h0|h0
      ·exact h0
      ·exact absurd hA (Zy h0 zO)
     exact⟨fun h=>absurd h (Nat.lt_irrefl 0),rfl⟩
    ·have h0:0<k:=by
      rcases Nat.eq_zero_or_pos k with h0|h0
      ·subst h0;rw[List.take_zero] at hA;cases hA
      ·exact h0
     have:=hp h0;cases this;simp only at h2;split at h2
     ·rename_i hl;exact⟨fun _=>hl,by rw[if_neg zO];simp[hl]⟩
     ·cases h2
   ·cases h2
theorem one_now {S:Sto}:∀ {h:Nat} {y:It},(Vx S h y).isSome=true->y.r=0\/0<(S.now[y.r.toNat]?.getD 0).toNat
 |0,y,h=>by
  unfold Vx at h;split at h
  ·assumption
  ·cases h
 |h+1,y,hy=>by
  obtain⟨b,e,-,-,xs,hn,-⟩:=Jb hy;refine .inr ?_;rw[e,Int.toNat_natCast];unfold qv at hn;split at hn
  ·cases hn
  ·omega
structure FEnv (S:Sto) (bS bB bW bb:Nat) (v1 v2 v3 v4 u1 u2 u3 u4:Value) (w:World):Prop where
 s:w.heap[bS]?=some (.cells #[v1,v2,v3,v4] 28 (0,0))
 b:w.heap[bB]?=some (.cells #[.pointer (some ⟨bb,0,none⟩)] 80 (0,0))
 f:w.heap[bW]?=some (.cells #[.func (.func 68) #[] #[.pointer (some ⟨bS,0,none⟩),.pointer (some ⟨bB,0,none⟩),.pointer (some ⟨bW,0,none⟩)]] 112 (0,0))
 n:Bys w w.heap.size v3 S.now
 on:OnB 0 bb u1 u2 u3 u4 S w
theorem OnB.ext {lo b:Nat} {v1 v2 v3 v4:Value} {S:Sto} {w W:World} (h:OnB lo b v1 v2 v3 v4 S w) (hx:Ext w W):OnB lo b v1 v2 v3 v4 S W:=⟨h.1,qb h.2.1 hx,h.2.2.ext hx⟩
theorem FEnv.ext {S:Sto} {bS bB bW bb:Nat} {v1 v2 v3 v4 u1 u2 u3 u4:Value} {w W:World} (h:FEnv S bS bB bW bb v1 v2 v3 v4 u1 u2 u3 u4 w) (hx:Ext w W):FEnv S bS bB bW bb v1 v2 v3 v4 u1 u2 u3 u4 W:=
 ⟨qb h.s hx,qb h.b hx,qb h.f hx,(h.n.below hx).more hx.size,h.on.ext hx⟩
structure WkI (S:Sto) (h:Nat) (xs:List It) (A:Option Addr) (c:Nat) (w wr:World) (k:Nat) (fk lk:K3) (b:Bool):Prop where
 rn:wr.heap[w.heap.size]?=some (.cells #[.int .i64 h,.slice A xs.length c] 49 (0,0))
 rr:wr.heap[w.heap.size+1]?=some (.cells (sp7 (0,0,0) (0,0,0) false) 114 (0,0))
 rx:wr.heap[w.heap.size+2]?=some (.cells (sp7 fk lk b) 114 (0,0))
 sp:0<k->Qg S h (xs.take k)=some (some (fk,lk))/\b=true
 xt:Ext w wr
theorem WkI.ext {S:Sto} {h:Nat} {xs:List It} {A:Option Addr} {c:Nat} {w wr W:World} {k:Nat} {fk lk:K3} {b:Bool} (H:WkI S h xs A c w wr k fk lk b) (hx:Ext wr W):WkI S h xs A c w W k fk lk b:=
 ⟨qb H.rn hx,qb H.rr hx,qb H.rx hx,H.sp,H.xt.trans hx⟩
theorem WkI.low {S:Sto} {h:Nat} {xs:List It} {A:Option Addr} {c:Nat} {w wr W:World} {k:Nat} {fk lk:K3} {b:Bool} {q:Nat} (H:WkI S h xs A c w wr k fk lk b) (hx:Below q wr W) (hq:w.heap.size+2<q):WkI S h xs A c w W k fk lk b:=
 ⟨(hx.block _ zO).trans H.rn,(hx.block _ zO).trans H.rr,(hx.block _ zO).trans H.rx,H.sp,Below.trans H.xt (Below.mono hx zO)⟩
theorem WkI.set {S:Sto} {h:Nat} {xs:List It} {A:Option Addr} {c:Nat} {w wr W:World} {k:Nat} {fk lk nG lk':K3} {b:Bool} (H:WkI S h xs A c w wr k fk lk b) (hb:∀ j,j≠w.heap.size+1+1->W.heap[j]?=wr.heap[j]?) (hB:Below w.heap.size w W) (hx:W.heap[w.heap.size+1+1]?=some (.cells (sp7 nG lk' true) 114 (0,0))) (hs:Qg S h (xs.take (k+1))=some (some (nG,lk'))):WkI S h xs A c w W (k+1) nG lk' true:=
 ⟨(hb _ zO).trans H.rn,(hb _ zO).trans H.rr,hx,fun _=>⟨hs,rfl⟩,hB⟩
theorem WkI.set7 {S:Sto} {h:Nat} {xs:List It} {A:Option Addr} {c:Nat} {w wr:World} {k:Nat} {fk lk nG lk':K3} {b:Bool} (H:WkI S h xs A c w wr k fk lk b) (hs:Qg S h (xs.take (k+1))=some (some (nG,lk'))):WkI S h xs A c w (((((((wr.setCell ⟨w.heap.size+1+1,0,none⟩ (.int .u8 nG.1)).setCell ⟨w.heap.size+1+1,1,none⟩ (.int .u32 nG.2.1)).setCell ⟨w.heap.size+1+1,2,none⟩ (.int .u32 nG.2.2)).setCell ⟨w.heap.size+1+1,3,none⟩ (.int .u8 lk'.1)).setCell ⟨w.heap.size+1+1,4,none⟩ (.int .u32 lk'.2.1)).setCell ⟨w.heap.size+1+1,5,none⟩ (.int .u32 lk'.2.2)).setCell ⟨w.heap.size+1+1,6,none⟩ (.bool true)) (k+1) nG lk' true:=
 H.set (fun j hj=>(zJ _ _ _ _ hj).trans ((zJ _ _ _ _ hj).trans ((zJ _ _ _ _ hj).trans ((zJ _ _ _ _ hj).trans ((zJ _ _ _ _ hj).trans ((zJ _ _ _ _ hj).trans (zJ _ _ _ _ hj)))))))
  (qbK H.xt zO _ _ _ _ _ _ _) (row7 H.rx rfl _ _ _ _ _ _ _) hs
theorem WkI.set4 {S:Sto} {h:Nat} {xs:List It} {A:Option Addr} {c:Nat} {w wr:World} {k:Nat} {fk lk lk':K3} {b:Bool} (H:WkI S h xs A c w wr k fk lk b) (hs:Qg S h (xs.take (k+1))=some (some (fk,lk'))):WkI S h xs A c w ((((wr.setCell ⟨w.heap.size+1+1,3,none⟩ (.int .u8 lk'.1)).setCell ⟨w.heap.size+1+1,4,none⟩ (.int .u32 lk'.2.1)).setCell ⟨w.heap.size+1+1,5,none⟩ (.int .u32 lk'.2.2)).setCell ⟨w.heap.size+1+1,6,none⟩ (.bool true)) (k+1) fk lk' true:=
 H.set (fun j hj=>(zJ _ _ _ _ hj).trans ((zJ _ _ _ _ hj).trans ((zJ _ _ _ _ hj).trans (zJ _ _ _ _ hj))))
  (Below.setCell (Below.setCell (Below.setCell (Below.setCell H.xt (p:=⟨w.heap.size+1+1,3,none⟩) zA2 _) (p:=⟨w.heap.size+1+1,4,none⟩) zA2 _) (p:=⟨w.heap.size+1+1,5,none⟩) zA2 _) (p:=⟨w.heap.size+1+1,6,none⟩) zA2 _)
  (qi (qi (qi (qi H.rx 3 _) 4 _) 5 _) 6 _) hs
theorem one_span {S:Sto} {h:Nat} {y:It} {p:K3×K3} (e:Vx S (h+1) y=some p):∃ (b:Nat) (ys:List It),y.r=(b:Int)/\8<=b/\b<256/\qv S b=some ((h:Int),ys)/\Qg S h ys=some (some p):=by
 obtain⟨b,hb,h1,h2,ys,hn,-⟩:=Jb (by rw[e];rfl:(Vx S (h+1) y).isSome=true);refine⟨b,ys,hb,h1,h2,hn,?_⟩;rw[Yq] at e;unfold Vu at e;rw[if_pos zO,hb,Int.toNat_natCast,hn] at e;simp only[if_true] at e;rcases hs:Qg S h ys with _|_|q
 ·rw[hs] at e;cases e
 ·rw[hs] at e;cases e
 ·rw[hs] at e;cases e;rfl
def WalkC (S:Sto) (bS bB bW bb:Nat) (v1 v2 v3 v4 u1 u2 u3 u4:Value) (h:Nat):Prop:=
 ∀ (xs:List It) (A:Option Addr) (c:Nat) (f l:K3) (lo:Nat) (w:World),FEnv S bS bB bW bb v1 v2 v3 v4 u1 u2 u3 u4 w->h<=5->xs.length<=5->(∀ x∈xs,0<=x.r/\x.r<256)->Zv lo w (.slice A xs.length c) xs->Qg S h xs=some (some (f,l)) ->
  Calls prog 68 #[je h A xs.length c,.pointer (some ⟨bS,0,none⟩),.pointer (some ⟨bB,0,none⟩),.pointer (some ⟨bW,0,none⟩)] w (Ret (.agg (sp7 f l true)) w)
end Go.Proofs.YtpbniokljofedaaGreat
