/- Texts Room, Read8, Bench, BackW, BNode, Map, joined. -/
import Derived.Maps.Keyed
import Derived.Test.YtpbniokljofedaaGreatZI06
set_option linter.unusedSimpArgs false
set_option linter.unusedVariables false
set_option maxHeartbeats 8000000
open Go.Proofs.Tryz
namespace Go.Proofs.YtpbniokljofedaaGreat
open Go.RowKit
structure Sto where
 bs:List (List UInt8)
 ws:List (Int×List UInt8)
 now:List UInt8
 last:List UInt8
def qo (S:Sto):Bool:=jd S.bs S.ws && (QB S.now && QB S.last)
abbrev Qd (A1:Option Addr) (n1 c1:Nat) (A2:Option Addr) (n2 c2:Nat) (A3:Option Addr) (n3 c3:Nat) (A4:Option Addr) (n4 c4:Nat):Value:=.agg #[.slice A1 n1 c1,.slice A2 n2 c2,.slice A3 n3 c3,.slice A4 n4 c4]
structure qU (w:World) (B:Nat) (v1 v2 v3 v4:Value) (S:Sto):Prop where
 bs:Bls w B v1 S.bs
 ws:Wrs w B v2 S.ws
 now:Bys w B v3 S.now
 last:Bys w B v4 S.last
theorem qU.below {w w':World} {B:Nat} {v1 v2 v3 v4:Value} {S:Sto} (h:qU w B v1 v2 v3 v4 S) (hb:Below B w w'):qU w' B v1 v2 v3 v4 S:=⟨h.bs.below hb,h.ws.below hb,h.now.below hb,h.last.below hb⟩
theorem qU.more {w:World} {B B':Nat} {v1 v2 v3 v4:Value} {S:Sto} (h:qU w B v1 v2 v3 v4 S) (hb:B<=B'):qU w B' v1 v2 v3 v4 S:=⟨h.bs.more hb,h.ws.more hb,h.now.more hb,h.last.more hb⟩
theorem qU.ext {w w':World} {v1 v2 v3 v4:Value} {S:Sto} (h:qU w w.heap.size v1 v2 v3 v4 S) (hx:Ext w w'):qU w' w'.heap.size v1 v2 v3 v4 S:=(h.below hx).more hx.size
theorem jP (A1:Option Addr) (n1 c1:Nat) (A2:Option Addr) (n2 c2:Nat) (A3:Option Addr) (n3 c3:Nat) (A4:Option Addr) (n4 c4:Nat) (S:Sto) (w:World) (h:qU w w.heap.size (.slice A1 n1 c1) (.slice A2 n2 c2) (.slice A3 n3 c3) (.slice A4 n4 c4) S):Calls prog 65 #[Qd A1 n1 c1 A2 n2 c2 A3 n3 c3 A4 n4 c4] w (Ret (.int .i64 (Jh (qo S))) w):=by
 have HD:=zH (fun W (hW:Ext w W)=>qeS A1 n1 c1 A2 n2 c2 S.bs S.ws W (h.ext hW).bs (h.ext hW).ws);have HN:=zH (fun W (hW:Ext w W)=>UY (.slice A3 n3 c3) S.now W (h.ext hW).now);have HL:=zH (fun W (hW:Ext w W)=>UY (.slice A4 n4 c4) S.last W (h.ext hW).last);have hS:qo S=(jd S.bs S.ws && (QB S.now && QB S.last)):=rfl;rw[hS];clear hS h;generalize jd S.bs S.ws=d at *;generalize QB S.now=n at *;generalize QB S.last=l at *;go_enter func65,ntmps65;go_wp2_with fail;generalize aA:(World.alloc _ _)=w1;have x1:Ext w w1:=by rw[<-aA];exact zN _ _
 have r1:w1.heap[w.heap.size]?=some (.cells #[.slice A1 n1 c1,.slice A2 n2 c2,.slice A3 n3 c3,.slice A4 n4 c4] 28 (0,0)):=by rw[<-aA];exact zI _ _ _ rfl
 clear aA;refine(HD.out _ x1).mono ?_;rintro e w2 ⟨rfl,hB⟩;have x2:=x1.trans hB;have r2:=qb r1 hB;have k2:=qa r2;clear hB r1 x1 HD;cases d
 ·go_wp2;go_ret;exact⟨rfl,x2⟩
 ·go_wp2_with fail;refine(HN.out _ x2).mono ?_;rintro e w3 ⟨rfl,hB⟩;have x3:=x2.trans hB;have r3:=qb r2 hB;have k3:=qa r3;clear hB r2 x2 k2 HN;cases n
  ·go_wp2;go_ret;exact⟨rfl,x3⟩
  ·go_wp2_with fail;refine(HL.out _ x3).mono ?_;rintro e w4 ⟨rfl,hB⟩;have x4:=x3.trans hB;clear hB r3 x3 k3 HL;cases l;all_goals
    go_wp2;go_ret;exact⟨rfl,x4⟩
def jB (ws:List (Int×List UInt8)) (a:Int):Option (List UInt8):=(ws.reverse.find? fun p=>p.1 == a).map (·.2)
def Jd (S:Sto) (a:Nat):List UInt8:=match jB S.ws a with|some l=>l|none=>S.bs[a]?.getD []
theorem Ve {ws:List (Int×List UInt8)} {a:Int} {k:Nat} (h:k<ws.length):jB (ws.take (k+1)) a=if ws[k].1=a then some ws[k].2 else jB (ws.take k) a:=by
 unfold jB;rw[List.take_succ_eq_append_getElem h,List.reverse_append,List.reverse_singleton,List.singleton_append,List.find?_cons];by_cases h1:ws[k].1=a
 ·rw[if_pos h1];simp[h1]
 ·rw[if_neg h1];have:(ws[k].1 == a)=false:=by simpa using h1
  rw[this]
def qv (S:Sto) (a:Nat):Option (Int×List It):=if (S.now[a]?.getD 0).toNat=0 then none else QD (Jd S a)
theorem qQ {S:Sto} (h:qo S=true):S.bs.length=256/\S.ws.length<=4096/\S.now.length=256/\S.last.length=256:=by unfold qo jd headD QB at h;simp at h;omega
theorem qdh (A:Option Addr) (n c:Nat) (hn:n<=c) (hc:c<=maxLen) (w:World):Calls prog 122 #[.slice A n c] w (Ret (.slice A n n) w):=by
 unfold maxLen at hc;go_enter func122,ntmps122;have h1:(n:Int)<=(c:Int):=zO;have h2:(0:Int)<=(n:Int):=zO;go_wp2;go_ret;exact⟨rfl,Below.refl _ _⟩
def OnB (lo b:Nat) (v1 v2 v3 v4:Value) (S:Sto) (W:World):Prop:=lo<=b/\W.heap[b]?=some (.cells #[v1,v2,v3,v4] 191 (0,0))/\qU W W.heap.size v1 v2 v3 v4 S
theorem Wrs.clip {w:World} {B:Nat} {A:Option Addr} {n c:Nat} {ws:List (Int×List UInt8)} (h:Wrs w B (.slice A n c) ws):Wrs w B (.slice A n n) ws:=by obtain⟨ps,e,⟨A',c',e1,e2,e3,hr⟩,hp⟩:=h;cases e1;exact⟨ps,e,⟨_,_,rfl,zM _,zO,hr⟩,hp⟩
set_option maxRecDepth 100000 in
theorem qfA (A1:Option Addr) (n1 c1:Nat) (A2:Option Addr) (n2 c2:Nat) (A3:Option Addr) (n3 c3:Nat) (A4:Option Addr) (n4 c4:Nat) (S:Sto) (hl:S.now.length<1073741824) (w:World) (h:qU w w.heap.size (.slice A1 n1 c1) (.slice A2 n2 c2) (.slice A3 n3 c3) (.slice A4 n4 c4) S):Calls prog 66 #[Qd A1 n1 c1 A2 n2 c2 A3 n3 c3 A4 n4 c4] w (QV (fun u W=>∃ b A3' c3',u=.pointer (some ⟨b,0,none⟩)/\OnB w.heap.size b (.slice A1 n1 c1) (.slice A2 n2 n2) (.slice A3' n3 c3') (.slice A4 n4 c4) S W/\Ze w.heap.size (.slice A3' n3 c3')) w):=by
 have wZ:Hid (n3=S.now.length):=zH h.now.at_.1;obtain⟨-,h2a,h2b,-⟩:=h.ws.at_;have HC:=zH (fun W (hW:Ext w W)=>vG (.slice A3 n3 c3) S.now hl W (h.ext hW).now);replace h:=zH h;go_enter func66,ntmps66;go_wp2_with fail;generalize aA:(World.alloc _ _)=w1;have x1:Ext w w1:=by rw[<-aA];exact zN _ _
 have r1:w1.heap[w.heap.size]?=some (.cells #[.slice A1 n1 c1,.slice A2 n2 c2,.slice A3 n3 c3,.slice A4 n4 c4] 28 (0,0)):=by rw[<-aA];exact zI _ _ _ rfl
 clear aA;refine(HC.out _ x1).mono ?_;rintro e w2 ⟨u,rfl,hu,hB⟩;have x2:=x1.trans hB;have r2:=qb r1 hB;have aT:=Bys.of_own hu;have hfr:=Ze.of_own hu;have s1:w.heap.size<w1.heap.size:=(zG.1 r1).1;obtain⟨A3',c3',rfl,_,_⟩:=qy hu;have k2:=qa r2;have f2:=qe r2;clear hB r1 HC hu;rw[<-wZ.out] at aT hfr ⊢;go_wp2_with fail;have hJD:=aT.setCell hfr (p:=⟨w.heap.size,2,none⟩) s1 (.slice A3' n3 c3');generalize aO:(World.setCell _ _ _)=w3 at *;have x3:Ext w w3:=by rw[<-aO];exact Below.setCell x2 (p:=⟨w.heap.size,2,none⟩) (zM _) _
 have r3:w3.heap[w.heap.size]?=some (.cells #[.slice A1 n1 c1,.slice A2 n2 c2,.slice A3' n3 c3',.slice A4 n4 c4] 28 (0,0)):=by rw[<-aO];exact qi r2 2 _
 have hz3:w3.heap.size=w2.heap.size:=by rw[<-aO];simp
 rw[<-hz3] at hJD;clear aO k2 f2 r2 x2 aT;refine(qdh A2 n2 c2 h2a h2b _).mono ?_;rintro e w4 ⟨rfl,hB⟩;have x4:=x3.trans hB;have r4:=qb r3 hB;have hby4:=(hJD.below hB).more hB.size;have k4:=qa r4;have f4:=qe r4;have s4:w.heap.size<w4.heap.size:=(zG.1 r4).1;clear hB r3 x3 hJD;go_wp2;have hfrw:Ze w.heap.size (.slice A3' n3 c3'):=hfr.mono zO;have hJE:=hby4.setCell hfr (p:=⟨w.heap.size,1,none⟩) s1 (.slice A2 n2 n2);have bf:Below w.heap.size w ((w4.setCell ⟨w.heap.size,1,none⟩ (.slice A2 n2 n2)).alloc (.cells #[.slice A1 n1 c1,.slice A2 n2 n2,.slice A3' n3 c3',.slice A4 n4 c4] 191)):=by have x4':Below w.heap.size w w4:=x4;exact(by repeat' (first|with_reducible exact Below.refl _ _|with_reducible assumption|with_reducible apply Below.drew|with_reducible apply qz|with_reducible refine Below.alloc ?_ ?_ _|with_reducible refine Below.setCell ?_ ?_ _|(simp;done)|(simp;omega)|omega))
 go_ret;refine⟨_,rfl,⟨w4.heap.size,A3',c3',rfl,⟨zO,zI _ _ _ zA3,?_⟩,hfrw⟩,bf⟩;have h0:=(h.out.below bf).more bf.size;refine⟨h0.bs,h0.ws.clip,?_,h0.last⟩;exact(hJE.below (Below.alloc (Below.refl _ _) zA3 _)).more zA3
end Go.Proofs.YtpbniokljofedaaGreat
namespace Go.Proofs.YtpbniokljofedaaGreat
open Go.RowKit Go.Shelf
attribute [local go_sem] Oper.semAt_some
abbrev Sl:Type:=Option Addr×Nat×Nat
abbrev sv (s:Sl):Value:=.slice s.1 s.2.1 s.2.2
abbrev W2:Type:=Int×Sl
abbrev w2z:W2:=(0,none,0,0)
set_option maxRecDepth 100000 in
theorem backW_in (n:Nat) (hn:1<=n) (l Bs b off len cap:Nat) (us:List W2) (aj:len<1099511627776) (J Jx:List (Nat×W2)->World->Prop) (hY:∀ pre x W,J pre W->pre.length<len->YieldAt Fence.wide (n-1) prog l #[.int .i64 (x.1:Int),.agg #[.int .i64 x.2.1,sv x.2.2]] W fun e W' =>
   (e=.returned (.bool true)/\J (pre++[x]) W'/\Qi Bs b W W')\/(e=.returned (.bool false)/\Jx (pre++[x]) W'))
  (W:World) (fO:W.cell? ⟨Bs,0,none⟩=some (.slice (some ⟨b,off,none⟩) len cap)) (hc:∀ i,i<len->W.cell? ⟨b,off+i*2,none⟩=some (.int .i64 (us[i]?.getD w2z).1)/\W.cell? ⟨b,off+i*2+1,none⟩=some (sv (us[i]?.getD w2z).2)) (h0:J [] W) :
  CallsIn Fence.wide n prog 141 #[.func (.yield l) #[] #[],.pointer (some ⟨Bs,0,none⟩)] W fun e W'=>(∃ v,e=.returned v) /\
   ((∃ ys,ys=Zn (fun j=>(len-1-j,us[len-1-j]?.getD w2z)) len/\J ys W')\/(∃ pre,(∃ k,k<=len/\pre=Zn (fun j=>(len-1-j,us[len-1-j]?.getD w2z)) k)/\Jx pre W')):=by
 refine callsIn_of_wp func141 rfl trivial ?_ rfl;simp only[ntmps141,List.size_toArray,List.length_cons,List.length_nil,Nat.reduceAdd,Nat.reduceSub,Array.replicate_succ,Array.replicate_zero,List.push_toArray,List.append_toArray,List.nil_append,List.cons_append]
 gi_wp2
 gi_loopw [3] (fun i wr=>∃ k:Nat,k<=len/\i=.int .i64 ((len:Int)-1-k)/\J (Zn (fun j=>(len-1-j,us[len-1-j]?.getD w2z)) k) wr/\Qi Bs b W wr)
  (fun i _=>(intOf i+1).toNat)
 case atStart=>exact⟨0,Nat.zero_le _,zA3,h0,Qi.refl _ _ _⟩
 case round =>
  obtain⟨k,hk,rfl,fC,dR⟩:=hrel;have hBr:wr.cell? ⟨Bs,0,none⟩=some (.slice (some ⟨b,off,none⟩) len cap):=(World.cell?_of_block (w:=W) dR.1).trans fO;by_cases hlt:k<len
  ·have uK:=(World.cell?_of_block (w:=W) (a:=⟨b,off+(len-1-k)*2,none⟩) dR.2).trans (hc (len-1-k) zO).1;have hcy:=(World.cell?_of_block (w:=W) (a:=⟨b,off+(len-1-k)*2+1,none⟩) dR.2).trans (hc (len-1-k) zO).2;obtain⟨fn,tmps,assign,body,hy,hR⟩:=hY _ (len-1-k,us[len-1-k]?.getD w2z) wr fC (by rw[zj];exact hlt);dsimp only at hy;obtain⟨i,hi⟩:∃ i:Nat,len-1-k=i:=⟨_,rfl⟩
   have dD:(len:Int)-1-k=(i:Int):=zO;have hil:i<len:=zO;have hik:k+i+1<=len/\len<=k+i+1:=zO;have HU:=zH (Ju (fun j=>(len-1-j,us[len-1-j]?.getD w2z)) k);obtain⟨u,hu⟩:∃ u,us[i]?.getD w2z=u:=⟨_,rfl⟩
   rw[hi] at uK hcy hy hR;rw[hu] at uK hcy hy hR;rw[dD];clear dD;have HE:=zH hu;clear hu;have HI:=zH hi;clear hi
   gi_wp2
   refine hR.mono ?_;rintro e W3 (⟨rfl,xZ,ig⟩|⟨rfl,iH⟩)
   ·gi_wp2
    go_roundw
    case rel=>exact⟨k+1,zO,by go_num,by rw[HU.out,HI.out,HE.out];exact xZ,dR.t ig⟩
    case measure=>simp[intOf]
   ·gi_wp2
    refine bodyPost_ret (results_none rfl _ _ _) rfl ?_;exact⟨⟨_,rfl⟩,.inr ⟨_,⟨k+1,zO,by rw[HU.out,HI.out,HE.out]⟩,iH⟩⟩
  ·obtain rfl:k=len:=zO
   gi_wp2
   go_end0;exact⟨⟨_,rfl⟩,.inl ⟨_,rfl,fC⟩⟩
set_option maxRecDepth 100000 in
theorem qbF (n l Bs c:Nat) (A:Option Addr) (J:List (Nat×W2)->World->Prop) (W:World) (fO:W.cell? ⟨Bs,0,none⟩=some (.slice A 0 c)) (h0:J [] W):CallsIn Fence.wide n prog 141 #[.func (.yield l) #[] #[],.pointer (some ⟨Bs,0,none⟩)] W fun e W'=>(∃ v,e=.returned v)/\J [] W':=by
 refine callsIn_of_wp func141 rfl trivial ?_ rfl;simp only[ntmps141,List.size_toArray,List.length_cons,List.length_nil,Nat.reduceAdd,Nat.reduceSub,Array.replicate_succ,Array.replicate_zero,List.push_toArray,List.append_toArray,List.nil_append,List.cons_append]
 gi_wp2
 gi_loopw [3] (fun i wr=>i=.int .i64 (-1)/\J [] wr) (fun _ _=>0)
 case atStart=>exact⟨rfl,h0⟩
 case round =>
  obtain⟨rfl,fC⟩:=hrel
  gi_wp2
  go_end0;exact⟨⟨_,rfl⟩,fC⟩
def YW (us:List W2) (k:Nat):List (Nat×W2):=Zn (fun j=>(us.length-1-j,us[us.length-1-j]?.getD w2z)) k
def SW (W:World) (Bs b:Nat) (v:Value) (us:List W2):Prop:=
 W.cell? ⟨Bs,0,none⟩=some v/\((us=[]/\∃ A c,v=.slice A 0 c)\/∃ off cap,v=.slice (some ⟨b,off,none⟩) us.length cap/\∀ i,i<us.length->W.cell? ⟨b,off+i*2,none⟩=some (.int .i64 (us[i]?.getD w2z).1)/\W.cell? ⟨b,off+i*2+1,none⟩=some (sv (us[i]?.getD w2z).2))
theorem SW.keep {W W':World} {Bs b:Nat} {v:Value} {us:List W2} (h:SW W Bs b v us) (hk:Qi Bs b W W'):SW W' Bs b v us:=by
 refine⟨(World.cell?_of_block (w:=W) hk.1).trans h.1,?_⟩;rcases h.2 with h|⟨off,cap,e,hc⟩
 ·exact .inl h
 ·exact .inr ⟨off,cap,e,fun i hi=>⟨(World.cell?_of_block (w:=W) hk.2).trans (hc i hi).1,(World.cell?_of_block (w:=W) hk.2).trans (hc i hi).2⟩⟩
theorem qcS (n:Nat) (hn:1<=n) (Bs b:Nat) (v:Value) (us:List W2) (aj:us.length<1099511627776) (w:World) (fO:Bs<w.heap.size) (hb:b<w.heap.size) (hS:SW w Bs b v us):SeqStopsK Fence.wide n prog 141 #[.pointer (some ⟨Bs,0,none⟩)] (fun x:Nat×W2=>#[.int .i64 (x.1:Int),.agg #[.int .i64 x.2.1,sv x.2.2]]) (Qi Bs b) (fun ys=>ys=YW us us.length)
   (fun pre=>∃ k,k<=us.length/\pre=YW us k) us.length w:=fun l J Jx W hW _ _ hY h0=>by
 obtain⟨hc,h⟩:=hS.keep (Qi.below hW fO hb);rcases h with ⟨rfl,A,c,rfl⟩|⟨off,cap,rfl,bV⟩
 ·exact(qbF n l Bs c A J W hc h0).mono fun e W' ⟨he,hj⟩=>⟨he,.inl ⟨_,rfl,hj⟩⟩
 ·exact backW_in n hn l Bs b off us.length cap us aj J Jx hY W hc bV h0
theorem YD (A:Option Addr) (m c:Nat) (w:World):Calls prog 91 #[.slice A m c] w (fun e w'=>e=.returned (.func (.func 141) #[] #[.pointer (some ⟨w.heap.size,0,none⟩)])/\w'=w.alloc (.cells #[.slice A m c] 23)):=by
 go_enter func91,ntmps91;go_wp2;go_ret;exact⟨rfl,rfl⟩
def VB:Value->Sl
 | .slice A n c=>(A,n,c)
 |_=>(none,0,0)
theorem Ug {ws:List (Int×List UInt8)} {a:Int}:∀ (d m:Nat),m+d=ws.length->(∀ i,m<=i->(h:i<ws.length)->ws[i].1≠a)->jB ws a=jB (ws.take m) a:=by
 intro d;induction d with
 |zero=>intro m hm _;rw[show m=ws.length by omega,List.take_length]
 |succ d ih =>
  intro m hm h;rw[ih (m+1) zO (fun i hi hl=>h i zO hl),Ve zO,if_neg (h m (zM _) zO)]
theorem YX (us:List W2) (k j:Nat) (h:j<k):(YW us k)[j]?=some (us.length-1-j,us[us.length-1-j]?.getD w2z):=by unfold YW Zn;rw[List.getElem?_map,List.getElem?_range h];rfl
theorem qgN {ps:List ((Int×List UInt8)×Value)} {a:Int} {k:Nat} {pre:List (Nat×W2)} {x:Nat×W2} (hk:k<=ps.length) (he:pre++[x]=YW (ps.map fun p=>(p.1.1,VB p.2)) k) (hx:x.2.1=a) (hp:∀ y∈pre,y.2.1≠a):∃ p∈ps,x.2.2=VB p.2/\jB (ps.map (·.1)) a=some p.1.2:=by
 have hl:pre.length+1=k:=by have:=congrArg List.length he;simpa [YW,Zn] using this
 have hlen:(ps.map fun p=>((p.1.1,VB p.2):W2)).length=ps.length:=zA3;have hxk:some x=some (ps.length-1-pre.length,(ps.map fun p=>((p.1.1,VB p.2):W2))[ps.length-1-pre.length]?.getD w2z):=by rw[<-hlen,<-YX _ k pre.length zO,<-he];simp
 have hi:ps.length-1-pre.length<ps.length:=zO;simp only[Option.some.injEq] at hxk;rw[List.getElem?_map,zL hi] at hxk;refine⟨ps[ps.length-1-pre.length],List.getElem_mem _,by rw[hxk];rfl,?_⟩;have hQH:=Ug (ws:=ps.map (·.1)) (a:=a) pre.length (ps.length-1-pre.length+1) zA2 (fun i h1 h2=>by
  have h2':i<ps.length:=by simpa using h2
  have hj:ps.length-1-i<pre.length:=zO;have hy:pre[ps.length-1-i]?=some (i,(ps.map fun p=>((p.1.1,VB p.2):W2))[i]?.getD w2z):=by have h3:=YX (ps.map fun p=>((p.1.1,VB p.2):W2)) k (ps.length-1-i) zO;rw[<-he,List.getElem?_append_left hj,hlen,show ps.length-1-(ps.length-1-i)=i by omega] at h3;exact h3
  have:=hp _ (List.mem_of_getElem? hy);rw[List.getElem?_map,zL h2'] at this;simpa using this)
 rw[hQH,Ve zA2];have uC:ps[ps.length-1-pre.length].1.1=a:=by rw[<-hx,hxk];rfl
 simp[uC]
theorem qgM {ps:List ((Int×List UInt8)×Value)} {a:Int} (hp:∀ y∈YW (ps.map fun p=>((p.1.1,VB p.2):W2)) ps.length,y.2.1≠a):jB (ps.map (·.1)) a=none:=by
 have hlen:(ps.map fun p=>((p.1.1,VB p.2):W2)).length=ps.length:=zA3;rw[Ug (ws:=ps.map (·.1)) (a:=a) ps.length 0 zA3 (fun i _ h2=>by
  have h2':i<ps.length:=by simpa using h2
  have h3:=YX (ps.map fun p=>((p.1.1,VB p.2):W2)) ps.length (ps.length-1-i) zO;rw[hlen,show ps.length-1-(ps.length-1-i)=i by omega] at h3;have:=hp _ (List.mem_of_getElem? h3);rw[List.getElem?_map,zL h2'] at this;simpa using this)]
 rfl
theorem Qt {β:Type} (B b:Nat) (cs:Array Value) (ty:TypeId):OwnFrom B (fun (_:β) W=>W.heap[b]?=some (.cells cs ty (0,0))):=fun _ A _ row hs hg hr =>
 (hg.block b (zG.1 hs).1 (fun e=>by obtain⟨_,o,ho,hc⟩:=hr b e.symm;rw[hs] at ho;cases ho;cases hc)).trans hs
theorem Kb {β:Type} (B:Nat) (p:β->Prop):OwnFrom B (fun s _=>p s):=fun _ _ _ _ hs _ _=>hs
set_option maxRecDepth 100000 in
theorem qeN (lo bb:Nat) (A1:Option Addr) (n1 c1:Nat) (A2:Option Addr) (n2 c2:Nat) (A3:Option Addr) (n3 c3:Nat) (A4:Option Addr) (n4 c4:Nat) (S:Sto) (hS:qo S=true) (a:Nat) (ha:8<=a) (bK:a<256) (w:World) (h:OnB lo bb (.slice A1 n1 c1) (.slice A2 n2 c2) (.slice A3 n3 c3) (.slice A4 n4 c4) S w):Calls prog 67 #[.pointer (some ⟨bb,0,none⟩),.int .i64 (a:Int)] w (QV (TN w.heap.size (qv S a)) w):=by
 obtain⟨oM,um,nJ,hl4⟩:=qQ hS;obtain⟨_,aC,aH⟩:=h;obtain⟨wZ,sO,tC,uI⟩:=aH.now.at_;obtain⟨b3,o3,rfl,dF⟩:=uI zO;have aF:w.cell? ⟨b3,o3+a,none⟩=some (.int .u8 ((S.now[a]?.getD 0).toNat:Int)):=by obtain⟨A',c',e,_,_,hr⟩:=aH.now;cases e;obtain⟨b',off',e,_,hc⟩:=hr.2 zO;cases e;exact hc a _ (by rw[List.getElem?_map,zL zO];rfl)
 obtain⟨oQ,dV,hm1,hA1⟩:=aH.bs.at_;obtain⟨b1,o1,rfl,bD⟩:=hA1 zO;obtain⟨A0,c0,uJ,xm⟩:=aH.bs.get a zO;have hN:qv S a=if (S.now[a]?.getD 0).toNat=0 then none else QD (Jd S a):=rfl
 rw[hN];have HR:=zH (fun v W (hv:Bys W W.heap.size v (Jd S a))=>GA v (Jd S a) W hv);have eu:Jd S a=match jB S.ws a with|some l=>l|none=>S.bs[a]:=by unfold Jd;rw[zL zO];rfl
 have hn3':n3=256:=by rw[wZ,nJ]
 have hKM:n1=256:=by rw[oQ,oM]
 have cO:bb<w.heap.size:=(zG.1 aC).1;generalize S.bs[a]=l0 at *;generalize Jd S a=l at *;generalize (S.now[a]?.getD 0).toNat=nw at *;replace eu:=zH eu;obtain⟨ps,cZ,⟨A2',c2',e2,aA,dA,aO⟩,hw4⟩:=aH.ws;rw[<-cZ] at eu e2 aA aO um;clear hN wZ oQ hS aH oM nJ hl4 uI hA1 cZ;subst hn3';subst hKM;simp only[Value.slice.injEq] at e2;obtain⟨rfl,aK,rfl⟩:=e2;rw[<-aK] at aA aO um;replace aK:=zH aK;by_cases h0:nw=0
 ·rw[if_pos h0];refine(callsIn_wide (n:=3)).1 ?_;refine callsIn_of_wp_marks func67 rfl trivial ?_ rfl;simp only[ntmps67,List.size_toArray,List.length_cons,List.length_nil,Nat.reduceAdd,Nat.reduceSub,Array.replicate_succ,Array.replicate_zero,List.push_toArray,List.append_toArray,List.nil_append,List.cons_append];refine wpIn_wide.2 ?_;go_wp2;generalize aA:(World.alloc (World.alloc _ _) _)=w1;have x1:Ext w w1:=by rw[<-aA];exact(zN _ _).trans (zN _ _)
  have r1:w1.heap[w.heap.size]?=some (.cells #[.int .i64 (a:Int)] 3 (0,0)):=by rw[<-aA];exact(zK _ _ _ zA3).trans (zI _ _ _ rfl)
  have q1:w1.heap[w.heap.size+1]?=some (.cells #[.int .i64 0,.slice none 0 0] 49 (0,0)):=by rw[<-aA];exact zI _ _ _ zA3
  clear aA;have oZ:=qb aC x1;have gB:∀ W,qk.r w1 W->∀ i,W.cell? ⟨bb,i,none⟩=#[.slice (some ⟨b1,o1,none⟩) 256 c1,.slice A2 n2 c2,.slice (some ⟨b3,o3,none⟩) 256 c3,.slice A4 n4 c4][i]?:=fun W h=>qa (qb oZ h);have gA:∀ W,qk.r w1 W->W.cell? ⟨w.heap.size,0,none⟩=some (.int .i64 (a:Int)):=fun W h=>by rw[qa (qb r1 h)];rfl
  have gN:∀ W,qk.r w1 W->W.cell? ⟨b3,o3+a,none⟩=some (.int .u8 (nw:Int)):=fun W h=>Ext.cell (x1.trans h) aF;have ia:(a:Int)<256:=zO;refine qm zQ ?_;refine Zo (w:=w1) qk (qD []) [true,true,true,true,true,true,true,true,true] 0 zQ zQ zQ zQ zQ zQ ?st (Rel.drew _ _) ?walk
  case st=>exact qj (fun _ h=>by cases h)
  case walk =>
   intro K hK;dsimp only[qp];repeat ((first|(refine qd ?_ zA0 zA0 (fun W hW _=>⟨W,?_,Rel.refl _ W⟩) ?_;rotate_left;(go_simp<;>with_reducible rfl))|(refine qh zA0 ?_));try simp only[Act.put,ql,qf,qc,qg,zA,zB,zC])
   first
    |(refine qd (.pointer (some ⟨b3,o3+a,none⟩)) zA0 zA0 (fun W hW _=>⟨W,?_,Rel.refl _ W⟩) ?_
      ·go_simp;rw[IntWalk.i64_in (a:Int) zO,if_pos zO];simp
      simp only[Act.put,ql,qf,qc,qg,zA,zB,zC])
    |skip
   repeat ((first|(refine qd ?_ zA0 zA0 (fun W hW _=>⟨W,?_,Rel.refl _ W⟩) ?_;rotate_left;(go_simp<;>with_reducible rfl))|(refine qh zA0 ?_));try simp only[Act.put,ql,qf,qc,qg,zA,zB,zC])
   refine qt (hK _ _ fun W hW hF=>?_);clear hF hK gB gA gN;have ay:Ext w1 W:=hW;have x2:Ext w W:=x1.trans ay;have q2:=qb q1 ay;refine zB5 ?_;clear hW ay x1 r1 q1 oZ;have k2:=qa q2;have f2:=qe q2;go_wp2;refine Qm ?_;go_wp2;generalize aZ:(World.setCell (World.setCell _ _ _) _ _)=wf;have rf:wf.heap[w.heap.size+1]?=some (.cells #[.int .i64 0,.slice none 0 0] 49 (0,0)):=by rw[<-aZ];exact qi (qi q2 0 _) 1 _
   have bf:Below w.heap.size w wf:=by rw[<-aZ];exact Below.setCell (Below.setCell x2 (p:=⟨w.heap.size+1,0,none⟩) zA3 _) (p:=⟨w.heap.size+1,1,none⟩) zA3 _
   have kf:=qa rf;refine⟨vd 8,?_,⟨_,rfl,⟨8,zA1,rfl⟩,bf⟩⟩;simp[results,results67,go_sem,kf]
 ·rw[if_neg h0];have hnw:((nw:Int) == 0)=false:=by rw[beq_eq_false_iff_ne];omega
  refine(callsIn_wide (n:=3)).1 ?_;refine callsIn_of_wp_marks func67 rfl trivial ?_ rfl;simp only[ntmps67,List.size_toArray,List.length_cons,List.length_nil,Nat.reduceAdd,Nat.reduceSub,Array.replicate_succ,Array.replicate_zero,List.push_toArray,List.append_toArray,List.nil_append,List.cons_append];refine wpIn_wide.2 ?_;go_wp2;generalize aA:(World.alloc (World.alloc _ _) _)=w1;have x1:Ext w w1:=by rw[<-aA];exact(zN _ _).trans (zN _ _)
  have r1:w1.heap[w.heap.size]?=some (.cells #[.int .i64 (a:Int)] 3 (0,0)):=by rw[<-aA];exact(zK _ _ _ zA3).trans (zI _ _ _ rfl)
  have q1:w1.heap[w.heap.size+1]?=some (.cells #[.int .i64 0,.slice none 0 0] 49 (0,0)):=by rw[<-aA];exact zI _ _ _ zA3
  clear aA;have oZ:=qb aC x1;have gB:∀ W,qk.r w1 W->∀ i,W.cell? ⟨bb,i,none⟩=#[.slice (some ⟨b1,o1,none⟩) 256 c1,.slice A2 n2 c2,.slice (some ⟨b3,o3,none⟩) 256 c3,.slice A4 n4 c4][i]?:=fun W h=>qa (qb oZ h);have gA:∀ W,qk.r w1 W->W.cell? ⟨w.heap.size,0,none⟩=some (.int .i64 (a:Int)):=fun W h=>by rw[qa (qb r1 h)];rfl
  have gN:∀ W,qk.r w1 W->W.cell? ⟨b3,o3+a,none⟩=some (.int .u8 (nw:Int)):=fun W h=>Ext.cell (x1.trans h) aF;have ia:(a:Int)<256:=zO;refine qm zQ ?_;refine Zo (w:=w1) qk (qD []) [true,true,true,true,true,true,true,true,true] 0 zQ zQ zQ zQ zQ zQ ?st (Rel.drew _ _) ?walk
  case st=>exact qj (fun _ h=>by cases h)
  case walk =>
   intro K hK;dsimp only[qp];repeat ((first|(refine qd ?_ zA0 zA0 (fun W hW _=>⟨W,?_,Rel.refl _ W⟩) ?_;rotate_left;(go_simp<;>with_reducible rfl))|(refine qh zA0 ?_));try simp only[Act.put,ql,qf,qc,qg,zA,zB,zC])
   first
    |(refine qd (.pointer (some ⟨b3,o3+a,none⟩)) zA0 zA0 (fun W hW _=>⟨W,?_,Rel.refl _ W⟩) ?_
      ·go_simp;rw[IntWalk.i64_in (a:Int) zO,if_pos zO];simp
      simp only[Act.put,ql,qf,qc,qg,zA,zB,zC])
    |skip
   repeat ((first|(refine qd ?_ zA0 zA0 (fun W hW _=>⟨W,?_,Rel.refl _ W⟩) ?_;rotate_left;(go_simp<;>with_reducible rfl))|(refine qh zA0 ?_));try simp only[Act.put,ql,qf,qc,qg,zA,zB,zC])
   refine qt (hK _ _ fun W hW hF=>?_);clear hF hK gB gA gN;have ay:Ext w1 W:=hW;have x2:Ext w W:=x1.trans ay;have r2:=qb r1 ay;have q2:=qb q1 ay;have hBX:=qb oZ ay;have s2:w.heap.size+1<W.heap.size:=(zG.1 q2).1;refine zB5 ?_;clear hW ay x1 r1 q1 oZ;go_wp2;refine Qm ?_;go_wp2;have gB:∀ W',qk.r W W'->∀ i,W'.cell? ⟨bb,i,none⟩=#[.slice (some ⟨b1,o1,none⟩) 256 c1,.slice A2 n2 c2,.slice (some ⟨b3,o3,none⟩) 256 c3,.slice A4 n4 c4][i]?:=fun W' h=>qa (qb hBX h);have gA:∀ W',qk.r W W'->W'.cell? ⟨w.heap.size,0,none⟩=some (.int .i64 (a:Int)):=fun W' h=>by rw[qa (qb r2 h)];rfl
   have gN:∀ W',qk.r W W'->W'.cell? ⟨b1,o1+a,none⟩=some (.slice A0 l0.length c0):=fun W' h=>Ext.cell (x2.trans h) uJ;refine qm zQ ?_;refine Zo (w:=W) qk (qD [(9,jO W.heap.size 26 #[.slice none 0 0])]) [true,true,true,true,true,true,true,true,true,true] 1 zQ zQ zQ zQ zQ zQ ?st (Rel.drew _ _) ?walk
   case st=>exact qj (by simp only[List.forall_mem_cons];exact⟨fun p=>QI (ZX _ _ _ p),fun _ h=>by cases h⟩)
   case walk =>
    intro K hK;dsimp only[qp];repeat ((first|(refine qd ?_ zA0 zA0 (fun W hW _=>⟨W,?_,Rel.refl _ W⟩) ?_;rotate_left;(go_simp<;>with_reducible rfl))|(refine qh zA0 ?_));try simp only[Act.put,ql,qf,qc,qg,zA,zB,zC])
    first
     |(refine qd (.pointer (some ⟨b1,o1+a,none⟩)) zA0 zA0 (fun W hW _=>⟨W,?_,Rel.refl _ W⟩) ?_
       ·go_simp;rw[IntWalk.i64_in (a:Int) zO,if_pos zO];simp
       simp only[Act.put,ql,qf,qc,qg,zA,zB,zC])
     |skip
    repeat ((first|(refine qd ?_ zA0 zA0 (fun W hW _=>⟨W,?_,Rel.refl _ W⟩) ?_;rotate_left;(go_simp<;>with_reducible rfl))|(refine qh zA0 ?_));try simp only[Act.put,ql,qf,qc,qg,zA,zB,zC])
    refine qw (jO W.heap.size 26 #[.slice none 0 0]) zA0 zA0 (fun W' hW _=>?_) (fun (p9:Nat)=>?_)
    ·refine jT ?_ (Below.size hW);go_simp
    simp only[Act.put,qf,qc,qg,zA,zB,zC];refine qt (hK _ _ fun W3 hW hF=>?_);obtain⟨f9,aP⟩:W3.heap[p9]?=some (.cells #[.slice none 0 0] 26 (0,0))/\W.heap.size<=p9:=(hF 9).1;clear hF hK gB gA gN;have ay:Ext W W3:=hW;have r3:=qb r2 ay;have q3:=qb q2 ay;have hRU:=qb hBX ay;have x3:Ext w W3:=x2.trans ay;have k9:=qa f9;have h9:=qe f9;refine zB5 ?_;go_wp2;refine Qm ?_;have x4:Ext W (W3.setCell ⟨p9,0,none⟩ (.slice A0 l0.length c0)):=Below.setCell ay (p:=⟨p9,0,none⟩) aP _;have f4:=qi f9 0 (.slice A0 l0.length c0);generalize hw4:(World.setCell W3 _ _)=w4 at *;have r4:=qb r2 x4;have q4:=qb q2 x4;have hBY:=qb hBX x4;have xw4:Ext w w4:=x2.trans x4;have k4:=qa hBY;clear hw4 k9 h9 f9 hW ay r3 q3 hRU x3;go_wp2_with fail;refine(YD A2 n2 c2 w4).mono ?_;rintro e w5 ⟨rfl,rfl⟩;go_wp2;have hsz4:w.heap.size+1<w4.heap.size:=(zG.1 q4).1;have hp4:p9<w4.heap.size:=(zG.1 f4).1;have x5:Ext w4 (w4.alloc (.cells #[.slice A2 n2 c2] 23)):=zN _ _;have lZ:(ps.map fun p=>((p.1.1,VB p.2):W2)).length=n2:=by rw[aK.out];simp
    have bU:ps.length=n2:=by rw[aK.out];simp
    obtain⟨b2,bI,hSW⟩:∃ b2,b2<w.heap.size/\SW (w4.alloc (.cells #[.slice A2 n2 c2] 23)) w4.heap.size b2 (.slice A2 n2 c2) (ps.map fun p=>((p.1.1,VB p.2):W2)):=by
     have hAM:(w4.alloc (.cells #[.slice A2 n2 c2] 23)).cell? ⟨w4.heap.size,0,none⟩=some (.slice A2 n2 c2):=by rw[qa (zI _ _ _ rfl)];rfl
     rcases Nat.eq_zero_or_pos n2 with hz|hz
     ·have:ps=[]:=List.eq_nil_of_length_eq_zero zO;exact⟨bb,cO,hAM,.inl ⟨by rw[this];rfl,A2,c2,by rw[hz]⟩⟩
     ·obtain⟨b2,o2,rfl,hlt,hc⟩:=aO.2 hz;refine⟨b2,hlt,hAM,.inr ⟨o2,c2,by rw[lZ],fun i hi=>?_⟩⟩;have iK:i<ps.length:=by simpa using hi
      obtain⟨g0,g1⟩:=VJ ps i iK;have hx:=xw4.trans x5;refine⟨?_,?_⟩
      ·rw[Ext.cell hx (hc _ _ g0),List.getElem?_map,zL iK];rfl
      ·obtain⟨⟨A',c',e'⟩,_⟩:=hw4 ps[i] (List.getElem_mem iK);rw[Nat.add_assoc,Ext.cell hx (hc _ _ g1),List.getElem?_map,zL iK];simp only[Option.map_some,Option.getD_some];rw[e'];rfl
    refine(wpIn_wide (n:=3)).1 ?_;refine wpIn_rangeFunc_ownH rfl zO (gf:=141) (lb:=#[.pointer (some ⟨w4.heap.size,0,none⟩)]) rfl trivial (enters_of func141 zQ rfl)
     (qcS (3-1) zO w4.heap.size b2 _ _ (by rw[lZ];omega) _ zA3 zA2 hSW) Qi.t (Qi.b zA3 zA2) (Below.refl _ _) (fun _=>rfl)
     (fun pre W'=>((W'.heap[w.heap.size]?=some (.cells #[.int .i64 (a:Int)] 3 (0,0))/\W'.heap[w.heap.size+1]?=some (.cells #[.int .i64 0,.slice none 0 0] 49 (0,0)))/\(W'.heap[p9]?=some (.cells #[.slice A0 l0.length c0] 26 (0,0))/\W'.heap[w4.heap.size]?=some (.cells #[.slice A2 n2 c2] 23 (0,0))))/\(Below w.heap.size w W'/\∀ y∈pre,y.2.1≠(a:Int)))
     (fun c pre W'=>((W'.heap[w.heap.size+1]?=some (.cells #[.int .i64 0,.slice none 0 0] 49 (0,0)))/\∃ pre' x,W'.heap[p9]?=some (.cells #[sv x.2.2] 26 (0,0))/\c=.exit 0/\pre=pre'++[x]/\x.2.1=(a:Int)/\∀ y∈pre',y.2.1≠(a:Int))/\Below w.heap.size w W')
     (OwnFrom.and (OwnFrom.and (OwnFrom.and (Qt _ _ _ _) (Qt _ _ _ _)) (OwnFrom.and (Qt _ _ _ _) (Qt _ _ _ _))) (OwnFrom.and (ownFrom_below (zM _) zA2) (Kb _ _)))
     (fun c=>OwnFrom.and (OwnFrom.and (Qt _ _ _ _) (fun s A C row hs hg hr=>by obtain⟨pre',x,h1,h2⟩:=hs;exact⟨pre',x,Qt (β:=Unit) _ _ _ _ () A C row h1 hg hr,h2⟩)) (ownFrom_below (zM _) zA2))
     ⟨⟨⟨qb r4 x5,qb q4 x5⟩,qb f4 x5,zI _ _ _ rfl⟩,xw4.trans x5,fun y hy=>by cases hy⟩
     (fun x a' W'=>∃ t8,a'={ tmps:=#[.pointer (some ⟨bb,0,none⟩),.int .i64 (a:Int),undef,.pointer (some ⟨w.heap.size,0,none⟩),.pointer (some ⟨w.heap.size+1,0,none⟩),.int .i64 0,.pointer (some ⟨p9,0,none⟩),undef,.pointer (some ⟨t8,0,none⟩),undef,undef,
       .pointer (some ⟨bb,0,none⟩),.pointer (some ⟨bb,0,none⟩),.pointer (some ⟨bb,0,none⟩),.pointer (some ⟨bb,2,none⟩),.slice (some ⟨b3,o3,none⟩) 256 c3,.int .i64 (a:Int),.pointer (some ⟨b3,o3+a,none⟩),.int .u8 (nw:Int),.bool false,undef,
       .pointer (some ⟨bb,0,none⟩),.pointer (some ⟨bb,0,none⟩),.pointer (some ⟨bb,0,none⟩),.pointer (some ⟨bb,0,none⟩),.pointer (some ⟨bb,0,none⟩),.slice (some ⟨b1,o1,none⟩) 256 c1,.int .i64 (a:Int),.pointer (some ⟨b1,o1+a,none⟩),.slice A0 l0.length c0,
       .pointer (some ⟨bb,0,none⟩),.pointer (some ⟨bb,0,none⟩),.pointer (some ⟨bb,0,none⟩),.pointer (some ⟨bb,0,none⟩),.pointer (some ⟨bb,1,none⟩),.slice A2 n2 c2,.func (.func 141) #[] #[.pointer (some ⟨w4.heap.size,0,none⟩)],
       .int .i64 (x.1:Int),.agg #[.int .i64 x.2.1,sv x.2.2],undef,undef,undef,undef,undef,undef,undef,undef,undef,undef,undef,undef,undef,undef,undef],defers:=[] }/\W'.heap[t8]?=some (.cells #[.int .i64 x.2.1,sv x.2.2] 130 (0,0)))
     (fun x a' s A C row hs hg hr=>by obtain⟨t8,e,h⟩:=hs;exact⟨t8,e,Qt (β:=Unit) _ _ _ _ () A C row h hg hr⟩) ?assign ?body ?done ?stop
    case assign =>
     rintro l' pre x W' K ⟨⟨⟨i1,i2⟩,i3,i6⟩,i4,i5⟩ hK
     gi_wp2
     have z1:=(zG.1 i1).1;have z2:=(zG.1 i2).1;have z3:=(zG.1 i3).1;have z6:=(zG.1 i6).1;have z4:=i4.size;refine hK _ _ ((KeepsOthers.alloc _ _).from _) ⟨zK _ _ _ z6,zK _ _ _ zO⟩ ⟨⟨⟨(zK _ _ _ z1).trans i1,(zK _ _ _ z2).trans i2⟩,(zK _ _ _ z3).trans i3,(zK _ _ _ z6).trans i6⟩,Below.alloc i4 z4 _,i5⟩ ⟨W'.heap.size,rfl,zI _ _ _ rfl⟩
    case body =>
     rintro l' pre x a' W' hl ⟨rr,hlp⟩ ⟨⟨⟨i1,i2⟩,i3,i6⟩,i4,i5⟩ ⟨t8,rfl,tY⟩ _;have k8:=qa tY;have k1:=qa i1;by_cases hq:x.2.1=(a:Int)
     ·have tX:(x.2.1 == (a:Int))=true:=by rw[beq_iff_eq];exact hq
      have k9:=qa i3;have f9:=qe i3
      gi_wp2
      refine⟨(KeepsOthers.setCell _ _ _).from _,⟨(zJ _ _ _ _ zA2).trans i2,pre,x,qi i3 0 _,rfl,rfl,hq,i5⟩,Below.setCell i4 (p:=⟨p9,0,none⟩) zA2 _⟩
     ·have tX:(x.2.1 == (a:Int))=false:=by rw[beq_eq_false_iff_ne];exact hq
      gi_wp2
      refine⟨KeepsFrom.refl _ _,Qi.refl _ _ _,⟨⟨i1,i2⟩,i3,i6⟩,i4,fun y hy=>?_⟩;rcases List.mem_append.1 hy with h|h
      ·exact i5 y h
      ·obtain rfl:y=x:=by simpa using h
       exact hq
    case done =>
     rintro D ys W' hD rfl ⟨⟨⟨i1,it4⟩,ip,_⟩,i4,i5⟩ hK;have hll:l=l0:=by rw[eu.out,qgM (by rw[List.length_map] at i5;exact i5)]
     have aT:Bys W' W'.heap.size (.slice A0 l0.length c0) l:=by rw[hll];exact(xm.below i4).more i4.size
     clear hll;have x6:Below w.heap.size w W':=i4;have hKX:=x6.size;have hD6:D<W'.heap.size:=(zG.1 hK).1;have hDw:w.heap.size+1<D:=by simp at hD;omega
     have kp:=qa ip;go_wp2_with fail;refine(HR.out _ _ aT).mono ?_;rintro e w7 ⟨u7,rfl,hu7,hB⟩;have q7:=qb it4 hB;have d7:w7.heap[D]?=some (.deferred (some [])):=(hB.block D hD6).trans hK;have x7:Below w.heap.size w w7:=Below.trans x6 (Below.mono hB hKX);have s7:w.heap.size+1<w7.heap.size:=(zG.1 q7).1;have sD7:D<w7.heap.size:=(zG.1 d7).1;have k7:=qa q7;have f7:=qe q7;clear kp HR aT hB;rcases hQ:QD l with _|⟨lvl,xs⟩
     ·rw[hQ] at hu7;obtain⟨er,pg,rfl⟩:=hu7;have hKO:(er != 0)=true:=by rw[bne_iff_ne];exact pg
      go_wp2;generalize aZ:(World.alloc _ _)=wf;have rf:wf.heap[w.heap.size+1]?=some (.cells #[.int .i64 0,.slice none 0 0] 49 (0,0)):=by rw[<-aZ];exact(zK _ _ _ (by simpa using s7)).trans (qi (qi q7 0 _) 1 _)
      have df:wf.heap[D]?=some (.deferred (some [])):=by rw[<-aZ];exact(zK _ _ _ (by simpa using sD7)).trans ((zJ _ _ _ _ zA2).trans ((zJ _ _ _ _ zA2).trans d7))
      have bf:Below w.heap.size w wf:=by rw[<-aZ];exact Below.alloc (Below.setCell (Below.setCell x7 (p:=⟨w.heap.size+1,0,none⟩) zA3 _) (p:=⟨w.heap.size+1,1,none⟩) zA3 _) zA2 _
      have rf2:(wf.putObj D (.deferred none)).heap[w.heap.size+1]?=_:=(World.putObj_heap_other zO).trans rf;have bf2:Below w.heap.size w (wf.putObj D (.deferred none)):=bf.trans (belowK_b (w:=w) (zM _) wf D _ _ zO df rfl rfl);have kf:=qa rf2;refine⟨zA3,.inl ⟨_,_,rfl,run_takeDeferred df,vd 8,?_,_,rfl,(show TN _ (QD l) _ _ by rw[hQ];exact⟨8,zA1,rfl⟩),bf2⟩⟩;simp[results,results67,go_sem,kf]
     ·rw[hQ] at hu7;obtain⟨A,c,rfl,hi,hz⟩:=hu7;replace hz:=zH hz;go_wp2;generalize aZ:(World.alloc _ _)=wf;have rf:wf.heap[w.heap.size+1]?=some (.cells #[.int .i64 lvl,.slice A xs.length c] 49 (0,0)):=by rw[<-aZ];exact(zK _ _ _ (by simpa using s7)).trans (qi (qi q7 0 _) 1 _)
      have df:wf.heap[D]?=some (.deferred (some [])):=by rw[<-aZ];exact(zK _ _ _ (by simpa using sD7)).trans ((zJ _ _ _ _ zA2).trans ((zJ _ _ _ _ zA2).trans d7))
      have bf:Below w.heap.size w wf:=by rw[<-aZ];exact Below.alloc (Below.setCell (Below.setCell x7 (p:=⟨w.heap.size+1,0,none⟩) zA3 _) (p:=⟨w.heap.size+1,1,none⟩) zA3 _) zA2 _
      have rf2:(wf.putObj D (.deferred none)).heap[w.heap.size+1]?=_:=(World.putObj_heap_other zO).trans rf;have bf2:Below w.heap.size w (wf.putObj D (.deferred none)):=bf.trans (belowK_b (w:=w) (zM _) wf D _ _ zO df rfl rfl);have kf:=qa rf2;have hfi:Zv W'.heap.size (wf.putObj D (.deferred none)) (.slice A xs.length c) xs:=by
       refine hi.keep (by have:=bf2.size;rw[<-aZ];simp[World.putObj]) (fun p h1 h2=>?_);by_cases hpD:p.block=D
       ·exfalso;omega
       ·rw[World.cell?_of_block (World.putObj_heap_other zO),<-aZ,World.cell?_alloc_lt _ _ _ (by simpa using h2),World.cell?_setCell_other _ _ _ _ (fun e=>by subst e;simp at h1;omega),World.cell?_setCell_other _ _ _ _ (fun e=>by subst e;simp at h1;omega)]
      have hzf:NzI (wf.putObj D (.deferred none)) (.slice A xs.length c):=by
       have lM:∀ b off n c',Value.slice A xs.length c=.slice (some ⟨b,off,none⟩) n c'->0<n->W'.heap.size<=b/\b<w7.heap.size:=fun b off n c' e hn=>by obtain⟨-,-,-,h4⟩:=hi.its.at_;have h5:W'.heap.size<=(⟨b,0,none⟩:Addr).block:=XF hi b off n c' 0 e hn;simp only[Value.slice.injEq] at e;obtain⟨b6,o6,e6,e7⟩:=h4 zO;rw[e.1] at e6;simp only[Option.some.injEq,Addr.mk.injEq] at e6;simp only at h5;omega
       refine hz.out.keep (fun b off n c' e hn j=>?_) (fun u hu=>Nz.put ?_ df (fun cs ty e=>by cases e))
       ·obtain⟨h1,h2⟩:=lM b off n c' e hn;rw[World.cell?_of_block (World.putObj_heap_other zA2),<-aZ,World.cell?_alloc_lt _ _ _ (by simpa using h2),World.cell?_setCell_other _ _ _ _ (fun e=>by simp only[Addr.mk.injEq] at e;omega),World.cell?_setCell_other _ _ _ _ (fun e=>by simp only[Addr.mk.injEq] at e;omega)]
       ·rw[<-aZ];exact((hu.setCell _ _).setCell _ _).ext (zN _ _)
      refine⟨zA3,.inl ⟨_,_,rfl,run_takeDeferred df,.tuple #[je lvl A xs.length c,.int .i64 0],?_,_,rfl,(show TN _ (QD l) _ _ by rw[hQ];exact⟨A,c,rfl,hfi.mono zO,hzf⟩),bf2⟩⟩;simp[results,results67,go_sem,kf]
    case stop =>
     rintro D c pre W' hD ⟨k,hk,hpre⟩ ⟨⟨it4,pre',x,ip,rfl,rfl,hx,iF⟩,i4⟩ hK;rw[lZ,<-bU] at hk;obtain⟨xi,xa,A9,n9,c9⟩:=x;obtain⟨p,ai,hp1,fD⟩:=qgN hk hpre hx iF;have hll:l=p.1.2:=by rw[eu.out,fD]
     have aT:Bys W' W'.heap.size (.slice A9 n9 c9) l:=by
      obtain⟨⟨A',c',e'⟩,lu⟩:=hw4 p ai;have h9:Value.slice A9 n9 c9=p.2:=by have e9:(A9,n9,c9)=VB p.2:=hp1;rw[e'] at e9 ⊢;simp only[VB,Prod.mk.injEq] at e9;rw[e9.1,e9.2.1,e9.2.2]
      rw[h9,hll];exact(lu.below i4).more i4.size
     clear hll hp1 fD ai hx iF;replace ip:W'.heap[p9]?=some (.cells #[.slice A9 n9 c9] 26 (0,0)):=ip;have x6:Below w.heap.size w W':=i4;have hKX:=x6.size;have hD6:D<W'.heap.size:=(zG.1 hK).1;have hDw:w.heap.size+1<D:=by simp at hD;omega
     have kp:=qa ip
     gi_wp2
     go_wp2_with fail;refine(HR.out _ _ aT).mono ?_;rintro e w7 ⟨u7,rfl,hu7,hB⟩;have q7:=qb it4 hB;have d7:w7.heap[D]?=some (.deferred (some [])):=(hB.block D hD6).trans hK;have x7:Below w.heap.size w w7:=Below.trans x6 (Below.mono hB hKX);have s7:w.heap.size+1<w7.heap.size:=(zG.1 q7).1;have sD7:D<w7.heap.size:=(zG.1 d7).1;have k7:=qa q7;have f7:=qe q7;clear kp HR aT hB;rcases hQ:QD l with _|⟨lvl,xs⟩
     ·rw[hQ] at hu7;obtain⟨er,pg,rfl⟩:=hu7;have hKO:(er != 0)=true:=by rw[bne_iff_ne];exact pg
      go_wp2;generalize aZ:(World.alloc _ _)=wf;have rf:wf.heap[w.heap.size+1]?=some (.cells #[.int .i64 0,.slice none 0 0] 49 (0,0)):=by rw[<-aZ];exact(zK _ _ _ (by simpa using s7)).trans (qi (qi q7 0 _) 1 _)
      have df:wf.heap[D]?=some (.deferred (some [])):=by rw[<-aZ];exact(zK _ _ _ (by simpa using sD7)).trans ((zJ _ _ _ _ zA2).trans ((zJ _ _ _ _ zA2).trans d7))
      have bf:Below w.heap.size w wf:=by rw[<-aZ];exact Below.alloc (Below.setCell (Below.setCell x7 (p:=⟨w.heap.size+1,0,none⟩) zA3 _) (p:=⟨w.heap.size+1,1,none⟩) zA3 _) zA2 _
      have rf2:(wf.putObj D (.deferred none)).heap[w.heap.size+1]?=_:=(World.putObj_heap_other zO).trans rf;have bf2:Below w.heap.size w (wf.putObj D (.deferred none)):=bf.trans (belowK_b (w:=w) (zM _) wf D _ _ zO df rfl rfl);have kf:=qa rf2;refine⟨zA3,.inl ⟨_,_,rfl,run_takeDeferred df,vd 8,?_,_,rfl,(show TN _ (QD l) _ _ by rw[hQ];exact⟨8,zA1,rfl⟩),bf2⟩⟩;simp[results,results67,go_sem,kf]
     ·rw[hQ] at hu7;obtain⟨A,c,rfl,hi,hz⟩:=hu7;replace hz:=zH hz;go_wp2;generalize aZ:(World.alloc _ _)=wf;have rf:wf.heap[w.heap.size+1]?=some (.cells #[.int .i64 lvl,.slice A xs.length c] 49 (0,0)):=by rw[<-aZ];exact(zK _ _ _ (by simpa using s7)).trans (qi (qi q7 0 _) 1 _)
      have df:wf.heap[D]?=some (.deferred (some [])):=by rw[<-aZ];exact(zK _ _ _ (by simpa using sD7)).trans ((zJ _ _ _ _ zA2).trans ((zJ _ _ _ _ zA2).trans d7))
      have bf:Below w.heap.size w wf:=by rw[<-aZ];exact Below.alloc (Below.setCell (Below.setCell x7 (p:=⟨w.heap.size+1,0,none⟩) zA3 _) (p:=⟨w.heap.size+1,1,none⟩) zA3 _) zA2 _
      have rf2:(wf.putObj D (.deferred none)).heap[w.heap.size+1]?=_:=(World.putObj_heap_other zO).trans rf;have bf2:Below w.heap.size w (wf.putObj D (.deferred none)):=bf.trans (belowK_b (w:=w) (zM _) wf D _ _ zO df rfl rfl);have kf:=qa rf2;have hfi:Zv W'.heap.size (wf.putObj D (.deferred none)) (.slice A xs.length c) xs:=by
       refine hi.keep (by have:=bf2.size;rw[<-aZ];simp[World.putObj]) (fun p h1 h2=>?_);by_cases hpD:p.block=D
       ·exfalso;omega
       ·rw[World.cell?_of_block (World.putObj_heap_other zO),<-aZ,World.cell?_alloc_lt _ _ _ (by simpa using h2),World.cell?_setCell_other _ _ _ _ (fun e=>by subst e;simp at h1;omega),World.cell?_setCell_other _ _ _ _ (fun e=>by subst e;simp at h1;omega)]
      have hzf:NzI (wf.putObj D (.deferred none)) (.slice A xs.length c):=by
       have lM:∀ b off n c',Value.slice A xs.length c=.slice (some ⟨b,off,none⟩) n c'->0<n->W'.heap.size<=b/\b<w7.heap.size:=fun b off n c' e hn=>by obtain⟨-,-,-,h4⟩:=hi.its.at_;have h5:W'.heap.size<=(⟨b,0,none⟩:Addr).block:=XF hi b off n c' 0 e hn;simp only[Value.slice.injEq] at e;obtain⟨b6,o6,e6,e7⟩:=h4 zO;rw[e.1] at e6;simp only[Option.some.injEq,Addr.mk.injEq] at e6;simp only at h5;omega
       refine hz.out.keep (fun b off n c' e hn j=>?_) (fun u hu=>Nz.put ?_ df (fun cs ty e=>by cases e))
       ·obtain⟨h1,h2⟩:=lM b off n c' e hn;rw[World.cell?_of_block (World.putObj_heap_other zA2),<-aZ,World.cell?_alloc_lt _ _ _ (by simpa using h2),World.cell?_setCell_other _ _ _ _ (fun e=>by simp only[Addr.mk.injEq] at e;omega),World.cell?_setCell_other _ _ _ _ (fun e=>by simp only[Addr.mk.injEq] at e;omega)]
       ·rw[<-aZ];exact((hu.setCell _ _).setCell _ _).ext (zN _ _)
      refine⟨zA3,.inl ⟨_,_,rfl,run_takeDeferred df,.tuple #[je lvl A xs.length c,.int .i64 0],?_,_,rfl,(show TN _ (QD l) _ _ by rw[hQ];exact⟨A,c,rfl,hfi.mono zO,hzf⟩),bf2⟩⟩;simp[results,results67,go_sem,kf]
theorem vy (lo bb:Nat) (A1:Option Addr) (n1 c1:Nat) (A2:Option Addr) (n2 c2:Nat) (A3:Option Addr) (n3 c3:Nat) (A4:Option Addr) (n4 c4:Nat) (S:Sto) (hS:qo S=true) (a:Nat) (ha:8<=a) (bK:a<256) (w:World) (h:OnB lo bb (.slice A1 n1 c1) (.slice A2 n2 c2) (.slice A3 n3 c3) (.slice A4 n4 c4) S w):Calls prog 67 #[.pointer (some ⟨bb,0,none⟩),.int .i64 (a:Int)] w (QV (UV w.heap.size (qv S a)) w):=
 (qeN lo bb A1 n1 c1 A2 n2 c2 A3 n3 c3 A4 n4 c4 S hS a ha bK w h).mono fun _ _ ⟨u,he,hu,hB⟩=>⟨u,he,hu.nodeP,hB⟩
end Go.Proofs.YtpbniokljofedaaGreat
namespace Go.Proofs.YtpbniokljofedaaGreat
open Go.RowKit Go.ChangeMaps
def UD (a:Int) (e:MapEntry):Bool:=match e.key with | .int _ b=>b == a|_=>false
def qfY (es:List MapEntry):Prop:=∀ e∈es,∃ b,e.key=.int .i64 b
def Kl (es:List MapEntry) (a:Int):Option Value:=(es.find? (UD a)).map (·.val)
theorem Vb (a:Int):∀ (l:List MapEntry) (i:Nat),qfY l -> (Instr.findNow (.int .i64) (.int .i64 a) l i=some none/\l.find? (UD a)=none) \/ ∃ k e,l[k]?=some e/\Instr.findNow (.int .i64) (.int .i64 a) l i=some (some (i+k,e.val))/\l.find? (UD a)=some e/\e.key=.int .i64 a /\ ∀ v b,Kl (l.modify k fun e=>{ e with key:=.int .i64 a,val:=v }) b=if b=a then some v else Kl l b
 | [],i,_=>.inl ⟨rfl,rfl⟩
 |e :: l,i,h=>by
  obtain⟨c,hc⟩:=h e zA3;have hk:UD a e=(c == a):=by unfold UD;rw[hc]
  by_cases hca:c=a
  ·subst hca;refine .inr ⟨0,e,rfl,?_,?_,hc,fun v b=>?_⟩
   ·simp[Instr.findNow,Instr.sameNow,hc]
   ·simp[hk]
   ·by_cases hb:b=c
    ·subst hb;simp[Kl,List.modify_zero_cons,UD]
    ·have bg:(c == b)=false:=by simpa using fun h=>hb h.symm
     rw[if_neg hb];simp[Kl,List.modify_zero_cons,UD,hc,bg]
  ·have hca':(c == a)=false:=by simpa using hca
   have hac:(a == c)=false:=by simpa using fun h=>hca h.symm
   rcases Vb a l (i+1) (fun e he=>h e (by simp[he])) with ⟨h1,h2⟩|⟨k,e2,h1,h2,h3,h4,h5⟩
   ·exact .inl ⟨by simp[Instr.findNow,Instr.sameNow,hc,hac,h1],by simp[hk,hca',h2]⟩
   ·refine .inr ⟨k+1,e2,by simpa using h1,by simp[Instr.findNow,Instr.sameNow,hc,hac,h2];omega,by simp[hk,hca',h3],h4,fun v b=>?_⟩;have:=h5 v b;by_cases hb:b=c
    ·subst hb;rw[if_neg hca];simp[Kl,List.modify_succ_cons,UD,hc]
    ·have bg:(c == b)=false:=by simpa using fun h=>hb h.symm
     have e1:UD b e=false:=by unfold UD;rw[hc];exact bg
     unfold Kl at this ⊢;rw[List.modify_succ_cons,List.find?_cons,e1,List.find?_cons,e1];exact this
def QU (w:World) (mb:Nat) (f:Int->Option Value):Prop:=∃ es clock,w.heap[mb]?=some (.map es clock)/\qfY es.toList/\∀ a,Kl es.toList a=f a
theorem QU.of_heap {w w':World} {mb:Nat} {f:Int->Option Value} (h:QU w mb f) (he:w'.heap[mb]?=w.heap[mb]?):QU w' mb f:=by obtain⟨es,clock,h1,h2⟩:=h;exact⟨es,clock,he.trans h1,h2⟩
section
variable {P:Program} {w:World} {mb:Nat} {f:Int->Option Value}
theorem jH {k:TypeId} (hk:P.underlying k=some (.int .i64)) (e:Bool) (a:Int):(Instr.checkKey e 10000 k (.int .i64 a)).run P w=.ok () w:=by show (Instr.checkKey e (9999+1) k (.int .i64 a)).run P w=_;rw[Instr.checkKey];simp[run_underlying hk]
theorem Jc {k:TypeId} (hk:P.underlying k=some (.int .i64)) {a:Int} {l:List MapEntry} {r:Option (Nat×Value)} (h:Instr.findNow (.int .i64) (.int .i64 a) l 0=some r):(Instr.findKey k (.int .i64 a) l).run P w=.ok r w:=by simp[Instr.findKey,run_underlying hk,h,Result.andThen]
theorem qaK (a:Int):(Instr.keyThatStays (.int .i64 a) (.int .i64 a)).run P w=.ok (.int .i64 a) w:=by
 have:Instr.sameBits 10000 (.int .i64 a) (.int .i64 a)=true:=by show Instr.sameBits (9999+1) _ _=true;simp[Instr.sameBits]
 simp[Instr.keyThatStays,this]
theorem qaI (h:QU w mb f) (t k e:TypeId) (z:Value) (ht:P.underlying t=some (.map k e)) (hk:P.underlying k=some (.int .i64)) (hz:(zeroValue e).run P w=.ok z w) (a:Int) : (Instr.lookup t (.map (some mb)) (.int .i64 a) true).run P w=.ok (.tuple #[(f a).getD z,.bool (f a).isSome]) w:=by
 obtain⟨es,clock,hb,yA,hf⟩:=h;rw[<-hf a];rcases Vb a es.toList 0 yA with ⟨h1,h2⟩|⟨j,e2,h1,h2,h3,h4,_⟩
 ·simp[Instr.lookup,run_underlying ht,MapKept.run_getObj_map hb,jH hk,Jc hk h1,Kl,h2,hz,Result.andThen]
 ·simp[Instr.lookup,run_underlying ht,MapKept.run_getObj_map hb,jH hk,Jc hk h2,Kl,h3,Result.andThen]
theorem TH (h:QU w mb f) (t k e:TypeId) (ht:P.underlying t=some (.map k e)) (hk:P.underlying k=some (.int .i64)) (a:Int) (v:Value) : ∃ w',(Instr.mapUpdate t (.map (some mb)) (.int .i64 a) v).run P w=.ok () w'/\QU w' mb (fun b=>if b=a then some v else f b)/\w.grownBy w' (some mb):=by
 obtain⟨es,clock,hb,yA,hf⟩:=h;have hg:∀ o,w.grownBy (setBlock w mb o) (some mb):=fun o=>by refine⟨rfl,rfl,rfl,by simp[setBlock],fun j _ hj=>?_⟩;have aN:¬mb=j:=fun e=>hj (by rw[e]);simp[setBlock,aN]
 have hs:∀ o,(setBlock w mb o).heap[mb]?=some o:=fun o=>by have:=(zG.1 hb).1;simp[setBlock,this]
 rcases Vb a es.toList 0 yA with ⟨h1,h2⟩|⟨j,e2,h1,h2,h3,h4,h5⟩
 ·refine⟨_,by simp[Instr.mapUpdate,run_underlying ht,MapKept.run_getObj_map hb,jH hk,Jc hk h1,MapKept.run_setObj_map _ hb,Result.andThen];rfl,⟨_,_,hs _,?_,fun b=>?_⟩,hg _⟩
  ·intro e he;simp only[Array.toList_push,List.mem_append,List.mem_singleton] at he;rcases he with he|rfl
   ·exact yA e he
   ·exact⟨a,rfl⟩
  ·have lu:=hf b;unfold Kl at lu ⊢;rw[Array.toList_push,List.find?_append];show _=if b=a then some v else f b
   by_cases hba:b=a
   ·subst hba;rw[if_pos rfl,h2];simp[UD]
   ·rw[if_neg hba,<-lu];have:(a == b)=false:=by simpa using fun h=>hba h.symm
    simp[UD,this]
 ·have hj:(es[j]?)=some e2:=by simpa using h1
  refine⟨_,by simp[Instr.mapUpdate,run_underlying ht,MapKept.run_getObj_map hb,jH hk,Jc hk h2,hj,h4,qaK,MapKept.run_setObj_map _ hb,Result.andThen];rfl,⟨_,_,hs _,?_,fun b=>?_⟩,hg _⟩
  ·intro e he;rw[Array.toList_modify] at he;obtain⟨i,hi⟩:=List.getElem?_of_mem he;rw[List.getElem?_modify] at hi;split at hi
   ·simp only[Option.map_eq_map,Option.map_eq_some_iff] at hi;obtain⟨e0,_,rfl⟩:=hi;exact⟨a,rfl⟩
   ·simp only[Option.map_eq_map,Option.map_id',Option.map_id] at hi;exact yA e (List.mem_of_getElem? hi)
  ·show _=if b=a then some v else f b
   rw[Array.toList_modify,h5 v b,hf b]
end
end Go.Proofs.YtpbniokljofedaaGreat
