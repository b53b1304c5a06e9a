/- Texts BackW, BNode, Map, joined. -/
import Derived.Maps.Keyed
import Derived.Test.YtpbniokljofedaaGreatZH06
set_option linter.unusedSimpArgs false
set_option linter.unusedVariables false
set_option maxHeartbeats 8000000
open Go.Proofs.Tryz
namespace Go.Proofs.YtpbniokljofedaaGreat
open Go.RowKit Go.Shelf
attribute [local go_sem] Oper.semAt_some
abbrev Sl:Type:=Option Addr×Nat×Nat
abbrev sv (s:Sl):Value:=.slice s.1 s.2.1 s.2.2
abbrev W2:Type:=Int×Sl
abbrev w2z:W2:=(0,none,0,0)
set_option maxRecDepth 100000 in
theorem backW_in (n:Nat) (hn:1<=n) (l Bs b off len cap:Nat) (us:List W2) (ag:len<1099511627776) (J Jx:List (Nat×W2)->World->Prop) (hY:∀ pre x W,J pre W->pre.length<len->YieldAt Fence.wide (n-1) prog l #[.int .i64 (x.1:Int),.agg #[.int .i64 x.2.1,sv x.2.2]] W fun e W' =>
   (e=.returned (.bool true)/\J (pre++[x]) W'/\Qi Bs b W W')\/(e=.returned (.bool false)/\Jx (pre++[x]) W'))
  (W:World) (fM:W.cell? ⟨Bs,0,none⟩=some (.slice (some ⟨b,off,none⟩) len cap)) (hc:∀ i,i<len->W.cell? ⟨b,off+i*2,none⟩=some (.int .i64 (us[i]?.getD w2z).1)/\W.cell? ⟨b,off+i*2+1,none⟩=some (sv (us[i]?.getD w2z).2)) (h0:J [] W) :
  CallsIn Fence.wide n prog 141 #[.func (.yield l) #[] #[],.pointer (some ⟨Bs,0,none⟩)] W fun e W'=>(∃ v,e=.returned v) /\
   ((∃ ys,ys=Zl (fun j=>(len-1-j,us[len-1-j]?.getD w2z)) len/\J ys W')\/(∃ pre,(∃ k,k<=len/\pre=Zl (fun j=>(len-1-j,us[len-1-j]?.getD w2z)) k)/\Jx pre W')):=by
 refine callsIn_of_wp func141 rfl trivial ?_ rfl;simp only[ntmps141,List.size_toArray,List.length_cons,List.length_nil,Nat.reduceAdd,Nat.reduceSub,Array.replicate_succ,Array.replicate_zero,List.push_toArray,List.append_toArray,List.nil_append,List.cons_append]
 gi_wp2
 gi_loopw [3] (fun i wr=>∃ k:Nat,k<=len/\i=.int .i64 ((len:Int)-1-k)/\J (Zl (fun j=>(len-1-j,us[len-1-j]?.getD w2z)) k) wr/\Qi Bs b W wr)
  (fun i _=>(intOf i+1).toNat)
 case atStart=>exact⟨0,Nat.zero_le _,zA3,h0,Qi.refl _ _ _⟩
 case round =>
  obtain⟨k,hk,rfl,eu,dP⟩:=hrel;have hBr:wr.cell? ⟨Bs,0,none⟩=some (.slice (some ⟨b,off,none⟩) len cap):=(World.cell?_of_block (w:=W) dP.1).trans fM;by_cases hlt:k<len
  ·have tY:=(World.cell?_of_block (w:=W) (a:=⟨b,off+(len-1-k)*2,none⟩) dP.2).trans (hc (len-1-k) zO).1;have hcy:=(World.cell?_of_block (w:=W) (a:=⟨b,off+(len-1-k)*2+1,none⟩) dP.2).trans (hc (len-1-k) zO).2;obtain⟨fn,tmps,assign,body,hy,hR⟩:=hY _ (len-1-k,us[len-1-k]?.getD w2z) wr eu (by rw[zj];exact hlt);dsimp only at hy;obtain⟨i,hi⟩:∃ i:Nat,len-1-k=i:=⟨_,rfl⟩
   have dD:(len:Int)-1-k=(i:Int):=zO;have hil:i<len:=zO;have hik:k+i+1<=len/\len<=k+i+1:=zO;have HU:=zH (Jt (fun j=>(len-1-j,us[len-1-j]?.getD w2z)) k);obtain⟨u,hu⟩:∃ u,us[i]?.getD w2z=u:=⟨_,rfl⟩
   rw[hi] at tY hcy hy hR;rw[hu] at tY hcy hy hR;rw[dD];clear dD;have HE:=zH hu;clear hu;have HI:=zH hi;clear hi
   gi_wp2
   refine hR.mono ?_;rintro e W3 (⟨rfl,wu,iO⟩|⟨rfl,gp⟩)
   ·gi_wp2
    go_roundw
    case rel=>exact⟨k+1,zO,by go_num,by rw[HU.out,HI.out,HE.out];exact wu,dP.t iO⟩
    case measure=>simp[intOf]
   ·gi_wp2
    refine bodyPost_ret (results_none rfl _ _ _) rfl ?_;exact⟨⟨_,rfl⟩,.inr ⟨_,⟨k+1,zO,by rw[HU.out,HI.out,HE.out]⟩,gp⟩⟩
  ·obtain rfl:k=len:=zO
   gi_wp2
   go_end0;exact⟨⟨_,rfl⟩,.inl ⟨_,rfl,eu⟩⟩
set_option maxRecDepth 100000 in
theorem qbs (n l Bs c:Nat) (A:Option Addr) (J:List (Nat×W2)->World->Prop) (W:World) (fM:W.cell? ⟨Bs,0,none⟩=some (.slice A 0 c)) (h0:J [] W):CallsIn Fence.wide n prog 141 #[.func (.yield l) #[] #[],.pointer (some ⟨Bs,0,none⟩)] W fun e W'=>(∃ v,e=.returned v)/\J [] W':=by
 refine callsIn_of_wp func141 rfl trivial ?_ rfl;simp only[ntmps141,List.size_toArray,List.length_cons,List.length_nil,Nat.reduceAdd,Nat.reduceSub,Array.replicate_succ,Array.replicate_zero,List.push_toArray,List.append_toArray,List.nil_append,List.cons_append]
 gi_wp2
 gi_loopw [3] (fun i wr=>i=.int .i64 (-1)/\J [] wr) (fun _ _=>0)
 case atStart=>exact⟨rfl,h0⟩
 case round =>
  obtain⟨rfl,eu⟩:=hrel
  gi_wp2
  go_end0;exact⟨⟨_,rfl⟩,eu⟩
def YM (us:List W2) (k:Nat):List (Nat×W2):=Zl (fun j=>(us.length-1-j,us[us.length-1-j]?.getD w2z)) k
def SW (W:World) (Bs b:Nat) (v:Value) (us:List W2):Prop:=
 W.cell? ⟨Bs,0,none⟩=some v/\((us=[]/\∃ A c,v=.slice A 0 c)\/∃ off cap,v=.slice (some ⟨b,off,none⟩) us.length cap/\∀ i,i<us.length->W.cell? ⟨b,off+i*2,none⟩=some (.int .i64 (us[i]?.getD w2z).1)/\W.cell? ⟨b,off+i*2+1,none⟩=some (sv (us[i]?.getD w2z).2))
theorem SW.keep {W W':World} {Bs b:Nat} {v:Value} {us:List W2} (h:SW W Bs b v us) (hk:Qi Bs b W W'):SW W' Bs b v us:=by
 refine⟨(World.cell?_of_block (w:=W) hk.1).trans h.1,?_⟩;rcases h.2 with h|⟨off,cap,e,hc⟩
 ·exact .inl h
 ·exact .inr ⟨off,cap,e,fun i hi=>⟨(World.cell?_of_block (w:=W) hk.2).trans (hc i hi).1,(World.cell?_of_block (w:=W) hk.2).trans (hc i hi).2⟩⟩
theorem qcE (n:Nat) (hn:1<=n) (Bs b:Nat) (v:Value) (us:List W2) (ag:us.length<1099511627776) (w:World) (fM:Bs<w.heap.size) (hb:b<w.heap.size) (hS:SW w Bs b v us):SeqStopsK Fence.wide n prog 141 #[.pointer (some ⟨Bs,0,none⟩)] (fun x:Nat×W2=>#[.int .i64 (x.1:Int),.agg #[.int .i64 x.2.1,sv x.2.2]]) (Qi Bs b) (fun ys=>ys=YM us us.length)
   (fun pre=>∃ k,k<=us.length/\pre=YM us k) us.length w:=fun l J Jx W hW _ _ hY h0=>by
 obtain⟨hc,h⟩:=hS.keep (Qi.below hW fM hb);rcases h with ⟨rfl,A,c,rfl⟩|⟨off,cap,rfl,bU⟩
 ·exact(qbs n l Bs c A J W hc h0).mono fun e W' ⟨he,hj⟩=>⟨he,.inl ⟨_,rfl,hj⟩⟩
 ·exact backW_in n hn l Bs b off us.length cap us ag J Jx hY W hc bU h0
theorem Ys (A:Option Addr) (m c:Nat) (w:World):Calls prog 91 #[.slice A m c] w (fun e w'=>e=.returned (.func (.func 141) #[] #[.pointer (some ⟨w.heap.size,0,none⟩)])/\w'=w.alloc (.cells #[.slice A m c] 23)):=by
 go_enter func91,ntmps91;go_wp2;go_ret;exact⟨rfl,rfl⟩
def Vx:Value->Sl
 | .slice A n c=>(A,n,c)
 |_=>(none,0,0)
theorem TQ {ws:List (Int×List UInt8)} {a:Int}:∀ (d m:Nat),m+d=ws.length->(∀ i,m<=i->(h:i<ws.length)->ws[i].1≠a)->jz ws a=jz (ws.take m) a:=by
 intro d;induction d with
 |zero=>intro m hm _;rw[show m=ws.length by omega,List.take_length]
 |succ d ih =>
  intro m hm h;rw[ih (m+1) zO (fun i hi hl=>h i zO hl),Vb zO,if_neg (h m (zM _) zO)]
theorem YN (us:List W2) (k j:Nat) (h:j<k):(YM us k)[j]?=some (us.length-1-j,us[us.length-1-j]?.getD w2z):=by unfold YM Zl;rw[List.getElem?_map,List.getElem?_range h];rfl
theorem qgy {ps:List ((Int×List UInt8)×Value)} {a:Int} {k:Nat} {pre:List (Nat×W2)} {x:Nat×W2} (hk:k<=ps.length) (he:pre++[x]=YM (ps.map fun p=>(p.1.1,Vx p.2)) k) (hx:x.2.1=a) (hp:∀ y∈pre,y.2.1≠a):∃ p∈ps,x.2.2=Vx p.2/\jz (ps.map (·.1)) a=some p.1.2:=by
 have hl:pre.length+1=k:=by have:=congrArg List.length he;simpa [YM,Zl] using this
 have hlen:(ps.map fun p=>((p.1.1,Vx p.2):W2)).length=ps.length:=zA3;have hxk:some x=some (ps.length-1-pre.length,(ps.map fun p=>((p.1.1,Vx p.2):W2))[ps.length-1-pre.length]?.getD w2z):=by rw[<-hlen,<-YN _ k pre.length zO,<-he];simp
 have hi:ps.length-1-pre.length<ps.length:=zO;simp only[Option.some.injEq] at hxk;rw[List.getElem?_map,zL hi] at hxk;refine⟨ps[ps.length-1-pre.length],List.getElem_mem _,by rw[hxk];rfl,?_⟩;have hPJ:=TQ (ws:=ps.map (·.1)) (a:=a) pre.length (ps.length-1-pre.length+1) zA2 (fun i h1 h2=>by
  have h2':i<ps.length:=by simpa using h2
  have hj:ps.length-1-i<pre.length:=zO;have hy:pre[ps.length-1-i]?=some (i,(ps.map fun p=>((p.1.1,Vx p.2):W2))[i]?.getD w2z):=by have h3:=YN (ps.map fun p=>((p.1.1,Vx p.2):W2)) k (ps.length-1-i) zO;rw[<-he,List.getElem?_append_left hj,hlen,show ps.length-1-(ps.length-1-i)=i by omega] at h3;exact h3
  have:=hp _ (List.mem_of_getElem? hy);rw[List.getElem?_map,zL h2'] at this;simpa using this)
 rw[hPJ,Vb zA2];have hx':ps[ps.length-1-pre.length].1.1=a:=by rw[<-hx,hxk];rfl
 simp[hx']
theorem qgx {ps:List ((Int×List UInt8)×Value)} {a:Int} (hp:∀ y∈YM (ps.map fun p=>((p.1.1,Vx p.2):W2)) ps.length,y.2.1≠a):jz (ps.map (·.1)) a=none:=by
 have hlen:(ps.map fun p=>((p.1.1,Vx p.2):W2)).length=ps.length:=zA3;rw[TQ (ws:=ps.map (·.1)) (a:=a) ps.length 0 zA3 (fun i _ h2=>by
  have h2':i<ps.length:=by simpa using h2
  have h3:=YN (ps.map fun p=>((p.1.1,Vx p.2):W2)) ps.length (ps.length-1-i) zO;rw[hlen,show ps.length-1-(ps.length-1-i)=i by omega] at h3;have:=hp _ (List.mem_of_getElem? h3);rw[List.getElem?_map,zL h2'] at this;simpa using this)]
 rfl
theorem Qs {β:Type} (B b:Nat) (cs:Array Value) (ty:TypeId):OwnFrom B (fun (_:β) W=>W.heap[b]?=some (.cells cs ty (0,0))):=fun _ A _ row hs hg hr =>
 (hg.block b (zG.1 hs).1 (fun e=>by obtain⟨_,o,ho,hc⟩:=hr b e.symm;rw[hs] at ho;cases ho;cases hc)).trans hs
theorem kK {β:Type} (B:Nat) (p:β->Prop):OwnFrom B (fun s _=>p s):=fun _ _ _ _ hs _ _=>hs
set_option maxRecDepth 100000 in
theorem qew (lo bb:Nat) (A1:Option Addr) (n1 c1:Nat) (A2:Option Addr) (n2 c2:Nat) (A3:Option Addr) (n3 c3:Nat) (A4:Option Addr) (n4 c4:Nat) (S:Sto) (hS:qm S=true) (a:Nat) (ha:8<=a) (bK:a<256) (w:World) (h:OnB lo bb (.slice A1 n1 c1) (.slice A2 n2 c2) (.slice A3 n3 c3) (.slice A4 n4 c4) S w):Calls prog 67 #[.pointer (some ⟨bb,0,none⟩),.int .i64 (a:Int)] w (QV (Tw w.heap.size (qv S a)) w):=by
 obtain⟨nz,uU,mW,hl4⟩:=qR hS;obtain⟨_,aC,aH⟩:=h;obtain⟨xZ,rY,sH,hA3⟩:=aH.now.at_;obtain⟨b3,o3,rfl,dF⟩:=hA3 zO;have aF:w.cell? ⟨b3,o3+a,none⟩=some (.int .u8 ((S.now[a]?.getD 0).toNat:Int)):=by obtain⟨A',c',e,_,_,hr⟩:=aH.now;cases e;obtain⟨b',off',e,_,hc⟩:=hr.2 zO;cases e;exact hc a _ (by rw[List.getElem?_map,zL zO];rfl)
 obtain⟨rH,dS,hm1,hA1⟩:=aH.bs.at_;obtain⟨b1,o1,rfl,bG⟩:=hA1 zO;obtain⟨A0,c0,uK,xH⟩:=aH.bs.get a zO;have hN:qv S a=if (S.now[a]?.getD 0).toNat=0 then none else QD (Jc S a):=rfl
 rw[hN];have HR:=zH (fun v W (hv:Bys W W.heap.size v (Jc S a))=>Gq v (Jc S a) W hv);have eY:Jc S a=match jz S.ws a with|some l=>l|none=>S.bs[a]:=by unfold Jc;rw[zL zO];rfl
 have hn3':n3=256:=by rw[xZ,mW]
 have hJN:n1=256:=by rw[rH,nz]
 have dO:bb<w.heap.size:=(zG.1 aC).1;generalize S.bs[a]=l0 at *;generalize Jc S a=l at *;generalize (S.now[a]?.getD 0).toNat=nw at *;replace eY:=zH eY;obtain⟨ps,cO,⟨A2',c2',e2,aA,cZ,aK⟩,hw4⟩:=aH.ws;rw[<-cO] at eY e2 aA aK uU;clear hN xZ rH hS aH nz mW hl4 hA3 hA1 cO;subst hn3';subst hJN;simp only[Value.slice.injEq] at e2;obtain⟨rfl,aQ,rfl⟩:=e2;rw[<-aQ] at aA aK uU;replace aQ:=zH aQ;by_cases h0:nw=0
 ·rw[if_pos h0];refine(callsIn_wide (n:=3)).1 ?_;refine callsIn_of_wp_marks func67 rfl trivial ?_ rfl;simp only[ntmps67,List.size_toArray,List.length_cons,List.length_nil,Nat.reduceAdd,Nat.reduceSub,Array.replicate_succ,Array.replicate_zero,List.push_toArray,List.append_toArray,List.nil_append,List.cons_append];refine wpIn_wide.2 ?_;go_wp2;generalize aA:(World.alloc (World.alloc _ _) _)=w1;have x1:Ext w w1:=by rw[<-aA];exact(zN _ _).trans (zN _ _)
  have r1:w1.heap[w.heap.size]?=some (.cells #[.int .i64 (a:Int)] 3 (0,0)):=by rw[<-aA];exact(zK _ _ _ zA3).trans (zI _ _ _ rfl)
  have q1:w1.heap[w.heap.size+1]?=some (.cells #[.int .i64 0,.slice none 0 0] 49 (0,0)):=by rw[<-aA];exact zI _ _ _ zA3
  clear aA;have oJ:=qb aC x1;have gB:∀ W,qk.r w1 W->∀ i,W.cell? ⟨bb,i,none⟩=#[.slice (some ⟨b1,o1,none⟩) 256 c1,.slice A2 n2 c2,.slice (some ⟨b3,o3,none⟩) 256 c3,.slice A4 n4 c4][i]?:=fun W h=>qa (qb oJ h);have gA:∀ W,qk.r w1 W->W.cell? ⟨w.heap.size,0,none⟩=some (.int .i64 (a:Int)):=fun W h=>by rw[qa (qb r1 h)];rfl
  have gN:∀ W,qk.r w1 W->W.cell? ⟨b3,o3+a,none⟩=some (.int .u8 (nw:Int)):=fun W h=>Ext.cell (x1.trans h) aF;have ia:(a:Int)<256:=zO;refine qo zQ ?_;refine Zn (w:=w1) qk (qD []) [true,true,true,true,true,true,true,true,true] 0 zQ zQ zQ zQ zQ zQ ?st (Rel.drew _ _) ?walk
  case st=>exact qj (fun _ h=>by cases h)
  case walk =>
   intro K hK;dsimp only[qp];repeat ((first|(refine qd ?_ zA0 zA0 (fun W hW _=>⟨W,?_,Rel.refl _ W⟩) ?_;rotate_left;(go_simp<;>with_reducible rfl))|(refine qh zA0 ?_));try simp only[Act.put,ql,qf,qc,qg,zA,zB,zC])
   first
    |(refine qd (.pointer (some ⟨b3,o3+a,none⟩)) zA0 zA0 (fun W hW _=>⟨W,?_,Rel.refl _ W⟩) ?_
      ·go_simp;rw[IntWalk.i64_in (a:Int) zO,if_pos zO];simp
      simp only[Act.put,ql,qf,qc,qg,zA,zB,zC])
    |skip
   repeat ((first|(refine qd ?_ zA0 zA0 (fun W hW _=>⟨W,?_,Rel.refl _ W⟩) ?_;rotate_left;(go_simp<;>with_reducible rfl))|(refine qh zA0 ?_));try simp only[Act.put,ql,qf,qc,qg,zA,zB,zC])
   refine qu (hK _ _ fun W hW hF=>?_);clear hF hK gB gA gN;have ax:Ext w1 W:=hW;have x2:Ext w W:=x1.trans ax;have q2:=qb q1 ax;refine zB5 ?_;clear hW ax x1 r1 q1 oJ;have k2:=qa q2;have f2:=qe q2;go_wp2;refine Qo ?_;go_wp2;generalize aZ:(World.setCell (World.setCell _ _ _) _ _)=wf;have rf:wf.heap[w.heap.size+1]?=some (.cells #[.int .i64 0,.slice none 0 0] 49 (0,0)):=by rw[<-aZ];exact qi (qi q2 0 _) 1 _
   have bf:Below w.heap.size w wf:=by rw[<-aZ];exact Below.setCell (Below.setCell x2 (p:=⟨w.heap.size+1,0,none⟩) zA3 _) (p:=⟨w.heap.size+1,1,none⟩) zA3 _
   have kf:=qa rf;refine⟨JW 8,?_,⟨_,rfl,⟨8,zA1,rfl⟩,bf⟩⟩;simp[results,results67,go_sem,kf]
 ·rw[if_neg h0];have hnw:((nw:Int) == 0)=false:=by rw[beq_eq_false_iff_ne];omega
  refine(callsIn_wide (n:=3)).1 ?_;refine callsIn_of_wp_marks func67 rfl trivial ?_ rfl;simp only[ntmps67,List.size_toArray,List.length_cons,List.length_nil,Nat.reduceAdd,Nat.reduceSub,Array.replicate_succ,Array.replicate_zero,List.push_toArray,List.append_toArray,List.nil_append,List.cons_append];refine wpIn_wide.2 ?_;go_wp2;generalize aA:(World.alloc (World.alloc _ _) _)=w1;have x1:Ext w w1:=by rw[<-aA];exact(zN _ _).trans (zN _ _)
  have r1:w1.heap[w.heap.size]?=some (.cells #[.int .i64 (a:Int)] 3 (0,0)):=by rw[<-aA];exact(zK _ _ _ zA3).trans (zI _ _ _ rfl)
  have q1:w1.heap[w.heap.size+1]?=some (.cells #[.int .i64 0,.slice none 0 0] 49 (0,0)):=by rw[<-aA];exact zI _ _ _ zA3
  clear aA;have oJ:=qb aC x1;have gB:∀ W,qk.r w1 W->∀ i,W.cell? ⟨bb,i,none⟩=#[.slice (some ⟨b1,o1,none⟩) 256 c1,.slice A2 n2 c2,.slice (some ⟨b3,o3,none⟩) 256 c3,.slice A4 n4 c4][i]?:=fun W h=>qa (qb oJ h);have gA:∀ W,qk.r w1 W->W.cell? ⟨w.heap.size,0,none⟩=some (.int .i64 (a:Int)):=fun W h=>by rw[qa (qb r1 h)];rfl
  have gN:∀ W,qk.r w1 W->W.cell? ⟨b3,o3+a,none⟩=some (.int .u8 (nw:Int)):=fun W h=>Ext.cell (x1.trans h) aF;have ia:(a:Int)<256:=zO;refine qo zQ ?_;refine Zn (w:=w1) qk (qD []) [true,true,true,true,true,true,true,true,true] 0 zQ zQ zQ zQ zQ zQ ?st (Rel.drew _ _) ?walk
  case st=>exact qj (fun _ h=>by cases h)
  case walk =>
   intro K hK;dsimp only[qp];repeat ((first|(refine qd ?_ zA0 zA0 (fun W hW _=>⟨W,?_,Rel.refl _ W⟩) ?_;rotate_left;(go_simp<;>with_reducible rfl))|(refine qh zA0 ?_));try simp only[Act.put,ql,qf,qc,qg,zA,zB,zC])
   first
    |(refine qd (.pointer (some ⟨b3,o3+a,none⟩)) zA0 zA0 (fun W hW _=>⟨W,?_,Rel.refl _ W⟩) ?_
      ·go_simp;rw[IntWalk.i64_in (a:Int) zO,if_pos zO];simp
      simp only[Act.put,ql,qf,qc,qg,zA,zB,zC])
    |skip
   repeat ((first|(refine qd ?_ zA0 zA0 (fun W hW _=>⟨W,?_,Rel.refl _ W⟩) ?_;rotate_left;(go_simp<;>with_reducible rfl))|(refine qh zA0 ?_));try simp only[Act.put,ql,qf,qc,qg,zA,zB,zC])
   refine qu (hK _ _ fun W hW hF=>?_);clear hF hK gB gA gN;have ax:Ext w1 W:=hW;have x2:Ext w W:=x1.trans ax;have r2:=qb r1 ax;have q2:=qb q1 ax;have hAY:=qb oJ ax;have s2:w.heap.size+1<W.heap.size:=(zG.1 q2).1;refine zB5 ?_;clear hW ax x1 r1 q1 oJ;go_wp2;refine Qo ?_;go_wp2;have gB:∀ W',qk.r W W'->∀ i,W'.cell? ⟨bb,i,none⟩=#[.slice (some ⟨b1,o1,none⟩) 256 c1,.slice A2 n2 c2,.slice (some ⟨b3,o3,none⟩) 256 c3,.slice A4 n4 c4][i]?:=fun W' h=>qa (qb hAY h);have gA:∀ W',qk.r W W'->W'.cell? ⟨w.heap.size,0,none⟩=some (.int .i64 (a:Int)):=fun W' h=>by rw[qa (qb r2 h)];rfl
   have gN:∀ W',qk.r W W'->W'.cell? ⟨b1,o1+a,none⟩=some (.slice A0 l0.length c0):=fun W' h=>Ext.cell (x2.trans h) uK;refine qo zQ ?_;refine Zn (w:=W) qk (qD [(9,jM W.heap.size 26 #[.slice none 0 0])]) [true,true,true,true,true,true,true,true,true,true] 1 zQ zQ zQ zQ zQ zQ ?st (Rel.drew _ _) ?walk
   case st=>exact qj (by simp only[List.forall_mem_cons];exact⟨fun p=>QI (ZV _ _ _ p),fun _ h=>by cases h⟩)
   case walk =>
    intro K hK;dsimp only[qp];repeat ((first|(refine qd ?_ zA0 zA0 (fun W hW _=>⟨W,?_,Rel.refl _ W⟩) ?_;rotate_left;(go_simp<;>with_reducible rfl))|(refine qh zA0 ?_));try simp only[Act.put,ql,qf,qc,qg,zA,zB,zC])
    first
     |(refine qd (.pointer (some ⟨b1,o1+a,none⟩)) zA0 zA0 (fun W hW _=>⟨W,?_,Rel.refl _ W⟩) ?_
       ·go_simp;rw[IntWalk.i64_in (a:Int) zO,if_pos zO];simp
       simp only[Act.put,ql,qf,qc,qg,zA,zB,zC])
     |skip
    repeat ((first|(refine qd ?_ zA0 zA0 (fun W hW _=>⟨W,?_,Rel.refl _ W⟩) ?_;rotate_left;(go_simp<;>with_reducible rfl))|(refine qh zA0 ?_));try simp only[Act.put,ql,qf,qc,qg,zA,zB,zC])
    refine qw (jM W.heap.size 26 #[.slice none 0 0]) zA0 zA0 (fun W' hW _=>?_) (fun (p9:Nat)=>?_)
    ·refine jR ?_ (Below.size hW);go_simp
    simp only[Act.put,qf,qc,qg,zA,zB,zC];refine qu (hK _ _ fun W3 hW hF=>?_);obtain⟨f9,aO⟩:W3.heap[p9]?=some (.cells #[.slice none 0 0] 26 (0,0))/\W.heap.size<=p9:=(hF 9).1;clear hF hK gB gA gN;have ax:Ext W W3:=hW;have r3:=qb r2 ax;have q3:=qb q2 ax;have hQT:=qb hAY ax;have x3:Ext w W3:=x2.trans ax;have k9:=qa f9;have h9:=qe f9;refine zB5 ?_;go_wp2;refine Qo ?_;have x4:Ext W (W3.setCell ⟨p9,0,none⟩ (.slice A0 l0.length c0)):=Below.setCell ax (p:=⟨p9,0,none⟩) aO _;have f4:=qi f9 0 (.slice A0 l0.length c0);generalize hw4:(World.setCell W3 _ _)=w4 at *;have r4:=qb r2 x4;have q4:=qb q2 x4;have hAZ:=qb hAY x4;have xw4:Ext w w4:=x2.trans x4;have k4:=qa hAZ;clear hw4 k9 h9 f9 hW ax r3 q3 hQT x3;go_wp2_with fail;refine(Ys A2 n2 c2 w4).mono ?_;rintro e w5 ⟨rfl,rfl⟩;go_wp2;have hsz4:w.heap.size+1<w4.heap.size:=(zG.1 q4).1;have hp4:p9<w4.heap.size:=(zG.1 f4).1;have x5:Ext w4 (w4.alloc (.cells #[.slice A2 n2 c2] 23)):=zN _ _;have lL:(ps.map fun p=>((p.1.1,Vx p.2):W2)).length=n2:=by rw[aQ.out];simp
    have bT:ps.length=n2:=by rw[aQ.out];simp
    obtain⟨b2,bI,yY⟩:∃ b2,b2<w.heap.size/\SW (w4.alloc (.cells #[.slice A2 n2 c2] 23)) w4.heap.size b2 (.slice A2 n2 c2) (ps.map fun p=>((p.1.1,Vx p.2):W2)):=by
     have yj:(w4.alloc (.cells #[.slice A2 n2 c2] 23)).cell? ⟨w4.heap.size,0,none⟩=some (.slice A2 n2 c2):=by rw[qa (zI _ _ _ rfl)];rfl
     rcases Nat.eq_zero_or_pos n2 with hz|hz
     ·have:ps=[]:=List.eq_nil_of_length_eq_zero zO;exact⟨bb,dO,yj,.inl ⟨by rw[this];rfl,A2,c2,by rw[hz]⟩⟩
     ·obtain⟨b2,o2,rfl,hlt,hc⟩:=aK.2 hz;refine⟨b2,hlt,yj,.inr ⟨o2,c2,by rw[lL],fun i hi=>?_⟩⟩;have gz:i<ps.length:=by simpa using hi
      obtain⟨g0,g1⟩:=KU ps i gz;have hx:=xw4.trans x5;refine⟨?_,?_⟩
      ·rw[Ext.cell hx (hc _ _ g0),List.getElem?_map,zL gz];rfl
      ·obtain⟨⟨A',c',e'⟩,_⟩:=hw4 ps[i] (List.getElem_mem gz);rw[Nat.add_assoc,Ext.cell hx (hc _ _ g1),List.getElem?_map,zL gz];simp only[Option.map_some,Option.getD_some];rw[e'];rfl
    refine(wpIn_wide (n:=3)).1 ?_;refine wpIn_rangeFunc_ownH rfl zO (gf:=141) (lb:=#[.pointer (some ⟨w4.heap.size,0,none⟩)]) rfl trivial (enters_of func141 zQ rfl)
     (qcE (3-1) zO w4.heap.size b2 _ _ (by rw[lL];omega) _ zA3 zA2 yY) Qi.t (Qi.b zA3 zA2) (Below.refl _ _) (fun _=>rfl)
     (fun pre W'=>((W'.heap[w.heap.size]?=some (.cells #[.int .i64 (a:Int)] 3 (0,0))/\W'.heap[w.heap.size+1]?=some (.cells #[.int .i64 0,.slice none 0 0] 49 (0,0)))/\(W'.heap[p9]?=some (.cells #[.slice A0 l0.length c0] 26 (0,0))/\W'.heap[w4.heap.size]?=some (.cells #[.slice A2 n2 c2] 23 (0,0))))/\(Below w.heap.size w W'/\∀ y∈pre,y.2.1≠(a:Int)))
     (fun c pre W'=>((W'.heap[w.heap.size+1]?=some (.cells #[.int .i64 0,.slice none 0 0] 49 (0,0)))/\∃ pre' x,W'.heap[p9]?=some (.cells #[sv x.2.2] 26 (0,0))/\c=.exit 0/\pre=pre'++[x]/\x.2.1=(a:Int)/\∀ y∈pre',y.2.1≠(a:Int))/\Below w.heap.size w W')
     (OwnFrom.and (OwnFrom.and (OwnFrom.and (Qs _ _ _ _) (Qs _ _ _ _)) (OwnFrom.and (Qs _ _ _ _) (Qs _ _ _ _))) (OwnFrom.and (ownFrom_below (zM _) zA2) (kK _ _)))
     (fun c=>OwnFrom.and (OwnFrom.and (Qs _ _ _ _) (fun s A C row hs hg hr=>by obtain⟨pre',x,h1,h2⟩:=hs;exact⟨pre',x,Qs (β:=Unit) _ _ _ _ () A C row h1 hg hr,h2⟩)) (ownFrom_below (zM _) zA2))
     ⟨⟨⟨qb r4 x5,qb q4 x5⟩,qb f4 x5,zI _ _ _ rfl⟩,xw4.trans x5,fun y hy=>by cases hy⟩
     (fun x a' W'=>∃ t8,a'={ tmps:=#[.pointer (some ⟨bb,0,none⟩),.int .i64 (a:Int),undef,.pointer (some ⟨w.heap.size,0,none⟩),.pointer (some ⟨w.heap.size+1,0,none⟩),.int .i64 0,.pointer (some ⟨p9,0,none⟩),undef,.pointer (some ⟨t8,0,none⟩),undef,undef,
       .pointer (some ⟨bb,0,none⟩),.pointer (some ⟨bb,0,none⟩),.pointer (some ⟨bb,0,none⟩),.pointer (some ⟨bb,2,none⟩),.slice (some ⟨b3,o3,none⟩) 256 c3,.int .i64 (a:Int),.pointer (some ⟨b3,o3+a,none⟩),.int .u8 (nw:Int),.bool false,undef,
       .pointer (some ⟨bb,0,none⟩),.pointer (some ⟨bb,0,none⟩),.pointer (some ⟨bb,0,none⟩),.pointer (some ⟨bb,0,none⟩),.pointer (some ⟨bb,0,none⟩),.slice (some ⟨b1,o1,none⟩) 256 c1,.int .i64 (a:Int),.pointer (some ⟨b1,o1+a,none⟩),.slice A0 l0.length c0,
       .pointer (some ⟨bb,0,none⟩),.pointer (some ⟨bb,0,none⟩),.pointer (some ⟨bb,0,none⟩),.pointer (some ⟨bb,0,none⟩),.pointer (some ⟨bb,1,none⟩),.slice A2 n2 c2,.func (.func 141) #[] #[.pointer (some ⟨w4.heap.size,0,none⟩)],
       .int .i64 (x.1:Int),.agg #[.int .i64 x.2.1,sv x.2.2],undef,undef,undef,undef,undef,undef,undef,undef,undef,undef,undef,undef,undef,undef,undef],defers:=[] }/\W'.heap[t8]?=some (.cells #[.int .i64 x.2.1,sv x.2.2] 130 (0,0)))
     (fun x a' s A C row hs hg hr=>by obtain⟨t8,e,h⟩:=hs;exact⟨t8,e,Qs (β:=Unit) _ _ _ _ () A C row h hg hr⟩) ?assign ?body ?done ?stop
    case assign =>
     rintro l' pre x W' K ⟨⟨⟨i1,i2⟩,i3,i6⟩,i4,i5⟩ hK
     gi_wp2
     have z1:=(zG.1 i1).1;have z2:=(zG.1 i2).1;have z3:=(zG.1 i3).1;have z6:=(zG.1 i6).1;have z4:=i4.size;refine hK _ _ ((KeepsOthers.alloc _ _).from _) ⟨zK _ _ _ z6,zK _ _ _ zO⟩ ⟨⟨⟨(zK _ _ _ z1).trans i1,(zK _ _ _ z2).trans i2⟩,(zK _ _ _ z3).trans i3,(zK _ _ _ z6).trans i6⟩,Below.alloc i4 z4 _,i5⟩ ⟨W'.heap.size,rfl,zI _ _ _ rfl⟩
    case body =>
     rintro l' pre x a' W' hl ⟨rr,hlp⟩ ⟨⟨⟨i1,i2⟩,i3,i6⟩,i4,i5⟩ ⟨t8,rfl,sU⟩ _;have k8:=qa sU;have k1:=qa i1;by_cases hq:x.2.1=(a:Int)
     ·have sS:(x.2.1 == (a:Int))=true:=by rw[beq_iff_eq];exact hq
      have k9:=qa i3;have f9:=qe i3
      gi_wp2
      refine⟨(KeepsOthers.setCell _ _ _).from _,⟨(zJ _ _ _ _ zA2).trans i2,pre,x,qi i3 0 _,rfl,rfl,hq,i5⟩,Below.setCell i4 (p:=⟨p9,0,none⟩) zA2 _⟩
     ·have sS:(x.2.1 == (a:Int))=false:=by rw[beq_eq_false_iff_ne];exact hq
      gi_wp2
      refine⟨KeepsFrom.refl _ _,Qi.refl _ _ _,⟨⟨i1,i2⟩,i3,i6⟩,i4,fun y hy=>?_⟩;rcases List.mem_append.1 hy with h|h
      ·exact i5 y h
      ·obtain rfl:y=x:=by simpa using h
       exact hq
    case done =>
     rintro D ys W' hD rfl ⟨⟨⟨i1,it4⟩,ip,_⟩,i4,i5⟩ hK;have hll:l=l0:=by rw[eY.out,qgx (by rw[List.length_map] at i5;exact i5)]
     have ai:Bys W' W'.heap.size (.slice A0 l0.length c0) l:=by rw[hll];exact(xH.below i4).more i4.size
     clear hll;have x6:Below w.heap.size w W':=i4;have hJZ:=x6.size;have hD6:D<W'.heap.size:=(zG.1 hK).1;have hDw:w.heap.size+1<D:=by simp at hD;omega
     have kp:=qa ip;go_wp2_with fail;refine(HR.out _ _ ai).mono ?_;rintro e w7 ⟨u7,rfl,hu7,hB⟩;have q7:=qb it4 hB;have d7:w7.heap[D]?=some (.deferred (some [])):=(hB.block D hD6).trans hK;have x7:Below w.heap.size w w7:=Below.trans x6 (Below.mono hB hJZ);have s7:w.heap.size+1<w7.heap.size:=(zG.1 q7).1;have sD7:D<w7.heap.size:=(zG.1 d7).1;have k7:=qa q7;have f7:=qe q7;clear kp HR ai hB;rcases hQ:QD l with _|⟨lvl,xs⟩
     ·rw[hQ] at hu7;obtain⟨er,pG,rfl⟩:=hu7;have hJP:(er != 0)=true:=by rw[bne_iff_ne];exact pG
      go_wp2;generalize aZ:(World.alloc _ _)=wf;have rf:wf.heap[w.heap.size+1]?=some (.cells #[.int .i64 0,.slice none 0 0] 49 (0,0)):=by rw[<-aZ];exact(zK _ _ _ (by simpa using s7)).trans (qi (qi q7 0 _) 1 _)
      have df:wf.heap[D]?=some (.deferred (some [])):=by rw[<-aZ];exact(zK _ _ _ (by simpa using sD7)).trans ((zJ _ _ _ _ zA2).trans ((zJ _ _ _ _ zA2).trans d7))
      have bf:Below w.heap.size w wf:=by rw[<-aZ];exact Below.alloc (Below.setCell (Below.setCell x7 (p:=⟨w.heap.size+1,0,none⟩) zA3 _) (p:=⟨w.heap.size+1,1,none⟩) zA3 _) zA2 _
      have rf2:(wf.putObj D (.deferred none)).heap[w.heap.size+1]?=_:=(World.putObj_heap_other zO).trans rf;have bf2:Below w.heap.size w (wf.putObj D (.deferred none)):=bf.trans (belowK_b (w:=w) (zM _) wf D _ _ zO df rfl rfl);have kf:=qa rf2;refine⟨zA3,.inl ⟨_,_,rfl,run_takeDeferred df,JW 8,?_,_,rfl,(show Tw _ (QD l) _ _ by rw[hQ];exact⟨8,zA1,rfl⟩),bf2⟩⟩;simp[results,results67,go_sem,kf]
     ·rw[hQ] at hu7;obtain⟨A,c,rfl,hi,hz⟩:=hu7;replace hz:=zH hz;go_wp2;generalize aZ:(World.alloc _ _)=wf;have rf:wf.heap[w.heap.size+1]?=some (.cells #[.int .i64 lvl,.slice A xs.length c] 49 (0,0)):=by rw[<-aZ];exact(zK _ _ _ (by simpa using s7)).trans (qi (qi q7 0 _) 1 _)
      have df:wf.heap[D]?=some (.deferred (some [])):=by rw[<-aZ];exact(zK _ _ _ (by simpa using sD7)).trans ((zJ _ _ _ _ zA2).trans ((zJ _ _ _ _ zA2).trans d7))
      have bf:Below w.heap.size w wf:=by rw[<-aZ];exact Below.alloc (Below.setCell (Below.setCell x7 (p:=⟨w.heap.size+1,0,none⟩) zA3 _) (p:=⟨w.heap.size+1,1,none⟩) zA3 _) zA2 _
      have rf2:(wf.putObj D (.deferred none)).heap[w.heap.size+1]?=_:=(World.putObj_heap_other zO).trans rf;have bf2:Below w.heap.size w (wf.putObj D (.deferred none)):=bf.trans (belowK_b (w:=w) (zM _) wf D _ _ zO df rfl rfl);have kf:=qa rf2;have hfi:Zt W'.heap.size (wf.putObj D (.deferred none)) (.slice A xs.length c) xs:=by
       refine hi.keep (by have:=bf2.size;rw[<-aZ];simp[World.putObj]) (fun p h1 h2=>?_);by_cases hpD:p.block=D
       ·exfalso;omega
       ·rw[World.cell?_of_block (World.putObj_heap_other zO),<-aZ,World.cell?_alloc_lt _ _ _ (by simpa using h2),World.cell?_setCell_other _ _ _ _ (fun e=>by subst e;simp at h1;omega),World.cell?_setCell_other _ _ _ _ (fun e=>by subst e;simp at h1;omega)]
      have hzf:NzI (wf.putObj D (.deferred none)) (.slice A xs.length c):=by
       have iw:∀ b off n c',Value.slice A xs.length c=.slice (some ⟨b,off,none⟩) n c'->0<n->W'.heap.size<=b/\b<w7.heap.size:=fun b off n c' e hn=>by obtain⟨-,-,-,h4⟩:=hi.its.at_;have h5:W'.heap.size<=(⟨b,0,none⟩:Addr).block:=Xu hi b off n c' 0 e hn;simp only[Value.slice.injEq] at e;obtain⟨b6,o6,e6,e7⟩:=h4 zO;rw[e.1] at e6;simp only[Option.some.injEq,Addr.mk.injEq] at e6;simp only at h5;omega
       refine hz.out.keep (fun b off n c' e hn j=>?_) (fun u hu=>Nz.put ?_ df (fun cs ty e=>by cases e))
       ·obtain⟨h1,h2⟩:=iw b off n c' e hn;rw[World.cell?_of_block (World.putObj_heap_other zA2),<-aZ,World.cell?_alloc_lt _ _ _ (by simpa using h2),World.cell?_setCell_other _ _ _ _ (fun e=>by simp only[Addr.mk.injEq] at e;omega),World.cell?_setCell_other _ _ _ _ (fun e=>by simp only[Addr.mk.injEq] at e;omega)]
       ·rw[<-aZ];exact((hu.setCell _ _).setCell _ _).ext (zN _ _)
      refine⟨zA3,.inl ⟨_,_,rfl,run_takeDeferred df,.tuple #[jd lvl A xs.length c,.int .i64 0],?_,_,rfl,(show Tw _ (QD l) _ _ by rw[hQ];exact⟨A,c,rfl,hfi.mono zO,hzf⟩),bf2⟩⟩;simp[results,results67,go_sem,kf]
    case stop =>
     rintro D c pre W' hD ⟨k,hk,hpre⟩ ⟨⟨it4,pre',x,ip,rfl,rfl,hx,gZ⟩,i4⟩ hK;rw[lL,<-bT] at hk;obtain⟨xi,xa,A9,n9,c9⟩:=x;obtain⟨p,af,hp1,nP⟩:=qgy hk hpre hx gZ;have hll:l=p.1.2:=by rw[eY.out,nP]
     have ai:Bys W' W'.heap.size (.slice A9 n9 c9) l:=by
      obtain⟨⟨A',c',e'⟩,hb'⟩:=hw4 p af;have h9:Value.slice A9 n9 c9=p.2:=by have e9:(A9,n9,c9)=Vx p.2:=hp1;rw[e'] at e9 ⊢;simp only[Vx,Prod.mk.injEq] at e9;rw[e9.1,e9.2.1,e9.2.2]
      rw[h9,hll];exact(hb'.below i4).more i4.size
     clear hll hp1 nP af hx gZ;replace ip:W'.heap[p9]?=some (.cells #[.slice A9 n9 c9] 26 (0,0)):=ip;have x6:Below w.heap.size w W':=i4;have hJZ:=x6.size;have hD6:D<W'.heap.size:=(zG.1 hK).1;have hDw:w.heap.size+1<D:=by simp at hD;omega
     have kp:=qa ip
     gi_wp2
     go_wp2_with fail;refine(HR.out _ _ ai).mono ?_;rintro e w7 ⟨u7,rfl,hu7,hB⟩;have q7:=qb it4 hB;have d7:w7.heap[D]?=some (.deferred (some [])):=(hB.block D hD6).trans hK;have x7:Below w.heap.size w w7:=Below.trans x6 (Below.mono hB hJZ);have s7:w.heap.size+1<w7.heap.size:=(zG.1 q7).1;have sD7:D<w7.heap.size:=(zG.1 d7).1;have k7:=qa q7;have f7:=qe q7;clear kp HR ai hB;rcases hQ:QD l with _|⟨lvl,xs⟩
     ·rw[hQ] at hu7;obtain⟨er,pG,rfl⟩:=hu7;have hJP:(er != 0)=true:=by rw[bne_iff_ne];exact pG
      go_wp2;generalize aZ:(World.alloc _ _)=wf;have rf:wf.heap[w.heap.size+1]?=some (.cells #[.int .i64 0,.slice none 0 0] 49 (0,0)):=by rw[<-aZ];exact(zK _ _ _ (by simpa using s7)).trans (qi (qi q7 0 _) 1 _)
      have df:wf.heap[D]?=some (.deferred (some [])):=by rw[<-aZ];exact(zK _ _ _ (by simpa using sD7)).trans ((zJ _ _ _ _ zA2).trans ((zJ _ _ _ _ zA2).trans d7))
      have bf:Below w.heap.size w wf:=by rw[<-aZ];exact Below.alloc (Below.setCell (Below.setCell x7 (p:=⟨w.heap.size+1,0,none⟩) zA3 _) (p:=⟨w.heap.size+1,1,none⟩) zA3 _) zA2 _
      have rf2:(wf.putObj D (.deferred none)).heap[w.heap.size+1]?=_:=(World.putObj_heap_other zO).trans rf;have bf2:Below w.heap.size w (wf.putObj D (.deferred none)):=bf.trans (belowK_b (w:=w) (zM _) wf D _ _ zO df rfl rfl);have kf:=qa rf2;refine⟨zA3,.inl ⟨_,_,rfl,run_takeDeferred df,JW 8,?_,_,rfl,(show Tw _ (QD l) _ _ by rw[hQ];exact⟨8,zA1,rfl⟩),bf2⟩⟩;simp[results,results67,go_sem,kf]
     ·rw[hQ] at hu7;obtain⟨A,c,rfl,hi,hz⟩:=hu7;replace hz:=zH hz;go_wp2;generalize aZ:(World.alloc _ _)=wf;have rf:wf.heap[w.heap.size+1]?=some (.cells #[.int .i64 lvl,.slice A xs.length c] 49 (0,0)):=by rw[<-aZ];exact(zK _ _ _ (by simpa using s7)).trans (qi (qi q7 0 _) 1 _)
      have df:wf.heap[D]?=some (.deferred (some [])):=by rw[<-aZ];exact(zK _ _ _ (by simpa using sD7)).trans ((zJ _ _ _ _ zA2).trans ((zJ _ _ _ _ zA2).trans d7))
      have bf:Below w.heap.size w wf:=by rw[<-aZ];exact Below.alloc (Below.setCell (Below.setCell x7 (p:=⟨w.heap.size+1,0,none⟩) zA3 _) (p:=⟨w.heap.size+1,1,none⟩) zA3 _) zA2 _
      have rf2:(wf.putObj D (.deferred none)).heap[w.heap.size+1]?=_:=(World.putObj_heap_other zO).trans rf;have bf2:Below w.heap.size w (wf.putObj D (.deferred none)):=bf.trans (belowK_b (w:=w) (zM _) wf D _ _ zO df rfl rfl);have kf:=qa rf2;have hfi:Zt W'.heap.size (wf.putObj D (.deferred none)) (.slice A xs.length c) xs:=by
       refine hi.keep (by have:=bf2.size;rw[<-aZ];simp[World.putObj]) (fun p h1 h2=>?_);by_cases hpD:p.block=D
       ·exfalso;omega
       ·rw[World.cell?_of_block (World.putObj_heap_other zO),<-aZ,World.cell?_alloc_lt _ _ _ (by simpa using h2),World.cell?_setCell_other _ _ _ _ (fun e=>by subst e;simp at h1;omega),World.cell?_setCell_other _ _ _ _ (fun e=>by subst e;simp at h1;omega)]
      have hzf:NzI (wf.putObj D (.deferred none)) (.slice A xs.length c):=by
       have iw:∀ b off n c',Value.slice A xs.length c=.slice (some ⟨b,off,none⟩) n c'->0<n->W'.heap.size<=b/\b<w7.heap.size:=fun b off n c' e hn=>by obtain⟨-,-,-,h4⟩:=hi.its.at_;have h5:W'.heap.size<=(⟨b,0,none⟩:Addr).block:=Xu hi b off n c' 0 e hn;simp only[Value.slice.injEq] at e;obtain⟨b6,o6,e6,e7⟩:=h4 zO;rw[e.1] at e6;simp only[Option.some.injEq,Addr.mk.injEq] at e6;simp only at h5;omega
       refine hz.out.keep (fun b off n c' e hn j=>?_) (fun u hu=>Nz.put ?_ df (fun cs ty e=>by cases e))
       ·obtain⟨h1,h2⟩:=iw b off n c' e hn;rw[World.cell?_of_block (World.putObj_heap_other zA2),<-aZ,World.cell?_alloc_lt _ _ _ (by simpa using h2),World.cell?_setCell_other _ _ _ _ (fun e=>by simp only[Addr.mk.injEq] at e;omega),World.cell?_setCell_other _ _ _ _ (fun e=>by simp only[Addr.mk.injEq] at e;omega)]
       ·rw[<-aZ];exact((hu.setCell _ _).setCell _ _).ext (zN _ _)
      refine⟨zA3,.inl ⟨_,_,rfl,run_takeDeferred df,.tuple #[jd lvl A xs.length c,.int .i64 0],?_,_,rfl,(show Tw _ (QD l) _ _ by rw[hQ];exact⟨A,c,rfl,hfi.mono zO,hzf⟩),bf2⟩⟩;simp[results,results67,go_sem,kf]
theorem vq (lo bb:Nat) (A1:Option Addr) (n1 c1:Nat) (A2:Option Addr) (n2 c2:Nat) (A3:Option Addr) (n3 c3:Nat) (A4:Option Addr) (n4 c4:Nat) (S:Sto) (hS:qm S=true) (a:Nat) (ha:8<=a) (bK:a<256) (w:World) (h:OnB lo bb (.slice A1 n1 c1) (.slice A2 n2 c2) (.slice A3 n3 c3) (.slice A4 n4 c4) S w):Calls prog 67 #[.pointer (some ⟨bb,0,none⟩),.int .i64 (a:Int)] w (QV (UH w.heap.size (qv S a)) w):=
 (qew lo bb A1 n1 c1 A2 n2 c2 A3 n3 c3 A4 n4 c4 S hS a ha bK w h).mono fun _ _ ⟨u,he,hu,hB⟩=>⟨u,he,hu.nodeP,hB⟩
end Go.Proofs.YtpbniokljofedaaGreat
namespace Go.Proofs.YtpbniokljofedaaGreat
open Go.RowKit Go.ChangeMaps
def Uo (a:Int) (e:MapEntry):Bool:=match e.key with | .int _ b=>b == a|_=>false
def qfI (es:List MapEntry):Prop:=∀ e∈es,∃ b,e.key=.int .i64 b
def kZ (es:List MapEntry) (a:Int):Option Value:=(es.find? (Uo a)).map (·.val)
theorem vY (a:Int):∀ (l:List MapEntry) (i:Nat),qfI l -> (Instr.findNow (.int .i64) (.int .i64 a) l i=some none/\l.find? (Uo a)=none) \/ ∃ k e,l[k]?=some e/\Instr.findNow (.int .i64) (.int .i64 a) l i=some (some (i+k,e.val))/\l.find? (Uo a)=some e/\e.key=.int .i64 a /\ ∀ v b,kZ (l.modify k fun e=>{ e with key:=.int .i64 a,val:=v }) b=if b=a then some v else kZ l b
 | [],i,_=>.inl ⟨rfl,rfl⟩
 |e :: l,i,h=>by
  obtain⟨c,hc⟩:=h e zA3;have hk:Uo a e=(c == a):=by unfold Uo;rw[hc]
  by_cases hca:c=a
  ·subst hca;refine .inr ⟨0,e,rfl,?_,?_,hc,fun v b=>?_⟩
   ·simp[Instr.findNow,Instr.sameNow,hc]
   ·simp[hk]
   ·by_cases hb:b=c
    ·subst hb;simp[kZ,List.modify_zero_cons,Uo]
    ·have bg:(c == b)=false:=by simpa using fun h=>hb h.symm
     rw[if_neg hb];simp[kZ,List.modify_zero_cons,Uo,hc,bg]
  ·have hca':(c == a)=false:=by simpa using hca
   have hac:(a == c)=false:=by simpa using fun h=>hca h.symm
   rcases vY a l (i+1) (fun e he=>h e (by simp[he])) with ⟨h1,h2⟩|⟨k,e2,h1,h2,h3,h4,h5⟩
   ·exact .inl ⟨by simp[Instr.findNow,Instr.sameNow,hc,hac,h1],by simp[hk,hca',h2]⟩
   ·refine .inr ⟨k+1,e2,by simpa using h1,by simp[Instr.findNow,Instr.sameNow,hc,hac,h2];omega,by simp[hk,hca',h3],h4,fun v b=>?_⟩;have:=h5 v b;by_cases hb:b=c
    ·subst hb;rw[if_neg hca];simp[kZ,List.modify_succ_cons,Uo,hc]
    ·have bg:(c == b)=false:=by simpa using fun h=>hb h.symm
     have e1:Uo b e=false:=by unfold Uo;rw[hc];exact bg
     unfold kZ at this ⊢;rw[List.modify_succ_cons,List.find?_cons,e1,List.find?_cons,e1];exact this
def QU (w:World) (mb:Nat) (f:Int->Option Value):Prop:=∃ es clock,w.heap[mb]?=some (.map es clock)/\qfI es.toList/\∀ a,kZ es.toList a=f a
theorem QU.of_heap {w w':World} {mb:Nat} {f:Int->Option Value} (h:QU w mb f) (he:w'.heap[mb]?=w.heap[mb]?):QU w' mb f:=by obtain⟨es,clock,h1,h2⟩:=h;exact⟨es,clock,he.trans h1,h2⟩
section
variable {P:Program} {w:World} {mb:Nat} {f:Int->Option Value}
theorem jF {k:TypeId} (hk:P.underlying k=some (.int .i64)) (e:Bool) (a:Int):(Instr.checkKey e 10000 k (.int .i64 a)).run P w=.ok () w:=by show (Instr.checkKey e (9999+1) k (.int .i64 a)).run P w=_;rw[Instr.checkKey];simp[run_underlying hk]
theorem Jb {k:TypeId} (hk:P.underlying k=some (.int .i64)) {a:Int} {l:List MapEntry} {r:Option (Nat×Value)} (h:Instr.findNow (.int .i64) (.int .i64 a) l 0=some r):(Instr.findKey k (.int .i64 a) l).run P w=.ok r w:=by simp[Instr.findKey,run_underlying hk,h,Result.andThen]
theorem qax (a:Int):(Instr.keyThatStays (.int .i64 a) (.int .i64 a)).run P w=.ok (.int .i64 a) w:=by
 have:Instr.sameBits 10000 (.int .i64 a) (.int .i64 a)=true:=by show Instr.sameBits (9999+1) _ _=true;simp[Instr.sameBits]
 simp[Instr.keyThatStays,this]
theorem qav (h:QU w mb f) (t k e:TypeId) (z:Value) (ht:P.underlying t=some (.map k e)) (hk:P.underlying k=some (.int .i64)) (hz:(zeroValue e).run P w=.ok z w) (a:Int) : (Instr.lookup t (.map (some mb)) (.int .i64 a) true).run P w=.ok (.tuple #[(f a).getD z,.bool (f a).isSome]) w:=by
 obtain⟨es,clock,hb,xU,hf⟩:=h;rw[<-hf a];rcases vY a es.toList 0 xU with ⟨h1,h2⟩|⟨j,e2,h1,h2,h3,h4,_⟩
 ·simp[Instr.lookup,run_underlying ht,MapKept.run_getObj_map hb,jF hk,Jb hk h1,kZ,h2,hz,Result.andThen]
 ·simp[Instr.lookup,run_underlying ht,MapKept.run_getObj_map hb,jF hk,Jb hk h2,kZ,h3,Result.andThen]
theorem Tr (h:QU w mb f) (t k e:TypeId) (ht:P.underlying t=some (.map k e)) (hk:P.underlying k=some (.int .i64)) (a:Int) (v:Value) : ∃ w',(Instr.mapUpdate t (.map (some mb)) (.int .i64 a) v).run P w=.ok () w'/\QU w' mb (fun b=>if b=a then some v else f b)/\w.grownBy w' (some mb):=by
 obtain⟨es,clock,hb,xU,hf⟩:=h;have hg:∀ o,w.grownBy (setBlock w mb o) (some mb):=fun o=>by refine⟨rfl,rfl,rfl,by simp[setBlock],fun j _ hj=>?_⟩;have aN:¬mb=j:=fun e=>hj (by rw[e]);simp[setBlock,aN]
 have hs:∀ o,(setBlock w mb o).heap[mb]?=some o:=fun o=>by have:=(zG.1 hb).1;simp[setBlock,this]
 rcases vY a es.toList 0 xU with ⟨h1,h2⟩|⟨j,e2,h1,h2,h3,h4,h5⟩
 ·refine⟨_,by simp[Instr.mapUpdate,run_underlying ht,MapKept.run_getObj_map hb,jF hk,Jb hk h1,MapKept.run_setObj_map _ hb,Result.andThen];rfl,⟨_,_,hs _,?_,fun b=>?_⟩,hg _⟩
  ·intro e he;simp only[Array.toList_push,List.mem_append,List.mem_singleton] at he;rcases he with he|rfl
   ·exact xU e he
   ·exact⟨a,rfl⟩
  ·have hb':=hf b;unfold kZ at hb' ⊢;rw[Array.toList_push,List.find?_append];show _=if b=a then some v else f b
   by_cases hba:b=a
   ·subst hba;rw[if_pos rfl,h2];simp[Uo]
   ·rw[if_neg hba,<-hb'];have:(a == b)=false:=by simpa using fun h=>hba h.symm
    simp[Uo,this]
 ·have hj:(es[j]?)=some e2:=by simpa using h1
  refine⟨_,by simp[Instr.mapUpdate,run_underlying ht,MapKept.run_getObj_map hb,jF hk,Jb hk h2,hj,h4,qax,MapKept.run_setObj_map _ hb,Result.andThen];rfl,⟨_,_,hs _,?_,fun b=>?_⟩,hg _⟩
  ·intro e he;rw[Array.toList_modify] at he;obtain⟨i,hi⟩:=List.getElem?_of_mem he;rw[List.getElem?_modify] at hi;split at hi
   ·simp only[Option.map_eq_map,Option.map_eq_some_iff] at hi;obtain⟨e0,_,rfl⟩:=hi;exact⟨a,rfl⟩
   ·simp only[Option.map_eq_map,Option.map_id',Option.map_id] at hi;exact xU e (List.mem_of_getElem? hi)
  ·show _=if b=a then some v else f b
   rw[Array.toList_modify,h5 v b,hf b]
end
end Go.Proofs.YtpbniokljofedaaGreat
