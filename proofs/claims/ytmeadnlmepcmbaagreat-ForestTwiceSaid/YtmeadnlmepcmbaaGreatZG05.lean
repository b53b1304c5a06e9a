/- Lemmas of the proof. -/
import Derived.Maps.Keyed
import Derived.Maps.OwnOps
import Derived.Test.YtmeadnlmepcmbaaGreatZG04
set_option linter.all false
set_option maxHeartbeats 8000000
open Go.Proofs.Tryz
namespace Go.Proofs.YtmeadnlmepcmbaaGreat
open Go.RowKit Go.Shelf
attribute [local go_sem] Oper.semAt_some
def kh:Value->Sl
 |.slice A n c=>(A,n,c)
 |_=>(none,0,0)
theorem qaz{ws:List (Int×List UInt8)}{a:Int}:∀(d m:Nat),m+d=ws.length->(∀i,m<=i->(h:i<ws.length)->ws[i].1≠a)->jA ws a=jA (ws.take m) a:=by
 intro d;induction d with
 |zero=>intro m hm _;rw[show m=ws.length by omega,List.take_length]
 |succ d ih=>
  intro m hm h;rw[ih (m+1) zO (λi hi hl=>h i zO hl),KF zO,if_neg (h m (zM _) zO)]
theorem TU(us:List W2)(k j:Nat)(h:j<k):(TT us k)[j]?=some (us.length-1-j,us[us.length-1-j]?.getD w2z):=by unfold TT ZO;rw[List.getElem?_map,List.getElem?_range h];rfl
theorem qkn{ps:List ((Int×List UInt8)×Value)}{a:Int}{k:Nat}{pre:List (Nat×W2)}{x:Nat×W2}(hk:k<=ps.length)(he:pre++[x]=TT (ps.map λp=>(p.1.1,kh p.2)) k)(hx:x.2.1=a)(hp:∀y∈pre,y.2.1≠a):∃p∈ps,x.2.2=kh p.2/\jA (ps.map (·.1)) a=some p.1.2:=by
 have hl:pre.length+1=k:=by have:=congrArg List.length he;simpa [TT,ZO]using this
 have hlen:(ps.map λp=>((p.1.1,kh p.2):W2)).length=ps.length:=zA3;have hxk:some x=some (ps.length-1-pre.length,(ps.map λp=>((p.1.1,kh p.2):W2))[ps.length-1-pre.length]?.getD w2z):=by rw[<-hlen,<-TU _ k pre.length zO,<-he];simp
 have hi:ps.length-1-pre.length<ps.length:=zO;simp only[Option.some.injEq]at hxk;rw[List.getElem?_map,zL hi]at hxk;refine⟨ps[ps.length-1-pre.length],List.getElem_mem _,by rw[hxk];rfl,?_⟩;have wWA:=qaz (ws:=ps.map (·.1)) (a:=a) pre.length (ps.length-1-pre.length+1) zA2 (λi h1 h2=>by
  have h2':i<ps.length:=by simpa using h2
  have hj:ps.length-1-i<pre.length:=zO;have hy:pre[ps.length-1-i]?=some (i,(ps.map λp=>((p.1.1,kh p.2):W2))[i]?.getD w2z):=by have h3:=TU (ps.map λp=>((p.1.1,kh p.2):W2)) k (ps.length-1-i) zO;rw[<-he,List.getElem?_append_left hj,hlen,show ps.length-1-(ps.length-1-i)=i by omega]at h3;exact h3
  have:=hp _ (List.mem_of_getElem? hy);rw[List.getElem?_map,zL h2']at this;simpa using this)
 rw[wWA,KF zA2];have hx':ps[ps.length-1-pre.length].1.1=a:=by rw[<-hx,hxk];rfl
 simp[hx']
theorem qkm{ps:List ((Int×List UInt8)×Value)}{a:Int}(hp:∀y∈TT (ps.map λp=>((p.1.1,kh p.2):W2)) ps.length,y.2.1≠a):jA (ps.map (·.1)) a=none:=by
 have hlen:(ps.map λp=>((p.1.1,kh p.2):W2)).length=ps.length:=zA3;rw[qaz (ws:=ps.map (·.1)) (a:=a) ps.length 0 zA3 (λi _ h2=>by
  have h2':i<ps.length:=by simpa using h2
  have h3:=TU (ps.map λp=>((p.1.1,kh p.2):W2)) ps.length (ps.length-1-i) zO;rw[hlen,show ps.length-1-(ps.length-1-i)=i by omega]at h3;have:=hp _ (List.mem_of_getElem? h3);rw[List.getElem?_map,zL h2']at this;simpa using this)]
 rfl
theorem QF{β:Type}(B b:Nat)(cs:Array Value)(ty:TypeId):OwnFrom B (λ(_:β) W=>W.heap[b]?=some (.cells cs ty (0,0))):=λ_ A _ row hs hg hr=>
 (hg.block b (zG.1 hs).1 (λe=>by obtain⟨_,o,ho,hc⟩:=hr b e.symm;rw[hs]at ho;cases ho;cases hc)).trans hs
theorem Gf{β:Type}(B:Nat)(p:β->Prop):OwnFrom B (λs _=>p s):=λ_ _ _ _ hs _ _=>hs
set_option maxRecDepth 100000 in
theorem qbv(lo bb:Nat)(A1 n1 c1 A2 n2 c2 A3 n3 c3 A4 n4 c4)(S:Sto)(hS:qm S=true)(a:Nat)(ha:8<=a)(ha2:a<256)(w:World)(h:OnB lo bb (.slice A1 n1 c1) (.slice A2 n2 c2) (.slice A3 n3 c3) (.slice A4 n4 c4) S w):Calls prog 145 #[.pointer (some ⟨bb,0,none⟩),.int .i64 (a:Int)] w (zm (qah w.heap.size (qk S a)) w):=by
 obtain⟨hl1,hl2,hl3,hl4⟩:=Qb hS;obtain⟨_,hBT,hst⟩:=h;obtain⟨hn3,hc3,hm3,hA3⟩:=hst.now.at_;obtain⟨b3,o3,rfl,hb3⟩:=hA3 zO;have hAL:w.cell? ⟨b3,o3+a,none⟩=some (.int .u8 ((S.now[a]?.getD 0).toNat:Int)):=by obtain⟨A',c',e,_,_,hr⟩:=hst.now;cases e;obtain⟨b',off',e,_,hc⟩:=hr.2 zO;cases e;exact hc a _ (by rw[List.getElem?_map,zL zO];rfl)
 obtain⟨hn1,hc1,hm1,hA1⟩:=hst.bs.at_;obtain⟨b1,o1,rfl,hb1⟩:=hA1 zO;obtain⟨A0,c0,hcb,wGL⟩:=hst.bs.get a zO;have hN:qk S a=if(S.now[a]?.getD 0).toNat=0 then none else QK (jW S a):=rfl
 rw[hN];have HR:=zH (λv W (hv:Bys W W.heap.size v (jW S a))=>qci v (jW S a) W hv);have hMK:jW S a=match jA S.ws a with|some l=>l|none=>S.bs[a]:=by unfold jW;rw[zL zO];rfl
 have hn3':n3=256:=by rw[hn3,hl3]
 have wRX:n1=256:=by rw[hn1,hl1]
 have hbl:bb<w.heap.size:=(zG.1 hBT).1;generalize S.bs[a]=l0 at*;generalize jW S a=l at*;generalize(S.now[a]?.getD 0).toNat=nw at*;replace hMK:=zH hMK;obtain⟨ps,hps,⟨A2',c2',e2,hw1,hw2,hw3⟩,hw4⟩:=hst.ws;rw[<-hps]at hMK e2 hw1 hw3 hl2;clear hN hn3 hn1 hS hst hl1 hl3 hl4 hA3 hA1 hps;subst hn3';subst wRX;simp only[Value.slice.injEq]at e2;obtain⟨rfl,hw5,rfl⟩:=e2;rw[<-hw5]at hw1 hw3 hl2;replace hw5:=zH hw5;by_cases h0:nw=0
 ·rw[if_pos h0];refine(callsIn_wide (n:=3)).1 ?_;refine callsIn_of_wp_marks func145 rfl trivial ?_ rfl;simp only[ntmps145,List.size_toArray,List.length_cons,List.length_nil,Nat.reduceAdd,Nat.reduceSub,Array.replicate_succ,Array.replicate_zero,List.push_toArray,List.append_toArray,List.nil_append,List.cons_append];refine wpIn_wide.2 ?_;go_wp2;generalize hw1:(World.alloc (World.alloc _ _) _)=w1;have x1:Ext w w1:=by rw[<-hw1];exact(zN _ _).trans (zN _ _)
  have r1:w1.heap[w.heap.size]?=some (.cells #[.int .i64 (a:Int)] 3 (0,0)):=by rw[<-hw1];exact(zK _ _ _ zA3).trans (zI _ _ _ rfl)
  have q1:w1.heap[w.heap.size+1]?=some (.cells #[.int .i64 0,.slice none 0 0] 113 (0,0)):=by rw[<-hw1];exact zI _ _ _ zA3
  clear hw1;have hXN:=qb hBT x1;have gB:∀W,qj.r w1 W->∀i,W.cell? ⟨bb,i,none⟩=#[.slice (some ⟨b1,o1,none⟩) 256 c1,.slice A2 n2 c2,.slice (some ⟨b3,o3,none⟩) 256 c3,.slice A4 n4 c4][i]?:=λW h=>qa (qb hXN h);have gA:∀W,qj.r w1 W->W.cell? ⟨w.heap.size,0,none⟩=some (.int .i64 (a:Int)):=λW h=>by rw[qa (qb r1 h)];rfl
  have gN:∀W,qj.r w1 W->W.cell? ⟨b3,o3+a,none⟩=some (.int .u8 (nw:Int)):=λW h=>Ext.cell (x1.trans h) hAL;have ia:(a:Int)<256:=zO;refine qt zQ ?_;refine ZY (w:=w1) qj (qQ []) [true,true,true,true,true,true,true,true,true] 0 zQ zQ zQ zQ zQ zQ ?st (Rel.drew _ _) ?walk
  case st=>exact qi (λ_ h=>by cases h)
  case walk=>
   intro K hK;dsimp only[qw];refine zB7 ?_
   first
    |(refine qd (.pointer (some ⟨b3,o3+a,none⟩)) zA0 zA0 (λW hW _=>⟨W,?_,Rel.refl _ W⟩) ?_
      ·go_simp;rw[IntWalk.i64_in (a:Int) zO,if_pos zO];simp
      simp only[Act.put,ql,qe,qc,qf,zA,zB,zC])
    |skip
   refine zB7 ?_;refine qD (hK _ _ λW hW hF=>?_);clear hF hK gB gA gN;have hW':Ext w1 W:=hW;have x2:Ext w W:=x1.trans hW';have q2:=qb q1 hW';refine zB6 ?_;clear hW hW' x1 r1 q1 hXN;have k2:=qa q2;have f2:=qg q2;go_wp2;refine Qn ?_;go_wp2;generalize hwf:(World.setCell (World.setCell _ _ _) _ _)=wf;have rf:wf.heap[w.heap.size+1]?=some (.cells #[.int .i64 0,.slice none 0 0] 113 (0,0)):=by rw[<-hwf];exact qo (qo q2 0 _) 1 _
   have bf:Below w.heap.size w wf:=by rw[<-hwf];exact Below.setCell (Below.setCell x2 (p:=⟨w.heap.size+1,0,none⟩) zA3 _) (p:=⟨w.heap.size+1,1,none⟩) zA3 _
   have kf:=qa rf;refine⟨VT 8,?_,⟨_,rfl,⟨8,zA1,rfl⟩,bf⟩⟩;simp[results,results145,go_sem,kf]
 ·rw[if_neg h0];have hnw:((nw:Int)==0)=false:=by rw[beq_eq_false_iff_ne];omega
  refine(callsIn_wide (n:=3)).1 ?_;refine callsIn_of_wp_marks func145 rfl trivial ?_ rfl;simp only[ntmps145,List.size_toArray,List.length_cons,List.length_nil,Nat.reduceAdd,Nat.reduceSub,Array.replicate_succ,Array.replicate_zero,List.push_toArray,List.append_toArray,List.nil_append,List.cons_append];refine wpIn_wide.2 ?_;go_wp2;generalize hw1:(World.alloc (World.alloc _ _) _)=w1;have x1:Ext w w1:=by rw[<-hw1];exact(zN _ _).trans (zN _ _)
  have r1:w1.heap[w.heap.size]?=some (.cells #[.int .i64 (a:Int)] 3 (0,0)):=by rw[<-hw1];exact(zK _ _ _ zA3).trans (zI _ _ _ rfl)
  have q1:w1.heap[w.heap.size+1]?=some (.cells #[.int .i64 0,.slice none 0 0] 113 (0,0)):=by rw[<-hw1];exact zI _ _ _ zA3
  clear hw1;have hXN:=qb hBT x1;have gB:∀W,qj.r w1 W->∀i,W.cell? ⟨bb,i,none⟩=#[.slice (some ⟨b1,o1,none⟩) 256 c1,.slice A2 n2 c2,.slice (some ⟨b3,o3,none⟩) 256 c3,.slice A4 n4 c4][i]?:=λW h=>qa (qb hXN h);have gA:∀W,qj.r w1 W->W.cell? ⟨w.heap.size,0,none⟩=some (.int .i64 (a:Int)):=λW h=>by rw[qa (qb r1 h)];rfl
  have gN:∀W,qj.r w1 W->W.cell? ⟨b3,o3+a,none⟩=some (.int .u8 (nw:Int)):=λW h=>Ext.cell (x1.trans h) hAL;have ia:(a:Int)<256:=zO;refine qt zQ ?_;refine ZY (w:=w1) qj (qQ []) [true,true,true,true,true,true,true,true,true] 0 zQ zQ zQ zQ zQ zQ ?st (Rel.drew _ _) ?walk
  case st=>exact qi (λ_ h=>by cases h)
  case walk=>
   intro K hK;dsimp only[qw];refine zB7 ?_
   first
    |(refine qd (.pointer (some ⟨b3,o3+a,none⟩)) zA0 zA0 (λW hW _=>⟨W,?_,Rel.refl _ W⟩) ?_
      ·go_simp;rw[IntWalk.i64_in (a:Int) zO,if_pos zO];simp
      simp only[Act.put,ql,qe,qc,qf,zA,zB,zC])
    |skip
   refine zB7 ?_;refine qD (hK _ _ λW hW hF=>?_);clear hF hK gB gA gN;have hW':Ext w1 W:=hW;have x2:Ext w W:=x1.trans hW';have r2:=qb r1 hW';have q2:=qb q1 hW';have wKV:=qb hXN hW';have s2:w.heap.size+1<W.heap.size:=(zG.1 q2).1;refine zB6 ?_;clear hW hW' x1 r1 q1 hXN;go_wp2;refine Qn ?_;go_wp2;have gB:∀W',qj.r W W'->∀i,W'.cell? ⟨bb,i,none⟩=#[.slice (some ⟨b1,o1,none⟩) 256 c1,.slice A2 n2 c2,.slice (some ⟨b3,o3,none⟩) 256 c3,.slice A4 n4 c4][i]?:=λW' h=>qa (qb wKV h);have gA:∀W',qj.r W W'->W'.cell? ⟨w.heap.size,0,none⟩=some (.int .i64 (a:Int)):=λW' h=>by rw[qa (qb r2 h)];rfl
   have gN:∀W',qj.r W W'->W'.cell? ⟨b1,o1+a,none⟩=some (.slice A0 l0.length c0):=λW' h=>Ext.cell (x2.trans h) hcb;refine qt zQ ?_;refine ZY (w:=W) qj (qQ [(9,Jj W.heap.size 26 #[.slice none 0 0])]) [true,true,true,true,true,true,true,true,true,true] 1 zQ zQ zQ zQ zQ zQ ?st (Rel.drew _ _) ?walk
   case st=>exact qi (by simp only[List.forall_mem_cons];exact⟨λp=>Qo (jh _ _ _ p),λ_ h=>by cases h⟩)
   case walk=>
    intro K hK;dsimp only[qw];refine zB7 ?_
    first
     |(refine qd (.pointer (some ⟨b1,o1+a,none⟩)) zA0 zA0 (λW hW _=>⟨W,?_,Rel.refl _ W⟩) ?_
       ·go_simp;rw[IntWalk.i64_in (a:Int) zO,if_pos zO];simp
       simp only[Act.put,ql,qe,qc,qf,zA,zB,zC])
     |skip
    refine zB7 ?_;refine qH (Jj W.heap.size 26 #[.slice none 0 0]) zA0 zA0 (λW' hW _=>?_) (λ(p9:Nat)=>?_)
    ·refine Je ?_ (Below.size hW);go_simp
    simp only[Act.put,qe,qc,qf,zA,zB,zC];refine qD (hK _ _ λW3 hW hF=>?_);obtain⟨f9,hlo⟩:W3.heap[p9]?=some (.cells #[.slice none 0 0] 26 (0,0))/\W.heap.size<=p9:=(hF 9).1;clear hF hK gB gA gN;have hW':Ext W W3:=hW;have r3:=qb r2 hW';have q3:=qb q2 hW';have wXN:=qb wKV hW';have x3:Ext w W3:=x2.trans hW';have k9:=qa f9;have h9:=qg f9;refine zB6 ?_;go_wp2;refine Qn ?_;have x4:Ext W (W3.setCell ⟨p9,0,none⟩ (.slice A0 l0.length c0)):=Below.setCell hW' (p:=⟨p9,0,none⟩) hlo _;have f4:=qo f9 0 (.slice A0 l0.length c0);generalize hw4:(World.setCell W3 _ _)=w4 at*;have r4:=qb r2 x4;have q4:=qb q2 x4;have wKW:=qb wKV x4;have xw4:Ext w w4:=x2.trans x4;have k4:=qa wKW;clear hw4 k9 h9 f9 hW hW' r3 q3 wXN x3;go_wp2_with fail;refine(Tz A2 n2 c2 w4).mono ?_;rintro e w5 ⟨rfl,rfl⟩;go_wp2;have hsz4:w.heap.size+1<w4.heap.size:=(zG.1 q4).1;have hp4:p9<w4.heap.size:=(zG.1 f4).1;have x5:Ext w4 (w4.alloc (.cells #[.slice A2 n2 c2] 23)):=zN _ _;have hul:(ps.map λp=>((p.1.1,kh p.2):W2)).length=n2:=by rw[hw5.out];simp
    have hpl:ps.length=n2:=by rw[hw5.out];simp
    obtain⟨b2,hb2,hSW⟩:∃b2,b2<w.heap.size/\SW (w4.alloc (.cells #[.slice A2 n2 c2] 23)) w4.heap.size b2 (.slice A2 n2 c2) (ps.map λp=>((p.1.1,kh p.2):W2)):=by
     have wJE:(w4.alloc (.cells #[.slice A2 n2 c2] 23)).cell? ⟨w4.heap.size,0,none⟩=some (.slice A2 n2 c2):=by rw[qa (zI _ _ _ rfl)];rfl
     rcases Nat.eq_zero_or_pos n2 with hz|hz
     ·have:ps=[]:=List.eq_nil_of_length_eq_zero zO;exact⟨bb,hbl,wJE,.inl ⟨by rw[this];rfl,A2,c2,by rw[hz]⟩⟩
     ·obtain⟨b2,o2,rfl,hlt,hc⟩:=hw3.2 hz;refine⟨b2,hlt,wJE,.inr ⟨o2,c2,by rw[hul],λi hi=>?_⟩⟩;have hi':i<ps.length:=by simpa using hi
      obtain⟨g0,g1⟩:=Yd ps i hi';have hx:=xw4.trans x5;refine⟨?_,?_⟩
      ·rw[Ext.cell hx (hc _ _ g0),List.getElem?_map,zL hi'];rfl
      ·obtain⟨⟨A',c',e'⟩,_⟩:=hw4 ps[i] (List.getElem_mem hi');rw[Nat.add_assoc,Ext.cell hx (hc _ _ g1),List.getElem?_map,zL hi'];simp only[Option.map_some,Option.getD_some];rw[e'];rfl
    refine(wpIn_wide (n:=3)).1 ?_;refine wpIn_rangeFunc_ownH rfl zO (gf:=189) (lb:=#[.pointer (some ⟨w4.heap.size,0,none⟩)]) rfl trivial (enters_of func189 zQ rfl)
     (qfX (3-1) zO w4.heap.size b2 _ _ (by rw[hul];omega) _ zA3 zA2 hSW) Qu.t (Qu.b zA3 zA2) (Below.refl _ _) (λ_=>rfl)
     (λpre W'=>((W'.heap[w.heap.size]?=some (.cells #[.int .i64 (a:Int)] 3 (0,0))/\W'.heap[w.heap.size+1]?=some (.cells #[.int .i64 0,.slice none 0 0] 113 (0,0)))/\(W'.heap[p9]?=some (.cells #[.slice A0 l0.length c0] 26 (0,0))/\W'.heap[w4.heap.size]?=some (.cells #[.slice A2 n2 c2] 23 (0,0))))/\(Below w.heap.size w W'/\∀y∈pre,y.2.1≠(a:Int)))
     (λc pre W'=>((W'.heap[w.heap.size+1]?=some (.cells #[.int .i64 0,.slice none 0 0] 113 (0,0)))/\∃pre' x,W'.heap[p9]?=some (.cells #[sv x.2.2] 26 (0,0))/\c=.exit 0/\pre=pre'++[x]/\x.2.1=(a:Int)/\∀y∈pre',y.2.1≠(a:Int))/\Below w.heap.size w W')
     (OwnFrom.and (OwnFrom.and (OwnFrom.and (QF _ _ _ _) (QF _ _ _ _)) (OwnFrom.and (QF _ _ _ _) (QF _ _ _ _))) (OwnFrom.and (ownFrom_below (zM _) zA2) (Gf _ _)))
     (λc=>OwnFrom.and (OwnFrom.and (QF _ _ _ _) (λs A C row hs hg hr=>by obtain⟨pre',x,h1,h2⟩:=hs;exact⟨pre',x,QF (β:=Unit) _ _ _ _ () A C row h1 hg hr,h2⟩)) (ownFrom_below (zM _) zA2))
     ⟨⟨⟨qb r4 x5,qb q4 x5⟩,qb f4 x5,zI _ _ _ rfl⟩,xw4.trans x5,λy hy=>by cases hy⟩
     (λx a' W'=>∃t8,a'={tmps:=#[.pointer (some ⟨bb,0,none⟩),.int .i64 (a:Int),undef,.pointer (some ⟨w.heap.size,0,none⟩),.pointer (some ⟨w.heap.size+1,0,none⟩),.int .i64 0,.pointer (some ⟨p9,0,none⟩),undef,.pointer (some ⟨t8,0,none⟩),undef,undef,
       .pointer (some ⟨bb,0,none⟩),.pointer (some ⟨bb,0,none⟩),.pointer (some ⟨bb,0,none⟩),.pointer (some ⟨bb,2,none⟩),.slice (some ⟨b3,o3,none⟩) 256 c3,.int .i64 (a:Int),.pointer (some ⟨b3,o3+a,none⟩),.int .u8 (nw:Int),.bool false,undef,
       .pointer (some ⟨bb,0,none⟩),.pointer (some ⟨bb,0,none⟩),.pointer (some ⟨bb,0,none⟩),.pointer (some ⟨bb,0,none⟩),.pointer (some ⟨bb,0,none⟩),.slice (some ⟨b1,o1,none⟩) 256 c1,.int .i64 (a:Int),.pointer (some ⟨b1,o1+a,none⟩),.slice A0 l0.length c0,
       .pointer (some ⟨bb,0,none⟩),.pointer (some ⟨bb,0,none⟩),.pointer (some ⟨bb,0,none⟩),.pointer (some ⟨bb,0,none⟩),.pointer (some ⟨bb,1,none⟩),.slice A2 n2 c2,.func (.func 189) #[] #[.pointer (some ⟨w4.heap.size,0,none⟩)],
       .int .i64 (x.1:Int),.agg #[.int .i64 x.2.1,sv x.2.2],undef,undef,undef,undef,undef,undef,undef,undef,undef,undef,undef,undef,undef,undef,undef],defers:=[]}/\W'.heap[t8]?=some (.cells #[.int .i64 x.2.1,sv x.2.2] 142 (0,0)))
     (λx a' s A C row hs hg hr=>by obtain⟨t8,e,h⟩:=hs;exact⟨t8,e,QF (β:=Unit) _ _ _ _ () A C row h hg hr⟩) ?assign ?body ?done ?stop
    case assign=>
     rintro l' pre x W' K ⟨⟨⟨i1,i2⟩,i3,i6⟩,i4,i5⟩ hK
     gi_wp2
     have z1:=(zG.1 i1).1;have z2:=(zG.1 i2).1;have z3:=(zG.1 i3).1;have z6:=(zG.1 i6).1;have z4:=i4.size;refine hK _ _ ((KeepsOthers.alloc _ _).from _) ⟨zK _ _ _ z6,zK _ _ _ zO⟩ ⟨⟨⟨(zK _ _ _ z1).trans i1,(zK _ _ _ z2).trans i2⟩,(zK _ _ _ z3).trans i3,(zK _ _ _ z6).trans i6⟩,Below.alloc i4 z4 _,i5⟩ ⟨W'.heap.size,rfl,zI _ _ _ rfl⟩
    case body=>
     rintro l' pre x a' W' hl ⟨rr,hlp⟩ ⟨⟨⟨i1,i2⟩,i3,i6⟩,i4,i5⟩ ⟨t8,rfl,hr8⟩ _;have k8:=qa hr8;have k1:=qa i1;by_cases hq:x.2.1=(a:Int)
     ·have hqe:(x.2.1==(a:Int))=true:=by rw[beq_iff_eq];exact hq
      have k9:=qa i3;have f9:=qg i3
      gi_wp2
      refine⟨(KeepsOthers.setCell _ _ _).from _,⟨(zJ _ _ _ _ zA2).trans i2,pre,x,qo i3 0 _,rfl,rfl,hq,i5⟩,Below.setCell i4 (p:=⟨p9,0,none⟩) zA2 _⟩
     ·have hqe:(x.2.1==(a:Int))=false:=by rw[beq_eq_false_iff_ne];exact hq
      gi_wp2
      refine⟨KeepsFrom.refl _ _,Qu.refl _ _ _,⟨⟨i1,i2⟩,i3,i6⟩,i4,λy hy=>?_⟩;rcases List.mem_append.1 hy with h|h
      ·exact i5 y h
      ·obtain rfl:y=x:=by simpa using h
       exact hq
    case done=>
     rintro D ys W' hD rfl ⟨⟨⟨i1,it4⟩,ip,_⟩,i4,i5⟩ hK;have hll:l=l0:=by rw[hMK.out,qkm (by rw[List.length_map]at i5;exact i5)]
     have hby:Bys W' W'.heap.size (.slice A0 l0.length c0) l:=by rw[hll];exact(wGL.below i4).more i4.size
     clear hll;have x6:Below w.heap.size w W':=i4;have wSJ:=x6.size;have hD6:D<W'.heap.size:=(zG.1 hK).1;have hDw:w.heap.size+1<D:=by simp at hD;omega
     have kp:=qa ip;go_wp2_with fail;refine(HR.out _ _ hby).mono ?_;rintro e w7 ⟨u7,rfl,hu7,hB⟩;have q7:=qb it4 hB;have d7:w7.heap[D]?=some (.deferred (some [])):=(hB.block D hD6).trans hK;have x7:Below w.heap.size w w7:=Below.trans x6 (Below.mono hB wSJ);have s7:w.heap.size+1<w7.heap.size:=(zG.1 q7).1;have sD7:D<w7.heap.size:=(zG.1 d7).1;have k7:=qa q7;have f7:=qg q7;clear kp HR hby hB;rcases hQ:QK l with _|⟨lvl,xs⟩
     ·rw[hQ]at hu7;obtain⟨er,hZN,rfl⟩:=hu7;have wRY:(er != 0)=true:=by rw[bne_iff_ne];exact hZN
      go_wp2;generalize hwf:(World.alloc _ _)=wf;have rf:wf.heap[w.heap.size+1]?=some (.cells #[.int .i64 0,.slice none 0 0] 113 (0,0)):=by rw[<-hwf];exact(zK _ _ _ (by simpa using s7)).trans (qo (qo q7 0 _) 1 _)
      have df:wf.heap[D]?=some (.deferred (some [])):=by rw[<-hwf];exact(zK _ _ _ (by simpa using sD7)).trans ((zJ _ _ _ _ zA2).trans ((zJ _ _ _ _ zA2).trans d7))
      have bf:Below w.heap.size w wf:=by rw[<-hwf];exact Below.alloc (Below.setCell (Below.setCell x7 (p:=⟨w.heap.size+1,0,none⟩) zA3 _) (p:=⟨w.heap.size+1,1,none⟩) zA3 _) zA2 _
      have rf2:(wf.putObj D (.deferred none)).heap[w.heap.size+1]?=_:=(World.putObj_heap_other zO).trans rf;have bf2:Below w.heap.size w (wf.putObj D (.deferred none)):=bf.trans (belowK_b (w:=w) (zM _) wf D _ _ zO df rfl rfl);have kf:=qa rf2;refine⟨zA3,.inl ⟨_,_,rfl,run_takeDeferred df,VT 8,?_,_,rfl,(show qah _ (QK l) _ _ by rw[hQ];exact⟨8,zA1,rfl⟩),bf2⟩⟩;simp[results,results145,go_sem,kf]
     ·rw[hQ]at hu7;obtain⟨A,c,rfl,hi,hz⟩:=hu7;replace hz:=zH hz;go_wp2;generalize hwf:(World.alloc _ _)=wf;have rf:wf.heap[w.heap.size+1]?=some (.cells #[.int .i64 lvl,.slice A xs.length c] 113 (0,0)):=by rw[<-hwf];exact(zK _ _ _ (by simpa using s7)).trans (qo (qo q7 0 _) 1 _)
      have df:wf.heap[D]?=some (.deferred (some [])):=by rw[<-hwf];exact(zK _ _ _ (by simpa using sD7)).trans ((zJ _ _ _ _ zA2).trans ((zJ _ _ _ _ zA2).trans d7))
      have bf:Below w.heap.size w wf:=by rw[<-hwf];exact Below.alloc (Below.setCell (Below.setCell x7 (p:=⟨w.heap.size+1,0,none⟩) zA3 _) (p:=⟨w.heap.size+1,1,none⟩) zA3 _) zA2 _
      have rf2:(wf.putObj D (.deferred none)).heap[w.heap.size+1]?=_:=(World.putObj_heap_other zO).trans rf;have bf2:Below w.heap.size w (wf.putObj D (.deferred none)):=bf.trans (belowK_b (w:=w) (zM _) wf D _ _ zO df rfl rfl);have kf:=qa rf2;have hfi:ZB W'.heap.size (wf.putObj D (.deferred none)) (.slice A xs.length c) xs:=by
       refine hi.keep (by have:=bf2.size;rw[<-hwf];simp[World.putObj]) (λp h1 h2=>?_);by_cases hpD:p.block=D
       ·exfalso;omega
       ·rw[World.cell?_of_block (World.putObj_heap_other zO),<-hwf,World.cell?_alloc_lt _ _ _ (by simpa using h2),World.cell?_setCell_other _ _ _ _ (λe=>by subst e;simp at h1;omega),World.cell?_setCell_other _ _ _ _ (λe=>by subst e;simp at h1;omega)]
      have hzf:NzI (wf.putObj D (.deferred none)) (.slice A xs.length c):=by
       have hHE:∀b off n c',Value.slice A xs.length c=.slice (some ⟨b,off,none⟩) n c'->0<n->W'.heap.size<=b/\b<w7.heap.size:=λb off n c' e hn=>by obtain⟨-,-,-,h4⟩:=hi.its.at_;have h5:W'.heap.size<=(⟨b,0,none⟩:Addr).block:=XF hi b off n c' 0 e hn;simp only[Value.slice.injEq]at e;obtain⟨b6,o6,e6,e7⟩:=h4 zO;rw[e.1]at e6;simp only[Option.some.injEq,Addr.mk.injEq]at e6;simp only at h5;omega
       refine hz.out.keep (λb off n c' e hn j=>?_) (λu hu=>Nz.put ?_ df (λcs ty e=>by cases e))
       ·obtain⟨h1,h2⟩:=hHE b off n c' e hn;rw[World.cell?_of_block (World.putObj_heap_other zA2),<-hwf,World.cell?_alloc_lt _ _ _ (by simpa using h2),World.cell?_setCell_other _ _ _ _ (λe=>by simp only[Addr.mk.injEq]at e;omega),World.cell?_setCell_other _ _ _ _ (λe=>by simp only[Addr.mk.injEq]at e;omega)]
       ·rw[<-hwf];exact((hu.setCell _ _).setCell _ _).ext (zN _ _)
      refine⟨zA3,.inl ⟨_,_,rfl,run_takeDeferred df,.tuple #[jL lvl A xs.length c,.int .i64 0],?_,_,rfl,(show qah _ (QK l) _ _ by rw[hQ];exact⟨A,c,rfl,hfi.mono zO,hzf⟩),bf2⟩⟩;simp[results,results145,go_sem,kf]
    case stop=>
     rintro D c pre W' hD ⟨k,hk,hpre⟩ ⟨⟨it4,pre',x,ip,rfl,rfl,hx,hpp⟩,i4⟩ hK;rw[hul,<-hpl]at hk;obtain⟨xi,xa,A9,n9,c9⟩:=x;obtain⟨p,hpm,hp1,hp2⟩:=qkn hk hpre hx hpp;have hll:l=p.1.2:=by rw[hMK.out,hp2]
     have hby:Bys W' W'.heap.size (.slice A9 n9 c9) l:=by
      obtain⟨⟨A',c',e'⟩,hb'⟩:=hw4 p hpm;have h9:Value.slice A9 n9 c9=p.2:=by have e9:(A9,n9,c9)=kh p.2:=hp1;rw[e']at e9⊢;simp only[kh,Prod.mk.injEq]at e9;rw[e9.1,e9.2.1,e9.2.2]
      rw[h9,hll];exact(hb'.below i4).more i4.size
     clear hll hp1 hp2 hpm hx hpp;replace ip:W'.heap[p9]?=some (.cells #[.slice A9 n9 c9] 26 (0,0)):=ip;have x6:Below w.heap.size w W':=i4;have wSJ:=x6.size;have hD6:D<W'.heap.size:=(zG.1 hK).1;have hDw:w.heap.size+1<D:=by simp at hD;omega
     have kp:=qa ip
     gi_wp2
     go_wp2_with fail;refine(HR.out _ _ hby).mono ?_;rintro e w7 ⟨u7,rfl,hu7,hB⟩;have q7:=qb it4 hB;have d7:w7.heap[D]?=some (.deferred (some [])):=(hB.block D hD6).trans hK;have x7:Below w.heap.size w w7:=Below.trans x6 (Below.mono hB wSJ);have s7:w.heap.size+1<w7.heap.size:=(zG.1 q7).1;have sD7:D<w7.heap.size:=(zG.1 d7).1;have k7:=qa q7;have f7:=qg q7;clear kp HR hby hB;rcases hQ:QK l with _|⟨lvl,xs⟩
     ·rw[hQ]at hu7;obtain⟨er,hZN,rfl⟩:=hu7;have wRY:(er != 0)=true:=by rw[bne_iff_ne];exact hZN
      go_wp2;generalize hwf:(World.alloc _ _)=wf;have rf:wf.heap[w.heap.size+1]?=some (.cells #[.int .i64 0,.slice none 0 0] 113 (0,0)):=by rw[<-hwf];exact(zK _ _ _ (by simpa using s7)).trans (qo (qo q7 0 _) 1 _)
      have df:wf.heap[D]?=some (.deferred (some [])):=by rw[<-hwf];exact(zK _ _ _ (by simpa using sD7)).trans ((zJ _ _ _ _ zA2).trans ((zJ _ _ _ _ zA2).trans d7))
      have bf:Below w.heap.size w wf:=by rw[<-hwf];exact Below.alloc (Below.setCell (Below.setCell x7 (p:=⟨w.heap.size+1,0,none⟩) zA3 _) (p:=⟨w.heap.size+1,1,none⟩) zA3 _) zA2 _
      have rf2:(wf.putObj D (.deferred none)).heap[w.heap.size+1]?=_:=(World.putObj_heap_other zO).trans rf;have bf2:Below w.heap.size w (wf.putObj D (.deferred none)):=bf.trans (belowK_b (w:=w) (zM _) wf D _ _ zO df rfl rfl);have kf:=qa rf2;refine⟨zA3,.inl ⟨_,_,rfl,run_takeDeferred df,VT 8,?_,_,rfl,(show qah _ (QK l) _ _ by rw[hQ];exact⟨8,zA1,rfl⟩),bf2⟩⟩;simp[results,results145,go_sem,kf]
     ·rw[hQ]at hu7;obtain⟨A,c,rfl,hi,hz⟩:=hu7;replace hz:=zH hz;go_wp2;generalize hwf:(World.alloc _ _)=wf;have rf:wf.heap[w.heap.size+1]?=some (.cells #[.int .i64 lvl,.slice A xs.length c] 113 (0,0)):=by rw[<-hwf];exact(zK _ _ _ (by simpa using s7)).trans (qo (qo q7 0 _) 1 _)
      have df:wf.heap[D]?=some (.deferred (some [])):=by rw[<-hwf];exact(zK _ _ _ (by simpa using sD7)).trans ((zJ _ _ _ _ zA2).trans ((zJ _ _ _ _ zA2).trans d7))
      have bf:Below w.heap.size w wf:=by rw[<-hwf];exact Below.alloc (Below.setCell (Below.setCell x7 (p:=⟨w.heap.size+1,0,none⟩) zA3 _) (p:=⟨w.heap.size+1,1,none⟩) zA3 _) zA2 _
      have rf2:(wf.putObj D (.deferred none)).heap[w.heap.size+1]?=_:=(World.putObj_heap_other zO).trans rf;have bf2:Below w.heap.size w (wf.putObj D (.deferred none)):=bf.trans (belowK_b (w:=w) (zM _) wf D _ _ zO df rfl rfl);have kf:=qa rf2;have hfi:ZB W'.heap.size (wf.putObj D (.deferred none)) (.slice A xs.length c) xs:=by
       refine hi.keep (by have:=bf2.size;rw[<-hwf];simp[World.putObj]) (λp h1 h2=>?_);by_cases hpD:p.block=D
       ·exfalso;omega
       ·rw[World.cell?_of_block (World.putObj_heap_other zO),<-hwf,World.cell?_alloc_lt _ _ _ (by simpa using h2),World.cell?_setCell_other _ _ _ _ (λe=>by subst e;simp at h1;omega),World.cell?_setCell_other _ _ _ _ (λe=>by subst e;simp at h1;omega)]
      have hzf:NzI (wf.putObj D (.deferred none)) (.slice A xs.length c):=by
       have hHE:∀b off n c',Value.slice A xs.length c=.slice (some ⟨b,off,none⟩) n c'->0<n->W'.heap.size<=b/\b<w7.heap.size:=λb off n c' e hn=>by obtain⟨-,-,-,h4⟩:=hi.its.at_;have h5:W'.heap.size<=(⟨b,0,none⟩:Addr).block:=XF hi b off n c' 0 e hn;simp only[Value.slice.injEq]at e;obtain⟨b6,o6,e6,e7⟩:=h4 zO;rw[e.1]at e6;simp only[Option.some.injEq,Addr.mk.injEq]at e6;simp only at h5;omega
       refine hz.out.keep (λb off n c' e hn j=>?_) (λu hu=>Nz.put ?_ df (λcs ty e=>by cases e))
       ·obtain⟨h1,h2⟩:=hHE b off n c' e hn;rw[World.cell?_of_block (World.putObj_heap_other zA2),<-hwf,World.cell?_alloc_lt _ _ _ (by simpa using h2),World.cell?_setCell_other _ _ _ _ (λe=>by simp only[Addr.mk.injEq]at e;omega),World.cell?_setCell_other _ _ _ _ (λe=>by simp only[Addr.mk.injEq]at e;omega)]
       ·rw[<-hwf];exact((hu.setCell _ _).setCell _ _).ext (zN _ _)
      refine⟨zA3,.inl ⟨_,_,rfl,run_takeDeferred df,.tuple #[jL lvl A xs.length c,.int .i64 0],?_,_,rfl,(show qah _ (QK l) _ _ by rw[hQ];exact⟨A,c,rfl,hfi.mono zO,hzf⟩),bf2⟩⟩;simp[results,results145,go_sem,kf]
theorem vS(lo bb:Nat)(A1 n1 c1 A2 n2 c2 A3 n3 c3 A4 n4 c4)(S:Sto)(hS:qm S=true)(a:Nat)(ha:8<=a)(ha2:a<256)(w:World)(h:OnB lo bb (.slice A1 n1 c1) (.slice A2 n2 c2) (.slice A3 n3 c3) (.slice A4 n4 c4) S w):Calls prog 145 #[.pointer (some ⟨bb,0,none⟩),.int .i64 (a:Int)] w (zm (qbr w.heap.size (qk S a)) w):=
 (qbv lo bb A1 n1 c1 A2 n2 c2 A3 n3 c3 A4 n4 c4 S hS a ha ha2 w h).mono λ_ _ ⟨u,he,hu,hB⟩=>⟨u,he,hu.nodeP,hB⟩
end Go.Proofs.YtmeadnlmepcmbaaGreat
namespace Go.Proofs.YtmeadnlmepcmbaaGreat
open Go.RowKit Go.ChangeMaps
def qbc(a:Int)(e:MapEntry):Bool:=match e.key with | .int _ b=>b==a|_=>false
def qjn(es:List MapEntry):Prop:=∀e∈es,∃b,e.key=.int .i64 b
def Xc(es:List MapEntry)(a:Int):Option Value:=(es.find? (qbc a)).map (·.val)
theorem Kz(a:Int):∀(l:List MapEntry)(i:Nat),qjn l -> (Instr.findNow (.int .i64) (.int .i64 a) l i=some none/\l.find? (qbc a)=none)\/∃k e,l[k]?=some e/\Instr.findNow (.int .i64) (.int .i64 a) l i=some (some (i+k,e.val))/\l.find? (qbc a)=some e/\e.key=.int .i64 a/\∀v b,Xc (l.modify k λe=>{e with key:=.int .i64 a,val:=v}) b=if b=a then some v else Xc l b
 |[],i,_=>.inl ⟨rfl,rfl⟩
 |e::l,i,h=>by
  obtain⟨c,hc⟩:=h e zA3;have hk:qbc a e=(c==a):=by unfold qbc;rw[hc]
  by_cases hca:c=a
  ·subst hca;refine .inr ⟨0,e,rfl,?_,?_,hc,λv b=>?_⟩
   ·simp[Instr.findNow,Instr.sameNow,hc]
   ·simp[hk]
   ·by_cases hb:b=c
    ·subst hb;simp[Xc,List.modify_zero_cons,qbc]
    ·have hbc:(c==b)=false:=by simpa using λh=>hb h.symm
     rw[if_neg hb];simp[Xc,List.modify_zero_cons,qbc,hc,hbc]
  ·have hca':(c==a)=false:=by simpa using hca
   have hac:(a==c)=false:=by simpa using λh=>hca h.symm
   rcases Kz a l (i+1) (λe he=>h e (by simp[he])) with⟨h1,h2⟩|⟨k,e2,h1,h2,h3,h4,h5⟩
   ·exact .inl ⟨by simp[Instr.findNow,Instr.sameNow,hc,hac,h1],by simp[hk,hca',h2]⟩
   ·refine .inr ⟨k+1,e2,by simpa using h1,by simp[Instr.findNow,Instr.sameNow,hc,hac,h2];omega,by simp[hk,hca',h3],h4,λv b=>?_⟩;have:=h5 v b;by_cases hb:b=c
    ·subst hb;rw[if_neg hca];simp[Xc,List.modify_succ_cons,qbc,hc]
    ·have hbc:(c==b)=false:=by simpa using λh=>hb h.symm
     have e1:qbc b e=false:=by unfold qbc;rw[hc];exact hbc
     unfold Xc at this⊢;rw[List.modify_succ_cons,List.find?_cons,e1,List.find?_cons,e1];exact this
def Zn(w:World)(mb:Nat)(f:Int->Option Value):Prop:=∃es clock,w.heap[mb]?=some (.map es clock)/\qjn es.toList/\∀a,Xc es.toList a=f a
theorem Zn.of_heap{w w':World}{mb:Nat}{f:Int->Option Value}(h:Zn w mb f)(he:w'.heap[mb]?=w.heap[mb]?):Zn w' mb f:=by obtain⟨es,clock,h1,h2⟩:=h;exact⟨es,clock,he.trans h1,h2⟩
section
variable {P:Program} {w:World} {mb:Nat} {f:Int->Option Value}
theorem JI{k:TypeId}(hk:P.underlying k=some (.int .i64))(e:Bool)(a:Int):(Instr.checkKey e 10000 k (.int .i64 a)).run P w=.ok () w:=by show(Instr.checkKey e (9999+1) k (.int .i64 a)).run P w=_;rw[Instr.checkKey];simp[run_underlying hk]
theorem vC{k:TypeId}(hk:P.underlying k=some (.int .i64)){a:Int}{l:List MapEntry}{r:Option (Nat×Value)}(h:Instr.findNow (.int .i64) (.int .i64 a) l 0=some r):(Instr.findKey k (.int .i64 a) l).run P w=.ok r w:=by simp[Instr.findKey,run_underlying hk,h,Result.andThen]
theorem qdr(a:Int):(Instr.keyThatStays (.int .i64 a) (.int .i64 a)).run P w=.ok (.int .i64 a) w:=by
 have:Instr.sameBits 10000 (.int .i64 a) (.int .i64 a)=true:=by show Instr.sameBits (9999+1) _ _=true;simp[Instr.sameBits]
 simp[Instr.keyThatStays,this]
theorem qdp(h:Zn w mb f)(t k e:TypeId)(z:Value)(ht:P.underlying t=some (.map k e))(hk:P.underlying k=some (.int .i64))(hz:(zeroValue e).run P w=.ok z w)(a:Int):(Instr.lookup t (.map (some mb)) (.int .i64 a) true).run P w=.ok (.tuple #[(f a).getD z,.bool (f a).isSome]) w:=by
 obtain⟨es,clock,hb,hks,hf⟩:=h;rw[<-hf a];rcases Kz a es.toList 0 hks with⟨h1,h2⟩|⟨j,e2,h1,h2,h3,h4,_⟩
 ·simp[Instr.lookup,run_underlying ht,MapKept.run_getObj_map hb,JI hk,vC hk h1,Xc,h2,hz,Result.andThen]
 ·simp[Instr.lookup,run_underlying ht,MapKept.run_getObj_map hb,JI hk,vC hk h2,Xc,h3,Result.andThen]
theorem GY(h:Zn w mb f)(t k e:TypeId)(ht:P.underlying t=some (.map k e))(hk:P.underlying k=some (.int .i64))(a:Int)(v:Value):∃w',(Instr.mapUpdate t (.map (some mb)) (.int .i64 a) v).run P w=.ok () w'/\Zn w' mb (λb=>if b=a then some v else f b)/\w.grownBy w' (some mb):=by
 obtain⟨es,clock,hb,hks,hf⟩:=h;have hg:∀o,w.grownBy (setBlock w mb o) (some mb):=λo=>by refine⟨rfl,rfl,rfl,by simp[setBlock],λj _ hj=>?_⟩;have hne:¬mb=j:=λe=>hj (by rw[e]);simp[setBlock,hne]
 have hs:∀o,(setBlock w mb o).heap[mb]?=some o:=λo=>by have:=(zG.1 hb).1;simp[setBlock,this]
 rcases Kz a es.toList 0 hks with⟨h1,h2⟩|⟨j,e2,h1,h2,h3,h4,h5⟩
 ·refine⟨_,by simp[Instr.mapUpdate,run_underlying ht,MapKept.run_getObj_map hb,JI hk,vC hk h1,MapKept.run_setObj_map _ hb,Result.andThen];rfl,⟨_,_,hs _,?_,λb=>?_⟩,hg _⟩
  ·intro e he;simp only[Array.toList_push,List.mem_append,List.mem_singleton]at he;rcases he with he|rfl
   ·exact hks e he
   ·exact⟨a,rfl⟩
  ·have hb':=hf b;unfold Xc at hb'⊢;rw[Array.toList_push,List.find?_append];show _=if b=a then some v else f b
   by_cases hba:b=a
   ·subst hba;rw[if_pos rfl,h2];simp[qbc]
   ·rw[if_neg hba,<-hb'];have:(a==b)=false:=by simpa using λh=>hba h.symm
    simp[qbc,this]
 ·have hj:(es[j]?)=some e2:=by simpa using h1
  refine⟨_,by simp[Instr.mapUpdate,run_underlying ht,MapKept.run_getObj_map hb,JI hk,vC hk h2,hj,h4,qdr,MapKept.run_setObj_map _ hb,Result.andThen];rfl,⟨_,_,hs _,?_,λb=>?_⟩,hg _⟩
  ·intro e he;rw[Array.toList_modify]at he;obtain⟨i,hi⟩:=List.getElem?_of_mem he;rw[List.getElem?_modify]at hi;split at hi
   ·simp only[Option.map_eq_map,Option.map_eq_some_iff]at hi;obtain⟨e0,_,rfl⟩:=hi;exact⟨a,rfl⟩
   ·simp only[Option.map_eq_map,Option.map_id',Option.map_id]at hi;exact hks e (List.mem_of_getElem? hi)
  ·show _=if b=a then some v else f b
   rw[Array.toList_modify,h5 v b,hf b]
end
end Go.Proofs.YtmeadnlmepcmbaaGreat
namespace Go.Proofs.YtmeadnlmepcmbaaGreat
open Go.RowKit
abbrev K3:Type:=Int×Int×Int
def qp(x:It):K3:=(x.k,x.i,x.o)
def qV(a b:K3):Bool:=JD a.1 a.2.1 a.2.2 b.1 b.2.1 b.2.2
def jO(one:It->Option (K3×K3))(acc:Option (Option (K3×K3)))(y:It):Option (Option (K3×K3)):=
 match acc with
 |none=>none
 |some a=>match one y with
  |none=>none
  |some (f,l)=>if f=qp y then(match a with
    |none=>some (some (f,l))
    |some (f0,l0)=>if qV l0 f=true then some (some (f0,l))else none)else none
def jv(S:Sto):Nat->It->Option (K3×K3)
 |0,y=>if y.r=0\/0<(S.now[y.r.toNat]?.getD 0).toNat then some (qp y,qp y)else none
 |h+1,y=>if 8<=y.r/\y.r<256 then
   match qk S y.r.toNat with
   |none=>none
   |some (lvl,xs)=>if lvl=(h:Int) then(xs.foldl (jO (jv S h)) (some none)).getD none else none
  else none
def qz(S:Sto)(h:Nat)(xs:List It):Option (Option (K3×K3)):=xs.foldl (jO (jv S h)) (some none)
def Va(S:Sto)(h:Nat)(r:Int):Option (K3×K3):=if 8<=r/\r<256 then
   match qk S r.toNat with
   |none=>none
   |some (lvl,xs)=>if lvl=(h:Int) then(qz S h xs).getD none else none
  else none
theorem vk(S:Sto)(h:Nat)(y:It):jv S (h+1) y=Va S h y.r:=rfl
theorem Jp{S:Sto}{h:Nat}{xs:List It}{k:Nat}(hk:k<xs.length):qz S h (xs.take (k+1))=jO (jv S h) (qz S h (xs.take k)) xs[k]:=by unfold qz;rw[List.take_succ_eq_append_getElem hk,List.foldl_append];rfl
theorem qii(one:It->Option (K3×K3))(xs:List It):xs.foldl (jO one) none=none:=by
 induction xs with
 |nil=>rfl
 |cons x r ih=>exact ih
theorem qer{S:Sto}{h:Nat}{xs:List It}{k:Nat}(hb:qz S h (xs.take k)=none):qz S h xs=none:=by unfold qz at*;rw[<-List.take_append_drop k xs,List.foldl_append,hb,qii]
theorem qja{S:Sto}{h:Nat}:∀{xs:List It},(∃p,qz S h xs=some (some p))->xs≠[]:=by rintro xs ⟨p,hp⟩ rfl;cases hp
theorem Zm{S:Sto}{h:Nat}{xs:List It}{k:Nat}(hk:0<k)(hl:k<=xs.length):qz S h (xs.take k)≠some none:=by
 obtain⟨j,rfl⟩:∃j,k=j+1:=⟨k-1,zO⟩
 rw[Jp zO];unfold jO;intro h;split at h
 ·cases h
 ·split at h
  ·cases h
  ·split at h
   ·split at h
    ·cases h
    ·split at h<;>cases h
   ·cases h
abbrev JA(lvl:Int)(A:OA)(n c:Nat)(f l:K3)(b:Bool):Array Value:=#[.int .i64 lvl,.slice A n c,.int .u8 f.1,.int .u32 f.2.1,.int .u32 f.2.2,.int .u8 l.1,.int .u32 l.2.1,.int .u32 l.2.2,.bool b]
abbrev jN(lvl:Int)(A:OA)(n c:Nat)(f l:K3)(b:Bool):Value:=.agg (JA lvl A n c f l b)
def VL(S:Sto)(h:Nat)(xs:List It)(f l:K3)(b:Bool):Prop:=b=(qz S h xs).isSome/\∀p,qz S h xs=some (some p)->(f,l)=p
def TO(S:Sto)(lo:Nat)(w:World)(f:Int->Option Value)(a:Int)(v:Value):Prop:=
 ∃(n:Nat)(lvl:Nat)(xs:List It)(A:OA)(c:Nat)(fk lk:K3)(b:Bool),a=(n:Int)/\8<=n/\n<256/\qk S n=some ((lvl:Int),xs)/\v=jN lvl A xs.length c fk lk b /\
  ZB lo w (.slice A xs.length c) xs/\VL S lvl xs fk lk b/\(b=true->0<lvl->∀y∈xs,(f y.r).isSome=true)
def qdA(S:Sto)(lo:Nat)(w:World)(f:Int->Option Value):Prop:=∀a v,f a=some v->TO S lo w f a v
theorem TO.keep{S:Sto}{lo lo':Nat}{w w':World}{f g:Int->Option Value}{a:Int}{v:Value}(h:TO S lo w f a v)(hl:lo'<=lo)(hs:w.heap.size<=w'.heap.size)(hk:∀q:Addr,lo<=q.block->q.block<w.heap.size->w'.cell? q=w.cell? q)(hf:∀r,(f r).isSome=true->(g r).isSome=true):TO S lo' w' g a v:=by
 obtain⟨n,lvl,xs,A,c,fk,lk,b,h1,h2,h3,h4,h5,h6,h7,h8⟩:=h;exact⟨n,lvl,xs,A,c,fk,lk,b,h1,h2,h3,h4,h5,(h6.keep hs hk).mono hl,h7,λx y z t=>hf _ (h8 x y z t)⟩
def vN(f g:Int->Option Value):Prop:=∀a v,f a=some v->g a=some v
theorem vN.refl(f:Int->Option Value):vN f f:=λ_ _ h=>h
theorem vN.trans{f g h:Int->Option Value}(x:vN f g)(y:vN g h):vN f h:=λa v e=>y a v (x a v e)
structure CP where
 S:Sto
 sb:Nat
 lo:Nat
 cb:Nat
 bb:Nat
 mb:Nat
 ca:Array Value
 v1:Value
 v2:Value
 v3:Value
 v4:Value
 u1:Value
 u2:Value
 u3:Value
 u4:Value
structure Cen(p:CP)(w:World)(f:Int->Option Value):Prop where
 row:w.heap[p.cb]?=some (.cells p.ca 96 (0,0))
 c0:p.ca[0]?=some p.v1
 c1:p.ca[1]?=some p.v2
 c2:p.ca[2]?=some p.v3
 c3:p.ca[3]?=some p.v4
 c4:p.ca[4]?=some (.pointer (some ⟨p.bb,0,none⟩))
 c5:p.ca[5]?=some (.map (some p.mb))
 map:Zn w p.mb f
 known:qdA p.S p.lo w f
 sto:Qq w p.sb p.v1 p.v2 p.v3 p.v4 p.S
 on:w.heap[p.bb]?=some (.cells #[p.u1,p.u2,p.u3,p.u4] 223 (0,0))
 onb:Bls w p.sb p.u1 p.S.bs
 onw:Wrs w p.sb p.u2 p.S.ws
 onl:Bys w p.sb p.u4 p.S.last
 onn:Bys w w.heap.size p.u3 p.S.now
 onf:∀A n c,p.u3=.slice (some A) n c->A.block≠p.cb
 low:p.cb<p.lo/\p.bb<p.lo/\p.mb<p.lo/\p.cb≠p.mb/\p.bb≠p.mb/\p.lo<=w.heap.size/\p.sb<=p.cb/\p.sb<=p.bb/\p.sb<=p.mb/\p.cb≠p.bb
 may:qm p.S=true
theorem Cen.onB{p:CP}{w:World}{f:Int->Option Value}(h:Cen p w f):OnB 0 p.bb p.u1 p.u2 p.u3 p.u4 p.S w:=by have hl:=h.low;exact⟨Nat.zero_le _,h.on,h.onb.more zO,h.onw.more zO,h.onn,h.onl.more zO⟩
theorem Bls.keep{w w':World}{B:Nat}{v:Value}{bs:List (List UInt8)}(h:Bls w B v bs)(hk:∀q:Addr,q.block<B->w'.cell? q=w.cell? q):Bls w' B v bs:=by obtain⟨vs,A,c,e,h1,h2,h3,h4⟩:=h;exact⟨vs,A,c,e,h1,h2,h3.keep hk,λi u l hu hl=>(h4 i u l hu hl).keep hk⟩
theorem Wrs.keep{w w':World}{B:Nat}{v:Value}{ws:List (Int×List UInt8)}(h:Wrs w B v ws)(hk:∀q:Addr,q.block<B->w'.cell? q=w.cell? q):Wrs w' B v ws:=by obtain⟨ps,e,⟨A,c,e1,e2,e3,hr⟩,hp⟩:=h;exact⟨ps,e,⟨A,c,e1,e2,e3,hr.keep hk⟩,λp h=>⟨(hp p h).1,(hp p h).2.keep hk⟩⟩
theorem Qq.keep{w w':World}{B:Nat}{v1 v2 v3 v4:Value}{S:Sto}(h:Qq w B v1 v2 v3 v4 S)(hk:∀q:Addr,q.block<B->w'.cell? q=w.cell? q):Qq w' B v1 v2 v3 v4 S:=⟨h.bs.keep hk,h.ws.keep hk,h.now.keep hk,h.last.keep hk⟩
theorem Jt{w w':World}{mb:Nat}{f g:Int->Option Value}(h:Zn w mb f)(h':Zn w' mb g)(hg:w.grownBy w' (some mb)):∀q:Addr,q.block<w.heap.size->w'.cell? q=w.cell? q:=by
 intro q hq;by_cases hm:q.block=mb
 ·obtain⟨es,c,e1,_⟩:=h;obtain⟨es',c',e2,_⟩:=h';simp[World.cell?,hm,e1,e2]
 ·exact World.cell?_of_block (hg.block q.block hq (λe=>hm (by simpa using e)))
theorem qdA.keep{S:Sto}{lo:Nat}{w w':World}{f:Int->Option Value}(h:qdA S lo w f)(hs:w.heap.size<=w'.heap.size)(hk:∀q:Addr,q.block<w.heap.size->w'.cell? q=w.cell? q):qdA S lo w' f:=
 λa v hv=>(h a v hv).keep (zM _) hs (λq _ hq=>hk q hq) (λ_ h=>h)
theorem vN.some_{f g:Int->Option Value}(h:vN f g)(r:Int)(hr:(f r).isSome=true):(g r).isSome=true:=by obtain⟨v,hv⟩:=Option.isSome_iff_exists.1 hr;rw[h r v hv];rfl
theorem Cen.ext{p:CP}{w w':World}{f:Int->Option Value}(h:Cen p w f)(hx:Ext w w'):Cen p w' f where
 row:=qb h.row hx
 c0:=h.c0
 c1:=h.c1
 c2:=h.c2
 c3:=h.c3
 c4:=h.c4
 c5:=h.c5
 map:=h.map.of_heap (hx.block _ (by have:=h.low;omega))
 known:=h.known.keep hx.size λq hq=>Below.cell hx hq
 sto:=h.sto.keep λq hq=>Below.cell hx (by have:=h.low;omega)
 on:=qb h.on hx
 onb:=h.onb.keep λq hq=>Below.cell hx (by have:=h.low;omega)
 onw:=h.onw.keep λq hq=>Below.cell hx (by have:=h.low;omega)
 onl:=h.onl.keep λq hq=>Below.cell hx (by have:=h.low;omega)
 onn:=(h.onn.below hx).more hx.size
 onf:=h.onf
 low:=by have:=h.low;have:=hx.size;omega
 may:=h.may
def News(S:Sto)(w:World)(f g:Int->Option Value)(w':World):Prop:=∀a v,g a=some v->f a=none->TO S w.heap.size w' g a v
theorem Cen.after{p:CP}{w w':World}{f g:Int->Option Value}(h:Cen p w f)(hgr:vN f g)(hm:Zn w' p.mb g)(hg:w.grownBy w' (some p.mb))(hn:News p.S w f g w'):Cen p w' g where
 row:=(hg.block _ (by have:=h.low;omega) (λe=>by have:=h.low;simp at e;omega)).trans h.row
 c0:=h.c0
 c1:=h.c1
 c2:=h.c2
 c3:=h.c3
 c4:=h.c4
 c5:=h.c5
 map:=hm
 known:=by
  intro a v hv;rcases hf:f a with _|u
  ·exact(hn a v hv hf).keep (by have:=h.low;omega) (zM _) (λ_ _ _=>rfl) (λ_ h=>h)
  ·have:=hgr a u hf;rw[hv]at this;cases this;exact(h.known a v hf).keep (zM _) hg.size (λq _ hq=>Jt h.map hm hg q hq) hgr.some_
 sto:=h.sto.keep λq hq=>Jt h.map hm hg q (by have:=h.low;omega)
 on:=(hg.block _ (by have:=h.low;omega) (λe=>by have:=h.low;simp at e;omega)).trans h.on
 onb:=h.onb.keep λq hq=>Jt h.map hm hg q (by have:=h.low;omega)
 onw:=h.onw.keep λq hq=>Jt h.map hm hg q (by have:=h.low;omega)
 onl:=h.onl.keep λq hq=>Jt h.map hm hg q (by have:=h.low;omega)
 onn:=(h.onn.keep (Jt h.map hm hg)).more hg.size
 onf:=h.onf
 low:=by have:=h.low;have:=hg.size;omega
 may:=h.may
def okL(S:Sto)(L r:Int):Bool:=
 if 8<=r/\r<256 then
  match qk S r.toNat with
  |none=>false
  |some (lvl,xs)=>(qz S lvl.toNat xs).isSome&&(decide (L<0)||(decide (lvl=L)&&decide (xs.length≠0)))
 else false
def qbq(p:CP)(L r:Int)(v:Value)(f:Int->Option Value):Prop:=∃(lvl:Int)(A:OA)(n c:Nat)(fk lk:K3),v=jN lvl A n c fk lk (okL p.S L r)/\(okL p.S L r=true->f r=some v)
def qfO(p:CP)(h:Nat)(A:OA)(c:Nat)(xs:List It)(v:Value)(f:Int->Option Value):Prop:=∃(fk lk:K3)(b:Bool),v=jN h A xs.length c fk lk b/\VL p.S h xs fk lk b/\(b=true->0<h->∀y∈xs,(f y.r).isSome=true)
def TQ(p:CP)(f:Int->Option Value)(φ:Value->(Int->Option Value)->Prop)(w:World)(e:Ending)(w':World):Prop:=∃v g,e=.returned v/\φ v g/\vN f g/\Zn w' p.mb g/\w.grownBy w' (some p.mb)/\News p.S w f g w'
def ReadC(p:CP)(h:Nat):Prop:=∀(xs:List It)(A:OA)(c:Nat)(w:World)(f:Int->Option Value),Qj h xs=true->(∀x∈xs,QY x/\itB x.r x.val.length=true)->ZB p.lo w (.slice A xs.length c) xs->Cen p w f ->
 Calls prog 161 #[.pointer (some ⟨p.cb,0,none⟩),jL h A xs.length c] w (TQ p f (qfO p h A c xs) w)
def qhO(p:CP)(L:Int):Prop:=∀(r:Int)(w:World)(f:Int->Option Value),Cen p w f ->
 Calls prog 110 #[.pointer (some ⟨p.cb,0,none⟩),.int .i64 r,.int .i64 L] w (TQ p f (qbq p L r) w)
section
variable {P:Program} (w:World) {ops:Array Oper} {rest:List Oper} {o:Oper} {a:Act} {Q:Exit->Act->World->Prop}
theorem Gv(hg:o.guard=none)(m x:Operand)(t:TypeId)(hop:o.op=Op.lookup t m x true){k e:TypeId}{z:Value}(ht:P.underlying t=some (.map k e))(hk:P.underlying k=some (.int .i64))(hz:(zeroValue e).run P w=.ok z w){mb:Nat}{f:Int->Option Value}{r:Int}(hm:a.eval m=.map (some mb))(hx:a.eval x=.int .i64 r)(h:Zn w mb f)(hK:wpList P ops Q rest (a.put o.dst (.tuple #[(f r).getD z,.bool (f r).isSome])) w):wpList P ops Q (o::rest) a w:=by
 refine wpList_plain hg λK' hK'=>?_;unfold Oper.wp;simp[execOp,hop,hm,hx,qdp h t k e z ht hk hz r,Result.andThen];exact hK' _ _ hK
theorem vK(hg:o.guard=none)(m x y:Operand)(t:TypeId)(hop:o.op=Op.mapUpdate t m x y){k e:TypeId}(ht:P.underlying t=some (.map k e))(hk:P.underlying k=some (.int .i64)){mb:Nat}{f:Int->Option Value}{r:Int}{v:Value}(hm:a.eval m=.map (some mb))(hx:a.eval x=.int .i64 r)(hy:a.eval y=v)(h:Zn w mb f)(hK:∀w',Zn w' mb (λb=>if b=r then some v else f b)->w.grownBy w' (some mb)->wpList P ops Q rest (a.put o.dst undef) w'):wpList P ops Q (o::rest) a w:=by
 refine wpList_plain hg λK' hK'=>?_;obtain⟨w',hEQ,h1,h2⟩:=GY h t k e ht hk r v;unfold Oper.wp;simp[execOp,hop,hm,hx,hy,hEQ,Result.andThen];exact hK' _ _ (hK w' h1 h2)
end
theorem News.refl(S:Sto)(w:World)(f:Int->Option Value)(w':World):News S w f f w':=λa v h1 h2=>by rw[h1]at h2;cases h2
theorem TQ.same{p:CP}{f:Int->Option Value}{φ:Value->(Int->Option Value)->Prop}{w w':World}{v:Value}(h:Cen p w f)(hx:Ext w w')(hφ:φ v f):TQ p f φ w (.returned v) w':=
 ⟨v,f,rfl,hφ,vN.refl _,(h.ext hx).map,ZD hx _,News.refl _ _ _ _⟩
theorem qkJ{p:CP}{f g:Int->Option Value}{φ:Value->(Int->Option Value)->Prop}{w w5 w6 W:World}{a:Nat}{lvl:Nat}{xs:List It}{A:OA}{c:Nat}{fk lk:K3}{b:Bool}{u:Value}(hfa:f a=none)(h5:Ext w w5)(hlt:w.heap.size<w5.heap.size)(hgr:vN f g)(hg6:w5.grownBy w6 (some p.mb))(hn:News p.S w5 f g w6)(hm:Zn W p.mb (λr=>if r=(a:Int)then some (jN lvl A xs.length c fk lk b)else g r))(hgW:w.grownBy W (some p.mb))(hsW:w6.heap.size<=W.heap.size)(hk:∀q:Addr,w.heap.size<q.block->q.block<w6.heap.size->W.cell? q=w6.cell? q)(ha:8<=a)(ha2:a<256)(hnode:qk p.S a=some ((lvl:Int),xs))(hBC:ZB (w.heap.size+1) w6 (.slice A xs.length c) xs)(hsp:VL p.S lvl xs fk lk b)(hcl:b=true->0<lvl->∀y∈xs,(g y.r).isSome=true)(hφ:φ u (λr=>if r=(a:Int)then some (jN lvl A xs.length c fk lk b)else g r)):TQ p f φ w (.returned u) W:=by
 have hs:∀r:Int,(g r).isSome=true->((λr=>if r=(a:Int)then some (jN lvl A xs.length c fk lk b)else g r) r).isSome=true:=by
  intro r hr;show(if r=(a:Int)then some (jN lvl A xs.length c fk lk b)else g r).isSome=true;split
  ·rfl
  ·exact hr
 refine⟨u,_,rfl,hφ,λr v hr=>?_,hm,hgW,λr v hv hr=>?_⟩
 ·show(if r=(a:Int)then some (jN lvl A xs.length c fk lk b)else g r)=some v;rw[if_neg (λe=>by rw[e,hfa]at hr;cases hr)];exact hgr r v hr
 ·have hv':(if r=(a:Int)then some (jN lvl A xs.length c fk lk b)else g r)=some v:=hv;by_cases hra:r=(a:Int)
  ·rw[if_pos hra]at hv';cases hv';exact⟨a,lvl,xs,A,c,fk,lk,b,hra,ha,ha2,hnode,rfl,(hBC.keep hsW (λq h1 h2=>hk q zO h2)).mono zO,hsp,λx y z t=>hs _ (hcl x y z t)⟩
  ·rw[if_neg hra]at hv';exact(hn r v hv' hr).keep (Nat.le_of_lt hlt) hsW (λq h1 h2=>hk q zO h2) hs
theorem qF{S:Sto}{a:Nat}{lvl:Int}{xs:List It}(h:qk S a=some (lvl,xs)):Qj lvl xs=true/\(∀x∈xs,QY x/\itB x.r x.val.length=true)/\0<=lvl:=by
 unfold qk at h;split at h
 ·cases h
 ·unfold QK at h;split at h
  ·split at h
   ·cases h
   ·rename_i xs' r hr;split at h
    ·rename_i hm;simp only[Option.some.injEq,Prod.mk.injEq]at h;obtain⟨rfl,rfl⟩:=h;exact⟨hm.1,(UH hr).2,zO⟩
    ·cases h
  ·cases h
end Go.Proofs.YtmeadnlmepcmbaaGreat
namespace Go.Proofs.YtmeadnlmepcmbaaGreat

inductive Rch(ks:Nat->List Nat)(R:Nat->Prop):Nat->Prop
 |base {a:Nat}:R a->Rch ks R a
 |step {a b:Nat}:Rch ks R a->b∈ks a->Rch ks R b
theorem Rch.mono{ks:Nat->List Nat}{R R':Nat->Prop}(h:∀a,R a->R' a){a:Nat}(x:Rch ks R a):Rch ks R' a:=by
 induction x with
 |base r=>exact .base (h _ r)
 |step _ hb ih=>exact .step ih hb
theorem Rch.closed{ks:Nat->List Nat}{R M:Nat->Prop}(h:∀a,R a->M a)(hc:∀a,M a->∀b∈ks a,M b){a:Nat}(x:Rch ks R a):M a:=by
 induction x with
 |base r=>exact h _ r
 |step _ hb ih=>exact hc _ ih _ hb
def vz(M:Nat->Bool)(a:Nat):Nat->Bool:=λb=>if b=a then true else M b
def Ju(rs:Nat->List Nat)(M:Nat->Bool)(b:Nat):Nat->Nat
 |0=>0
 |n+1=>Ju rs M b n+if M n=true then(rs n).count b else 0
def vG(M:Nat->Bool):Nat->Nat
 |0=>0
 |n+1=>vG M n+if M n=true then 0 else 1
theorem qaT{M M':Nat->Bool}:∀n,(∀a,a<n->M a=M' a)->vG M n=vG M' n
 |0,_=>rfl
 |n+1,h=>by unfold vG;rw[qaT n λa ha=>h a zO,h n zO]
theorem Tn{rs:Nat->List Nat}{M:Nat->Bool}{a b:Nat}(h:M a=false):∀n,Ju rs (vz M a) b n=Ju rs M b n+if a<n then(rs a).count b else 0
 |0=>rfl
 |n+1=>by
  unfold Ju;rw[Tn h n];by_cases hn:n=a
  ·subst hn;simp[vz,h]
  ·simp only[vz,if_neg hn];by_cases ha:a<n
   ·rw[if_pos ha,if_pos (show a<n+1 by omega)];omega
   ·rw[if_neg ha,if_neg (show ¬a<n+1 by omega)];omega
theorem Uq{M:Nat->Bool}{a:Nat}(h:M a=false):∀n,vG (vz M a) n+(if a<n then 1 else 0)=vG M n
 |0=>rfl
 |n+1=>by
  have hi:=Uq h n;show vG (vz M a) n+(if(if n=a then true else M n)=true then 0 else 1)+(if a<n+1 then 1 else 0)=vG M n+if M n=true then 0 else 1
  by_cases hn:n=a
  ·rw[<-hn]at h hi⊢;rw[if_neg (Nat.lt_irrefl _)]at hi;rw[if_pos rfl,if_pos rfl,if_pos (Nat.lt_succ_self n),h,if_neg zA1];omega
  ·rw[if_neg hn];by_cases ha:a<n
   ·rw[if_pos ha]at hi;rw[if_pos (show a<n+1 by omega)];omega
   ·rw[if_neg ha]at hi;rw[if_neg (show ¬a<n+1 by omega)];omega
theorem qjU{rs:Nat->List Nat}{M:Nat->Bool}{b k:Nat}:∀n,(∀a,a<n->M a=true->(rs a).length<=k)->Ju rs M b n+k*vG M n<=k*n
 |0,_=>by simp[Ju,vG]
 |n+1,h=>by
  unfold Ju vG;have:=qjU (b:=b) n λa ha=>h a zO;rw[Nat.mul_add,Nat.mul_add];split
  ·rename_i hm;have h1:=h n zO hm;have h2:=List.count_le_length (a:=b) (l:=rs n);omega
  ·omega
theorem qcM(M:Nat->Bool):∀n,vG M n<=n
 |0=>zM _
 |n+1=>by unfold vG;have:=qcM M n;split<;>omega
structure Vs(ks rs:Nat->List Nat)(R:List Nat)(M:Nat->Bool)(refs:Nat->Nat)(stack:List Nat):Prop where
 reach:∀a,M a=true->Rch ks (· ∈ R) a
 stk:∀a∈stack,Rch ks (· ∈ R) a
 root:∀a∈R,M a=true\/a∈stack
 kids:∀a,M a=true->∀b∈ks a,M b=true\/b∈stack
 sum:∀b,refs b=R.count b+Ju rs M b 256
theorem Vs.nil{ks rs:Nat->List Nat}{M:Nat->Bool}{refs:Nat->Nat}(hM:∀a,M a=false)(hr:∀b,refs b=0):Vs ks rs [] M refs []:=by
 have h0:∀b n,Ju rs M b n=0:=λb n=>by
  induction n with
  |zero=>rfl
  |succ n ih=>unfold Ju;rw[ih,hM];rfl
 have hno:∀a,M a=true->False:=λa h=>by have:=hM a;rw[h]at this;cases this
 exact {reach:=λa h=>(hno a h).elim,stk:=λa h=>(List.not_mem_nil h).elim,root:=λa h=>(List.not_mem_nil h).elim,kids:=λa h=>(hno a h).elim,sum:=λb=>by rw[hr,h0];rfl}
theorem Vs.add{ks rs:Nat->List Nat}{R:List Nat}{M:Nat->Bool}{refs refs':Nat->Nat}(h:Vs ks rs R M refs [])(r:Nat)(hr:∀b,refs' b=refs b+if b=r then 1 else 0):Vs ks rs (R++[r]) M refs' [r]:=by
 refine⟨λa ha=>(h.reach a ha).mono λ_ x=>List.mem_append_left _ x,λa ha=>.base (List.mem_append_right _ ha),λa ha=>?_,λa ha b hb=>.inl ((h.kids a ha b hb).elim id λx=>(List.not_mem_nil x).elim),λb=>?_⟩
 ·rcases List.mem_append.1 ha with ha|ha
  ·exact .inl ((h.root a ha).elim id λx=>(List.not_mem_nil x).elim)
  ·exact .inr ha
 ·rw[hr,h.sum,List.count_append];have:[r].count b=if b=r then 1 else 0:=by
   rw[List.count_singleton];by_cases hb:b=r
   ·subst hb;simp
   ·rw[if_neg hb,if_neg zA2]
  omega
theorem Vs.again{ks rs:Nat->List Nat}{R:List Nat}{M:Nat->Bool}{refs:Nat->Nat}{s:List Nat}{a:Nat}(h:Vs ks rs R M refs (s++[a]))(ha:M a=true):Vs ks rs R M refs s:=by
 have key:∀b,M b=true\/b∈s++[a]->M b=true\/b∈s:=by
  rintro b (hb|hb)
  ·exact .inl hb
  ·rcases List.mem_append.1 hb with hb|hb
   ·exact .inr hb
   ·rw[List.mem_singleton.1 hb];exact .inl ha
 exact⟨h.reach,λb hb=>h.stk b (List.mem_append_left _ hb),λb hb=>key b (h.root b hb),λc hc b hb=>key b (h.kids c hc b hb),h.sum⟩
theorem Vs.new{ks rs:Nat->List Nat}{R:List Nat}{M:Nat->Bool}{refs refs':Nat->Nat}{s:List Nat}{a:Nat}(h:Vs ks rs R M refs (s++[a]))(ha:M a=false)(hl:a<256)(hr:∀b,refs' b=refs b+(rs a).count b):Vs ks rs R (vz M a) refs' (s++ks a):=by
 have hm:∀b,M b=true->vz M a b=true:=by
  intro b hb;unfold vz;split
  ·rfl
  ·exact hb
 have hma:vz M a a=true:=by simp[vz]
 have hra:=h.stk a (List.mem_append_right _ (List.mem_singleton.2 rfl));have key:∀b,M b=true\/b∈s++[a]->vz M a b=true\/b∈s++ks a:=by
  rintro b (hb|hb)
  ·exact .inl (hm b hb)
  ·rcases List.mem_append.1 hb with hb|hb
   ·exact .inr (List.mem_append_left _ hb)
   ·rw[List.mem_singleton.1 hb];exact .inl hma
 refine⟨λb hb=>?_,λb hb=>?_,λb hb=>key b (h.root b hb),λc hc b hb=>?_,λb=>?_⟩
 ·unfold vz at hb;split at hb
  ·rename_i e;rw[e];exact hra
  ·exact h.reach b hb
 ·rcases List.mem_append.1 hb with hb|hb
  ·exact h.stk b (List.mem_append_left _ hb)
  ·exact .step hra hb
 ·unfold vz at hc;split at hc
  ·rename_i e;rw[e]at hb;exact .inr (List.mem_append_right _ hb)
  ·exact key b (h.kids c hc b hb)
 ·rw[hr,h.sum,Tn ha,if_pos hl];omega
theorem Vs.done{ks rs:Nat->List Nat}{R:List Nat}{M:Nat->Bool}{refs:Nat->Nat}(h:Vs ks rs R M refs [])(a:Nat):M a=true↔Rch ks (· ∈ R) a:=
 ⟨h.reach a,λx=>x.closed (λa ha=>(h.root a ha).elim id λx=>(List.not_mem_nil x).elim) λa ha b hb=>(h.kids a ha b hb).elim id λx=>(List.not_mem_nil x).elim⟩
structure Jy(ks rs:Nat->List Nat)(R:List Nat)(M:Nat->Bool)(refs:Nat->Nat):Prop where
 reach:∀a,M a=true->Rch ks (· ∈ R) a
 root:∀a∈R,M a=true
 kids:∀a,M a=true->∀b∈ks a,M b=true
 sum:∀b,refs b=R.count b+Ju rs M b 256
theorem Jy.walk{ks rs:Nat->List Nat}{R:List Nat}{M:Nat->Bool}{refs:Nat->Nat}:Jy ks rs R M refs↔Vs ks rs R M refs []:=
 ⟨λh=>⟨h.reach,λ_ ha=>(List.not_mem_nil ha).elim,λa ha=>.inl (h.root a ha),λa ha b hb=>.inl (h.kids a ha b hb),h.sum⟩,
  λh=>⟨h.reach,λa ha=>(h.root a ha).elim id λx=>(List.not_mem_nil x).elim,λa ha b hb=>(h.kids a ha b hb).elim id λx=>(List.not_mem_nil x).elim,h.sum⟩⟩
theorem Jy.same{ks rs:Nat->List Nat}{R:List Nat}{M M':Nat->Bool}{r r':Nat->Nat}(h:Jy ks rs R M r)(h':Jy ks rs R M' r'):M=M'/\r=r':=by
 have e:M=M':=by funext a;have h1:=(Jy.walk.1 h).done a;have h2:=(Jy.walk.1 h').done a;exact Bool.eq_iff_iff.2 (h1.trans h2.symm)
 refine⟨e,?_⟩;funext b;rw[h.sum,h'.sum,e]
end Go.Proofs.YtmeadnlmepcmbaaGreat
namespace Go.Proofs.YtmeadnlmepcmbaaGreat
open Go.RowKit
def QO(S:Sto)(a:Nat):List Nat:=match qk S a with
 |none=>[]
 |some (_,xs)=>(xs.map λy=>y.r.toNat).filter λr=>r != 0
def Zh(S:Sto)(a:Nat):List Nat:=match qk S a with
 |none=>[]
 |some (lvl,_)=>if 0<lvl then QO S a else []
def jT(S:Sto)(a:Nat):Prop:=8<=a/\a<256/\∃(lvl:Nat)(xs:List It),qk S a=some ((lvl:Int),xs)/\(qz S lvl xs).isSome=true
theorem Zs{S:Sto}{r:Int}(h:okL S (-1) r=true):∃a:Nat,r=(a:Int)/\jT S a:=by
 unfold okL at h;split at h
 ·rename_i hr;obtain⟨a,rfl⟩:=Int.eq_ofNat_of_zero_le (show 0<=r by omega);refine⟨a,rfl,zO,zO,?_⟩;rw[Int.toNat_natCast]at h;rcases hn:qk S a with _|⟨lvl,xs⟩
  ·rw[hn]at h;cases h
  ·rw[hn]at h;obtain⟨-,-,h0⟩:=qF hn;obtain⟨l,rfl⟩:=Int.eq_ofNat_of_zero_le h0;simp only[Int.toNat_natCast,Bool.and_eq_true]at h;exact⟨l,xs,rfl,h.1⟩
 ·cases h
theorem GH(one:It->Option (K3×K3)):∀(xs:List It)(a:Option (Option (K3×K3))),(xs.foldl (jO one) a).isSome=true->a.isSome=true/\∀y∈xs,(one y).isSome=true
 |[],a,h=>⟨h,λ_ hy=>(List.not_mem_nil hy).elim⟩
 |x::r,a,h=>by
  obtain⟨h1,h2⟩:=GH one r _ h;unfold jO at h1;rcases a with _|a
  ·cases h1
  ·rcases hx:one x with _|q
   ·rw[hx]at h1;cases h1
   ·refine⟨rfl,λy hy=>?_⟩;rcases List.mem_cons.1 hy with rfl|hy
    ·rw[hx];rfl
    ·exact h2 y hy
theorem QG{S:Sto}{h:Nat}{xs:List It}(hs:(qz S h xs).isSome=true):∀y∈xs,(jv S h y).isSome=true:=(GH _ xs _ hs).2
theorem QE{S:Sto}{h:Nat}{y:It}(hy:(jv S (h+1) y).isSome=true):∃b:Nat,y.r=(b:Int)/\8<=b/\b<256/\∃xs,qk S b=some ((h:Int),xs)/\(qz S h xs).isSome=true:=by
 rw[vk]at hy;unfold Va at hy;split at hy
 ·rename_i hr;obtain⟨b,hb⟩:=Int.eq_ofNat_of_zero_le (show 0<=y.r by omega);rw[hb,Int.toNat_natCast]at hy;refine⟨b,hb,zO,zO,?_⟩;rcases hn:qk S b with _|⟨lvl,xs⟩
  ·rw[hn]at hy;cases hy
  ·rw[hn]at hy;simp only at hy;split at hy
   ·rename_i hl;refine⟨xs,by rw[hl],?_⟩;rcases hs:qz S h xs with _|q
    ·rw[hs]at hy;cases hy
    ·rfl
   ·cases hy
 ·cases hy
theorem qbP{S:Sto}{a b lvl:Nat}{xs:List It}(hn:qk S a=some ((lvl:Int),xs))(hb:b∈Zh S a):0<lvl/\∃y∈xs,b=y.r.toNat/\b≠0:=by
 unfold Zh at hb;rw[hn]at hb;simp only at hb;split at hb
 ·unfold QO at hb;rw[hn]at hb;simp only[List.mem_filter,List.mem_map,bne_iff_ne,ne_eq]at hb;obtain⟨⟨y,hy,rfl⟩,h0⟩:=hb;exact⟨zO,y,hy,rfl,h0⟩
 ·cases hb
theorem qdV{S:Sto}{a b:Nat}(h:jT S a)(hb:b∈Zh S a):jT S b:=by
 obtain⟨h1,h2,lvl,xs,h3,h4⟩:=h;obtain⟨h5,y,hy,rfl,-⟩:=qbP h3 hb;obtain⟨l,rfl⟩:∃l,lvl=l+1:=⟨lvl-1,zO⟩
 obtain⟨b,e,h6,h7,ys,h8,h9⟩:=QE (QG h4 y hy);rw[e,Int.toNat_natCast];exact⟨h6,h7,l,ys,h8,h9⟩
theorem qiU{S:Sto}{R:Nat->Prop}(hR:∀a,R a->jT S a){a:Nat}(h:Rch (Zh S) R a):jT S a:=h.closed hR λ_ hc _ hb=>qdV hc hb
theorem qhh{S:Sto}{a:Nat}:(QO S a).length<=5:=by
 unfold QO;rcases hn:qk S a with _|⟨lvl,xs⟩
 ·simp
 ·have h:=(qF hn).1;unfold Qj ZZ at h;simp at h;simp only;refine Nat.le_trans (List.length_filter_le _ _) ?_;rw[List.length_map];omega
theorem qkI{S:Sto}{lo:Nat}{w:World}{f:Int->Option Value}(hk:qdA S lo w f){a b:Nat}(h:jT S a)(hf:(f (a:Int)).isSome=true)(hb:b∈Zh S a):(f (b:Int)).isSome=true:=by
 obtain⟨h1,h2,lvl,xs,h3,h4⟩:=h;obtain⟨v,hv⟩:=Option.isSome_iff_exists.1 hf;obtain⟨n,lvl',xs',A,c,fk,lk,b',e,-,-,h5,-,-,h6,h7⟩:=hk _ _ hv;obtain rfl:a=n:=zO;rw[h3,Option.some.injEq,Prod.mk.injEq]at h5;obtain⟨e1,rfl⟩:=h5;obtain rfl:lvl=lvl':=zO;obtain⟨h0,y,hy,rfl,hz⟩:=qbP h3 hb;have:=h7 (by rw[h6.1,h4]) h0 y hy
 rwa [show((y.r.toNat:Nat):Int)=y.r by omega]
theorem Bys.keepF{w w':World}{B:Nat}{v:Value}{l:List UInt8}(h:Bys w B v l)(hk:∀q:Addr,q.block<B->(∃A n c,v=.slice (some A) n c/\q.block=A.block)->w'.cell? q=w.cell? q):Bys w' B v l:=by obtain⟨A,c,e,hc,hm,hr⟩:=h;refine⟨A,c,e,hc,hm,hr.1,λhn=>?_⟩;obtain⟨b,off,hA,hb,hAL⟩:=hr.2 hn;exact⟨b,off,hA,hb,λj u hu=>(hk ⟨b,off+j,none⟩ hb ⟨⟨b,off,none⟩,_,c,by rw[e,hA],rfl⟩).trans (hAL j u hu)⟩
structure Off(B cb:Nat)(w w':World):Prop where
 os:w'.os=w.os
 tape:w'.tape=w.tape
 output:w'.output=w.output
 size:B<=w'.heap.size
 block:∀k,k<B->k≠cb->w'.heap[k]?=w.heap[k]?
theorem Off.refl{B cb:Nat}{w:World}(h:B<=w.heap.size):Off B cb w w:=⟨rfl,rfl,rfl,h,λ_ _ _=>rfl⟩
theorem Off.cell{B cb:Nat}{w w':World}(h:Off B cb w w'){q:Addr}(hq:q.block<B)(hc:q.block≠cb):w'.cell? q=w.cell? q:=World.cell?_of_block (h.block _ hq hc)
theorem Off.setCell{B cb:Nat}{w w':World}(h:Off B cb w w'){p:Addr}(hp:p.block=cb\/B<=p.block)(u:Value):Off B cb w (w'.setCell p u):=
 ⟨h.os,h.tape,h.output,by simpa using h.size,λk hk hc=>(zJ _ _ _ _ (λe=>zO)).trans (h.block k hk hc)⟩
theorem Off.grown{B cb:Nat}{w w' w'':World}{row:Option Nat}(h:Off B cb w w')(hg:w'.grownBy w'' row)(hr:∀g,row=some g->g=cb\/B<=g):Off B cb w w'':=
 ⟨hg.os.trans h.os,hg.tape.trans h.tape,hg.output.trans h.output,Nat.le_trans h.size hg.size,λk hk hc=>(hg.block k (Nat.lt_of_lt_of_le hk h.size) (λe=>by rcases hr k e.symm with e|e<;>omega)).trans (h.block k hk hc)⟩
abbrev CP.put(p:CP)(ca:Array Value):CP:={p with ca:=ca}
theorem Cen.put{p:CP}{w w':World}{f:Int->Option Value}(h:Cen p w f){B:Nat}(hB:w.heap.size=B)(hO:Off B p.cb w w'){ca:Array Value}(hr:w'.heap[p.cb]?=some (.cells ca 96 (0,0)))(hc:∀i,i<6->ca[i]?=p.ca[i]?):Cen (p.put ca) w' f:=by
 subst hB;have hl:=h.low;have hk:∀q:Addr,q.block<p.sb->w'.cell? q=w.cell? q:=λq hq=>hO.cell zO zO;exact {
  row:=hr
  c0:=(hc 0 zO).trans h.c0
  c1:=(hc 1 zO).trans h.c1
  c2:=(hc 2 zO).trans h.c2
  c3:=(hc 3 zO).trans h.c3
  c4:=(hc 4 zO).trans h.c4
  c5:=(hc 5 zO).trans h.c5
  map:=h.map.of_heap (hO.block p.mb zO zO)
  known:=λa v hv=>(h.known a v hv).keep (zM _) hO.size (λq h1 h2=>hO.cell h2 (show q.block≠p.cb by omega)) (λ_ h=>h)
  sto:=h.sto.keep hk
  on:=(hO.block p.bb zO zO).trans h.on
  onb:=h.onb.keep hk
  onw:=h.onw.keep hk
  onl:=h.onl.keep hk
  onn:=(h.onn.keepF λq hq ⟨A,n,c,e,e'⟩=>hO.cell hq (by rw[e'];exact h.onf A n c e)).more hO.size
  onf:=h.onf
  low:=⟨hl.1,hl.2.1,hl.2.2.1,hl.2.2.2.1,hl.2.2.2.2.1,Nat.le_trans hl.2.2.2.2.2.1 hO.size,hl.2.2.2.2.2.2⟩
  may:=h.may}
end Go.Proofs.YtmeadnlmepcmbaaGreat
