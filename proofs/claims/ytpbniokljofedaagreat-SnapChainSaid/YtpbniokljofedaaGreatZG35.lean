/- scionrylaw18.SnapChain is true of every pool, number and mark, and leaves its arguments as they were; no condition. -/
import Derived.Deep.CutBlock
import Derived.Test.YtpbniokljofedaaGreatZG34
set_option linter.unusedSimpArgs false
set_option linter.unusedVariables false
set_option maxHeartbeats 8000000
open Go.Proofs.Tryz
namespace Go.Proofs.YtpbniokljofedaaGreat
open Go.RowKit
def vT (ls:List (List UInt8)):Nat:=(ls.map fun l=>min l.length 1000000).sum
theorem qbL {ls:List (List UInt8)} {k:Nat} (h:k<ls.length):vT (ls.take (k+1))=vT (ls.take k)+min ls[k].length 1000000:=by unfold vT;rw[List.take_succ_eq_append_getElem h,List.map_append,List.sum_append];simp
theorem sizeL_le (ls:List (List UInt8)):vT ls<=ls.length*1000000:=by
 induction ls with
 |nil=>simp[vT]
 |cons l r ih=>simp only[vT,List.map_cons,List.sum_cons,List.length_cons] at ih ⊢;omega
theorem XT {ls:List (List UInt8)} {n:Nat} (h:ls.length<=n) (k:Nat):vT (ls.take k)<=n*1000000:=by
 have h1:=sizeL_le (ls.take k);have h2:(ls.take k).length<=n:=by rw[List.length_take];omega
 have h3:(ls.take k).length*1000000<=n*1000000:=Nat.mul_le_mul_right _ h2;exact Nat.le_trans h1 h3
def qfy (n m:Nat):Bool:=decide (300<n\/5000<m\/(600<m/\m<4096))
def YS (bs:List (List UInt8)) (ws:List (Int×List UInt8)):Bool:=qfy bs.length ws.length || decide (800000<vT bs+vT (ws.map (·.2)))
set_option maxRecDepth 100000 in
theorem qhi (A1:Option Addr) (n1 c1:Nat) (A2:Option Addr) (n2 c2:Nat) (bs:List (List UInt8)) (ws:List (Int×List UInt8)) (w:World) (hb:Bls w w.heap.size (.slice A1 n1 c1) bs) (hw:Wrs w w.heap.size (.slice A2 n2 c2) ws):Calls prog 83 #[YN A1 n1 c1 A2 n2 c2] w (Ret (.bool (YS bs ws)) w):=by
 obtain⟨e1,dV,hm1,hA1⟩:=hb.at_;obtain⟨e2,bP,lJ,yM⟩:=hw.at_;subst e1;subst e2;by_cases hh:qfy bs.length ws.length=true
 case pos =>
  have hM:YS bs ws=true:=by unfold YS;rw[hh];rfl
  rw[hM];have hh':300<bs.length\/5000<ws.length\/(600<ws.length/\ws.length<4096):=by simpa [qfy] using hh
  clear hM hb hw hA1 yM hh;generalize bs.length=n1 at *;generalize ws.length=n2 at *;go_enter func83,ntmps83;go_wp2;all_goals try simp only[beq_iff_eq,beq_eq_false_iff_ne,ne_eq,bne_iff_ne,bne_eq_false_iff_eq] at *
  all_goals first|(exfalso;omega)|skip
  all_goals go_ret
  all_goals exact⟨rfl,zA4⟩
 case neg =>
  have hM:YS bs ws=decide (800000<vT bs+vT (ws.map (·.2))):=by unfold YS;rw[show qfy bs.length ws.length=false by simpa using hh];rfl
  have hh':¬(300<bs.length\/5000<ws.length\/(600<ws.length/\ws.length<4096)):=by simpa [qfy] using hh
  have oD:bs.length<=300:=zO;have hn2:ws.length<=5000:=zO;have hn3:¬(600<ws.length/\ws.length<4096):=fun h=>hh' (.inr (.inr h));rw[hM];clear hM hh hh';have HB:=zH hb;have HW:=zH hw;have HTB:=zH (fun k h=>@qbL bs k h);have HTW:=zH (fun k (h:k<(ws.map (·.2)).length)=>@qbL (ws.map (·.2)) k h);have HLB:=zH (fun k=>XT oD k);have HLW:=zH (fun k=>XT (ls:=ws.map (·.2)) (n:=5000) (by rw[List.length_map];exact hn2) k);have HE1:Hid (bs.take bs.length=bs):=zH (List.take_length);have HE2:Hid ((ws.map (·.2)).take ws.length=ws.map (·.2)):=zH (by rw[<-List.length_map (f:=(·.2))];exact List.take_length);clear hb hw;have hd1:decide ((bs.length:Int)>300)=false:=decide_eq_false zO;have hd2:decide ((ws.length:Int)>5000)=false:=decide_eq_false zO;go_enter func83,ntmps83;go_wp2;all_goals first|(exfalso;omega)|skip
  all_goals
   generalize aA:(World.alloc _ _)=w1;have x1:Ext w w1:=by rw[<-aA];exact zN _ _
   have r1:w1.heap[w.heap.size]?=some (.cells #[.slice A1 bs.length c1,.slice A2 ws.length c2] 25 (0,0)):=by rw[<-aA];exact zI _ _ _ rfl
   clear aA;go_loopw [3,4] (fun t i wr=>∃ k:Nat,k<=bs.length/\i=.int .i64 (k:Int)/\t=.int .i64 (vT (bs.take k):Int)/\Ext w1 wr) (fun _ i _=>bs.length-(intOf i).toNat)
   case atStart=>exact⟨0,zO,rfl,rfl,Ext.refl _⟩
   case round =>
    obtain⟨k,hk,rfl,rfl,hE⟩:=hrel;have hEw:=x1.trans hE;have rr:=qb r1 hE;have kr:=qa rr;have mF:=HLB.out k;by_cases hlt:k<bs.length
    ·have aH:=hlt;obtain⟨b1,o1,rfl,bU⟩:=hA1 zO;obtain⟨A',c',hc,aQ⟩:=((HB.out.below hEw).more hEw.size).get k hlt;have hm64:=aQ.at_.2.1;have hMK:=aQ.at_.2.2.1;have ht:=HTB.out k hlt;replace ht:=zH ht;clear aQ;unfold maxLen at hMK;generalize bs[k].length=m at *;generalize vT (bs.take k)=q at *;go_wp2;go_roundw
     case rel=>exact⟨k+1,zO,by go_num,by rw[ht.out];go_num,hE⟩
     case measure=>simp[intOf];omega
    ·obtain rfl:k=bs.length:=zO;rw[HE1.out] at mF ⊢;clear HB HTB HLB r1 hd1 hd2;go_wp2;clear kr;go_loopw [3,5] (fun t i wq=>∃ j:Nat,j<=ws.length/\i=.int .i64 (j:Int)/\t=.int .i64 ((vT bs+vT ((ws.map (·.2)).take j):Nat):Int)/\Ext wr wq) (fun _ i _=>ws.length-(intOf i).toNat)
     case atStart=>exact⟨0,zO,rfl,rfl,Ext.refl _⟩
     case round =>
      obtain⟨j,hj,rfl,rfl,gQ⟩:=hrel;have hEq:=hEw.trans gQ;have kr:=qa (qb rr gQ);have xH:=HLW.out j;by_cases hlt2:j<ws.length
      ·have hUB:=hlt2;obtain⟨b2,o2,rfl,bZ⟩:=yM zO;obtain⟨A',c',hca,wH,aQ⟩:=((HW.out.below hEq).more hEq.size).get j hlt2;have hm64:=aQ.at_.2.1;have hMK:=aQ.at_.2.2.1;have ht:=HTW.out j (by rw[List.length_map];exact hlt2);rw[List.getElem_map] at ht;replace ht:=zH ht;clear aQ;unfold maxLen at hMK;generalize ws[j].2.length=m at *;generalize ws[j].1=a at *;generalize vT ((ws.map (·.2)).take j)=q at *;generalize vT bs=s0 at *;go_wp2;go_roundw
       case rel=>exact⟨j+1,zO,by go_num,by rw[ht.out];go_num,gQ⟩
       case measure=>simp[intOf];omega
      ·obtain rfl:j=ws.length:=zO;rw[HE2.out] at xH ⊢;go_wp2;go_ret;refine⟨vS ?_,hEq⟩;rw[Bool.eq_iff_iff];simp;omega
def UW (S:Sto):Bool:=YS S.bs S.ws || (decide (10000<S.now.length) || decide (10000<S.last.length))
abbrev poolV (A1:Option Addr) (n1 c1:Nat) (A2:Option Addr) (n2 c2:Nat) (A3:Option Addr) (n3 c3:Nat) (A4:Option Addr) (n4 c4:Nat) (g r x:Int) (A5:Option Addr) (n5 c5:Nat):Value:=
 .agg #[.slice A1 n1 c1,.slice A2 n2 c2,.slice A3 n3 c3,.slice A4 n4 c4,.int .u32 g,.int .i64 r,.int .u32 x,.slice A5 n5 c5]
set_option maxRecDepth 100000 in
theorem qhj (A1:Option Addr) (n1 c1:Nat) (A2:Option Addr) (n2 c2:Nat) (A3:Option Addr) (n3 c3:Nat) (A4:Option Addr) (n4 c4:Nat) (S:Sto) (w:World) (h:qU w w.heap.size (.slice A1 n1 c1) (.slice A2 n2 c2) (.slice A3 n3 c3) (.slice A4 n4 c4) S):Calls prog 44 #[Qd A1 n1 c1 A2 n2 c2 A3 n3 c3 A4 n4 c4] w (Ret (.bool (UW S)) w):=by
 have HD:=zH (fun W (hW:Ext w W)=>qhi A1 n1 c1 A2 n2 c2 S.bs S.ws W (h.ext hW).bs (h.ext hW).ws);have e3:S.now.length=n3:=h.now.at_.1.symm;have e4:S.last.length=n4:=h.last.at_.1.symm;have hS:UW S=(YS S.bs S.ws || (decide (10000<n3) || decide (10000<n4))):=by unfold UW;rw[e3,e4]
 rw[hS];clear hS h e3 e4;generalize YS S.bs S.ws=d at *;go_enter func44,ntmps44;go_wp2_with fail;generalize aA:(World.alloc _ _)=w1;have x1:Ext w w1:=by rw[<-aA];exact zN _ _
 have r1:w1.heap[w.heap.size]?=some (.cells #[.slice A1 n1 c1,.slice A2 n2 c2,.slice A3 n3 c3,.slice A4 n4 c4] 28 (0,0)):=by rw[<-aA];exact zI _ _ _ rfl
 clear aA;refine(HD.out _ x1).mono ?_;rintro e w2 ⟨rfl,hB⟩;have x2:=x1.trans hB;have r2:=qb r1 hB;have k2:=qa r2;clear hB r1 x1 HD;cases d;all_goals
  go_wp2;all_goals
   go_ret;refine⟨vS ?_,x2⟩;rw[Bool.eq_iff_iff];simp;try omega
def qhk (S:Sto) (dead:Nat):Bool:=UW S || decide (1000<dead)
set_option maxRecDepth 100000 in
theorem qfv (A1:Option Addr) (n1 c1:Nat) (A2:Option Addr) (n2 c2:Nat) (A3:Option Addr) (n3 c3:Nat) (A4:Option Addr) (n4 c4:Nat) (g r x:Int) (A5:Option Addr) (n5 c5:Nat) (S:Sto) (w:World) (h:qU w w.heap.size (.slice A1 n1 c1) (.slice A2 n2 c2) (.slice A3 n3 c3) (.slice A4 n4 c4) S):Calls prog 16 #[poolV A1 n1 c1 A2 n2 c2 A3 n3 c3 A4 n4 c4 g r x A5 n5 c5] w (Ret (.bool (qhk S n5)) w):=by
 have HD:=zH (fun W (hW:Ext w W)=>qhj A1 n1 c1 A2 n2 c2 A3 n3 c3 A4 n4 c4 S W (h.ext hW));have hS:qhk S n5=(UW S || decide (1000<n5)):=rfl;rw[hS];clear hS h;generalize UW S=d at *;go_enter func16,ntmps16;go_wp2_with fail;generalize aA:(World.alloc _ _)=w1;have x1:Ext w w1:=by rw[<-aA];exact zN _ _
 have r1:w1.heap[w.heap.size]?=some (.cells #[.slice A1 n1 c1,.slice A2 n2 c2,.slice A3 n3 c3,.slice A4 n4 c4,.int .u32 g,.int .i64 r,.int .u32 x,.slice A5 n5 c5] 32 (0,0)):=by rw[<-aA];exact zI _ _ _ rfl
 clear aA;refine(HD.out _ x1).mono ?_;rintro e w2 ⟨rfl,hB⟩;have x2:=x1.trans hB;have r2:=qb r1 hB;have k2:=qa r2;clear hB r1 x1 HD;cases d;all_goals
  go_wp2;all_goals
   go_ret;refine⟨vS ?_,x2⟩;rw[Bool.eq_iff_iff];simp;try omega

theorem VolFQ.known {S:Sto} {root next:Int} {dead:List Int} {id:Int} {w w':World} {e:Ending} {vs:List Vol} (h:VolFQ S root next dead id w e w') (hk:JK S root next dead vs):e=.returned (volQ (Qr vs id)):=by
 obtain⟨refs,nodes,h1,h2,h3⟩:=hk;rcases h.2 with ⟨_,hb⟩|⟨vs',refs',nodes',hp,hc,_,rfl⟩
 ·exact(zj.no hb h1 h2 h3).elim
 ·obtain⟨rfl,-,-⟩:=Qg.unique h1 h2 hp hc;rfl
theorem AllQ.known {S:Sto} {root next:Int} {dead:List Int} {id:Int} {w w':World} {e:Ending} {vs:List Vol} {v:Vol} (h:AllQ S root next dead id w e w') (hk:JK S root next dead vs) (hv:Qr vs id=some v):∃ A c,e=.returned (.slice A (Tb S v.root).length c)/\Its w' w'.heap.size (.slice A (Tb S v.root).length c) (Tb S v.root):=by
 obtain⟨refs,nodes,h1,h2,h3⟩:=hk;rcases h.2 with ⟨_,hb⟩|⟨vs',⟨refs',nodes',hp,hc,_⟩,hm⟩
 ·exact(zj.no hb h1 h2 h3).elim
 ·obtain⟨rfl,-,-⟩:=Qg.unique h1 h2 hp hc;rcases hm with ⟨e1,_⟩|⟨v',A,c,e1,e2,e3⟩
  ·rw[hv] at e1;cases e1
  ·rw[hv] at e1;cases e1;exact⟨A,c,e2,e3⟩
theorem UQ.lt {S S':Sto} {root next:Int} {dead:List Int} {id:Int} {fz:Bool} {r:Nat} (h:UQ S root next dead id fz r S'):next<4294967295:=by obtain⟨_,_,_,_,_,_,_,_,_,_,h,_⟩:=h;exact h
def Ve (zs:List It):Qa:=⟨Option Addr×Nat,fun p=>.slice p.1 zs.length p.2,fun p W=>Its W W.heap.size (.slice p.1 zs.length p.2) zs⟩
theorem Zq (zs:List It) (A:Option Addr) (c:Nat):(Ve zs).f (A,c)=.slice A zs.length c:=rfl
theorem Vk (zs:List It):∀ p,qJ qj ((Ve zs).φ p):=fun p W W' he h=>Its.ext h he
theorem meas1_ {n k:Nat} (h:k<n):n-(intOf (.int .i64 ((k:Int)+1))).toNat<n-(intOf (.int .i64 (k:Int))).toNat:=by simp[intOf];omega
theorem Yl {R:Ending->World->Prop} {a:Act} {W:World} {u:Value} (h4:a.tmps[6]?.getD undef=u) (hd:a.defers=[]) (hR:R (.returned u) W):bodyPost prog Tryz.f10 R .ret a W:=by refine bodyPost_ret (v:=u) ?_ hd hR;simp[results,results10,go_sem,h4]
set_option maxRecDepth 100000 in
theorem qhZ (A1:Option Addr) (n1 c1:Nat) (A2:Option Addr) (n2 c2:Nat) (A3:Option Addr) (n3 c3:Nat) (A4:Option Addr) (n4 c4:Nat) (gen root next:Int) (A5:Option Addr) (c5:Nat) (S:Sto) (dead:List Int) (id:Int) (fz:Bool) (hid:0<=id/\id<4294967296) (cZ:0<=next/\next<4294967296) (w:World) (h:qU w w.heap.size (.slice A1 n1 c1) (.slice A2 n2 c2) (.slice A3 n3 c3) (.slice A4 n4 c4) S) (hd:Zw w w.heap.size (.slice A5 dead.length c5) dead):Calls prog 10 #[.agg (qF (.slice A1 n1 c1) (.slice A2 n2 c2) (.slice A3 n3 c3) (.slice A4 n4 c4) gen root next (.slice A5 dead.length c5)),.int .u32 id,.bool fz] w (Ret (.bool true) w):=by
 have HG:=zH (fun W (hx:Ext w W)=>qfv A1 n1 c1 A2 n2 c2 A3 n3 c3 A4 n4 c4 gen root next A5 dead.length c5 S W (h.ext hx));have HS:=zH (fun W (hx:Ext w W)=>Gp A1 n1 c1 A2 n2 c2 A3 n3 c3 A4 n4 c4 gen root next A5 c5 S dead id fz hid cZ W (h.ext hx) (hd.ext_ hx));have HO:=zH (fun W (hx:Ext w W)=>Kr A1 n1 c1 A2 n2 c2 A3 n3 c3 A4 n4 c4 gen root next A5 c5 S dead id W (h.ext hx) (hd.ext_ hx));have HV:=zH (fun W (hx:Ext w W)=>UV A1 n1 c1 A2 n2 c2 A3 n3 c3 A4 n4 c4 gen root next A5 c5 S dead W (h.ext hx) (hd.ext_ hx));have HA:=zH (fun W (hx:Ext w W)=>qcC A1 n1 c1 A2 n2 c2 A3 n3 c3 A4 n4 c4 gen root next A5 c5 S dead id W (h.ext hx) (hd.ext_ hx));replace hid:=zH hid;replace cZ:=zH cZ;clear h hd;go_enter func10,ntmps10;go_wp2_with fail;generalize aA:World.alloc w _=w1;have x1:Ext w w1:=by rw[<-aA];exact zN _ _
 have lQ:w1.heap[w.heap.size]?=some (.cells (qF (.slice A1 n1 c1) (.slice A2 n2 c2) (.slice A3 n3 c3) (.slice A4 n4 c4) gen root next (.slice A5 dead.length c5)) 32 (0,0)):=by rw[<-aA];exact zI _ _ _ rfl
 clear aA;refine(qeM w1).mono ?_;rintro e w2 ⟨rfl,hB⟩;have x2:Ext w w2:=x1.trans hB;have eP:=qb lQ hB;have uy:=qa eP;clear hB lQ x1;go_wp2_with fail;refine(HG.out w2 x2).mono ?_;clear HG;rintro e w3 ⟨rfl,hB⟩;have x3:Ext w w3:=x2.trans hB;have nX:=qb eP hB;have kp3:=qa nX;clear hB eP x2 uy;cases bM:qhk S dead.length
 case true =>go_wp2_with fail;exact Yl rfl rfl ⟨rfl,x3⟩
 case false =>
  replace bM:=zH bM;go_wp2_with fail;refine(HS.out w3 x3).mono ?_;clear HS;rintro e w4 ⟨hB,hq⟩;have x4:Ext w w4:=x3.trans hB;have nY:=qb nX hB;clear hB nX x3 kp3;rcases hq with ⟨er,aG,rfl,-⟩|⟨r1,S1,u,iJ,rfl,hN⟩
  ·have hb:(er == 0)=false:=by rw[beq_eq_false_iff_ne];exact aG
   replace aG:=zH aG;go_wp2_with fail;exact Yl rfl rfl ⟨rfl,x4.trans (zN _ _)⟩
  ·have hDH:=iJ.lt;have hn0:=cZ.out;obtain⟨B1,d1,B2,d2,B3,d3,B4,d4,B5,d5,rfl,hS,hI⟩:=hN.sto;have HS:=zH (fun W (hx:Ext w4 W)=>Gp B1 _ d1 B2 _ d2 B3 _ d3 B4 _ d4 gen (r1:Int) (next+1) B5 d5 S1 dead next (!fz) ⟨hn0.1,zO⟩ ⟨zO,zO⟩ W (hS.ext hx) (hI.ext_ hx));replace hDH:=zH hDH;replace iJ:=zH iJ;clear hN hS hI hn0;go_wp2_with fail;generalize aV:World.alloc w4 _=w5;have dP:Ext w4 w5:=by rw[<-aV];exact zN _ _
   have x5:Ext w w5:=x4.trans dP;have sS:=qb nY dP;clear aV nY x4;refine(HS.out w5 dP).mono ?_;clear HS;rintro e w6 ⟨hB,hq⟩;have x6:Ext w w6:=x5.trans hB;have rp6:=qb sS hB;clear hB sS x5 dP;rcases hq with ⟨er,aG,rfl,-⟩|⟨r2,S2,u,xI,rfl,hN⟩
   ·have hb:(er == 0)=false:=by rw[beq_eq_false_iff_ne];exact aG
    replace aG:=zH aG;go_wp2_with fail;exact Yl rfl rfl ⟨rfl,x6.trans (zN _ _)⟩
   ·obtain⟨vs,vs2,v,hC⟩:=qff hid.out ⟨cZ.out.1,by have:=hDH.out;omega⟩ iJ.out xI;obtain⟨C1,e1,C2,e2,C3,e3,C4,e4,C5,e5,rfl,hS,hI⟩:=hN.sto;have HV2:=zH (fun i W (hx:Ext w6 W)=>Kr C1 _ e1 C2 _ e2 C3 _ e3 C4 _ e4 gen (r2:Int) (next+1+1) C5 e5 S2 dead i W (hS.ext hx) (hI.ext_ hx));have HA2:=zH (fun i W (hx:Ext w6 W)=>qcC C1 _ e1 C2 _ e2 C3 _ e3 C4 _ e4 gen (r2:Int) (next+1+1) C5 e5 S2 dead i W (hS.ext hx) (hI.ext_ hx));replace hC:=zH hC;clear xI iJ hN hS hI;go_wp2_with fail;generalize gp:World.alloc w6 _=w7;have x67:Ext w6 w7:=by rw[<-gp];exact zN _ _
    have rr7:w7.heap[w6.heap.size]?=some (.cells (qF (.slice C1 S2.bs.length e1) (.slice C2 S2.ws.length e2) (.slice C3 S2.now.length e3) (.slice C4 S2.last.length e4) gen (r2:Int) (next+1+1) (.slice C5 dead.length e5)) 32 (0,0)):=by rw[<-gp];exact zI _ _ _ rfl
    have rp7:=qb rp6 x67;clear gp rp6;refine(HV2.out next w7 x67).mono ?_;intro e w8 hq;have x68:Ext w6 w8:=x67.trans hq.1;have rp8:=qb rp7 hq.1;have rr8:=qb rr7 hq.1;obtain rfl:=hq.known hC.out.ok2;rw[hC.out.one];have kr8:=qa rr8;have zr8:=(zG.1 rr8).1;clear hq rp7 rr7 x67;unfold volQ jB;go_wp2_with fail;generalize yF:World.alloc w8 _=w9;have x89:Ext w8 w9:=by rw[<-yF];exact zN _ _
    have ra9:w9.heap[w8.heap.size]?=some (.cells #[.int .u32 next,.int .i64 v.root,.bool fz,.int .u32 id] 40 (0,0)):=by rw[<-yF];exact zI _ _ _ rfl
    have x69:=x68.trans x89;have rp9:=qb rp8 x89;have rr9:=qb rr8 x89;clear yF rp8 rr8 kr8 zr8 x68 x89;refine(HV2.out (next+1) w9 x69).mono ?_;intro e wa hq;have x6a:Ext w6 wa:=x69.trans hq.1;have rpa:=qb rp9 hq.1;have rra:=qb rr9 hq.1;have raa:=qb ra9 hq.1;obtain rfl:=hq.known hC.out.ok2;rw[hC.out.two];have kpa:=qa rpa;have zpa:=(zG.1 rpa).1;clear hq rp9 rr9 ra9 x69;unfold volQ jB;go_wp2_with fail;generalize hwb:World.alloc wa _=wb;have xab:Ext wa wb:=by rw[<-hwb];exact zN _ _
    have rbb:wb.heap[wa.heap.size]?=some (.cells #[.int .u32 (next+1),.int .i64 v.root,.bool (!fz),.int .u32 next] 40 (0,0)):=by rw[<-hwb];exact zI _ _ _ rfl
    have x6b:=x6a.trans xab;have rpb:=qb rpa xab;have rrb:=qb rra xab;have rab:=qb raa xab;clear hwb rpa rra raa kpa zpa x6a xab;refine(HO.out wb (x6.trans x6b)).mono ?_;clear HO;intro e wc hq;have x6c:Ext w6 wc:=x6b.trans hq.1;have rpc:=qb rpb hq.1;have rrc:=qb rrb hq.1;have rac:=qb rab hq.1;have rbc:=qb rbb hq.1;obtain rfl:=hq.known hC.out.ok;rw[hC.out.vol];have zpc:=(zG.1 rpc).1;have zac:=(zG.1 rac).1;have zbc:=(zG.1 rbc).1;have kpc:=qa rpc;have kac:=qa rac;have kbc:=qa rbc;clear hq rpb rrb rab rbb x6b;have hIJ:IntKind.u32.wrap (next+1)=next+1:=by have:=cZ.out;have:=hDH.out;simp only[IntKind.wrap,IntKind.bits,IntKind.signed,Bool.false_and,Bool.false_eq_true,if_false];omega
    have hEN:(next+1) % 4294967296=next+1:=by have:=cZ.out;have:=hDH.out;omega
    have hbf:((!fz) == fz)=false:=by cases fz <;> rfl
    replace hIJ:=zH hIJ;replace hEN:=zH hEN;have hVU:=hIJ.out;unfold volQ jB;go_wp2_with fail;generalize hwd:World.alloc wc _=wd;have xcd:Ext wc wd:=by rw[<-hwd];exact zN _ _
    have x6d:=x6c.trans xcd;have rpd:=qb rpc xcd;have rrd:=qb rrc xcd;clear hwd rpc rrc rac rbc kpc kac kbc zpc zac zbc x6c xcd hVU hbf hIJ hEN;refine(HV.out wd (x6.trans x6d)).mono ?_;clear HV;rintro e we ⟨hB,hQ⟩;have x6e:Ext w6 we:=x6d.trans hB;have rpe:=qb rpd hB;have rre:=qb rrd hB;clear hB rpd rrd x6d;obtain⟨refs,nodes,sD,dS,hp3⟩:=hC.out.ok;rcases hQ with ⟨rfl,ae⟩|⟨vs',refs',nodes',cb,ca,vv,lo,rfl,aP,hT⟩
    case inl=>exact(zj.no ae sD dS hp3).elim
    case inr =>
     obtain⟨rfl,rfl,-⟩:=Qg.unique hT.pool hT.cnt sD dS;have hMG:=Gf sD dS hp3;have uQ:=hMG.len;obtain⟨AV,cV,rfl,-,-⟩:=qz hT.own;have oh:=zH (Rd.of_own hT.own);replace hMG:=zH hMG;clear hT sD dS hp3 aP;go_wp2_with fail;go_loopw [22] (fun i wr=>∃ k:Nat,k<=vs.length/\i=.int .i64 (k:Int)/\Ext we wr) (fun i _=>vs.length-(intOf i).toNat)
     case atStart=>exact⟨0,Nat.zero_le _,rfl,Ext.refl _⟩
     case round =>
      obtain⟨k,hk,rfl,xr⟩:=hrel;have rpr:=qb rpe xr;have wW:=qb rre xr;by_cases hlt:k<vs.length
      ·obtain⟨bv,iO,rfl,hbv,aS⟩:=oh.out.2 zO;obtain⟨d0,d1',d2',tY⟩:=Kq vs k hlt;replace d0:=Ext.cell xr (aS _ _ d0);replace d1':=Ext.cell xr (aS _ _ d1');replace d2':=Ext.cell xr (aS _ _ d2');replace tY:=Ext.cell xr (aS _ _ tY);have uu:=zH (hC.out.old _ (List.getElem_mem hlt));have HOk:=zH (fun W (hx:Ext wr W)=>HV2.out vs[k].id W ((x6e.trans xr).trans hx));generalize vs[k]=u at *;obtain⟨ui,ur,uf,um⟩:=u;simp only at d0 d1' d2' tY;rw[<-Nat.add_assoc] at d1' d2' tY;replace uu:=zH uu.out;have gR:∀ W,qj.r wr W->∀ i,W.cell? ⟨w6.heap.size,i,none⟩=(qF (.slice C1 S2.bs.length e1) (.slice C2 S2.ws.length e2) (.slice C3 S2.now.length e3) (.slice C4 S2.last.length e4) gen (r2:Int) (next+1+1) (.slice C5 dead.length e5))[i]?:=fun W h=>qa (qb wW h);have g0:∀ W,qj.r wr W->W.cell? ⟨bv,iO+k*4,none⟩=some (.int .u32 ui):=fun W h=>Ext.cell h d0;have hC2:=zH hC.out.ok2;go_upto_region 19 with fail;refine qp zQ ?_;refine vF 11 9 zE zQ rfl rfl zQ zQ zQ zQ ?_;dsimp only[jq,Array.push,List.push_toArray,List.concat_eq_append];refine qQ (w:=wr) qj (qH [(6,one (.tuple #[jB ⟨ui,ur,uf,um⟩,.int .i64 0])),(10,jS wr.heap.size 40 #[.int .u32 0,.int .i64 0,.bool false,.int .u32 0])]) (List.replicate 11 true) 2 zQ zQ zQ zQ zQ zQ zQ ?st (Rel.drew _ _) ?walk
       case st=>exact qk (by simp only[List.forall_mem_cons];exact⟨fun _ _ _ _ _=>trivial,fun p=>QI (ZP _ _ _ p),fun _ h=>by cases h⟩)
       case walk =>
        intro K hK;dsimp only[qt,List.replicate];repeat ((first|(refine qd ?_ zA0 zA0 (fun W hW _=>⟨W,?_,Rel.refl _ W⟩) ?_;rotate_left;(go_simp<;>with_reducible rfl))|(refine qh zA0 ?_));try simp only[Act.put,ql,qg,qc,qf,qc,Zq,ql,zA,zB,zC])
        refine qw (one (.tuple #[jB ⟨ui,ur,uf,um⟩,.int .i64 0])) zA0 zA0 (fun W hW _=>?_) (fun (p:Unit)=>?_)
        ·have hW:Ext wr W:=hW;refine Qi ?_ ((HOk.out W hW).mono fun e w' h=>?_)
         ·go_simp
         obtain rfl:=h.known hC2.out;rw[uu.out];exact⟨(),rfl,trivial,h.1⟩
        simp only[Act.put,ql,qc,qf,qc,Zq,ql,zA,zB,zC];repeat ((first|(refine qd ?_ zA0 zA0 (fun W hW _=>⟨W,?_,Rel.refl _ W⟩) ?_;rotate_left;(go_simp<;>with_reducible rfl))|(refine qh zA0 ?_));try simp only[Act.put,ql,qg,qc,qf,qc,Zq,ql,zA,zB,zC])
        refine qw (jS wr.heap.size 40 #[.int .u32 0,.int .i64 0,.bool false,.int .u32 0]) zA0 zA0 (fun W hW _=>?_) (fun (p11:Nat)=>?_)
        ·refine jN ?_ (Below.size hW);go_simp
        simp only[Act.put,qg,qc,qf,qc,Zq,ql,zA,zB,zC];repeat ((first|(refine qd ?_ zA0 zA0 (fun W hW _=>⟨W,?_,Rel.refl _ W⟩) ?_;rotate_left;(go_simp<;>with_reducible rfl))|(refine qh zA0 ?_));try simp only[Act.put,ql,qg,qc,qf,qc,Zq,ql,zA,zB,zC])
        refine qv (hK _ _ fun W hW hF=>?_);obtain⟨f11,aP⟩:W.heap[p11]?=some (.cells #[.int .u32 0,.int .i64 0,.bool false,.int .u32 0] 40 (0,0))/\wr.heap.size<=p11:=(hF 10).1;clear hF hK gR g0 HOk;have hW:Ext wr W:=hW;refine zC4 ?_;have k11:=qa f11;have h11:=qe f11;go_wp2;refine Qo ?_;generalize yF:World.setCell (World.setCell (World.setCell (World.setCell W _ _) _ _) _ _) _ _=w9;obtain⟨r9,o9,z9,b9⟩:=qbG f11 yF.symm;clear yF k11 h11 f11;have x9:Ext wr w9:=b9 aP hW;have gD0:∀ W,qj.r w9 W->W.cell? ⟨bv,iO+k*4,none⟩=some (.int .u32 ui):=fun W h=>Ext.cell (x9.trans h) d0;have gD1:∀ W,qj.r w9 W->W.cell? ⟨bv,iO+k*4+1,none⟩=some (.int .i64 ur):=fun W h=>Ext.cell (x9.trans h) d1';have gD2:∀ W,qj.r w9 W->W.cell? ⟨bv,iO+k*4+2,none⟩=some (.bool uf):=fun W h=>Ext.cell (x9.trans h) d2';have gD3:∀ W,qj.r w9 W->W.cell? ⟨bv,iO+k*4+3,none⟩=some (.int .u32 um):=fun W h=>Ext.cell (x9.trans h) tY;have gX:∀ W,qj.r w9 W->∀ i,W.cell? ⟨p11,i,none⟩=#[.int .u32 ui,.int .i64 ur,.bool uf,.int .u32 um][i]?:=fun W h=>qa (qb r9 h);clear d0 d1' d2' tY;have hltH:=zH hlt;have x9H:=zH (xr.trans x9);go_upto_region 20 with fail;refine qp zQ ?_;refine qcE (w:=w9) qj (qH []) (List.replicate 10 true) 0 zQ zQ zQ zQ zQ zQ zQ ?st (Rel.drew _ _) ?walk
        case st=>exact qk (fun _ h=>by cases h)
        case walk =>
         intro K hK;dsimp only[qt,List.replicate];repeat ((first|(refine qd ?_ zA0 zA0 (fun W hW _=>⟨W,?_,Rel.refl _ W⟩) ?_;rotate_left;(go_simp<;>with_reducible rfl))|(refine qh zA0 ?_));try simp only[Act.put,ql,qg,qc,qf,qc,Zq,ql,zA,zB,zC])
         refine qv (hK _ _ fun V hV hF=>?_);clear hF hK gD0 gD1 gD2 gD3 gX;have hV:Ext w9 V:=hV;have xV:=zH (x9H.out.trans hV);try dsimp only[List.drop,List.length_cons,List.length_nil,Nat.reduceAdd,Nat.reduceSub]
         go_wp2;refine Qo ?_;go_wp2_with fail;exact⟨⟨k+1,hltH.out,rfl,xV.out⟩,meas1_ hltH.out⟩
      ·obtain rfl:k=vs.length:=zO;obtain⟨zs,xU⟩:∃ zs,Tb S v.root=zs:=⟨_,rfl⟩
       have aW:Tb S2 v.root=zs:=(hC.out.all _ _).trans xU;have hzl:zs.length<1073741824:=by have:=qkp S v.root (0,0,0) (255,4294967295,4294967295);rw[<-xU];unfold Tb;omega
       have H2:=zH (fun W (hx:Ext wr W)=>(HA2.out (next+1) W ((x6e.trans xr).trans hx)).mono fun e w' h=>(show ∃ p:Option Addr×Nat,e=.returned ((Ve zs).f p)/\(Ve zs).φ p w'/\Ext W w' from by obtain⟨A,c,he,hi⟩:=h.known hC.out.ok2 hC.out.two;have hz3:Tb S2 (⟨next+1,v.root,!fz,next⟩:Vol).root=zs:=aW;rw[hz3] at he hi;exact⟨(A,c),he,hi,h.1⟩));have H1:=zH (fun W (hx:Ext wr W)=>(HA2.out next W ((x6e.trans xr).trans hx)).mono fun e w' h=>(show ∃ p:Option Addr×Nat,e=.returned ((Ve zs).f p)/\(Ve zs).φ p w'/\Ext W w' from by obtain⟨A,c,he,hi⟩:=h.known hC.out.ok2 hC.out.one;have hz3:Tb S2 (⟨next,v.root,fz,id⟩:Vol).root=zs:=aW;rw[hz3] at he hi;exact⟨(A,c),he,hi,h.1⟩));have H0:=zH (fun W (hx:Ext wr W)=>(HA.out W (((x6.trans x6e).trans xr).trans hx)).mono fun e w' h=>(show ∃ p:Option Addr×Nat,e=.returned ((Ve zs).f p)/\(Ve zs).φ p w'/\Ext W w' from by obtain⟨A,c,he,hi⟩:=h.known hC.out.ok hC.out.vol;rw[xU] at he hi;exact⟨(A,c),he,hi,h.1⟩));have hz4:=zH hzl;have gR:∀ W,qj.r wr W->∀ i,W.cell? ⟨w6.heap.size,i,none⟩=(qF (.slice C1 S2.bs.length e1) (.slice C2 S2.ws.length e2) (.slice C3 S2.now.length e3) (.slice C4 S2.last.length e4) gen (r2:Int) (next+1+1) (.slice C5 dead.length e5))[i]?:=fun W h=>qa (qb wW h);have gP:∀ W,qj.r wr W->∀ i,W.cell? ⟨w.heap.size,i,none⟩=(qF (.slice A1 n1 c1) (.slice A2 n2 c2) (.slice A3 n3 c3) (.slice A4 n4 c4) gen root next (.slice A5 dead.length c5))[i]?:=fun W h=>qa (qb rpr h);have mO:=zH ((x6.trans x6e).trans xr);clear hzl aW xU HA HA2 HV2 rpr wW;go_upto_region 22 with fail;refine qp zQ ?_;refine qQ (w:=wr) qj (qH [(8,Ve zs),(11,Ve zs),(12,one (.bool true)),(17,Ve zs),(20,Ve zs),(21,one (.bool true))]) (List.replicate 23 true) 1 zQ zQ zQ zQ zQ zQ zQ ?st (Rel.drew _ _) ?walk
       case st=>exact qk (by simp only[List.forall_mem_cons];exact⟨Vk zs,Vk zs,fun _ _ _ _ _=>trivial,Vk zs,Vk zs,fun _ _ _ _ _=>trivial,fun _ h=>by cases h⟩)
       case walk =>
        intro K hK;dsimp only[qt,List.replicate];repeat ((first|(refine qd ?_ zA0 zA0 (fun W hW _=>⟨W,?_,Rel.refl _ W⟩) ?_;rotate_left;(go_simp<;>with_reducible rfl))|(refine qh zA0 ?_));try simp only[Act.put,ql,qg,qc,qf,qc,Zq,ql,zA,zB,zC])
        refine qw (Ve zs) zA0 zA0 (fun W hW _=>?_) (fun p8=>?_)
        ·refine jj ?_ (H2.out W hW);go_simp
        obtain⟨A8,c8⟩:Option Addr×Nat:=p8;simp only[Act.put,qg,qc,qf,qc,Zq,ql,zA,zB,zC];repeat ((first|(refine qd ?_ zA0 zA0 (fun W hW _=>⟨W,?_,Rel.refl _ W⟩) ?_;rotate_left;(go_simp<;>with_reducible rfl))|(refine qh zA0 ?_));try simp only[Act.put,ql,qg,qc,qf,qc,Zq,ql,zA,zB,zC])
        refine qw (Ve zs) zA0 zA0 (fun W hW _=>?_) (fun p11=>?_)
        ·refine jj ?_ (H0.out W hW);go_simp
        obtain⟨A11,c11⟩:Option Addr×Nat:=p11;simp only[Act.put,qg,qc,qf,qc,Zq,ql,zA,zB,zC];repeat ((first|(refine qd ?_ zA0 zA0 (fun W hW _=>⟨W,?_,Rel.refl _ W⟩) ?_;rotate_left;(go_simp<;>with_reducible rfl))|(refine qh zA0 ?_));try simp only[Act.put,ql,qg,qc,qf,qc,Zq,ql,zA,zB,zC])
        refine qw (one (.bool true)) zA0 zA0 (fun W hW hp=>?_) (fun (p:Unit)=>?_)
        ·have h8:Its W W.heap.size (.slice A8 zs.length c8) zs:=(hp 8 zD).1;have h11:Its W W.heap.size (.slice A11 zs.length c11) zs:=(hp 11 zD).1;refine jj ?_ ((qbD A8 A11 c8 c11 zs hz4.out W h8 h11).mono fun e w' h=>⟨(),by rw[h.1];rfl,trivial,h.2⟩);go_simp
        simp only[Act.put,ql,qc,qf,qc,Zq,ql,zA,zB,zC];repeat ((first|(refine qd ?_ zA0 zA0 (fun W hW _=>⟨W,?_,Rel.refl _ W⟩) ?_;rotate_left;(go_simp<;>with_reducible rfl))|(refine qh zA0 ?_));try simp only[Act.put,ql,qg,qc,qf,qc,Zq,ql,zA,zB,zC])
        refine qw (Ve zs) zA0 zA0 (fun W hW _=>?_) (fun p17=>?_)
        ·refine jj ?_ (H1.out W hW);go_simp
        obtain⟨A17,c17⟩:Option Addr×Nat:=p17;simp only[Act.put,qg,qc,qf,qc,Zq,ql,zA,zB,zC];repeat ((first|(refine qd ?_ zA0 zA0 (fun W hW _=>⟨W,?_,Rel.refl _ W⟩) ?_;rotate_left;(go_simp<;>with_reducible rfl))|(refine qh zA0 ?_));try simp only[Act.put,ql,qg,qc,qf,qc,Zq,ql,zA,zB,zC])
        refine qw (Ve zs) zA0 zA0 (fun W hW _=>?_) (fun p20=>?_)
        ·refine jj ?_ (H0.out W hW);go_simp
        obtain⟨A20,c20⟩:Option Addr×Nat:=p20;simp only[Act.put,qg,qc,qf,qc,Zq,ql,zA,zB,zC];repeat ((first|(refine qd ?_ zA0 zA0 (fun W hW _=>⟨W,?_,Rel.refl _ W⟩) ?_;rotate_left;(go_simp<;>with_reducible rfl))|(refine qh zA0 ?_));try simp only[Act.put,ql,qg,qc,qf,qc,Zq,ql,zA,zB,zC])
        refine qw (one (.bool true)) zA0 zA0 (fun W hW hp=>?_) (fun (p:Unit)=>?_)
        ·have h17:Its W W.heap.size (.slice A17 zs.length c17) zs:=(hp 17 zD).1;have h20:Its W W.heap.size (.slice A20 zs.length c20) zs:=(hp 20 zD).1;refine jj ?_ ((qbD A17 A20 c17 c20 zs hz4.out W h17 h20).mono fun e w' h=>⟨(),by rw[h.1];rfl,trivial,h.2⟩);go_simp
        simp only[Act.put,ql,qc,qf,qc,Zq,ql,zA,zB,zC];repeat ((first|(refine qd ?_ zA0 zA0 (fun W hW _=>⟨W,?_,Rel.refl _ W⟩) ?_;rotate_left;(go_simp<;>with_reducible rfl))|(refine qh zA0 ?_));try simp only[Act.put,ql,qg,qc,qf,qc,Zq,ql,zA,zB,zC])
        refine qv (hK _ _ fun V hV hF=>?_);clear hF hK gR gP;have hV:Ext wr V:=hV;have xV:=mO.out.trans hV;try dsimp only[List.drop,List.length_cons,List.length_nil]
        go_wp2;refine Qo ?_;go_wp2_with fail;exact Yl rfl rfl ⟨rfl,xV⟩
end Go.Proofs.YtpbniokljofedaaGreat
namespace Go.Proofs.YtpbniokljofedaaGreat
open Go.RowKit Go.ChangeShapes Go.WideShapes Go.ChangeAt
section
variable {H:Type} {enc:TypeId×Value->H} {P:Program} {W:World}
theorem qdT (zs:List Int) (h:∀ n∈zs,(Lit.int .u8 n).wf=true):∃ l:List UInt8,zs.map (Value.int .u8)=l.map bv:=by
 induction zs with
 |nil=>exact⟨[],rfl⟩
 |cons z r ih =>
  obtain⟨l,hl⟩:=ih (fun n hn=>h n (List.mem_cons_of_mem _ hn));have hz:=h z (List.mem_cons_self);have hb:0<=z/\z<=255:=by simpa [Lit.wf,IntKind.min,IntKind.max,IntKind.signed,IntKind.bits] using hz
  refine⟨UInt8.ofNat z.toNat :: l,?_⟩;simp only[List.map_cons,hl];congr 1;simp only[bv];congr 1;have:(UInt8.ofNat z.toNat).toNat=z.toNat % 256:=zA2;rw[this];omega
theorem Xh {a:Addr} {n c:Nat} {xs:List Value} (hn:n<=c) (hlen:xs.length=n) (hb:∀ x∈MemPlace.row a c,x.block<W.heap.size) (hc:∀ i u,xs[i]?=some u->W.cell? (a.add i)=some u):Rd W W.heap.size 1 (some a) n xs:=by
 refine⟨zO,fun h0=>?_⟩;obtain⟨u,hu⟩:∃ u,xs[0]?=some u:=⟨_,zL zO⟩
 have h1:=hc 0 u hu;have aN:a.spot=none:=by
  have:(a.add 0)=a:=by simp[Addr.add]
  rw[this] at h1;unfold World.cell? at h1;split at h1
  ·cases hs:a.spot with
   |none=>rfl
   |some s=>rw[hs] at h1;simp at h1
  ·cases h1
 obtain⟨b,off,sp⟩:=a;simp only at aN;subst aN;have dJ:b<W.heap.size:=by have:W.cell? ((⟨b,off,none⟩:Addr).add 0)=some u:=h1;have h2:=World.block_lt_of_cell? W _ this;simpa [Addr.add] using h2
 refine⟨b,off,rfl,dJ,fun j v hv=>?_⟩;rw[<-hc j v hv];unfold Addr.add;split
 ·subst_vars;rfl
 ·rfl
theorem Uu {t e:TypeId} {fuel:Nat} {cs:List Value} {d:DataW H} {p:List MemPlace} (ht:P.underlying t=some (.slice e)) (he:P.underlying e=some (.int .u8)) (hc:P.cellsOf e=1) (h:DataW.trod enc P W 0 (fun _=>true) true fuel t cs=some (d,p)) (hlt:∀ x∈p,x.block<W.heap.size):∃ A n c,cs=[.slice A n c]/\n<=c/\∃ l:List UInt8,Bys W W.heap.size (.slice A n c) l/\l.length=n:=by
 rcases open_ints ht he hc h with ⟨rfl,_⟩|⟨a,len,cap,zs,rfl,_,hl,hm,hz,hx,aC,aY⟩
 ·exact⟨none,0,0,rfl,zM _,[],Bys.nil W _,rfl⟩
 ·simp only[if_true] at hz;obtain⟨l,hl'⟩:=qdT (zs.take len) (fun n hn=>aY n (List.mem_of_mem_take hn));have hll:l.length=len:=by have:=congrArg List.length hl';simp only[List.length_map,List.length_take] at this;omega
  refine⟨some a,len,cap,rfl,hl,l,⟨some a,cap,by rw[hll],zO,hm,?_⟩,hll⟩;rw[hll];refine Xh (c:=cap) hl (by simp[hll]) (fun x uw=>hlt x ?_) (fun i u hu=>?_)
  ·have e2:p=MemPlace.row a zs.length:=by injection hx
   rw[e2,hz];exact uw
  ·rw[<-hl'] at hu;rw[List.getElem?_map,List.getElem?_take] at hu;split at hu
   ·rename_i hi;rw[aC i zO];rw[<-hu];simp[zL (show i<zs.length by omega)]
   ·cases hu
theorem kO {t:TypeId} {fs:Array Field} {fuel:Nat} {cs:List Value} {x:DataW H×List MemPlace} (ht:P.underlying t=some (.struct fs)) (h:DataW.trod enc P W 0 (fun _=>true) true fuel t cs=some x) : ∃ (xs:List (DataW H×List MemPlace)) (n:Nat),cs.length=P.cellsOf t/\xs.length=fs.size/\x.2=xs.flatMap (·.2) /\ ∀ (i:Nat) (T:TypeId) (off m:Nat),(fs[i]?).map (fun f=>(f.type,f.offset))=some (T,off)->P.cellsOf T=m->DataW.trod enc P W 0 (fun _=>true) true n T ((cs.drop off).take m)=xs[i]?:=by
 obtain⟨xs,n,_,hx,hl,gu,hf⟩:=DataW.trod_struct ht h;refine⟨xs,n,hl,gu,by rw[hx],fun i T off m hi hm=>?_⟩;obtain⟨f,hfi,he⟩:=Option.map_eq_some_iff.1 hi;have:=hf i f hfi;simp only[Prod.mk.injEq] at he;rw[he.1,he.2,hm] at this;exact this
end
section
variable {H:Type} {enc:TypeId×Value->H} {P:Program}
theorem XV (hl:laidOutB P=true) {W W':World} {sp:Nat->Bool}:∀ (ts:List TypeId) (vs:List Value) (ds:List (DataW H)) (p:List MemPlace),DataW.TrodAll enc P W 0 (fun _=>true) true ts vs ds p -> (∀ t∈ts,P.readableRec t=true/\t<P.types.size)->(∀ x∈p,W.sameAt W' x)->(∀ x∈p,sp x.block=true)->DataW.TrodAll enc P W' 0 sp true ts vs ds p
 | [],vs,ds,p,h,_,_,_=>by obtain⟨rfl,rfl,rfl⟩:=trodAll_nil h;exact trodAll_mk0
 |t :: ts,vs,ds,p,h,ht,hs,aN=>by
  obtain⟨v,vs',d,ds',p0,q0,rfl,rfl,rfl,h0,h1⟩:=trodAll_cons h;have e:=ht t (List.mem_cons_self);exact trodAll_cons_mk (WideElems.Trod_stays hl e.1 e.2 h0 (fun x hx=>hs x (List.mem_append_left _ hx)) (fun x hx=>aN x (List.mem_append_left _ hx)))
   (XV hl ts vs' ds' q0 h1 (fun t' h'=>ht t' (List.mem_cons_of_mem _ h')) (fun x hx=>hs x (List.mem_append_right _ hx)) (fun x hx=>aN x (List.mem_append_right _ hx)))
theorem law_post {f:Func} {s:ChangeSpec} {W W':World} {args:Array Value} {ds gs:List (DataW H)} {before:List MemPlace} {b:TypeId} (hv:s.vars=[]) (hl:laidOutB P=true) (hr:f.resultTypes=#[b]) (hb:P.underlying b=some .bool) (ht:∀ t∈f.params.toList,P.readableRec t=true/\t<P.types.size) (hW:DataW.Whole enc P f.params.toList s.vars false W args.toList ds gs before) (hs:s.fn H (ds++gs)={ results:=[.lit (.bool true)],args:=ds,vars:=[] }) (hB:Below W.heap.size W W'):s.post enc P f false true false false W args (.bool true) W':=by
 have hlt:∀ x∈before,x.block<W.heap.size:=fun x hx=>hW.lt x hx;have rM:=hW;obtain⟨p,q,hA,hV,rfl,_,_⟩:=hW;have hq:q=[]:=by
  rw[hv] at hV;cases gs with
  |nil=>exact hV
  |cons g gs=>cases hV
 subst hq;refine⟨ds,gs,p++[],[],p,[],rM,?_,?_,?_,?_,fun h=>by cases h⟩
 ·rw[hs,hr];exact trodAll_cons_mk (shut_bool hb true) trodAll_mk0
 ·rw[hs];exact XV hl _ _ _ _ hA ht (fun x hx=>hB.same (hlt x (by simpa using hx))) (fun x hx=>by simpa using hlt x (by simpa using hx))
 ·rw[hs,hv];exact rfl
 ·exact World.keptBut_mono (fun x hx=>⟨by simpa using hx,Or.inr (Or.inl hx)⟩) (hB.frame (· ∈ p))
end
end Go.Proofs.YtpbniokljofedaaGreat
namespace Go.Proofs.YtpbniokljofedaaGreat
open Go.RowKit Go.ChangeShapes Go.WideShapes Go.ChangeAt Go.Deep
theorem Tryz.cc_u8:Tryz.prog.cellsOf 5=1:=zQ
theorem Tryz.cc_u32:Tryz.prog.cellsOf 29=1:=zQ
theorem Tryz.cc_int:Tryz.prog.cellsOf 3=1:=zQ
theorem Tryz.cc_bytes:Tryz.prog.cellsOf 26=1:=zQ
theorem Tryz.cc_blocks:Tryz.prog.cellsOf 22=1:=zQ
theorem Tryz.cc_writes:Tryz.prog.cellsOf 23=1:=zQ
theorem Tryz.cc_ints:Tryz.prog.cellsOf 30=1:=zQ
theorem Tryz.cc_write:Tryz.prog.cellsOf 130=2:=zQ
theorem Tryz.cc_disk:Tryz.prog.cellsOf 25=2:=zQ
theorem Tryz.cc_store:Tryz.prog.cellsOf 28=4:=zQ
theorem Tryz.cc_pool:Tryz.prog.cellsOf 32=8:=zQ
section
variable {H:Type} {enc:TypeId×Value->H} {W:World}
theorem qel {size:Nat} {a:Addr} {n:Nat} {xs:List Value} (hlen:xs.length=n*size) (hz:0<size) (hb:∀ x∈MemPlace.row a (n*size),x.block<W.heap.size) (hc:∀ i u,xs[i]?=some u->W.cell? (a.add i)=some u):Rd W W.heap.size size (some a) n xs:=by
 refine⟨hlen,fun h0=>?_⟩;have di:0<xs.length:=by rw[hlen];exact Nat.mul_pos h0 hz
 obtain⟨u,hu⟩:∃ u,xs[0]?=some u:=⟨_,zL di⟩
 have h1:=hc 0 u hu;have aN:a.spot=none:=by
  have:(a.add 0)=a:=by simp[Addr.add]
  rw[this] at h1;unfold World.cell? at h1;split at h1
  ·cases hs:a.spot with
   |none=>rfl
   |some s=>rw[hs] at h1;simp at h1
  ·cases h1
 obtain⟨b,off,sp⟩:=a;simp only at aN;subst aN;have dJ:b<W.heap.size:=by have:W.cell? ((⟨b,off,none⟩:Addr).add 0)=some u:=h1;have h2:=World.block_lt_of_cell? W _ this;simpa [Addr.add] using h2
 refine⟨b,off,rfl,dJ,fun j v hv=>?_⟩;rw[<-hc j v hv];unfold Addr.add;split
 ·subst_vars;rfl
 ·rfl
theorem qkq {fuel:Nat} {cs:List Value} {d:DataW H} {p:List MemPlace} (h:DataW.trod enc prog W 0 (fun _=>true) true fuel 22 cs=some (d,p)) (hlt:∀ x∈p,x.block<W.heap.size) : ∃ A c bs,cs=[.slice A bs.length c]/\Bls W W.heap.size (.slice A bs.length c) bs:=by
 rcases open_slice1 underlying22 Tryz.cc_bytes h with ⟨rfl,_⟩|⟨a,len,cap,m,n,V,D,Pl,rfl,_,hl,hm,hmm,hx,hel⟩
 ·exact⟨none,0,[],rfl,[],none,0,rfl,zM _,by simp[maxLen],Rd.none_,fun i u l hu=>by simp at hu⟩
 ·simp only[if_true] at hmm;subst hmm;have hp:p=MemPlace.row a m++(List.range m).flatMap Pl:=congrArg Prod.snd hx;have hb:∀ i,i<len->∃ l:List UInt8,Bys W W.heap.size (V i) l:=fun i hi=>by obtain⟨_,h2⟩:=hel i zO;obtain⟨A,n',c',e,_,l,aQ,_⟩:=Uu underlying26 underlying5 Tryz.cc_u8 h2 (fun x uw=>hlt x (by rw[hp];exact List.mem_append_right _ (List.mem_flatMap.2 ⟨i,List.mem_range.2 zO,uw⟩)));simp only[List.cons.injEq,and_true] at e;exact⟨l,by rw[e];exact aQ⟩
  obtain⟨L,hL⟩:=choose_lt (α:=List UInt8) (p:=fun i l=>Bys W W.heap.size (V i) l) hb;refine⟨some a,m,(List.range len).map L,zA2,(List.range len).map V,some a,m,zA2,by simpa using hl,hm,?_,fun i u l hu hll=>?_⟩
  ·rw[List.length_map,List.length_range];refine Xh (c:=m) hl zA2 (fun x uw=>hlt x (by rw[hp];exact List.mem_append_left _ uw)) (fun i u hu=>?_);have hi:i<len:=by have:=(List.getElem?_eq_some_iff.1 hu).1;simpa using this
   rw[List.getElem?_map,List.getElem?_range hi] at hu;cases hu;exact(hel i zO).1
  ·have hi:i<len:=by have:=(List.getElem?_eq_some_iff.1 hu).1;simpa using this
   rw[List.getElem?_map,List.getElem?_range hi] at hu hll;cases hu;cases hll;exact hL i hi
theorem rd_write {fuel:Nat} {cs:List Value} {d:DataW H} {p:List MemPlace} (h:DataW.trod enc prog W 0 (fun _=>true) true fuel 130 cs=some (d,p)) (hlt:∀ x∈p,x.block<W.heap.size) : ∃ a A l c,cs=[.int .i64 a,.slice A l.length c]/\Bys W W.heap.size (.slice A l.length c) l/\(Lit.int .i64 a).wf=true:=by
 obtain⟨xs,n,hl,gu,hp,hf⟩:=kO underlying130 h;rw[Tryz.cc_write] at hl
 match cs,hl with
 | [c0,c1],_ =>
  match xs,gu with
  | [y0,y1],_ =>
   have g0:_=some y0:=hf 0 3 0 1 rfl Tryz.cc_int;have g1:_=some y1:=hf 1 26 1 1 rfl Tryz.cc_bytes;simp only[List.drop,List.take] at g0 g1;obtain⟨a,ea,_,wa⟩:=DataW.trod_int underlying3 g0;have dS:p=y0.2++(y1.2++[]):=hp;obtain⟨d1,p1⟩:=y1;obtain⟨A,m,c,es,hmc,l,hb,hlen⟩:=Uu underlying26 underlying5 Tryz.cc_u8 g1 (fun x hx=>hlt x (by rw[dS];simp[hx]));simp only[List.cons.injEq,and_true] at ea es;subst ea es hlen;exact⟨a,A,l,c,rfl,hb,wa⟩
theorem qkr {fuel:Nat} {cs:List Value} {d:DataW H} {p:List MemPlace} (h:DataW.trod enc prog W 0 (fun _=>true) true fuel 23 cs=some (d,p)) (hlt:∀ x∈p,x.block<W.heap.size) : ∃ A c ws,cs=[.slice A ws.length c]/\Wrs W W.heap.size (.slice A ws.length c) ws:=by
 rcases open_slice underlying23 h with ⟨rfl,_⟩|⟨a,len,cap,m,n,D,Pl,rfl,_,hl,hm,hmm,hx,hel⟩
 ·exact⟨none,0,[],rfl,[],rfl,⟨none,0,rfl,zM _,by simp[maxLen],Rd.none_⟩,fun p h=>by cases h⟩
 ·simp only[if_true] at hmm;subst hmm;rw[Tryz.cc_write] at hx hel;have hp:p=MemPlace.row a (m*2)++(List.range m).flatMap Pl:=congrArg Prod.snd hx;have hb:∀ i,i<len->∃ q:(Int×List UInt8)×Value,(∃ A c,q.2=.slice A q.1.2.length c)/\Bys W W.heap.size q.2 q.1.2/\W.cell? (a.add (i*2))=some (.int .i64 q.1.1)/\W.cell? (a.add (i*2+1))=some q.2:=fun i hi=>by
   obtain⟨cs',h1,h2⟩:=hel i zO;obtain⟨_,_,h3⟩:=World.cells?_some h1;obtain⟨r,A,l,c,rfl,aQ,_⟩:=rd_write h2 (fun x uw=>hlt x (by rw[hp];exact List.mem_append_right _ (List.mem_flatMap.2 ⟨i,List.mem_range.2 zO,uw⟩)));have e0:=h3 0 zO;have e1:=h3 1 zO;have ea:∀ j,(a.add (i*2)).add j=a.add (i*2+j):=fun j=>by
    unfold Addr.add
    repeat' split
    all_goals simp_all
    all_goals omega
   rw[ea] at e0 e1;exact⟨((r,l),.slice A l.length c),⟨A,c,rfl⟩,aQ,e0,e1⟩
  obtain⟨Q,hQ⟩:=choose_lt (α:=(Int×List UInt8)×Value) (p:=fun i q=>(∃ A c,q.2=.slice A q.1.2.length c)/\Bys W W.heap.size q.2 q.1.2/\W.cell? (a.add (i*2))=some (.int .i64 q.1.1)/\W.cell? (a.add (i*2+1))=some q.2) hb;refine⟨some a,m,((List.range len).map Q).map (·.1),zA2,(List.range len).map Q,rfl,⟨some a,m,zA2,by simpa using hl,hm,?_⟩,fun q hq=>?_⟩
  ·rw[List.length_map,List.length_map,List.length_range];refine qel (by rw[KP];simp) zO (fun x uw=>hlt x ?_) (fun j u hu=>?_)
   ·rw[hp];refine List.mem_append_left _ ?_;unfold MemPlace.row at uw ⊢;rw[List.mem_map] at uw ⊢;obtain⟨k,hk,e⟩:=uw;exact⟨k,List.mem_range.2 (by have:=List.mem_range.1 hk;omega),e⟩
   ·have hj:j<len*2:=by have:=(List.getElem?_eq_some_iff.1 hu).1;rw[KP] at this;simpa using this
    obtain⟨c0,c1⟩:=Kp ((List.range len).map Q) (j / 2) zA1;obtain⟨_,_,q0,q1⟩:=hQ (j / 2) zO;rcases(show j=j / 2*2\/j=j / 2*2+1 by omega) with e|e
    ·have hu':some u=some _:=(hu.symm.trans (congrArg (fun t=>(ZT ((List.range len).map Q))[t]?) e)).trans c0;cases hu';rw[show a.add j=a.add (j / 2*2) from congrArg _ e,q0];simp
    ·have hu':some u=some _:=(hu.symm.trans (congrArg (fun t=>(ZT ((List.range len).map Q))[t]?) e)).trans c1;cases hu';rw[show a.add j=a.add (j / 2*2+1) from congrArg _ e,q1];simp
  ·obtain⟨i,hi,rfl⟩:=List.mem_map.1 hq;obtain⟨q0,q1,_⟩:=hQ i (List.mem_range.1 hi);exact⟨q0,q1⟩
theorem rd_ints {fuel:Nat} {cs:List Value} {d:DataW H} {p:List MemPlace} (h:DataW.trod enc prog W 0 (fun _=>true) true fuel 30 cs=some (d,p)) (hlt:∀ x∈p,x.block<W.heap.size) : ∃ A c l,cs=[.slice A l.length c]/\Zw W W.heap.size (.slice A l.length c) l/\∀ a∈l,(Lit.int .i64 a).wf=true:=by
 rcases open_ints underlying30 underlying3 Tryz.cc_int h with ⟨rfl,_⟩|⟨a,len,cap,zs,rfl,_,hl,hm,hz,hx,aC,aY⟩
 ·exact⟨none,0,[],rfl,⟨none,0,rfl,zM _,by simp[maxLen],Rd.none_⟩,fun a h=>by cases h⟩
 ·simp only[if_true] at hz;have hp:p=MemPlace.row a zs.length:=congrArg Prod.snd hx;have hll:(zs.take len).length=len:=by rw[List.length_take];omega
  refine⟨some a,cap,zs.take len,by rw[hll],⟨some a,cap,rfl,zO,hm,?_⟩,fun n hn=>aY n (List.mem_of_mem_take hn)⟩;rw[hll];refine Xh (c:=cap) hl zA1 (fun x uw=>hlt x (by rw[hp,hz];exact uw)) (fun i u hu=>?_);rw[List.getElem?_map,List.getElem?_take] at hu;split at hu
  ·rename_i hi;rw[aC i zO,<-hu];simp[zL (show i<zs.length by omega)]
  ·cases hu
theorem rd_disk {fuel:Nat} {cs:List Value} {d:DataW H} {p:List MemPlace} (h:DataW.trod enc prog W 0 (fun _=>true) true fuel 25 cs=some (d,p)) (hlt:∀ x∈p,x.block<W.heap.size) : ∃ A1 c1 A2 c2 bs ws,cs=[.slice A1 (List.length bs) c1,.slice A2 (List.length ws) c2]/\Bls W W.heap.size (.slice A1 bs.length c1) bs/\Wrs W W.heap.size (.slice A2 ws.length c2) ws:=by
 obtain⟨xs,n,hl,gu,hp,hf⟩:=kO underlying25 h;rw[Tryz.cc_disk] at hl
 match cs,hl with
 | [c0,c1],_ =>
  match xs,gu with
  | [(d0,p0),(d1,p1)],_ =>
   have g0:_=some (d0,p0):=hf 0 22 0 1 rfl Tryz.cc_blocks;have g1:_=some (d1,p1):=hf 1 23 1 1 rfl Tryz.cc_writes;simp only[List.drop,List.take] at g0 g1;have dS:p=p0++(p1++[]):=hp;obtain⟨A1,k1,bs,e1,h1⟩:=qkq g0 (fun x hx=>hlt x (by rw[dS];simp[hx]));obtain⟨A2,k2,ws,e2,h2⟩:=qkr g1 (fun x hx=>hlt x (by rw[dS];simp[hx]));simp only[List.cons.injEq,and_true] at e1 e2;subst e1 e2;exact⟨A1,k1,A2,k2,bs,ws,rfl,h1,h2⟩
theorem rd_store {fuel:Nat} {cs:List Value} {d:DataW H} {p:List MemPlace} (h:DataW.trod enc prog W 0 (fun _=>true) true fuel 28 cs=some (d,p)) (hlt:∀ x∈p,x.block<W.heap.size) : ∃ A1 c1 A2 c2 A3 c3 A4 c4,∃ S:Sto,cs=[.slice A1 S.bs.length c1,.slice A2 S.ws.length c2,.slice A3 S.now.length c3,.slice A4 S.last.length c4]/\qU W W.heap.size (.slice A1 S.bs.length c1) (.slice A2 S.ws.length c2) (.slice A3 S.now.length c3) (.slice A4 S.last.length c4) S:=by
 obtain⟨xs,n,hl,gu,hp,hf⟩:=kO underlying28 h;rw[Tryz.cc_store] at hl
 match cs,hl with
 | [c0,c1,c2,c3],_ =>
  match xs,gu with
  | [(d0,p0),(d1,p1),(d2,p2)],_ =>
   have g0:_=some (d0,p0):=hf 0 25 0 2 rfl Tryz.cc_disk;have g1:_=some (d1,p1):=hf 1 26 2 1 rfl Tryz.cc_bytes;have g2:_=some (d2,p2):=hf 2 26 3 1 rfl Tryz.cc_bytes;simp only[List.drop,List.take] at g0 g1 g2;have dS:p=p0++(p1++(p2++[])):=hp;obtain⟨A1,k1,A2,k2,bs,ws,e1,h1,h2⟩:=rd_disk g0 (fun x hx=>hlt x (by rw[dS];simp[hx]));obtain⟨A3,n3,k3,e3,_,l3,h3,q3⟩:=Uu underlying26 underlying5 Tryz.cc_u8 g1 (fun x hx=>hlt x (by rw[dS];simp[hx]));obtain⟨A4,n4,k4,e4,_,l4,h4,q4⟩:=Uu underlying26 underlying5 Tryz.cc_u8 g2 (fun x hx=>hlt x (by rw[dS];simp[hx]));simp only[List.cons.injEq,and_true] at e1 e3 e4;obtain⟨rfl,rfl⟩:=e1;subst e3 e4 q3 q4;exact⟨A1,k1,A2,k2,A3,k3,A4,k4,⟨bs,ws,l3,l4⟩,rfl,h1,h2,h3,h4⟩
theorem rd_pool {fuel:Nat} {cs:List Value} {d:DataW H} {p:List MemPlace} (h:DataW.trod enc prog W 0 (fun _=>true) true fuel 32 cs=some (d,p)) (hlt:∀ x∈p,x.block<W.heap.size) : ∃ A1 c1 A2 c2 A3 c3 A4 c4 gen root next A5 c5,∃ (S:Sto) (dead:List Int),cs=(qF (.slice A1 S.bs.length c1) (.slice A2 S.ws.length c2) (.slice A3 S.now.length c3) (.slice A4 S.last.length c4) gen root next (.slice A5 dead.length c5)).toList /\
   qU W W.heap.size (.slice A1 S.bs.length c1) (.slice A2 S.ws.length c2) (.slice A3 S.now.length c3) (.slice A4 S.last.length c4) S/\Zw W W.heap.size (.slice A5 dead.length c5) dead /\
   (Lit.int .u32 gen).wf=true/\(Lit.int .i64 root).wf=true/\(Lit.int .u32 next).wf=true/\∀ a∈dead,(Lit.int .i64 a).wf=true:=by
 obtain⟨xs,n,hl,gu,hp,hf⟩:=kO underlying32 h;rw[Tryz.cc_pool] at hl
 match cs,hl with
 | [c0,c1,c2,c3,c4,c5,c6,c7],_ =>
  match xs,gu with
  | [(d0,p0),(d1,p1),(d2,p2),(d3,p3),(d4,p4)],_ =>
   have g0:_=some (d0,p0):=hf 0 28 0 4 rfl Tryz.cc_store;have g1:_=some (d1,p1):=hf 1 29 4 1 rfl Tryz.cc_u32;have g2:_=some (d2,p2):=hf 2 3 5 1 rfl Tryz.cc_int;have g3:_=some (d3,p3):=hf 3 29 6 1 rfl Tryz.cc_u32;have g4:_=some (d4,p4):=hf 4 30 7 1 rfl Tryz.cc_ints;simp only[List.drop,List.take] at g0 g1 g2 g3 g4;have dS:p=p0++(p1++(p2++(p3++(p4++[])))):=hp;obtain⟨A1,k1,A2,k2,A3,k3,A4,k4,S,e0,hS⟩:=rd_store g0 (fun x hx=>hlt x (by rw[dS];simp[hx]));obtain⟨gen,e1,_,w1⟩:=DataW.trod_int underlying29 g1;obtain⟨root,e2,_,w2⟩:=DataW.trod_int underlying3 g2;obtain⟨next,e3,_,w3⟩:=DataW.trod_int underlying29 g3;obtain⟨A5,k5,dead,e4,hd,w4⟩:=rd_ints g4 (fun x hx=>hlt x (by rw[dS];simp[hx]));simp only[List.cons.injEq,and_true] at e0 e1 e2 e3 e4;obtain⟨rfl,rfl,rfl,rfl⟩:=e0;subst e1 e2 e3 e4;exact⟨A1,k1,A2,k2,A3,k3,A4,k4,gen,root,next,A5,k5,S,dead,rfl,hS,hd,w1,w2,w3,w4⟩
end
end Go.Proofs.YtpbniokljofedaaGreat
namespace Go.Proofs.YtpbniokljofedaaGreat.snapChain
set_option linter.unusedVariables.analyzeTactics true
set_option linter.unusedVariables true
open Go.ChangeShapes Go.WideShapes Go.ChangeAt Go.RowKit
theorem own:ownKnob Tryz.prog.godebug=none:=zQ
theorem u32_of {n:Int} (h:(Lit.int .u32 n).wf=true):0<=n/\n<4294967296:=by
 have h2:IntKind.u32.min<=n/\n<=IntKind.u32.max:=by simpa [Lit.wf] using h
 simp[IntKind.min,IntKind.max,IntKind.bits,IntKind.signed] at h2;omega
theorem laidOut:laidOutB prog=true:=zQ
set_option maxRecDepth 100000 in
theorem lifted (os:Os) (started:os.Started) (H:Type) (enc:TypeId×Value->H):ReturnsInHanded {} checked os 10 .any (Rows.snapChainSpec.pre6 enc prog Tryz.f10 Rows.snapChainRow.domain false) (Rows.snapChainSpec.post enc prog Tryz.f10 false true false false):=by
 refine returnsInHanded_of_change (C:=checked) own started zQ func10
  (ChangeSpec.witness6 (enc:=enc) (C:=checked) false ⟨#[],#[.agg (qF (.slice none 0 0) (.slice none 0 0) (.slice none 0 0) (.slice none 0 0) 0 0 0 (.slice none 0 0)),.int .u32 0,.bool false],[]⟩ 8 zQ zQ zQ zQ) ?_
 intro W base args ds gs before hVR hW hcnd _;have hAF:∀ (j:Nat) t v,Tryz.f10.params[j]?=some t->args[j]?=some v->Value.okWide prog W .any base t v:=hVR;have ak:=hW;have hlt:∀ x∈before,x.block<W.heap.size:=fun x hx=>hW.lt x hx;obtain⟨p,q,hA0,hV,rfl,hfz,hnd⟩:=hW;have hA:DataW.TrodAll enc prog W 0 (fun _=>true) true Tryz.f10.params.toList args.toList ds p:=hA0;rw[params10] at hA hAF;obtain⟨v0,yK,d0,ds0,p0,q0,hargs,rfl,rfl,h0,r0⟩:=trodAll_cons hA;obtain⟨v1,vs1,d1,ds1,p1,q1,rfl,rfl,rfl,h1,r1⟩:=trodAll_cons r0;obtain⟨v2,vs2,d2,ds2,p2,q2,rfl,rfl,rfl,h2,r2⟩:=trodAll_cons r1;obtain⟨rfl,rfl,rfl⟩:=trodAll_nil r2;obtain rfl:args=#[v0,v1,v2]:=by cases args;simp_all
 obtain⟨rfl,rfl⟩:=trodVars_none hV;obtain⟨cs0,rfl,_⟩:=okWide_struct underlying32 (hAF 0 32 v0 rfl rfl);obtain⟨id,rfl⟩:=okWide_int underlying29 (hAF 1 29 v1 rfl rfl);obtain⟨fz,rfl⟩:=okWide_bool underlying4 (hAF 2 4 v2 rfl rfl);obtain⟨n0,h0⟩:=h0;obtain⟨n1,h1⟩:=h1;have hid:0<=id/\id<4294967296:=by obtain⟨id',e1,_,w1⟩:=DataW.trod_int underlying29 h1;cases e1;exact u32_of w1
 obtain⟨A1,c1,A2,c2,A3,c3,A4,c4,gen,root,next,A5,c5,S,dead,e0,hS,hd,_,_,wn,_⟩:=rd_pool h0 (fun x hx=>hlt x (by simp[hx]));have e0':cs0=qF (.slice A1 S.bs.length c1) (.slice A2 S.ws.length c2) (.slice A3 S.now.length c3) (.slice A4 S.last.length c4) gen root next (.slice A5 dead.length c5):=by obtain⟨cs0⟩:=cs0;have:cs0=_:=e0;rw[this]
 subst e0';have walk:Calls prog 10 #[.agg (qF (.slice A1 S.bs.length c1) (.slice A2 S.ws.length c2) (.slice A3 S.now.length c3) (.slice A4 S.last.length c4) gen root next (.slice A5 dead.length c5)),.int .u32 id,.bool fz] W (Ret (.bool true) W):=qhZ A1 _ c1 A2 _ c2 A3 _ c3 A4 _ c4 gen root next A5 c5 S dead id fz hid (u32_of wn) W hS hd
 refine walk.mono fun e W' ⟨he,hB⟩=>?_;subst he;exact⟨_,rfl,law_post rfl laidOut rfl underlying4 (by
  intro t ht;have:t=32\/t=29\/t=4:=by rw[params10] at ht;simpa using ht
  rcases this with rfl|rfl|rfl
  ·exact⟨zQ,of_decide_eq_true zQ⟩
  ·exact⟨zQ,of_decide_eq_true zQ⟩
  ·exact⟨zQ,of_decide_eq_true zQ⟩) ak rfl hB⟩
theorem over:Rows.snapChainRow.holds Tryz.pinned (OpenSpec.ofChange Rows.snapChainSpec):=
 OpenClaim.holds_of_wide 10 Tryz.f10 rfl rfl rfl rfl rfl rfl rfl ⟨rfl,rfl,rfl,rfl,rfl⟩ rfl rfl rfl rfl rfl zQ func10 zQ
  (of_decide_eq_true zQ) (by unfold Func.isWrapper;first|(rw[if_pos (by decide +kernel)];kernel_rfl)|(rw[if_neg (by decide +kernel)];exact⟨rfl,rfl⟩))
  (fun os started H enc _=>lifted os started H enc)
theorem proved:Rows.SnapChainSaid:=over
end Go.Proofs.YtpbniokljofedaaGreat.snapChain
