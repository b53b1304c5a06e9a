/- Texts Big, Big2, Rsteps, Read, Frame, ReadP, joined. -/
import Derived.Test.YtpbniokljofedaaGreatZI33
set_option linter.unusedSimpArgs false
set_option linter.unusedVariables false
set_option maxHeartbeats 8000000
open Go.Proofs.Tryz
namespace Go.Proofs.YtpbniokljofedaaGreat
open Go.RowKit
def JN (ls:List (List UInt8)):Nat:=(ls.map fun l=>min l.length 1000000).sum
theorem GZ {ls:List (List UInt8)} {k:Nat} (h:k<ls.length):JN (ls.take (k+1))=JN (ls.take k)+min ls[k].length 1000000:=by unfold JN;rw[List.take_succ_eq_append_getElem h,List.map_append,List.sum_append];simp
theorem sizeL_le (ls:List (List UInt8)):JN ls<=ls.length*1000000:=by
 induction ls with
 |nil=>simp[JN]
 |cons l r ih=>simp only[JN,List.map_cons,List.sum_cons,List.length_cons] at ih ⊢;omega
theorem YL {ls:List (List UInt8)} {n:Nat} (h:ls.length<=n) (k:Nat):JN (ls.take k)<=n*1000000:=by
 have h1:=sizeL_le (ls.take k);have h2:(ls.take k).length<=n:=by rw[List.length_take];omega
 have h3:(ls.take k).length*1000000<=n*1000000:=Nat.mul_le_mul_right _ h2;exact Nat.le_trans h1 h3
def qdy (n m:Nat):Bool:=decide (300<n\/5000<m\/(600<m/\m<4096))
def KH (bs:List (List UInt8)) (ws:List (Int×List UInt8)):Bool:=qdy bs.length ws.length || decide (800000<JN bs+JN (ws.map (·.2)))
set_option maxRecDepth 100000 in
theorem qfc (A1:Option Addr) (n1 c1:Nat) (A2:Option Addr) (n2 c2:Nat) (bs:List (List UInt8)) (ws:List (Int×List UInt8)) (w:World) (hb:Bls w w.heap.size (.slice A1 n1 c1) bs) (hw:Wrs w w.heap.size (.slice A2 n2 c2) ws):Calls prog 83 #[VK A1 n1 c1 A2 n2 c2] w (Ret (.bool (KH bs ws)) w):=by
 obtain⟨e1,dV,hm1,hA1⟩:=hb.at_;obtain⟨e2,az,iL,xU⟩:=hw.at_;subst e1;subst e2;by_cases hh:qdy bs.length ws.length=true
 case pos =>
  have hM:KH bs ws=true:=by unfold KH;rw[hh];rfl
  rw[hM];have yS:300<bs.length\/5000<ws.length\/(600<ws.length/\ws.length<4096):=by simpa [qdy] using hh
  clear hM hb hw hA1 xU hh;generalize bs.length=n1 at *;generalize ws.length=n2 at *;go_enter func83,ntmps83;go_wp2;all_goals try simp only[beq_iff_eq,beq_eq_false_iff_ne,ne_eq,bne_iff_ne,bne_eq_false_iff_eq] at *
  all_goals first|(exfalso;omega)|skip
  all_goals go_ret
  all_goals exact⟨rfl,zA5⟩
 case neg =>
  have hM:KH bs ws=decide (800000<JN bs+JN (ws.map (·.2))):=by unfold KH;rw[show qdy bs.length ws.length=false by simpa using hh];rfl
  have yS:¬(300<bs.length\/5000<ws.length\/(600<ws.length/\ws.length<4096)):=by simpa [qdy] using hh
  have oQ:bs.length<=300:=zO;have hn2:ws.length<=5000:=zO;have wZ:¬(600<ws.length/\ws.length<4096):=fun h=>yS (.inr (.inr h));rw[hM];clear hM hh yS;have HB:=zH hb;have HW:=zH hw;have HTB:=zH (fun k h=>@GZ bs k h);have HTW:=zH (fun k (h:k<(ws.map (·.2)).length)=>@GZ (ws.map (·.2)) k h);have HLB:=zH (fun k=>YL oQ k);have HLW:=zH (fun k=>YL (ls:=ws.map (·.2)) (n:=5000) (by rw[List.length_map];exact hn2) k);have HE1:Hid (bs.take bs.length=bs):=zH (List.take_length);have HE2:Hid ((ws.map (·.2)).take ws.length=ws.map (·.2)):=zH (by rw[<-List.length_map (f:=(·.2))];exact List.take_length);clear hb hw;have hd1:decide ((bs.length:Int)>300)=false:=decide_eq_false zO;have hd2:decide ((ws.length:Int)>5000)=false:=decide_eq_false zO;go_enter func83,ntmps83;go_wp2;all_goals first|(exfalso;omega)|skip
  all_goals
   generalize aA:(World.alloc _ _)=w1;have x1:Ext w w1:=by rw[<-aA];exact zN _ _
   have r1:w1.heap[w.heap.size]?=some (.cells #[.slice A1 bs.length c1,.slice A2 ws.length c2] 25 (0,0)):=by rw[<-aA];exact zI _ _ _ rfl
   clear aA;go_loopw [3,4] (fun t i wr=>∃ k:Nat,k<=bs.length/\i=.int .i64 (k:Int)/\t=.int .i64 (JN (bs.take k):Int)/\Ext w1 wr) (fun _ i _=>bs.length-(intOf i).toNat)
   case atStart=>exact⟨0,zO,rfl,rfl,Ext.refl _⟩
   case round =>
    obtain⟨k,hk,rfl,rfl,hE⟩:=hrel;have yx:=x1.trans hE;have rr:=qb r1 hE;have kr:=qa rr;have ik:=HLB.out k;by_cases hlt:k<bs.length
    ·have aJ:=hlt;obtain⟨b1,o1,rfl,bD⟩:=hA1 zO;obtain⟨A',c',hc,aT⟩:=((HB.out.below yx).more yx.size).get k hlt;have hm64:=aT.at_.2.1;have hKD:=aT.at_.2.2.1;have ht:=HTB.out k hlt;replace ht:=zH ht;clear aT;unfold maxLen at hKD;generalize bs[k].length=m at *;generalize JN (bs.take k)=q at *;go_wp2;go_roundw
     case rel=>exact⟨k+1,zO,by go_num,by rw[ht.out];go_num,hE⟩
     case measure=>simp[intOf];omega
    ·obtain rfl:k=bs.length:=zO;rw[HE1.out] at ik ⊢;clear HB HTB HLB r1 hd1 hd2;go_wp2;clear kr;go_loopw [3,5] (fun t i wq=>∃ j:Nat,j<=ws.length/\i=.int .i64 (j:Int)/\t=.int .i64 ((JN bs+JN ((ws.map (·.2)).take j):Nat):Int)/\Ext wr wq) (fun _ i _=>ws.length-(intOf i).toNat)
     case atStart=>exact⟨0,zO,rfl,rfl,Ext.refl _⟩
     case round =>
      obtain⟨j,hj,rfl,rfl,fQ⟩:=hrel;have hEq:=yx.trans fQ;have kr:=qa (qb rr fQ);have uq:=HLW.out j;by_cases hlt2:j<ws.length
      ·have hQQ:=hlt2;obtain⟨b2,o2,rfl,bI⟩:=xU zO;obtain⟨A',c',hca,uJ,aT⟩:=((HW.out.below hEq).more hEq.size).get j hlt2;have hm64:=aT.at_.2.1;have hKD:=aT.at_.2.2.1;have ht:=HTW.out j (by rw[List.length_map];exact hlt2);rw[List.getElem_map] at ht;replace ht:=zH ht;clear aT;unfold maxLen at hKD;generalize ws[j].2.length=m at *;generalize ws[j].1=a at *;generalize JN ((ws.map (·.2)).take j)=q at *;generalize JN bs=s0 at *;go_wp2;go_roundw
       case rel=>exact⟨j+1,zO,by go_num,by rw[ht.out];go_num,fQ⟩
       case measure=>simp[intOf];omega
      ·obtain rfl:j=ws.length:=zO;rw[HE2.out] at uq ⊢;go_wp2;go_ret;refine⟨JM ?_,hEq⟩;rw[Bool.eq_iff_iff];simp;omega
def Tu (S:Sto):Bool:=KH S.bs S.ws || (decide (10000<S.now.length) || decide (10000<S.last.length))
abbrev poolV (A1:Option Addr) (n1 c1:Nat) (A2:Option Addr) (n2 c2:Nat) (A3:Option Addr) (n3 c3:Nat) (A4:Option Addr) (n4 c4:Nat) (g r x:Int) (A5:Option Addr) (n5 c5:Nat):Value:=
 .agg #[.slice A1 n1 c1,.slice A2 n2 c2,.slice A3 n3 c3,.slice A4 n4 c4,.int .u32 g,.int .i64 r,.int .u32 x,.slice A5 n5 c5]
set_option maxRecDepth 100000 in
theorem qfd (A1:Option Addr) (n1 c1:Nat) (A2:Option Addr) (n2 c2:Nat) (A3:Option Addr) (n3 c3:Nat) (A4:Option Addr) (n4 c4:Nat) (S:Sto) (w:World) (h:qU w w.heap.size (.slice A1 n1 c1) (.slice A2 n2 c2) (.slice A3 n3 c3) (.slice A4 n4 c4) S):Calls prog 44 #[Qd A1 n1 c1 A2 n2 c2 A3 n3 c3 A4 n4 c4] w (Ret (.bool (Tu S)) w):=by
 have HD:=zH (fun W (hW:Ext w W)=>qfc A1 n1 c1 A2 n2 c2 S.bs S.ws W (h.ext hW).bs (h.ext hW).ws);have e3:S.now.length=n3:=h.now.at_.1.symm;have e4:S.last.length=n4:=h.last.at_.1.symm;have hS:Tu S=(KH S.bs S.ws || (decide (10000<n3) || decide (10000<n4))):=by unfold Tu;rw[e3,e4]
 rw[hS];clear hS h e3 e4;generalize KH S.bs S.ws=d at *;go_enter func44,ntmps44;go_wp2_with fail;generalize aA:(World.alloc _ _)=w1;have x1:Ext w w1:=by rw[<-aA];exact zN _ _
 have r1:w1.heap[w.heap.size]?=some (.cells #[.slice A1 n1 c1,.slice A2 n2 c2,.slice A3 n3 c3,.slice A4 n4 c4] 28 (0,0)):=by rw[<-aA];exact zI _ _ _ rfl
 clear aA;refine(HD.out _ x1).mono ?_;rintro e w2 ⟨rfl,hB⟩;have x2:=x1.trans hB;have r2:=qb r1 hB;have k2:=qa r2;clear hB r1 x1 HD;cases d;all_goals
  go_wp2;all_goals
   go_ret;refine⟨JM ?_,x2⟩;rw[Bool.eq_iff_iff];simp;try omega
def qfe (S:Sto) (dead:Nat):Bool:=Tu S || decide (1000<dead)
set_option maxRecDepth 100000 in
theorem qdw (A1:Option Addr) (n1 c1:Nat) (A2:Option Addr) (n2 c2:Nat) (A3:Option Addr) (n3 c3:Nat) (A4:Option Addr) (n4 c4:Nat) (g r x:Int) (A5:Option Addr) (n5 c5:Nat) (S:Sto) (w:World) (h:qU w w.heap.size (.slice A1 n1 c1) (.slice A2 n2 c2) (.slice A3 n3 c3) (.slice A4 n4 c4) S):Calls prog 16 #[poolV A1 n1 c1 A2 n2 c2 A3 n3 c3 A4 n4 c4 g r x A5 n5 c5] w (Ret (.bool (qfe S n5)) w):=by
 have HD:=zH (fun W (hW:Ext w W)=>qfd A1 n1 c1 A2 n2 c2 A3 n3 c3 A4 n4 c4 S W (h.ext hW));have hS:qfe S n5=(Tu S || decide (1000<n5)):=rfl;rw[hS];clear hS h;generalize Tu S=d at *;go_enter func16,ntmps16;go_wp2_with fail;generalize aA:(World.alloc _ _)=w1;have x1:Ext w w1:=by rw[<-aA];exact zN _ _
 have r1:w1.heap[w.heap.size]?=some (.cells #[.slice A1 n1 c1,.slice A2 n2 c2,.slice A3 n3 c3,.slice A4 n4 c4,.int .u32 g,.int .i64 r,.int .u32 x,.slice A5 n5 c5] 32 (0,0)):=by rw[<-aA];exact zI _ _ _ rfl
 clear aA;refine(HD.out _ x1).mono ?_;rintro e w2 ⟨rfl,hB⟩;have x2:=x1.trans hB;have r2:=qb r1 hB;have k2:=qa r2;clear hB r1 x1 HD;cases d;all_goals
  go_wp2;all_goals
   go_ret;refine⟨JM ?_,x2⟩;rw[Bool.eq_iff_iff];simp;try omega
theorem Jq {R:Ending->World->Prop} {a:Act} {W:World} {v:Value} (h0:a.tmps[2]?.getD undef=v) (hd:a.defers=[]) (hR:R (.returned v) W):bodyPost prog Tryz.f11 R .ret a W:=by refine bodyPost_ret (v:=v) ?_ hd hR;simp[results,results11,go_sem,h0]
theorem Zk.cell {w:World} {B n c:Nat} {A:Option Addr} {l:List Int} (h:Zk w B (.slice A n c) l) {k:Nat} (hk:k<l.length):∃ b off,A=some ⟨b,off,none⟩/\∀ j,j<l.length->w.cell? ⟨b,off+j,none⟩=some (.int .i64 (l[j]?.getD 0)):=by obtain⟨A',c',e,-,-,hr⟩:=h;cases e;obtain⟨b,off,e,-,hc⟩:=hr.2 zO;exact⟨b,off,e,fun j hj=>hc j _ (by simp[vQ,zL hj])⟩
theorem Bys.cellN {w:World} {B n c:Nat} {A:Option Addr} {l:List UInt8} (h:Bys w B (.slice A n c) l) (hl:l.length=256):n=256/\∃ b off,A=some ⟨b,off,none⟩/\∀ j,j<256->w.cell? ⟨b,off+j,none⟩=some (.int .u8 (qT l j:Int)):=by obtain⟨A',c',e,-,-,hr⟩:=h;cases e;obtain⟨b,off,e,-,hc⟩:=hr.2 zO;exact⟨hl,b,off,e,fun j hj=>hc j _ (by simp[qT,zL (show j<l.length by omega)])⟩
set_option maxRecDepth 100000 in
theorem qfI (S:Sto) (A1:Option Addr) (c1:Nat) (A2:Option Addr) (c2:Nat) (A3:Option Addr) (c3:Nat) (A4:Option Addr) (c4:Nat) (gen root next:Int) (A5:Option Addr) (c5:Nat) (dead:List Int) (w:World) (h:qU w w.heap.size (.slice A1 S.bs.length c1) (.slice A2 S.ws.length c2) (.slice A3 S.now.length c3) (.slice A4 S.last.length c4) S) (hd:Zk w w.heap.size (.slice A5 dead.length c5) dead):Calls prog 11 #[.agg (qB (.slice A1 S.bs.length c1) (.slice A2 S.ws.length c2) (.slice A3 S.now.length c3) (.slice A4 S.last.length c4) gen root next (.slice A5 dead.length c5))] w (Ret (.bool true) w):=by
 have HG:=zH (fun W (hx:Ext w W)=>qdw A1 S.bs.length c1 A2 S.ws.length c2 A3 S.now.length c3 A4 S.last.length c4 gen root next A5 dead.length c5 S W (h.ext hx));have HR:=zH (fun W (hx:Ext w W)=>qeb A1 S.bs.length c1 A2 S.ws.length c2 A3 S.now.length c3 A4 S.last.length c4 gen root next A5 c5 S dead W (h.ext hx) (hd.ext_ hx));have HC:=zH (fun W (hx:Ext w W)=>Kc A1 S.bs.length c1 A2 S.ws.length c2 A3 S.now.length c3 A4 S.last.length c4 gen root next A5 c5 S dead W (h.ext hx) (hd.ext_ hx));replace h:=zH h;replace hd:=zH hd;go_enter func11,ntmps11;go_wp2_with fail;generalize aA:World.alloc w _=w1;have x1:Ext w w1:=by rw[<-aA];exact zN _ _
 have nR:w1.heap[w.heap.size]?=some (.cells (qB (.slice A1 S.bs.length c1) (.slice A2 S.ws.length c2) (.slice A3 S.now.length c3) (.slice A4 S.last.length c4) gen root next (.slice A5 dead.length c5)) 32 (0,0)):=by rw[<-aA];exact zI _ _ _ rfl
 clear aA;refine(qcK w1).mono ?_;rintro e w2 ⟨rfl,hB⟩;have x2:Ext w w2:=x1.trans hB;have lU:=qb nR hB;have kp2:=qa lU;clear hB nR x1;go_wp2_with fail;refine(HG.out w2 x2).mono ?_;clear HG;rintro e w3 ⟨rfl,hB⟩;have x3:Ext w w3:=x2.trans hB;have gy:=qb lU hB;have kp3:=qa gy;clear hB lU x2 kp2;cases bP:qfe S dead.length
 case true =>go_wp2_with fail;exact Jq rfl rfl ⟨rfl,x3⟩
 case false =>
  replace bP:=zH bP;go_wp2_with fail;refine(HR.out w3 x3).mono ?_;clear HR;rintro e w4 ⟨hB,hq⟩;have x4:Ext w w4:=x3.trans hB;have lD:=qb gy hB;clear hB gy x3 kp3;rcases hq with ⟨rfl,ah⟩|⟨vs,refs,nodes,uy,lW,sU,⟨rfl,rfl⟩|⟨ini,a,rfl,hq⟩⟩
  ·replace ah:=zH ah;unfold vN;go_upto_region 6 with fail;generalize aK:World.alloc w4 _=w5;have af:Ext w4 w5:=by rw[<-aK];exact zN _ _
   have x5:Ext w w5:=x4.trans af;have rz5:w5.heap[w4.heap.size]?=some (.cells (qB (.slice none 0 0) (.slice none 0 0) (.slice none 0 0) (.slice none 0 0) 0 0 0 (.slice none 0 0)) 32 (0,0)):=by rw[<-aK];exact zI _ _ _ rfl
   have lm:=qb lD af;have kz5:=qa rz5;have kp5:=qa lm;have hC:=zH ((HC.out w5 x5).mono (fun e W (h:kA S root next dead w5 e W)=>(⟨h.1,by
    rcases h.2 with ⟨e1,_⟩|⟨_,vs,refs,nodes,k1,k2,k3⟩
    ·exact e1
    ·exact(zv.no ah.out k1 k2 k3).elim⟩:Below w5.heap.size w5 W/\e=.returned (.int .i64 8))))
   clear aK lD HC;rcases Nat.eq_zero_or_pos dead.length with hz|hz
   ·have aV:decide ((0:Int)<(dead.length:Int))=false:=decide_eq_false zO;have aX:((dead.length:Int) == 0)=true:=by rw[beq_iff_eq];omega
    have hz3:decide (0<dead.length)=false:=decide_eq_false zO;replace hz:=zH hz;go_wp2_with fail;refine hC.out.mono ?_;rintro e w6 ⟨hB,rfl⟩;have x6:=zH (x5.trans hB);clear hB hC kz5 kp5;go_wp2_with fail;exact Jq rfl rfl ⟨rfl,x6.out⟩
   ·have aV:decide ((0:Int)<(dead.length:Int))=true:=decide_eq_true zO;have aX:((dead.length:Int) == 0)=false:=by rw[beq_eq_false_iff_ne];omega
    have hz3:decide (0<dead.length)=true:=decide_eq_true zO;go_wp2_with fail;exact Jq rfl rfl ⟨rfl,x5⟩
  ·unfold vN;replace uy:=zH uy;clear lW sU HC;go_upto_region 6 with fail;generalize aK:World.alloc w4 _=w5;have af:Ext w4 w5:=by rw[<-aK];exact zN _ _
   have x5:Ext w w5:=x4.trans af;have rz5:w5.heap[w4.heap.size]?=some (.cells (qB (.slice none 0 0) (.slice none 0 0) (.slice none 0 0) (.slice none 0 0) 0 0 0 (.slice none 0 0)) 32 (0,0)):=by rw[<-aK];exact zI _ _ _ rfl
   have lm:=qb lD af;have kz5:=qa rz5;have kp5:=qa lm;clear aK lD;go_wp2_with fail;exact Jq rfl rfl ⟨rfl,x5⟩
  ·have hmay:=uy.may;obtain⟨m,hm,ha8,hAK,lvl,xs,hn,-⟩:=VU (uy.ok (a:Int) (by unfold Zs;simp));obtain rfl:a=m:=zO;have h0:qT S.now a≠0:=fun e=>by unfold qv at hn;rw[if_pos (show (S.now[a]?.getD 0).toNat=0 from e)] at hn;cases hn
   have hlen:=qQ hmay;have dK:(ini++[(a:Int)]).length=ini.length+1:=zA3;rcases hre:Kn S ini a with er|⟨D,T⟩
   ·rw[hre] at hq;obtain rfl:=hq;have yR:=qhy hre;have aN:(er != 0)=true:=by rw[bne_iff_ne];omega
    have hne6:(er != 6)=true:=by rw[bne_iff_ne];omega
    have aV:decide ((0:Int)<((ini++[(a:Int)]).length:Int))=true:=decide_eq_true zO;have aX:decide (0<(ini++[(a:Int)]).length)=true:=decide_eq_true zO;generalize (ini++[(a:Int)]).length=dn at *;replace yR:=zH yR;clear lW sU HC hmay hlen h0 hn uy hre dK;unfold vN;go_upto_region 6 with fail;generalize aK:World.alloc w4 _=w5;have af:Ext w4 w5:=by rw[<-aK];exact zN _ _
    have x5:Ext w w5:=x4.trans af;have rz5:w5.heap[w4.heap.size]?=some (.cells (qB (.slice none 0 0) (.slice none 0 0) (.slice none 0 0) (.slice none 0 0) 0 0 0 (.slice none 0 0)) 32 (0,0)):=by rw[<-aK];exact zI _ _ _ rfl
    have lm:=qb lD af;have kz5:=qa rz5;have kp5:=qa lm;clear aK lD;go_wp2_with fail;exact Jq rfl rfl ⟨rfl,x5⟩
   ·rw[hre] at hq;obtain⟨u,rfl,hN⟩:=hq;obtain⟨hD40,⟨l,rfl⟩,hF,hlt⟩:=reapE_ok hlen.2.2.1 hAK h0 hre;obtain⟨B1,d1,B2,d2,B3,d3,B4,d4,B5,d5,rfl,hS,hI⟩:=hN.sto;rw[hF.bs,hF.ws,hF.last,hF.len] at hS ⊢;have hJN:(ini++l).length=ini.length+l.length:=zA3;have hini:ini.length+1<=40:=by have:=uy.few;omega
    obtain⟨dl,hdE⟩:∃ dl,(ini++l).length=dl:=⟨_,rfl⟩
    rw[hdE] at hD40 hJN ⊢;have yD:dl=ini.length+l.length:=hJN;have hP:=h.out.ext x4;have hPd:=hd.out.ext_ x4;obtain⟨hPi,b5,o5,rfl,hca⟩:=hPd.front;have hSm:=zH (fun W (hx:Ext w4 W)=>qht B1 d1 B2 d2 A1 c1 A2 c2 S.bs S.ws zO zO W (by have:=(hS.ext hx).bs;rw[hF.bs] at this;exact this) (by have:=(hS.ext hx).ws;rw[hF.ws] at this;exact this) (hP.ext hx).bs (hP.ext hx).ws);have hv4:=zH (fun W (hx:Ext w4 W)=>(jI (P:=prog) (hP.ext hx).last 26 9 5 underlying26 underlying5 underlying9:(convert 26 9 _).run prog W=.ok (.string (bstr S.last)) W));have hv4':=zH (fun W (hx:Ext w4 W)=>(jI (P:=prog) (by have:=(hS.ext hx).last;rw[hF.last] at this;exact this:Bys W W.heap.size (.slice B4 S.last.length d4) S.last) 26 9 5 underlying26 underlying5 underlying9:(convert 26 9 _).run prog W=.ok (.string (bstr S.last)) W));have hle:=zH hF.le;have hTl:=zH hF.len;replace hlt:=zH hlt;have hSN:=zH hS.now;have hPN:=zH hP.now;have hSI:=zH hI;replace hPi:=zH hPi;replace hlen:=zH hlen;rw[dK] at *;replace hdE:=zH hdE;replace yD:=zH yD;have hdn:ini.length<=dl:=zO;clear lW sU HC hmay hre uy dK hJN hF hN hS hI hP hPd hn h0 h hd;go_upto_region 7 with fail;generalize aK:World.alloc w4 _=w5;have af:Ext w4 w5:=by rw[<-aK];exact zN _ _
    have x5:Ext w w5:=x4.trans af;have rq5:w5.heap[w4.heap.size]?=some (.cells (qB (.slice B1 S.bs.length d1) (.slice B2 S.ws.length d2) (.slice B3 S.now.length d3) (.slice B4 S.last.length d4) gen root next (.slice B5 dl d5)) 32 (0,0)):=by rw[<-aK];exact zI _ _ _ rfl
    have lm:=qb lD af;have kq5:=qa rq5;have kp5:=qa lm;clear aK lD x4;go_wp2_with fail;all_goals go_prune
    refine(hSm.out w5 af).mono ?_;rintro e w6 ⟨rfl,hB⟩;have yP:Ext w4 w6:=af.trans hB;have x6:Ext w w6:=x5.trans hB;have rq6:=qb rq5 hB;have rP:=qb lm hB;have kq6:=qa rq6;have kp6:=qa rP;have hv:=hv4.out w6 yP;have yL:=hv4'.out w6 yP;have hca6:=Ext.cell yP hca;clear hSm hv4 hv4' hB rq5 lm kq5 kp5 x5 af hca;go_upto_region 11 with fail;clear hv yL kq6 kp6;go_loopw [2,7] (fun v i wr=>∃ k:Nat,k<=ini.length/\v=.bool false/\i=.int .i64 (k:Int)/\Ext w6 wr) (fun _ i _=>ini.length-(intOf i).toNat)
    case atStart=>exact⟨0,zO,rfl,rfl,Ext.refl _⟩
    case round =>
     obtain⟨k,hk,rfl,rfl,hE⟩:=hrel;have x4r:=yP.trans hE;have rqr:=qb rq6 hE;have rpr:=qb rP hE;by_cases hkl:k<ini.length
     ·have hpc:=(hPi.out.cell (k:=k) zO)
      obtain⟨b7,o7,e7,hpc⟩:=hpc;cases e7;obtain⟨b8,o8,rfl,hqc⟩:=hSI.out.cell (k:=k) (by have:=hdE.out;omega);have hpk:=hpc k zO;have hqk:=hqc k (by have:=hdE.out;omega);rw[List.getElem?_append_left zO] at hqk;obtain⟨u,hu⟩:∃ u,ini[k]?.getD 0=u:=⟨_,rfl⟩
      rw[hu] at hpk hqk;have gP:∀ W,qk.r wr W->∀ i,W.cell? ⟨w.heap.size,i,none⟩=(qB (.slice A1 S.bs.length c1) (.slice A2 S.ws.length c2) (.slice A3 S.now.length c3) (.slice A4 S.last.length c4) gen root next (.slice (some ⟨b5,o5,none⟩) (ini.length+1) c5))[i]?:=fun W h=>qa (qb rpr h);have gQ:∀ W,qk.r wr W->∀ i,W.cell? ⟨w4.heap.size,i,none⟩=(qB (.slice B1 S.bs.length d1) (.slice B2 S.ws.length d2) (.slice B3 S.now.length d3) (.slice B4 S.last.length d4) gen root next (.slice (some ⟨b8,o8,none⟩) dl d5))[i]?:=fun W h=>qa (qb rqr h);have gp:∀ W,qk.r wr W->W.cell? ⟨b5,o5+k,none⟩=some (.int .i64 u):=fun W h=>Ext.cell (x4r.trans h) hpk;have gq:∀ W,qk.r wr W->W.cell? ⟨b8,o8+k,none⟩=some (.int .i64 u):=fun W h=>Ext.cell (x4r.trans h) hqk;have dY:(k:Int)<((ini.length+1:Nat):Int)-1:=zO;have fQ:=zH (hE.trans (Ext.refl wr));have x6H:=zH x6;clear hpc hqc hpk hqk hu rqr rpr x4r yP x6;go_upto_region 13 with fail;refine qm zQ ?_;refine qL (w:=wr) qk (qD []) (List.replicate 11 true) 0 zQ zQ zQ zQ zQ zQ zQ ?st (Rel.drew _ _) ?walk
      case st=>exact qj (fun _ h=>by cases h)
      case walk =>
       intro K hK;dsimp only[qp,List.replicate];repeat ((first|(refine qd ?_ zA0 zA0 (fun W hW _=>⟨W,?_,Rel.refl _ W⟩) ?_;rotate_left;(go_simp<;>with_reducible rfl))|(refine qh zA0 ?_));try simp only[Act.put,ql,qf,qc,qg,zA,zB,zC])
       first
        |(refine qd (.pointer (some ⟨b8,o8+k,none⟩)) zA0 zA0 (fun W hW _=>⟨W,?_,Rel.refl _ W⟩) ?_
          ·go_simp;intro iD;exfalso;omega
          simp only[Act.put,ql,qf,qc,qg,zA,zB,zC])
        |skip
       repeat ((first|(refine qd ?_ zA0 zA0 (fun W hW _=>⟨W,?_,Rel.refl _ W⟩) ?_;rotate_left;(go_simp<;>with_reducible rfl))|(refine qh zA0 ?_));try simp only[Act.put,ql,qf,qc,qg,zA,zB,zC])
       first
        |(refine qd (.pointer (some ⟨b5,o5+k,none⟩)) zA0 zA0 (fun W hW _=>⟨W,?_,Rel.refl _ W⟩) ?_
          ·go_simp;intro iD;exfalso;omega
          simp only[Act.put,ql,qf,qc,qg,zA,zB,zC])
        |skip
       repeat ((first|(refine qd ?_ zA0 zA0 (fun W hW _=>⟨W,?_,Rel.refl _ W⟩) ?_;rotate_left;(go_simp<;>with_reducible rfl))|(refine qh zA0 ?_));try simp only[Act.put,ql,qf,qc,qg,zA,zB,zC])
       refine qt (hK _ _ fun W hW hF=>?_);clear hF hK gP gQ gp gq;have hE3:=zH (Ext.trans hE (show Ext wr W from hW));refine zC3 ?_;clear hE hW;go_wp2;refine Qm ?_;go_wp2_with fail;go_roundw
       case rel=>exact⟨k+1,zO,rfl,by go_num,hE3.out⟩
       case measure=>simp[intOf];omega
     ·obtain rfl:k=ini.length:=zO;have gW:=hlen.out.2.2.1;obtain⟨-,b3,o3,rfl,hpn⟩:=hPN.out.cellN gW;obtain⟨-,b9,o9,rfl,hqn⟩:=hSN.out.cellN (hTl.out.trans gW);have hkk:¬((ini.length:Nat):Int)<((ini.length+1:Nat):Int)-1:=zO;replace hlen:=zH gW;have nP:=zH (x6.trans hE);replace hpn:=zH hpn;replace hqn:=zH hqn;have hcar:=zH (Ext.cell hE hca6);clear hE yP gW hca6 hPi hSI hPN hSN rq6 rP hk hkl x6;go_upto_region 16 with fail;generalize hwm:wr=wm at *;clear hwm;go_loopw [2,8] (fun v i wr=>∃ k:Nat,k<=256/\v=.bool false/\i=.int .i64 (k:Int)/\Ext wm wr) (fun _ i _=>256-(intOf i).toNat)
      case atStart=>exact⟨0,zO,rfl,rfl,Ext.refl _⟩
      case round =>
       obtain⟨k,hk,rfl,rfl,hE⟩:=hrel;have x4r:=x4r.trans hE;have rqr:=qb rqr hE;have rpr:=qb rpr hE;have gW:=hlen.out;have gP:∀ W,qk.r wr W->∀ i,W.cell? ⟨w.heap.size,i,none⟩=(qB (.slice A1 S.bs.length c1) (.slice A2 S.ws.length c2) (.slice (some ⟨b3,o3,none⟩) S.now.length c3) (.slice A4 S.last.length c4) gen root next (.slice (some ⟨b5,o5,none⟩) (ini.length+1) c5))[i]?:=fun W h=>qa (qb rpr h);have gQ:∀ W,qk.r wr W->∀ i,W.cell? ⟨w4.heap.size,i,none⟩=(qB (.slice B1 S.bs.length d1) (.slice B2 S.ws.length d2) (.slice (some ⟨b9,o9,none⟩) S.now.length d3) (.slice B4 S.last.length d4) gen root next (.slice B5 dl d5))[i]?:=fun W h=>qa (qb rqr h);by_cases hkl:k<256
       ·have gp:∀ W,qk.r wr W->W.cell? ⟨b3,o3+k,none⟩=some (.int .u8 (qT S.now k:Int)):=fun W h=>Ext.cell (x4r.trans h) (hpn.out k hkl);have gq:∀ W,qk.r wr W->W.cell? ⟨b9,o9+k,none⟩=some (.int .u8 (qT T.now k:Int)):=fun W h=>Ext.cell (x4r.trans h) (hqn.out k hkl);have hle1:=hle.out k;generalize qT S.now k=cp at *;generalize qT T.now k=cq at *;have hg1:decide ((cp:Int)<(cq:Int))=false:=decide_eq_false zO;have hg2:decide (cp<cq)=false:=decide_eq_false zO;have hg3:¬cp<cq:=zO;have dY:(k:Int)<256:=zO;clear rqr rpr x4r;go_upto_region 18 with fail;refine qm zQ ?_;refine qL (w:=wr) qk (qD []) (List.replicate 13 true) 0 zQ zQ zQ zQ zQ zQ zQ ?st (Rel.drew _ _) ?walk
        case st=>exact qj (fun _ h=>by cases h)
        case walk =>
         intro K hK;dsimp only[qp,List.replicate];repeat ((first|(refine qd ?_ zA0 zA0 (fun W hW _=>⟨W,?_,Rel.refl _ W⟩) ?_;rotate_left;(go_simp<;>with_reducible rfl))|(refine qh zA0 ?_));try simp only[Act.put,ql,qf,qc,qg,zA,zB,zC])
         first
          |(refine qd (.pointer (some ⟨b9,o9+k,none⟩)) zA0 zA0 (fun W hW _=>⟨W,?_,Rel.refl _ W⟩) ?_
            ·go_simp;intro iD;exfalso;omega
            simp only[Act.put,ql,qf,qc,qg,zA,zB,zC])
          |skip
         repeat ((first|(refine qd ?_ zA0 zA0 (fun W hW _=>⟨W,?_,Rel.refl _ W⟩) ?_;rotate_left;(go_simp<;>with_reducible rfl))|(refine qh zA0 ?_));try simp only[Act.put,ql,qf,qc,qg,zA,zB,zC])
         first
          |(refine qd (.pointer (some ⟨b3,o3+k,none⟩)) zA0 zA0 (fun W hW _=>⟨W,?_,Rel.refl _ W⟩) ?_
            ·go_simp;intro iD;exfalso;omega
            simp only[Act.put,ql,qf,qc,qg,zA,zB,zC])
          |skip
         repeat ((first|(refine qd ?_ zA0 zA0 (fun W hW _=>⟨W,?_,Rel.refl _ W⟩) ?_;rotate_left;(go_simp<;>with_reducible rfl))|(refine qh zA0 ?_));try simp only[Act.put,ql,qf,qc,qg,zA,zB,zC])
         refine qt (hK _ _ fun W hW hF=>?_);clear hF hK gP gQ gp gq;have hE3:=zH (Ext.trans hE (show Ext wr W from hW));refine zC3 ?_;clear hE hW;go_wp2;refine Qm ?_;go_wp2_with fail;go_roundw
         case rel=>exact⟨k+1,zO,rfl,by go_num,hE3.out⟩
         case measure=>simp[intOf];omega
       ·obtain rfl:k=256:=zO;have gp:∀ W,qk.r wr W->W.cell? ⟨b3,o3+a,none⟩=some (.int .u8 (qT S.now a:Int)):=fun W h=>Ext.cell (x4r.trans h) (hpn.out a hAK);have gq:∀ W,qk.r wr W->W.cell? ⟨b9,o9+a,none⟩=some (.int .u8 (qT T.now a:Int)):=fun W h=>Ext.cell (x4r.trans h) (hqn.out a hAK);have gd:∀ W,qk.r wr W->W.cell? ⟨b5,o5+ini.length,none⟩=some (.int .i64 (a:Int)):=fun W h=>Ext.cell (hE.trans h) hcar.out;have hlt1:=hlt.out;generalize qT S.now a=cp at *;generalize qT T.now a=cq at *;have hg1:decide ((cq:Int)<(cp:Int))=true:=decide_eq_true zO;have hg2:decide (cq<cp)=true:=decide_eq_true zO;have hai:(a:Int)<256:=zO;clear rqr rpr x4r hkl;go_upto_region 20 with fail;refine qm zQ ?_;refine qL (w:=wr) qk (qD []) (List.replicate 27 true) 0 zQ zQ zQ zQ zQ zQ zQ ?st (Rel.drew _ _) ?walk
        case st=>exact qj (fun _ h=>by cases h)
        case walk =>
         intro K hK;dsimp only[qp,List.replicate];repeat ((first|(refine qd ?_ zA0 zA0 (fun W hW _=>⟨W,?_,Rel.refl _ W⟩) ?_;rotate_left;(go_simp<;>with_reducible rfl))|(refine qh zA0 ?_));try simp only[Act.put,ql,qf,qc,qg,zA,zB,zC])
         refine qd (.pointer (some ⟨b5,o5+ini.length,none⟩)) zA0 zA0 (fun W hW _=>⟨W,?_,Rel.refl _ W⟩) ?_
         ·go_simp;rw[IntWalk.i64_in ((ini.length:Nat):Int) zO,if_pos zO];simp
         simp only[Act.put,ql,qf,qc,qg,zA,zB,zC];repeat ((first|(refine qd ?_ zA0 zA0 (fun W hW _=>⟨W,?_,Rel.refl _ W⟩) ?_;rotate_left;(go_simp<;>with_reducible rfl))|(refine qh zA0 ?_));try simp only[Act.put,ql,qf,qc,qg,zA,zB,zC])
         first
          |(refine qd (.pointer (some ⟨b9,o9+a,none⟩)) zA0 zA0 (fun W hW _=>⟨W,?_,Rel.refl _ W⟩) ?_
            ·go_simp;intro iD;exfalso;omega
            simp only[Act.put,ql,qf,qc,qg,zA,zB,zC])
          |skip
         repeat ((first|(refine qd ?_ zA0 zA0 (fun W hW _=>⟨W,?_,Rel.refl _ W⟩) ?_;rotate_left;(go_simp<;>with_reducible rfl))|(refine qh zA0 ?_));try simp only[Act.put,ql,qf,qc,qg,zA,zB,zC])
         refine qd (.pointer (some ⟨b5,o5+ini.length,none⟩)) zA0 zA0 (fun W hW _=>⟨W,?_,Rel.refl _ W⟩) ?_
         ·go_simp;rw[IntWalk.i64_in ((ini.length:Nat):Int) zO,if_pos zO];simp
         simp only[Act.put,ql,qf,qc,qg,zA,zB,zC];repeat ((first|(refine qd ?_ zA0 zA0 (fun W hW _=>⟨W,?_,Rel.refl _ W⟩) ?_;rotate_left;(go_simp<;>with_reducible rfl))|(refine qh zA0 ?_));try simp only[Act.put,ql,qf,qc,qg,zA,zB,zC])
         first
          |(refine qd (.pointer (some ⟨b3,o3+a,none⟩)) zA0 zA0 (fun W hW _=>⟨W,?_,Rel.refl _ W⟩) ?_
            ·go_simp;intro iD;exfalso;omega
            simp only[Act.put,ql,qf,qc,qg,zA,zB,zC])
          |skip
         repeat ((first|(refine qd ?_ zA0 zA0 (fun W hW _=>⟨W,?_,Rel.refl _ W⟩) ?_;rotate_left;(go_simp<;>with_reducible rfl))|(refine qh zA0 ?_));try simp only[Act.put,ql,qf,qc,qg,zA,zB,zC])
         refine qt (hK _ _ fun W hW hF=>?_);clear hF hK gP gQ gp gq gd;have hE3:=zH (Ext.trans nP.out (Ext.trans hE (show Ext wr W from hW)));refine zC3 ?_;clear hE hW;go_wp2;refine Qm ?_;go_wp2_with fail;exact Jq rfl rfl ⟨rfl,hE3.out⟩
end Go.Proofs.YtpbniokljofedaaGreat
namespace Go.Proofs.YtpbniokljofedaaGreat
open Go.RowKit Go.ChangeShapes Go.WideShapes Go.ChangeAt
section
variable {H:Type} {enc:TypeId×Value->H} {P:Program} {W:World}
theorem qcc (zs:List Int) (h:∀ n∈zs,(Lit.int .u8 n).wf=true):∃ l:List UInt8,zs.map (Value.int .u8)=l.map bv:=by
 induction zs with
 |nil=>exact⟨[],rfl⟩
 |cons z r ih =>
  obtain⟨l,hl⟩:=ih (fun n hn=>h n (List.mem_cons_of_mem _ hn));have hz:=h z (List.mem_cons_self);have hb:0<=z/\z<=255:=by simpa [Lit.wf,IntKind.min,IntKind.max,IntKind.signed,IntKind.bits] using hz
  refine⟨UInt8.ofNat z.toNat :: l,?_⟩;simp only[List.map_cons,hl];congr 1;simp only[bv];congr 1;have:(UInt8.ofNat z.toNat).toNat=z.toNat % 256:=zA3;rw[this];omega
theorem KY {a:Addr} {n c:Nat} {xs:List Value} (hn:n<=c) (hlen:xs.length=n) (hb:∀ x∈MemPlace.row a c,x.block<W.heap.size) (hc:∀ i u,xs[i]?=some u->W.cell? (a.add i)=some u):Rd W W.heap.size 1 (some a) n xs:=by
 refine⟨zO,fun h0=>?_⟩;obtain⟨u,hu⟩:∃ u,xs[0]?=some u:=⟨_,zL zO⟩
 have h1:=hc 0 u hu;have aU:a.spot=none:=by
  have:(a.add 0)=a:=by simp[Addr.add]
  rw[this] at h1;unfold World.cell? at h1;split at h1
  ·cases hs:a.spot with
   |none=>rfl
   |some s=>rw[hs] at h1;simp at h1
  ·cases h1
 obtain⟨b,off,sp⟩:=a;simp only at aU;subst aU;have cO:b<W.heap.size:=by have:W.cell? ((⟨b,off,none⟩:Addr).add 0)=some u:=h1;have h2:=World.block_lt_of_cell? W _ this;simpa [Addr.add] using h2
 refine⟨b,off,rfl,cO,fun j v hv=>?_⟩;rw[<-hc j v hv];unfold Addr.add;split
 ·subst_vars;rfl
 ·rfl
theorem Ta {t e:TypeId} {fuel:Nat} {cs:List Value} {d:DataW H} {p:List MemPlace} (ht:P.underlying t=some (.slice e)) (he:P.underlying e=some (.int .u8)) (hc:P.cellsOf e=1) (h:DataW.trod enc P W 0 (fun _=>true) true fuel t cs=some (d,p)) (hlt:∀ x∈p,x.block<W.heap.size):∃ A n c,cs=[.slice A n c]/\n<=c/\∃ l:List UInt8,Bys W W.heap.size (.slice A n c) l/\l.length=n:=by
 rcases open_ints ht he hc h with ⟨rfl,_⟩|⟨a,len,cap,zs,rfl,_,hl,hm,hz,hx,aF,aZ⟩
 ·exact⟨none,0,0,rfl,zM _,[],Bys.nil W _,rfl⟩
 ·simp only[if_true] at hz;obtain⟨l,wY⟩:=qcc (zs.take len) (fun n hn=>aZ n (List.mem_of_mem_take hn));have hll:l.length=len:=by have:=congrArg List.length wY;simp only[List.length_map,List.length_take] at this;omega
  refine⟨some a,len,cap,rfl,hl,l,⟨some a,cap,by rw[hll],zO,hm,?_⟩,hll⟩;rw[hll];refine KY (c:=cap) hl (by simp[hll]) (fun x uC=>hlt x ?_) (fun i u hu=>?_)
  ·have e2:p=MemPlace.row a zs.length:=by injection hx
   rw[e2,hz];exact uC
  ·rw[<-wY] at hu;rw[List.getElem?_map,List.getElem?_take] at hu;split at hu
   ·rename_i hi;rw[aF i zO];rw[<-hu];simp[zL (show i<zs.length by omega)]
   ·cases hu
theorem Vm {t:TypeId} {fs:Array Field} {fuel:Nat} {cs:List Value} {x:DataW H×List MemPlace} (ht:P.underlying t=some (.struct fs)) (h:DataW.trod enc P W 0 (fun _=>true) true fuel t cs=some x) : ∃ (xs:List (DataW H×List MemPlace)) (n:Nat),cs.length=P.cellsOf t/\xs.length=fs.size/\x.2=xs.flatMap (·.2) /\ ∀ (i:Nat) (T:TypeId) (off m:Nat),(fs[i]?).map (fun f=>(f.type,f.offset))=some (T,off)->P.cellsOf T=m->DataW.trod enc P W 0 (fun _=>true) true n T ((cs.drop off).take m)=xs[i]?:=by
 obtain⟨xs,n,_,hx,hl,fH,hf⟩:=DataW.trod_struct ht h;refine⟨xs,n,hl,fH,by rw[hx],fun i T off m hi hm=>?_⟩;obtain⟨f,hfi,he⟩:=Option.map_eq_some_iff.1 hi;have:=hf i f hfi;simp only[Prod.mk.injEq] at he;rw[he.1,he.2,hm] at this;exact this
end
section
variable {H:Type} {enc:TypeId×Value->H} {P:Program}
theorem YN (hl:laidOutB P=true) {W W':World} {sp:Nat->Bool}:∀ (ts:List TypeId) (vs:List Value) (ds:List (DataW H)) (p:List MemPlace),DataW.TrodAll enc P W 0 (fun _=>true) true ts vs ds p -> (∀ t∈ts,P.readableRec t=true/\t<P.types.size)->(∀ x∈p,W.sameAt W' x)->(∀ x∈p,sp x.block=true)->DataW.TrodAll enc P W' 0 sp true ts vs ds p
 | [],vs,ds,p,h,_,_,_=>by obtain⟨rfl,rfl,rfl⟩:=trodAll_nil h;exact trodAll_mk0
 |t :: ts,vs,ds,p,h,ht,hs,aU=>by
  obtain⟨v,vs',d,ds',p0,q0,rfl,rfl,rfl,h0,h1⟩:=trodAll_cons h;have e:=ht t (List.mem_cons_self);exact trodAll_cons_mk (WideElems.Trod_stays hl e.1 e.2 h0 (fun x hx=>hs x (List.mem_append_left _ hx)) (fun x hx=>aU x (List.mem_append_left _ hx)))
   (YN hl ts vs' ds' q0 h1 (fun t' h'=>ht t' (List.mem_cons_of_mem _ h')) (fun x hx=>hs x (List.mem_append_right _ hx)) (fun x hx=>aU x (List.mem_append_right _ hx)))
theorem law_post {f:Func} {s:ChangeSpec} {W W':World} {args:Array Value} {ds gs:List (DataW H)} {before:List MemPlace} {b:TypeId} (hv:s.vars=[]) (hl:laidOutB P=true) (hr:f.resultTypes=#[b]) (hb:P.underlying b=some .bool) (ht:∀ t∈f.params.toList,P.readableRec t=true/\t<P.types.size) (hW:DataW.Whole enc P f.params.toList s.vars false W args.toList ds gs before) (hs:s.fn H (ds++gs)={ results:=[.lit (.bool true)],args:=ds,vars:=[] }) (hB:Below W.heap.size W W'):s.post enc P f false true false false W args (.bool true) W':=by
 have hlt:∀ x∈before,x.block<W.heap.size:=fun x hx=>hW.lt x hx;have pO:=hW;obtain⟨p,q,hA,hV,rfl,_,_⟩:=hW;have hq:q=[]:=by
  rw[hv] at hV;cases gs with
  |nil=>exact hV
  |cons g gs=>cases hV
 subst hq;refine⟨ds,gs,p++[],[],p,[],pO,?_,?_,?_,?_,fun h=>by cases h⟩
 ·rw[hs,hr];exact trodAll_cons_mk (shut_bool hb true) trodAll_mk0
 ·rw[hs];exact YN hl _ _ _ _ hA ht (fun x hx=>hB.same (hlt x (by simpa using hx))) (fun x hx=>by simpa using hlt x (by simpa using hx))
 ·rw[hs,hv];exact rfl
 ·exact World.keptBut_mono (fun x hx=>⟨by simpa using hx,Or.inr (Or.inl hx)⟩) (hB.frame (· ∈ p))
end
end Go.Proofs.YtpbniokljofedaaGreat
namespace Go.Proofs.YtpbniokljofedaaGreat
open Go.RowKit Go.ChangeShapes Go.WideShapes Go.ChangeAt Go.Deep
theorem Tryz.cc_u8:Tryz.prog.cellsOf 5=1:=zQ
theorem Tryz.cc_u32:Tryz.prog.cellsOf 29=1:=zQ
theorem Tryz.cc_int:Tryz.prog.cellsOf 3=1:=zQ
theorem Tryz.cc_bytes:Tryz.prog.cellsOf 26=1:=zQ
theorem Tryz.cc_blocks:Tryz.prog.cellsOf 22=1:=zQ
theorem Tryz.cc_writes:Tryz.prog.cellsOf 23=1:=zQ
theorem Tryz.cc_ints:Tryz.prog.cellsOf 30=1:=zQ
theorem Tryz.cc_write:Tryz.prog.cellsOf 130=2:=zQ
theorem Tryz.cc_disk:Tryz.prog.cellsOf 25=2:=zQ
theorem Tryz.cc_store:Tryz.prog.cellsOf 28=4:=zQ
theorem Tryz.cc_pool:Tryz.prog.cellsOf 32=8:=zQ
section
variable {H:Type} {enc:TypeId×Value->H} {W:World}
theorem qcp {size:Nat} {a:Addr} {n:Nat} {xs:List Value} (hlen:xs.length=n*size) (hz:0<size) (hb:∀ x∈MemPlace.row a (n*size),x.block<W.heap.size) (hc:∀ i u,xs[i]?=some u->W.cell? (a.add i)=some u):Rd W W.heap.size size (some a) n xs:=by
 refine⟨hlen,fun h0=>?_⟩;have eH:0<xs.length:=by rw[hlen];exact Nat.mul_pos h0 hz
 obtain⟨u,hu⟩:∃ u,xs[0]?=some u:=⟨_,zL eH⟩
 have h1:=hc 0 u hu;have aU:a.spot=none:=by
  have:(a.add 0)=a:=by simp[Addr.add]
  rw[this] at h1;unfold World.cell? at h1;split at h1
  ·cases hs:a.spot with
   |none=>rfl
   |some s=>rw[hs] at h1;simp at h1
  ·cases h1
 obtain⟨b,off,sp⟩:=a;simp only at aU;subst aU;have cO:b<W.heap.size:=by have:W.cell? ((⟨b,off,none⟩:Addr).add 0)=some u:=h1;have h2:=World.block_lt_of_cell? W _ this;simpa [Addr.add] using h2
 refine⟨b,off,rfl,cO,fun j v hv=>?_⟩;rw[<-hc j v hv];unfold Addr.add;split
 ·subst_vars;rfl
 ·rfl
theorem qhu {fuel:Nat} {cs:List Value} {d:DataW H} {p:List MemPlace} (h:DataW.trod enc prog W 0 (fun _=>true) true fuel 22 cs=some (d,p)) (hlt:∀ x∈p,x.block<W.heap.size) : ∃ A c bs,cs=[.slice A bs.length c]/\Bls W W.heap.size (.slice A bs.length c) bs:=by
 rcases open_slice1 underlying22 Tryz.cc_bytes h with ⟨rfl,_⟩|⟨a,len,cap,m,n,V,D,Pl,rfl,_,hl,hm,hmm,hx,hel⟩
 ·exact⟨none,0,[],rfl,[],none,0,rfl,zM _,by simp[maxLen],Rd.none_,fun i u l hu=>by simp at hu⟩
 ·simp only[if_true] at hmm;subst hmm;have hp:p=MemPlace.row a m++(List.range m).flatMap Pl:=congrArg Prod.snd hx;have hb:∀ i,i<len->∃ l:List UInt8,Bys W W.heap.size (V i) l:=fun i hi=>by obtain⟨_,h2⟩:=hel i zO;obtain⟨A,n',c',e,_,l,aT,_⟩:=Ta underlying26 underlying5 Tryz.cc_u8 h2 (fun x uC=>hlt x (by rw[hp];exact List.mem_append_right _ (List.mem_flatMap.2 ⟨i,List.mem_range.2 zO,uC⟩)));simp only[List.cons.injEq,and_true] at e;exact⟨l,by rw[e];exact aT⟩
  obtain⟨L,hL⟩:=choose_lt (α:=List UInt8) (p:=fun i l=>Bys W W.heap.size (V i) l) hb;refine⟨some a,m,(List.range len).map L,zA3,(List.range len).map V,some a,m,zA3,by simpa using hl,hm,?_,fun i u l hu hll=>?_⟩
  ·rw[List.length_map,List.length_range];refine KY (c:=m) hl zA3 (fun x uC=>hlt x (by rw[hp];exact List.mem_append_left _ uC)) (fun i u hu=>?_);have hi:i<len:=by have:=(List.getElem?_eq_some_iff.1 hu).1;simpa using this
   rw[List.getElem?_map,List.getElem?_range hi] at hu;cases hu;exact(hel i zO).1
  ·have hi:i<len:=by have:=(List.getElem?_eq_some_iff.1 hu).1;simpa using this
   rw[List.getElem?_map,List.getElem?_range hi] at hu hll;cases hu;cases hll;exact hL i hi
theorem rd_write {fuel:Nat} {cs:List Value} {d:DataW H} {p:List MemPlace} (h:DataW.trod enc prog W 0 (fun _=>true) true fuel 130 cs=some (d,p)) (hlt:∀ x∈p,x.block<W.heap.size) : ∃ a A l c,cs=[.int .i64 a,.slice A l.length c]/\Bys W W.heap.size (.slice A l.length c) l/\(Lit.int .i64 a).wf=true:=by
 obtain⟨xs,n,hl,fH,hp,hf⟩:=Vm underlying130 h;rw[Tryz.cc_write] at hl
 match cs,hl with
 | [c0,c1],_ =>
  match xs,fH with
  | [y0,y1],_ =>
   have g0:_=some y0:=hf 0 3 0 1 rfl Tryz.cc_int;have g1:_=some y1:=hf 1 26 1 1 rfl Tryz.cc_bytes;simp only[List.drop,List.take] at g0 g1;obtain⟨a,ea,_,wa⟩:=DataW.trod_int underlying3 g0;have fD:p=y0.2++(y1.2++[]):=hp;obtain⟨d1,p1⟩:=y1;obtain⟨A,m,c,es,hmc,l,hb,hlen⟩:=Ta underlying26 underlying5 Tryz.cc_u8 g1 (fun x hx=>hlt x (by rw[fD];simp[hx]));simp only[List.cons.injEq,and_true] at ea es;subst ea es hlen;exact⟨a,A,l,c,rfl,hb,wa⟩
theorem qhv {fuel:Nat} {cs:List Value} {d:DataW H} {p:List MemPlace} (h:DataW.trod enc prog W 0 (fun _=>true) true fuel 23 cs=some (d,p)) (hlt:∀ x∈p,x.block<W.heap.size) : ∃ A c ws,cs=[.slice A ws.length c]/\Wrs W W.heap.size (.slice A ws.length c) ws:=by
 rcases open_slice underlying23 h with ⟨rfl,_⟩|⟨a,len,cap,m,n,D,Pl,rfl,_,hl,hm,hmm,hx,hel⟩
 ·exact⟨none,0,[],rfl,[],rfl,⟨none,0,rfl,zM _,by simp[maxLen],Rd.none_⟩,fun p h=>by cases h⟩
 ·simp only[if_true] at hmm;subst hmm;rw[Tryz.cc_write] at hx hel;have hp:p=MemPlace.row a (m*2)++(List.range m).flatMap Pl:=congrArg Prod.snd hx;have hb:∀ i,i<len->∃ q:(Int×List UInt8)×Value,(∃ A c,q.2=.slice A q.1.2.length c)/\Bys W W.heap.size q.2 q.1.2/\W.cell? (a.add (i*2))=some (.int .i64 q.1.1)/\W.cell? (a.add (i*2+1))=some q.2:=fun i hi=>by
   obtain⟨cs',h1,h2⟩:=hel i zO;obtain⟨_,_,h3⟩:=World.cells?_some h1;obtain⟨r,A,l,c,rfl,aT,_⟩:=rd_write h2 (fun x uC=>hlt x (by rw[hp];exact List.mem_append_right _ (List.mem_flatMap.2 ⟨i,List.mem_range.2 zO,uC⟩)));have e0:=h3 0 zO;have e1:=h3 1 zO;have ea:∀ j,(a.add (i*2)).add j=a.add (i*2+j):=fun j=>by
    unfold Addr.add
    repeat' split
    all_goals simp_all
    all_goals omega
   rw[ea] at e0 e1;exact⟨((r,l),.slice A l.length c),⟨A,c,rfl⟩,aT,e0,e1⟩
  obtain⟨Q,hQ⟩:=choose_lt (α:=(Int×List UInt8)×Value) (p:=fun i q=>(∃ A c,q.2=.slice A q.1.2.length c)/\Bys W W.heap.size q.2 q.1.2/\W.cell? (a.add (i*2))=some (.int .i64 q.1.1)/\W.cell? (a.add (i*2+1))=some q.2) hb;refine⟨some a,m,((List.range len).map Q).map (·.1),zA3,(List.range len).map Q,rfl,⟨some a,m,zA3,by simpa using hl,hm,?_⟩,fun q hq=>?_⟩
  ·rw[List.length_map,List.length_map,List.length_range];refine qcp (by rw[kG];simp) zO (fun x uC=>hlt x ?_) (fun j u hu=>?_)
   ·rw[hp];refine List.mem_append_left _ ?_;unfold MemPlace.row at uC ⊢;rw[List.mem_map] at uC ⊢;obtain⟨k,hk,e⟩:=uC;exact⟨k,List.mem_range.2 (by have:=List.mem_range.1 hk;omega),e⟩
   ·have hj:j<len*2:=by have:=(List.getElem?_eq_some_iff.1 hu).1;rw[kG] at this;simpa using this
    obtain⟨c0,c1⟩:=VJ ((List.range len).map Q) (j / 2) zA2;obtain⟨_,_,q0,q1⟩:=hQ (j / 2) zO;rcases(show j=j / 2*2\/j=j / 2*2+1 by omega) with e|e
    ·have hu':some u=some _:=(hu.symm.trans (congrArg (fun t=>(ZA ((List.range len).map Q))[t]?) e)).trans c0;cases hu';rw[show a.add j=a.add (j / 2*2) from congrArg _ e,q0];simp
    ·have hu':some u=some _:=(hu.symm.trans (congrArg (fun t=>(ZA ((List.range len).map Q))[t]?) e)).trans c1;cases hu';rw[show a.add j=a.add (j / 2*2+1) from congrArg _ e,q1];simp
  ·obtain⟨i,hi,rfl⟩:=List.mem_map.1 hq;obtain⟨q0,q1,_⟩:=hQ i (List.mem_range.1 hi);exact⟨q0,q1⟩
theorem rd_ints {fuel:Nat} {cs:List Value} {d:DataW H} {p:List MemPlace} (h:DataW.trod enc prog W 0 (fun _=>true) true fuel 30 cs=some (d,p)) (hlt:∀ x∈p,x.block<W.heap.size) : ∃ A c l,cs=[.slice A l.length c]/\Zk W W.heap.size (.slice A l.length c) l/\∀ a∈l,(Lit.int .i64 a).wf=true:=by
 rcases open_ints underlying30 underlying3 Tryz.cc_int h with ⟨rfl,_⟩|⟨a,len,cap,zs,rfl,_,hl,hm,hz,hx,aF,aZ⟩
 ·exact⟨none,0,[],rfl,⟨none,0,rfl,zM _,by simp[maxLen],Rd.none_⟩,fun a h=>by cases h⟩
 ·simp only[if_true] at hz;have hp:p=MemPlace.row a zs.length:=congrArg Prod.snd hx;have hll:(zs.take len).length=len:=by rw[List.length_take];omega
  refine⟨some a,cap,zs.take len,by rw[hll],⟨some a,cap,rfl,zO,hm,?_⟩,fun n hn=>aZ n (List.mem_of_mem_take hn)⟩;rw[hll];refine KY (c:=cap) hl zA2 (fun x uC=>hlt x (by rw[hp,hz];exact uC)) (fun i u hu=>?_);rw[List.getElem?_map,List.getElem?_take] at hu;split at hu
  ·rename_i hi;rw[aF i zO,<-hu];simp[zL (show i<zs.length by omega)]
  ·cases hu
theorem rd_disk {fuel:Nat} {cs:List Value} {d:DataW H} {p:List MemPlace} (h:DataW.trod enc prog W 0 (fun _=>true) true fuel 25 cs=some (d,p)) (hlt:∀ x∈p,x.block<W.heap.size) : ∃ A1 c1 A2 c2 bs ws,cs=[.slice A1 (List.length bs) c1,.slice A2 (List.length ws) c2]/\Bls W W.heap.size (.slice A1 bs.length c1) bs/\Wrs W W.heap.size (.slice A2 ws.length c2) ws:=by
 obtain⟨xs,n,hl,fH,hp,hf⟩:=Vm underlying25 h;rw[Tryz.cc_disk] at hl
 match cs,hl with
 | [c0,c1],_ =>
  match xs,fH with
  | [(d0,p0),(d1,p1)],_ =>
   have g0:_=some (d0,p0):=hf 0 22 0 1 rfl Tryz.cc_blocks;have g1:_=some (d1,p1):=hf 1 23 1 1 rfl Tryz.cc_writes;simp only[List.drop,List.take] at g0 g1;have fD:p=p0++(p1++[]):=hp;obtain⟨A1,k1,bs,e1,h1⟩:=qhu g0 (fun x hx=>hlt x (by rw[fD];simp[hx]));obtain⟨A2,k2,ws,e2,h2⟩:=qhv g1 (fun x hx=>hlt x (by rw[fD];simp[hx]));simp only[List.cons.injEq,and_true] at e1 e2;subst e1 e2;exact⟨A1,k1,A2,k2,bs,ws,rfl,h1,h2⟩
theorem rd_store {fuel:Nat} {cs:List Value} {d:DataW H} {p:List MemPlace} (h:DataW.trod enc prog W 0 (fun _=>true) true fuel 28 cs=some (d,p)) (hlt:∀ x∈p,x.block<W.heap.size) : ∃ A1 c1 A2 c2 A3 c3 A4 c4,∃ S:Sto,cs=[.slice A1 S.bs.length c1,.slice A2 S.ws.length c2,.slice A3 S.now.length c3,.slice A4 S.last.length c4]/\qU W W.heap.size (.slice A1 S.bs.length c1) (.slice A2 S.ws.length c2) (.slice A3 S.now.length c3) (.slice A4 S.last.length c4) S:=by
 obtain⟨xs,n,hl,fH,hp,hf⟩:=Vm underlying28 h;rw[Tryz.cc_store] at hl
 match cs,hl with
 | [c0,c1,c2,c3],_ =>
  match xs,fH with
  | [(d0,p0),(d1,p1),(d2,p2)],_ =>
   have g0:_=some (d0,p0):=hf 0 25 0 2 rfl Tryz.cc_disk;have g1:_=some (d1,p1):=hf 1 26 2 1 rfl Tryz.cc_bytes;have g2:_=some (d2,p2):=hf 2 26 3 1 rfl Tryz.cc_bytes;simp only[List.drop,List.take] at g0 g1 g2;have fD:p=p0++(p1++(p2++[])):=hp;obtain⟨A1,k1,A2,k2,bs,ws,e1,h1,h2⟩:=rd_disk g0 (fun x hx=>hlt x (by rw[fD];simp[hx]));obtain⟨A3,n3,k3,e3,_,l3,h3,q3⟩:=Ta underlying26 underlying5 Tryz.cc_u8 g1 (fun x hx=>hlt x (by rw[fD];simp[hx]));obtain⟨A4,n4,k4,e4,_,l4,h4,q4⟩:=Ta underlying26 underlying5 Tryz.cc_u8 g2 (fun x hx=>hlt x (by rw[fD];simp[hx]));simp only[List.cons.injEq,and_true] at e1 e3 e4;obtain⟨rfl,rfl⟩:=e1;subst e3 e4 q3 q4;exact⟨A1,k1,A2,k2,A3,k3,A4,k4,⟨bs,ws,l3,l4⟩,rfl,h1,h2,h3,h4⟩
theorem rd_pool {fuel:Nat} {cs:List Value} {d:DataW H} {p:List MemPlace} (h:DataW.trod enc prog W 0 (fun _=>true) true fuel 32 cs=some (d,p)) (hlt:∀ x∈p,x.block<W.heap.size) : ∃ A1 c1 A2 c2 A3 c3 A4 c4 gen root next A5 c5,∃ (S:Sto) (dead:List Int),cs=(qB (.slice A1 S.bs.length c1) (.slice A2 S.ws.length c2) (.slice A3 S.now.length c3) (.slice A4 S.last.length c4) gen root next (.slice A5 dead.length c5)).toList /\
   qU W W.heap.size (.slice A1 S.bs.length c1) (.slice A2 S.ws.length c2) (.slice A3 S.now.length c3) (.slice A4 S.last.length c4) S/\Zk W W.heap.size (.slice A5 dead.length c5) dead /\
   (Lit.int .u32 gen).wf=true/\(Lit.int .i64 root).wf=true/\(Lit.int .u32 next).wf=true/\∀ a∈dead,(Lit.int .i64 a).wf=true:=by
 obtain⟨xs,n,hl,fH,hp,hf⟩:=Vm underlying32 h;rw[Tryz.cc_pool] at hl
 match cs,hl with
 | [c0,c1,c2,c3,c4,c5,c6,c7],_ =>
  match xs,fH with
  | [(d0,p0),(d1,p1),(d2,p2),(d3,p3),(d4,p4)],_ =>
   have g0:_=some (d0,p0):=hf 0 28 0 4 rfl Tryz.cc_store;have g1:_=some (d1,p1):=hf 1 29 4 1 rfl Tryz.cc_u32;have g2:_=some (d2,p2):=hf 2 3 5 1 rfl Tryz.cc_int;have g3:_=some (d3,p3):=hf 3 29 6 1 rfl Tryz.cc_u32;have g4:_=some (d4,p4):=hf 4 30 7 1 rfl Tryz.cc_ints;simp only[List.drop,List.take] at g0 g1 g2 g3 g4;have fD:p=p0++(p1++(p2++(p3++(p4++[])))):=hp;obtain⟨A1,k1,A2,k2,A3,k3,A4,k4,S,e0,hS⟩:=rd_store g0 (fun x hx=>hlt x (by rw[fD];simp[hx]));obtain⟨gen,e1,_,w1⟩:=DataW.trod_int underlying29 g1;obtain⟨root,e2,_,w2⟩:=DataW.trod_int underlying3 g2;obtain⟨next,e3,_,w3⟩:=DataW.trod_int underlying29 g3;obtain⟨A5,k5,dead,e4,hd,w4⟩:=rd_ints g4 (fun x hx=>hlt x (by rw[fD];simp[hx]));simp only[List.cons.injEq,and_true] at e0 e1 e2 e3 e4;obtain⟨rfl,rfl,rfl,rfl⟩:=e0;subst e1 e2 e3 e4;exact⟨A1,k1,A2,k2,A3,k3,A4,k4,gen,root,next,A5,k5,S,dead,rfl,hS,hd,w1,w2,w3,w4⟩
end
end Go.Proofs.YtpbniokljofedaaGreat
