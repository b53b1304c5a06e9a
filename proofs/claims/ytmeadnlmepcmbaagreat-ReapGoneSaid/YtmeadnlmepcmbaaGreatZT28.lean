/- scionrylaw19.ReapGone is true of every pool and every number, and leaves its arguments as they were; no condition. -/
import Derived.Test.YtmeadnlmepcmbaaGreatZT27
set_option linter.all false
set_option maxHeartbeats 8000000
open Go.Proofs.Tryz
open Go.Value renaming slice→y,int→I
open Option renaming some→E,none→J
open Bool renaming true→F,false→Y
open Go.World renaming alloc→M
open Go.IntKind renaming i64→O,u32→Z
open Go renaming Value→U
namespace Go.Proofs.YtmeadnlmepcmbaaGreat
open Go.RowKit
variable {ls:List (List UInt8)}{n:Nat}{R:Ending->World->Prop}{a:Act}{W:World}{u:Value}
def VU(ls:List (List UInt8)):Nat:=(ls.map λl=>min l.length 1000000).sum
theorem qdu{ls:List (List UInt8)}{k:Nat}(h:k<ls.length):VU (ls.take (k+1))=VU (ls.take k)+min ls[k].length 1000000:=by unfold VU;rw[List.take_succ_eq_append_getElem h,List.map_append,List.sum_append];simp
theorem sizeL_le(ls:List (List UInt8)):VU ls<=ls.length*1000000:=by
 induction ls with
 |nil=>simp[VU]
 |cons l r ih=>simp only[VU,List.map_cons,List.sum_cons,List.length_cons]at ih⊢;omega
theorem Ut(h:ls.length<=n)(k:Nat):VU (ls.take k)<=n*1000000:=by
 have h1:=sizeL_le (ls.take k);have h2:(ls.take k).length<=n:=by rw[List.length_take];omega
 have h3:(ls.take k).length*1000000<=n*1000000:=Nat.mul_le_mul_right _ h2;exact Nat.le_trans h1 h3
def qhI(n m:Nat):Bool:=decide (300<n\/5000<m\/(600<m/\m<4096))
def Tc(bs:List (List UInt8))(ws:List (Int×List UInt8)):Bool:=qhI bs.length ws.length||decide (800000<VU bs+VU (ws.map (·.2)))
set_option maxRecDepth 100000 in
theorem qjv (A1 n1 c1 A2 n2 c2) (bs:List (List UInt8)) (ws:List (Int×List UInt8)) (w:World) (hb:Bls w w.heap.size (.slice A1 n1 c1) bs) (hw:Wrs w w.heap.size (.slice A2 n2 c2) ws):Calls prog 107 #[XV A1 n1 c1 A2 n2 c2] w (Ret (.bool (Tc bs ws)) w):=by
 obtain⟨e1,dP,hm1,hA1⟩:=hb.at_;obtain⟨e2,au,iR,hA2⟩:=hw.at_;subst e1;subst e2;by_cases hh:qhI bs.length ws.length=true
 case pos =>
  have hM:Tc bs ws=true:=by unfold Tc;rw[hh];rfl
  rw[hM];have hh':300<bs.length\/5000<ws.length\/(600<ws.length/\ws.length<4096):=by simpa [qhI] using hh
  clear hM hb hw hA1 hA2 hh;generalize bs.length=n1 at *;generalize ws.length=n2 at *;go_enter func107,ntmps107;go_wp2;all_goals try simp only[beq_iff_eq,beq_eq_false_iff_ne,ne_eq,bne_iff_ne,bne_eq_false_iff_eq] at *
  all_goals first|(exfalso;omega)|skip
  all_goals go_ret
  all_goals exact⟨rfl,zA5⟩
 case neg =>
  have hM:Tc bs ws=decide (800000<VU bs+VU (ws.map (·.2))):=by unfold Tc;rw[show qhI bs.length ws.length=false by simpa using hh];rfl
  have hh':¬(300<bs.length\/5000<ws.length\/(600<ws.length/\ws.length<4096)):=by simpa [qhI] using hh
  have eY:bs.length<=300:=zO;have uS:ws.length<=5000:=zO;have wK:¬(600<ws.length/\ws.length<4096):=fun h=>hh' (.inr (.inr h));rw[hM];clear hM hh hh';have HB:=zH hb;have HW:=zH hw;have HTB:=zH (fun k h=>@qdu bs k h);have HTW:=zH (fun k (h:k<(ws.map (·.2)).length)=>@qdu (ws.map (·.2)) k h);have HLB:=zH (fun k=>Ut eY k);have HLW:=zH (fun k=>Ut (ls:=ws.map (·.2)) (n:=5000) (by rw[List.length_map];exact uS) k);have HE1:Hid (bs.take bs.length=bs):=zH (List.take_length);have HE2:Hid ((ws.map (·.2)).take ws.length=ws.map (·.2)):=zH (by rw[<-List.length_map (f:=(·.2))];exact List.take_length);clear hb hw;have hd1:decide ((bs.length:Int)>300)=false:=decide_eq_false zO;have hd2:decide ((ws.length:Int)>5000)=false:=decide_eq_false zO;go_enter func107,ntmps107;go_wp2;all_goals first|(exfalso;omega)|skip
  all_goals
   generalize aA:(World.alloc _ _)=w1;have x1:Ext w w1:=by rw[<-aA];exact zN _ _
   have r1:w1.heap[w.heap.size]?=some (.cells #[.slice A1 bs.length c1,.slice A2 ws.length c2] 25 (0,0)):=by rw[<-aA];exact zI _ _ _ rfl
   clear aA;go_loopw [3,4] (fun t i wr=>∃ k:Nat,k<=bs.length/\i=.int .i64 (k:Int)/\t=.int .i64 (VU (bs.take k):Int)/\Ext w1 wr) (fun _ i _=>bs.length-(intOf i).toNat)
   case atStart=>exact⟨0,zO,rfl,rfl,Ext.refl _⟩
   case round =>
    obtain⟨k,hk,rfl,rfl,hE⟩:=hrel;have hEw:=x1.trans hE;have rr:=qb r1 hE;have kr:=qa rr;have fZ:=HLB.out k;by_cases hlt:k<bs.length
    ·have aO:=hlt;obtain⟨b1,o1,rfl,bg⟩:=hA1 zO;obtain⟨A',c',hc,af⟩:=((HB.out.below hEw).more hEw.size).get k hlt;have hm64:=af.at_.2.1;have hMW:=af.at_.2.2.1;have ht:=HTB.out k hlt;replace ht:=zH ht;clear af;unfold maxLen at hMW;generalize bs[k].length=m at *;generalize VU (bs.take k)=q at *;go_wp2;go_roundw
     case rel=>exact⟨k+1,zO,by go_num,by rw[ht.out];go_num,hE⟩
     case measure=>simp[intOf];omega
    ·obtain rfl:k=bs.length:=zO;rw[HE1.out] at fZ ⊢;clear HB HTB HLB r1 hd1 hd2;go_wp2;clear kr;go_loopw [3,5] (fun t i wq=>∃ j:Nat,j<=ws.length/\i=.int .i64 (j:Int)/\t=.int .i64 ((VU bs+VU ((ws.map (·.2)).take j):Nat):Int)/\Ext wr wq) (fun _ i _=>ws.length-(intOf i).toNat)
     case atStart=>exact⟨0,zO,rfl,rfl,Ext.refl _⟩
     case round =>
      obtain⟨j,hj,rfl,rfl,mr⟩:=hrel;have hEq:=hEw.trans mr;have kr:=qa (qb rr mr);have oL:=HLW.out j;by_cases hlt2:j<ws.length
      ·have hTG:=hlt2;obtain⟨b2,o2,rfl,bP⟩:=hA2 zO;obtain⟨A',c',hca,xI,af⟩:=((HW.out.below hEq).more hEq.size).get j hlt2;have hm64:=af.at_.2.1;have hMW:=af.at_.2.2.1;have ht:=HTW.out j (by rw[List.length_map];exact hlt2);rw[List.getElem_map] at ht;replace ht:=zH ht;clear af;unfold maxLen at hMW;generalize ws[j].2.length=m at *;generalize ws[j].1=a at *;generalize VU ((ws.map (·.2)).take j)=q at *;generalize VU bs=s0 at *;go_wp2;go_roundw
       case rel=>exact⟨j+1,zO,by go_num,by rw[ht.out];go_num,mr⟩
       case measure=>simp[intOf];omega
      ·obtain rfl:j=ws.length:=zO;rw[HE2.out] at oL ⊢;go_wp2;go_ret;refine⟨VT ?_,hEq⟩;rw[Bool.eq_iff_iff];simp;omega
def qay(S:Sto):Bool:=Tc S.bs S.ws||(decide (10000<S.now.length)||decide (10000<S.last.length))
abbrev poolV(A1:OA)(n1 c1:Nat)(A2:OA)(n2 c2:Nat)(A3:OA)(n3 c3:Nat)(A4:OA)(n4 c4:Nat)(g r x:Int)(A5:OA)(n5 c5:Nat):U:=
 .agg #[y A1 n1 c1,y A2 n2 c2,y A3 n3 c3,y A4 n4 c4,I Z g,r,I Z x,y A5 n5 c5]
set_option maxRecDepth 100000 in
theorem qjw(A1 n1 c1 A2 n2 c2 A3 n3 c3 A4 n4 c4)(S:Sto)(w:World)(h:Qh w w (y A1 n1 c1) (y A2 n2 c2) (y A3 n3 c3) (y A4 n4 c4) S):Calls prog 58 #[Qo A1 n1 c1 A2 n2 c2 A3 n3 c3 A4 n4 c4] w (Ret (.bool (qay S)) w):=by
 have HD:=zH (λW (hW:Ext w W)=>qjv A1 n1 c1 A2 n2 c2 S.bs S.ws W (h.ext hW).bs (h.ext hW).ws);have e3:S.now.length=n3:=h.now.at_.1.symm;have e4:S.last.length=n4:=h.last.at_.1.symm;have hS:qay S=(Tc S.bs S.ws||(decide (10000<n3)||decide (10000<n4))):=by unfold qay;rw[e3,e4]
 rw[hS];clear hS h e3 e4;generalize Tc S.bs S.ws=d at*;go_enter func58,ntmps58;go_wp2_with fail;generalize aA:(M _ _)=w1;have x1:Ext w w1:=aA▸zN _ _;have r1:w1.heap[w.heap.size]?=E (.cells #[y A1 n1 c1,y A2 n2 c2,y A3 n3 c3,y A4 n4 c4] 28):=aA▸zI _ _ _ rfl;clear aA;refine(HD.out _ x1).mono ?_;rintro e w2 ⟨rfl,hB⟩;have x2:=x1.trans hB;have r2:=qb r1 hB;have k2:=qa r2;clear hB r1 x1 HD;cases d;all_goals
  go_wp2;all_goals
   go_ret;refine⟨VT ?_,x2⟩;rw[Bool.eq_iff_iff];simp;try omega
def qjx(S:Sto)(dead:Nat):Bool:=qay S||decide (1000<dead)
set_option maxRecDepth 100000 in
theorem qhG(A1 n1 c1 A2 n2 c2 A3 n3 c3 A4 n4 c4)(g r x:Int)(A5:OA)(n5 c5:Nat)(S:Sto)(w:World)(h:Qh w w (y A1 n1 c1) (y A2 n2 c2) (y A3 n3 c3) (y A4 n4 c4) S):Calls prog 16 #[poolV A1 n1 c1 A2 n2 c2 A3 n3 c3 A4 n4 c4 g r x A5 n5 c5] w (Ret (.bool (qjx S n5)) w):=by
 have HD:=zH (λW (hW:Ext w W)=>qjw A1 n1 c1 A2 n2 c2 A3 n3 c3 A4 n4 c4 S W (h.ext hW));have hS:qjx S n5=(qay S||decide (1000<n5)):=rfl;rw[hS];clear hS h;generalize qay S=d at*;go_enter func16,ntmps16;go_wp2_with fail;generalize aA:(M _ _)=w1;have x1:Ext w w1:=aA▸zN _ _;have r1:w1.heap[w.heap.size]?=E (.cells #[y A1 n1 c1,y A2 n2 c2,y A3 n3 c3,y A4 n4 c4,I Z g,r,I Z x,y A5 n5 c5] 32):=aA▸zI _ _ _ rfl;clear aA;refine(HD.out _ x1).mono ?_;rintro e w2 ⟨rfl,hB⟩;have x2:=x1.trans hB;have r2:=qb r1 hB;have k2:=qa r2;clear hB r1 x1 HD;cases d;all_goals
  go_wp2;all_goals
   go_ret;refine⟨VT ?_,x2⟩;rw[Bool.eq_iff_iff];simp;try omega
theorem TU(h4:a.tmps[4]?.getD undef=u)(hd:a.defers=[])(hR:R u W):bodyPost prog Tryz.f7 R .ret a W:=by refine bodyPost_ret (v:=u) ?_ hd hR;simp[results,results7,go_sem,h4]
set_option maxRecDepth 100000 in
theorem qmz (A1 n1 c1 A2 n2 c2 A3 n3 c3 A4 n4 c4) (gen root next:Int) (A5 c5) (S:Sto) (dead:List Int) (id:Int) (w:World) (h:Qh w w.heap.size (.slice A1 n1 c1) (.slice A2 n2 c2) (.slice A3 n3 c3) (.slice A4 n4 c4) S) (hd:ZS w w.heap.size (.slice A5 dead.length c5) dead):Calls prog 7 #[.agg (qR (.slice A1 n1 c1) (.slice A2 n2 c2) (.slice A3 n3 c3) (.slice A4 n4 c4) gen root next (.slice A5 dead.length c5)),.int .u32 id] w (Ret (.bool true) w):=by
 have HG:=zH (fun W (hx:Ext w W)=>qhG A1 n1 c1 A2 n2 c2 A3 n3 c3 A4 n4 c4 gen root next A5 dead.length c5 S W (h.ext hx));have HO:=zH (fun W (hx:Ext w W)=>Ta A1 n1 c1 A2 n2 c2 A3 n3 c3 A4 n4 c4 gen root next A5 c5 S dead id W (h.ext hx) (hd.ext_ hx));have HL:=zH (fun W (hx:Ext w W)=>qcH A1 n1 c1 A2 n2 c2 A3 n3 c3 A4 n4 c4 gen root next A5 c5 S dead W (h.ext hx) (hd.ext_ hx));have HD:=zH (fun W (hx:Ext w W)=>qdh A1 n1 c1 A2 n2 c2 A3 n3 c3 A4 n4 c4 gen root next A5 c5 S dead id W (h.ext hx) (hd.ext_ hx));replace h:=zH h;replace hd:=zH hd;go_enter func7,ntmps7;go_wp2_with fail;generalize aA:World.alloc w _=w1;have x1:Ext w w1:=by rw[<-aA];exact zN _ _
 have rp1:w1.heap[w.heap.size]?=some (.cells (qR (.slice A1 n1 c1) (.slice A2 n2 c2) (.slice A3 n3 c3) (.slice A4 n4 c4) gen root next (.slice A5 dead.length c5)) 32 (0,0)):=by rw[<-aA];exact zI _ _ _ rfl
 clear aA;refine(qgS w1).mono ?_;rintro e w2 ⟨rfl,hB⟩;have x2:Ext w w2:=x1.trans hB;have rp2:=qb rp1 hB;have kp2:=qa rp2;clear hB rp1 x1;go_wp2_with fail;refine(HG.out w2 x2).mono ?_;clear HG;rintro e w3 ⟨rfl,hB⟩;have x3:Ext w w3:=x2.trans hB;have rp3:=qb rp2 hB;have kp3:=qa rp3;clear hB rp2 x2 kp2;cases bU:qjx S dead.length
 case true =>go_wp2_with fail;exact TU rfl rfl ⟨rfl,x3⟩
 case false =>
 clear bU;go_wp2_with fail;refine(HO.out w3 x3).mono ?_;clear HO;intro e w4 hq;have x4:Ext w w4:=x3.trans hq.1;have rp4:=qb rp3 hq.1;have kp4:=qa rp4;have zp4:=(zG.1 rp4).1;clear rp3 kp3 x3;have aI:(∃ er,er≠0/\e=.returned (.tuple #[vV qdB,.int .i64 er])/\((er=8/\QI S root next dead)\/(er=6/\∃ vs,Zy S root next dead vs/\zF vs id=none)))\/∃ vs v,Zy S root next dead vs/\zF vs id=some v/\e=.returned (.tuple #[vV v,.int .i64 0]):=by
  rcases hq.2 with ⟨rfl,hb⟩|⟨vs,refs,nodes,k1,k2,k3,rfl⟩
  ·exact .inl ⟨8,zA1,rfl,.inl ⟨rfl,hb⟩⟩
  ·rcases hv:zF vs id with _|v
   ·exact .inl ⟨6,zA1,rfl,.inr ⟨rfl,vs,⟨refs,nodes,k1,k2,k3⟩,hv⟩⟩
   ·exact .inr ⟨vs,v,⟨refs,nodes,k1,k2,k3⟩,hv,rfl⟩
 clear hq;rcases aI with ⟨er,aH,rfl,aj⟩|⟨vs,v,hok,hv,rfl⟩
 ·have hb:(er != 0)=true:=by rw[bne_iff_ne];exact aH
  have hb0:(er == 0)=false:=by rw[beq_eq_false_iff_ne];exact aH
  have bP:(er == er)=true:=zA3;replace aH:=zH aH;replace aj:=zH aj;unfold vV qdB;go_wp2_with fail;generalize aS:World.alloc w4 _=w5;have x45:Ext w4 w5:=by rw[<-aS];exact zN _ _
  have x5:Ext w w5:=x4.trans x45;have rp5:=qb rp4 x45;clear aS x4 rp4 kp4 zp4 x45;refine(HL.out w5 x5).mono ?_;clear HL;intro e w6 hq;have x6:Ext w w6:=x5.trans hq.1;have rp6:=qb rp5 hq.1;have kp6:=qa rp6;obtain⟨n0,f0,rfl⟩:∃ n0 f0:Int,e=.returned (.tuple #[.int .i64 n0,.int .i64 f0]):=by rcases hq.2 with ⟨rfl,-⟩|⟨_,-,rfl⟩ <;> exact⟨_,_,rfl⟩
  clear hq rp5 x5;go_wp2_with fail;refine(HD.out w6 x6).mono ?_;clear HD;intro e w7 hq;have x7:Ext w w7:=x6.trans hq.1;obtain rfl:=hq.no aj.out;clear hq rp6 kp6 x6;unfold vP qR;go_wp2_with fail;exact TU rfl rfl ⟨rfl,x7.trans (zN _ _)⟩
 ·replace hok:=zH hok;replace hv:=zH hv;unfold vV;go_wp2_with fail;generalize aS:World.alloc w4 _=w5;have x45:Ext w4 w5:=by rw[<-aS];exact zN _ _
  have x5:Ext w w5:=x4.trans x45;have rv5:w5.heap[w4.heap.size]?=some (.cells #[.int .u32 v.id,.int .i64 v.root,.bool v.fz,.int .u32 v.frm] 36 (0,0)):=by rw[<-aS];exact zI _ _ _ rfl
  have rp5:=qb rp4 x45;clear aS x4 rp4 kp4 zp4 x45;refine(HL.out w5 x5).mono ?_;clear HL;intro e w6 hq;have x6:Ext w w6:=x5.trans hq.1;have rp6:=qb rp5 hq.1;have rv6:=qb rv5 hq.1;have kp6:=qa rp6;obtain rfl:=hq.known hok.out;clear hq rp5 rv5 x5;go_wp2_with fail;refine(HD.out w6 x6).mono ?_;clear HD;rintro e w7 ⟨hB,hq⟩;have x7:Ext w w7:=x6.trans hB;have rp7:=qb rp6 hB;have rv7:=qb rv6 hB;have zp7:=(zG.1 rp7).1;clear hB rp6 rv6 kp6 x6;rcases hq with ⟨er,aH,rfl,-⟩|⟨vs',v',r1,S1,u,iZ,wZ,h19,eU,rfl,hN⟩
  ·have hb:(er != 0)=true:=by rw[bne_iff_ne];exact aH
   replace aH:=zH aH;unfold vP qR;go_wp2_with fail;exact TU rfl rfl ⟨rfl,x7.trans (zN _ _)⟩
  obtain⟨refs0,nodes0,k1,-⟩:=hok.out;obtain⟨refs9,nodes9,k2,-⟩:=iZ;obtain rfl:=QH.same k1 k2;rw[hv.out] at wZ;cases wZ;obtain⟨hBJ,aW,hlt⟩:=qju hok.out hv.out eU h19;obtain⟨B1,d1,B2,d2,B3,d3,B4,d4,B5,d5,rfl,hS,hI⟩:=hN.sto;have HL2:=zH (fun W (hx:Ext w7 W)=>qcH B1 _ d1 B2 _ d2 B3 _ d3 B4 _ d4 gen (r1:Int) next B5 d5 S1 (dead++[v.root]) W (hS.ext hx) (hI.ext_ hx));have HO2:=zH (fun W (hx:Ext w7 W)=>Ta B1 _ d1 B2 _ d2 B3 _ d3 B4 _ d4 gen (r1:Int) next B5 d5 S1 (dead++[v.root]) id W (hS.ext hx) (hI.ext_ hx));have HD2:=zH (fun W (hx:Ext w7 W)=>qdh B1 _ d1 B2 _ d2 B3 _ d3 B4 _ d4 gen (r1:Int) next B5 d5 S1 (dead++[v.root]) id W (hS.ext hx) (hI.ext_ hx));have hlaw:vs.length<=16:=by obtain⟨r0,n0,k1,k2,k3⟩:=hok.out;exact(qfe k1 k2 k3).len
  have HM:=zH (fun W (hx:Ext w7 W)=>sm19_any A1 n1 c1 A2 n2 c2 A3 n3 c3 A4 n4 c4 gen root next A5 c5 S dead B1 _ d1 B2 _ d2 B3 _ d3 B4 _ d4 gen (r1:Int) next B5 d5 S1 (dead++[v.root]) vs id W hok.out hBJ hlaw aW
   (h.out.ext (x7.trans hx)) (hd.out.ext_ (x7.trans hx)) (hS.ext hx) (hI.ext_ hx))
  have hIP:=zH (fun W (hx:Ext w7 W)=>(⟨hd.out.ext_ (x7.trans hx),hI.ext_ hx⟩:ZS W W.heap.size (.slice A5 dead.length c5) dead/\ZS W W.heap.size (.slice B5 (dead++[v.root]).length d5) (dead++[v.root])));have hll:(dead++[v.root]).length=dead.length+1:=zA3;rw[hll] at HL2 HO2 HD2 HM ⊢;replace hll:=zH hll;replace hBJ:=zH hBJ;replace hlt:=zH hlt;replace h19:=zH h19;clear hN hS hI hlaw aW eU k1 k2 refs0 nodes0 refs9 nodes9;go_wp2_with fail;generalize xR:World.alloc w7 _=w8;have x78:Ext w7 w8:=by rw[<-xR];exact zN _ _
  have rq8:w8.heap[w7.heap.size]?=some (.cells (qR (.slice B1 S1.bs.length d1) (.slice B2 S1.ws.length d2) (.slice B3 S1.now.length d3) (.slice B4 S1.last.length d4) gen (r1:Int) next (.slice B5 (dead.length+1) d5)) 32 (0,0)):=by rw[<-xR];exact zI _ _ _ rfl
  have rp8:=qb rp7 x78;have rv8:=qb rv7 x78;clear xR rp7 rv7 zp7;refine(HL2.out w8 x78).mono ?_;clear HL2;intro e w9 hq;have x79:Ext w7 w9:=x78.trans hq.1;have rp9:=qb rp8 hq.1;have rv9:=qb rv8 hq.1;have rq9:=qb rq8 hq.1;obtain rfl:=hq.known hBJ.out;have kq9:=qa rq9;have zq9:=(zG.1 rq9).1;clear hq rp8 rv8 rq8 x78;go_wp2_with fail;refine(HO2.out w9 x79).mono ?_;clear HO2;intro e wa hq;have x7a:Ext w7 wa:=x79.trans hq.1;have rpa:=qb rp9 hq.1;have rva:=qb rv9 hq.1;have rqa:=qb rq9 hq.1;obtain rfl:=hq.knownG hBJ.out;rw[qfh];have kqa:=qa rqa;have zqa:=(zG.1 rqa).1;clear hq rp9 rv9 rq9 kq9 zq9 x79;unfold volQ vV qdB;go_wp2_with fail;generalize hwb:World.alloc wa _=wb;have xab:Ext wa wb:=by rw[<-hwb];exact zN _ _
  have x7b:=x7a.trans xab;have rpb:=qb rpa xab;have rvb:=qb rva xab;have rqb:=qb rqa xab;clear hwb rpa rva rqa kqa zqa x7a xab;refine(HD2.out wb x7b).mono ?_;clear HD2;intro e wc hq;have x7c:Ext w7 wc:=x7b.trans hq.1;have rpc:=qb rpb hq.1;have rvc:=qb rvb hq.1;have rqc:=qb rqb hq.1;obtain rfl:=hq.no (.inr ⟨rfl,_,hBJ.out,qfh id vs⟩);clear hq rpb rvb rqb x7b;unfold vP;go_upto_region 12 with fail;generalize hwd:World.alloc wc _=wd;have xcd:Ext wc wd:=by rw[<-hwd];exact zN _ _
  have x7d:=x7c.trans xcd;have rpd:=qb rpc xcd;have rvd:=qb rvc xcd;have rqd:=qb rqc xcd;clear hwd rpc rvc rqc x7c xcd;obtain⟨hIp,hIq⟩:=hIP.out wd x7d;obtain⟨Ap,cp,ep,-,-,hrp⟩:=hIp;obtain⟨Aq,cq,eq,-,-,hrq⟩:=hIq;cases ep;cases eq;obtain⟨bq,oq,rfl,hbq,hcq⟩:=hrq.2 zA3;have lM:=hcq dead.length (.int .i64 v.root) zA3;have hrp2:=hrp.2;have hle:decide (((jO S1 (dead++[v.root]):Nat):Int)<=((jO S dead:Nat):Int))=false:=decide_eq_false (by have:=hlt.out;omega);have pY:decide (jO S1 (dead++[v.root])<=jO S dead)=false:=decide_eq_false (by have:=hlt.out;omega);have h19':=h19.out;have ig:=IntWalk.wrap64_in ((dead.length:Int)+1) zO;have hwi:IntKind.i64.wrap ((dead.length:Int)+1)=(dead.length:Int)+1:=by rw[IntKind.wrap_i64];omega
  generalize jO S1 (dead++[v.root])=nq at *;have gP:∀ W,qm.r wd W->∀ i,W.cell? ⟨w.heap.size,i,none⟩=(qR (.slice A1 n1 c1) (.slice A2 n2 c2) (.slice A3 n3 c3) (.slice A4 n4 c4) gen root next (.slice A5 dead.length c5))[i]?:=fun W h=>qa (qb rpd h);have gQ:∀ W,qm.r wd W->∀ i,W.cell? ⟨w7.heap.size,i,none⟩=(qR (.slice B1 S1.bs.length d1) (.slice B2 S1.ws.length d2) (.slice B3 S1.now.length d3) (.slice B4 S1.last.length d4) gen (r1:Int) next (.slice (some ⟨bq,oq,none⟩) (dead.length+1) d5))[i]?:=fun W h=>qa (qb rqd h);have gV:∀ W,qm.r wd W->∀ i,W.cell? ⟨w4.heap.size,i,none⟩=#[.int .u32 v.id,.int .i64 v.root,.bool v.fz,.int .u32 v.frm][i]?:=fun W h=>qa (qb rvd h);have gR:∀ W,qm.r wd W->W.cell? ⟨bq,oq+dead.length,none⟩=some (.int .i64 v.root):=fun W h=>Ext.cell h lM;refine qt zQ ?_;refine qex (w:=wd) qm (qP []) (List.replicate 45 true) 0 zQ zQ zQ zQ zQ zQ zQ ?st (Rel.drew _ _) ?walk
  case st=>exact qk (by intro _ h;cases h)
  case walk =>
  intro K hK;dsimp only[qv,List.replicate];refine zB7 ?_
  first
   |(refine qd (.pointer (some ⟨bq,oq+dead.length,none⟩)) zA0 zA0 (fun W hW _=>⟨W,?_,Rel.refl _ W⟩) ?_
     ·go_simp;intro lg;exfalso;omega
     simp only[Act.put,ql,qf,qc,qg,zA,zB,zC])
   |skip
  refine zB7 ?_;refine qB (hK _ _ fun W hW hF=>?_);have hW:Ext wd W:=hW;clear hF hK gP gQ gV gR lM;have x7W:=x7d.trans hW;have rpW:=qb rpd hW;have rqW:=qb rqd hW;have hWH:=zH hW;clear hW rpd rqd rvd;refine zB6 ?_;go_wp2;refine Qq ?_;have kpW:=qa rpW;go_wp2_with fail;go_loopw [4,18] (fun _ i wr=>∃ k:Nat,k<=dead.length/\i=.int .i64 (k:Int)/\Ext W wr) (fun _ i _=>dead.length-(intOf i).toNat)
  case atStart=>exact⟨0,Nat.zero_le _,rfl,Ext.refl _⟩
  case round =>
   obtain⟨k,hk,rfl,xr⟩:=hrel;have rpr:=qb rpW xr;have rqr:=qb rqW xr;have kpr:=qa rpr;have xdr:=hWH.out.trans xr;by_cases hlt:k<dead.length
   ·obtain⟨bp,op,rfl,hbp,dU⟩:=hrp2 zO;have d0:=Ext.cell xdr (dU k (.int .i64 dead[k]) (by simp[hlt]));have e0:=Ext.cell xdr (hcq k (.int .i64 dead[k]) (by rw[List.map_append,List.getElem?_append_left (by simpa using hlt)];simp[hlt]));have nR:=zH (IntWalk.wrap64_in ((k:Int)+1) zO);have hEJ:=zH hlt;generalize dead[k]=d at d0 e0;have g0:∀ X,qm.r wr X->X.cell? ⟨bp,op+k,none⟩=some (.int .i64 d):=fun X h=>Ext.cell h d0;have j0:∀ X,qm.r wr X->X.cell? ⟨bq,oq+k,none⟩=some (.int .i64 d):=fun X h=>Ext.cell h e0;have gP:∀ X,qm.r wr X->∀ i,X.cell? ⟨w.heap.size,i,none⟩=(qR (.slice A1 n1 c1) (.slice A2 n2 c2) (.slice A3 n3 c3) (.slice A4 n4 c4) gen root next (.slice (some ⟨bp,op,none⟩) dead.length c5))[i]?:=fun X h=>qa (qb rpr h);have gQ:∀ X,qm.r wr X->∀ i,X.cell? ⟨w7.heap.size,i,none⟩=(qR (.slice B1 S1.bs.length d1) (.slice B2 S1.ws.length d2) (.slice B3 S1.now.length d3) (.slice B4 S1.last.length d4) gen (r1:Int) next (.slice (some ⟨bq,oq,none⟩) (dead.length+1) d5))[i]?:=fun X h=>qa (qb rqr h);clear dU d0 e0 hbp;go_upto_region 17 with fail;refine qt zQ ?_;refine qY (w:=wr) qm (qP []) (List.replicate 11 true) 0 zQ zQ zQ zQ zQ zQ zQ ?st (Rel.drew _ _) ?walk
    case st=>exact qk (by intro _ h;cases h)
    case walk =>
    intro K hK;dsimp only[qv,List.replicate];refine zB7 ?_
    first
     |(refine qd (.pointer (some ⟨bq,oq+k,none⟩)) zA0 zA0 (fun W hW _=>⟨W,?_,Rel.refl _ W⟩) ?_
       ·go_simp;intro lg;exfalso;omega
       simp only[Act.put,ql,qf,qc,qg,zA,zB,zC])
     |skip
    refine zB7 ?_
    first
     |(refine qd (.pointer (some ⟨bp,op+k,none⟩)) zA0 zA0 (fun W hW _=>⟨W,?_,Rel.refl _ W⟩) ?_
       ·go_simp;intro lg;exfalso;omega
       simp only[Act.put,ql,qf,qc,qg,zA,zB,zC])
     |skip
    refine zB7 ?_;refine qB (hK _ _ fun X hX hF=>?_);have hX:Ext wr X:=hX;have xX:=zH (xr.trans hX);clear hF hK g0 j0 gP gQ hX;have cO:=nR.out;refine zB6 ?_;go_wp2;refine Qq ?_;go_wp2_with fail;refine⟨⟨k+1,hEJ.out,rfl,xX.out⟩,?_⟩;simp[intOf];omega
   ·obtain rfl:k=dead.length:=zO;have kqr:=qa rqr;have x7r:=zH (x7W.trans xr);go_wp2_with fail;have hM:=HM.out wr x7r.out;refine hM.mono ?_;rintro e we ⟨rfl,hB⟩;have xe:Ext w we:=(x7.trans x7r.out).trans hB;clear hB hM;go_wp2_with fail;exact TU rfl rfl ⟨rfl,xe⟩
end Go.Proofs.YtmeadnlmepcmbaaGreat
namespace Go.Proofs.YtmeadnlmepcmbaaGreat
open Go.RowKit Go.ChangeShapes Go.WideShapes Go.ChangeAt
section
variable {H:Type} {enc:TypeId×Value->H} {P:Program} {W:World}
theorem qga(zs:List Int)(h:∀n∈zs,(Lit.int .u8 n).wf=F):∃l:List UInt8,zs.map (Value.int .u8)=l.map bv:=by
 induction zs with
 |nil=>exact⟨[],rfl⟩
 |cons z r ih=>
  obtain⟨l,hl⟩:=ih (λn hn=>h n (List.mem_cons_of_mem _ hn));have hz:=h z (List.mem_cons_self);have hb:0<=z/\z<=255:=by simpa [Lit.wf,IntKind.min,IntKind.max,IntKind.signed,IntKind.bits]using hz
  refine⟨UInt8.ofNat z.toNat::l,?_⟩;simp only[List.map_cons,hl];congr 1;simp only[bv];congr 1;have:(UInt8.ofNat z.toNat).toNat=z.toNat%256:=zA3;rw[this];omega
theorem Tt{a:Addr}{n c:Nat}{xs:List U}(hn:n<=c)(hlen:xs.length=n)(hb:∀x∈MemPlace.row a c,x.block<W.heap.size)(hc:∀i u,xs[i]?=E u->W.cell? (a.add i)=E u):Rd W W 1 (E a) n xs:=by
 refine⟨zO,λh0=>?_⟩;obtain⟨u,hu⟩:∃u,xs[0]?=E u:=⟨_,zL zO⟩
 have h1:=hc 0 u hu;have aK:a.spot=J:=by
  have:(a.add 0)=a:=by simp[Addr.add]
  rw[this]at h1;unfold World.cell? at h1;split at h1;cases hs:a.spot with
  |none=>rfl
  |some s=>rw[hs]at h1;simp at h1
  cases h1
 obtain⟨b,off,sp⟩:=a;simp only at aK;subst aK;have cZ:b<W:=by have:W.cell? (((b,off):Addr).add 0)=u:=h1;have h2:=World.block_lt_of_cell? W _ this;simpa [Addr.add]using h2
 refine⟨b,off,rfl,cZ,λj v hv=>?_⟩;rw[<-hc j v hv];unfold Addr.add;split;subst_vars;rfl;rfl
theorem GT{t e:TypeId}{fuel:Nat}{cs:List U}{d:DataW H}{p:List MemPlace}(ht:P.underlying t=E (.slice e))(he:P.underlying e=E (.int .u8))(hc:P.cellsOf e=1)(h:DataW.trod enc P W 0 (λ_=>F) F fuel t cs=E (d,p))(hlt:∀x∈p,x.block<W.heap.size):∃A n c,cs=[y A n c]/\n<=c/\∃l:List UInt8,Bys W W (y A n c) l/\l.length=n:=by
 rcases open_ints ht he hc h with⟨rfl,_⟩|⟨a,len,cap,zs,rfl,_,hl,hm,hz,hx,aF,ah⟩
 exact⟨J,0,0,rfl,zM _,[],Bys.nil W _,rfl⟩;simp only[if_true]at hz;obtain⟨l,xJ⟩:=qga (zs.take len) (λn hn=>ah n (List.mem_of_mem_take hn));have hll:l.length=len:=by have:=congrArg List.length xJ;simp only[List.length_map,List.length_take]at this;omega
 refine⟨E a,len,cap,rfl,hl,l,⟨E a,cap,by rw[hll],zO,hm,?_⟩,hll⟩;rw[hll];refine Tt (c:=cap) hl (by simp[hll]) (λx wu=>hlt x ?_) (λi u hu=>?_);have e2:p=MemPlace.row a zs.length:=by injection hx
 rw[e2,hz];exact wu;rw[<-xJ]at hu;rw[List.getElem?_map,List.getElem?_take]at hu;split at hu;rename_i hi;rw[aF i zO];rw[<-hu];simp[zL (show i<zs.length by omega)];cases hu
theorem KZ{t:TypeId}{fs:Array Field}{fuel:Nat}{cs:List U}{x:DataW H×List MemPlace}(ht:P.underlying t=E (.struct fs))(h:DataW.trod enc P W 0 (λ_=>F) F fuel t cs=x):∃(xs:List (DataW H×List MemPlace))(n:Nat),cs.length=P.cellsOf t/\xs.length=fs.size/\x.2=xs.flatMap (·.2)/\∀(i:Nat)(T:TypeId)(off m:Nat),(fs[i]?).map (λf=>(f.type,f.offset))=E (T,off)->P.cellsOf T=m->DataW.trod enc P W 0 (λ_=>F) F n T ((cs.drop off).take m)=xs[i]?:=by obtain⟨xs,n,_,hx,hl,iG,hf⟩:=DataW.trod_struct ht h;refine⟨xs,n,hl,iG,by rw[hx],λi T off m hi hm=>?_⟩;obtain⟨f,hfi,he⟩:=Option.map_eq_some_iff.1 hi;have:=hf i f hfi;simp only[Prod.mk.injEq]at he;rw[he.1,he.2,hm]at this;exact this
end
section
variable {H:Type} {enc:TypeId×Value->H} {P:Program}
theorem Uv(hl:laidOutB P=F){W W':World}{sp:Nat->Bool}:∀(ts:List TypeId)(vs:List U)(ds:List (DataW H))(p:List MemPlace),DataW.TrodAll enc P W 0 (λ_=>F) F ts vs ds p -> (∀t∈ts,P.readableRec t=F/\t<P.types.size)->(∀x∈p,W.sameAt W' x)->(∀x∈p,sp x.block=F)->DataW.TrodAll enc P W' 0 sp F ts vs ds p
 |[],vs,ds,p,h,_,_,_=>by obtain⟨rfl,rfl,rfl⟩:=trodAll_nil h;exact trodAll_mk0
 |t::ts,vs,ds,p,h,ht,hs,aK=>by
  obtain⟨v,vs',d,ds',p0,q0,rfl,rfl,rfl,h0,h1⟩:=trodAll_cons h;have e:=ht t (List.mem_cons_self);exact trodAll_cons_mk (WideElems.Trod_stays hl e.1 e.2 h0 (λx hx=>hs x (List.mem_append_left _ hx)) (λx hx=>aK x (List.mem_append_left _ hx)))
   (Uv hl ts vs' ds' q0 h1 (λt' h'=>ht t' (List.mem_cons_of_mem _ h')) (λx hx=>hs x (List.mem_append_right _ hx)) (λx hx=>aK x (List.mem_append_right _ hx)))
theorem law_post{f:Func}{s:ChangeSpec}{W W':World}{args:Array U}{ds gs:List (DataW H)}{before:List MemPlace}{b:TypeId}(hv:s.vars=[])(hl:laidOutB P=F)(hr:f.resultTypes=#[b])(hb:P.underlying b=E .bool)(ht:∀t∈f.params.toList,P.readableRec t=F/\t<P.types.size)(hW:DataW.Whole enc P f.params.toList s.vars Y W args.toList ds gs before)(hs:s.fn H (ds++gs)={results:=[.lit (.bool F)],args:=ds,vars:=[]})(hB:Below W W W'):s.post enc P f Y F Y Y W args (.bool F) W':=by
 have hlt:∀x∈before,x.block<W.heap.size:=λx hx=>hW.lt x hx;have iV:=hW;obtain⟨p,q,hA,hV,rfl,_,_⟩:=hW;have hq:q=[]:=by
  rw[hv]at hV;cases gs with
  |nil=>exact hV
  |cons g gs=>cases hV
 subst hq;refine⟨ds,gs,p++[],[],p,[],iV,?_,?_,?_,?_,λh=>by cases h⟩;rw[hs,hr];exact trodAll_cons_mk (shut_bool hb F) trodAll_mk0;rw[hs];exact Uv hl _ _ _ _ hA ht (λx hx=>hB.same (hlt x (by simpa using hx))) (λx hx=>by simpa using hlt x (by simpa using hx));rw[hs,hv];exact rfl;exact World.keptBut_mono (λx hx=>⟨by simpa using hx,Or.inr (Or.inl hx)⟩) (hB.frame (· ∈ p))
end
end Go.Proofs.YtmeadnlmepcmbaaGreat
namespace Go.Proofs.YtmeadnlmepcmbaaGreat
open Go.RowKit Go.ChangeShapes Go.WideShapes Go.ChangeAt Go.Deep
theorem Tryz.cc_u8:Tryz.prog.cellsOf 5=1:=zQ
theorem Tryz.cc_u32:Tryz.prog.cellsOf 29=1:=zQ
theorem Tryz.cc_int:Tryz.prog.cellsOf 3=1:=zQ
theorem Tryz.cc_bytes:Tryz.prog.cellsOf 26=1:=zQ
theorem Tryz.cc_blocks:Tryz.prog.cellsOf 22=1:=zQ
theorem Tryz.cc_writes:Tryz.prog.cellsOf 23=1:=zQ
theorem Tryz.cc_ints:Tryz.prog.cellsOf 30=1:=zQ
theorem Tryz.cc_write:Tryz.prog.cellsOf 142=2:=zQ
theorem Tryz.cc_disk:Tryz.prog.cellsOf 25=2:=zQ
theorem Tryz.cc_store:Tryz.prog.cellsOf 28=4:=zQ
theorem Tryz.cc_pool:Tryz.prog.cellsOf 32=8:=zQ
section
variable {H:Type} {enc:TypeId×Value->H} {W:World}
theorem qgp{size:Nat}{a:Addr}{n:Nat}{xs:List U}(hlen:xs.length=n*size)(hz:0<size)(hb:∀x∈MemPlace.row a (n*size),x.block<W.heap.size)(hc:∀i u,xs[i]?=E u->W.cell? (a.add i)=E u):Rd W W size (E a) n xs:=by
 refine⟨hlen,λh0=>?_⟩;have dA:0<xs.length:=by rw[hlen];exact Nat.mul_pos h0 hz
 obtain⟨u,hu⟩:∃u,xs[0]?=E u:=⟨_,zL dA⟩
 have h1:=hc 0 u hu;have aK:a.spot=J:=by
  have:(a.add 0)=a:=by simp[Addr.add]
  rw[this]at h1;unfold World.cell? at h1;split at h1;cases hs:a.spot with
  |none=>rfl
  |some s=>rw[hs]at h1;simp at h1
  cases h1
 obtain⟨b,off,sp⟩:=a;simp only at aK;subst aK;have cZ:b<W:=by have:W.cell? (((b,off):Addr).add 0)=u:=h1;have h2:=World.block_lt_of_cell? W _ this;simpa [Addr.add]using h2
 refine⟨b,off,rfl,cZ,λj v hv=>?_⟩;rw[<-hc j v hv];unfold Addr.add;split;subst_vars;rfl;rfl
theorem qmu{fuel:Nat}{cs:List U}{d:DataW H}{p:List MemPlace}(h:DataW.trod enc prog W 0 (λ_=>F) F fuel 22 cs=E (d,p))(hlt:∀x∈p,x.block<W.heap.size):∃A c bs,cs=[y A bs.length c]/\Bls W W (y A bs.length c) bs:=by
 rcases open_slice1 underlying22 Tryz.cc_bytes h with⟨rfl,_⟩|⟨a,len,cap,m,n,V,D,Pl,rfl,_,hl,hm,hmm,hx,hel⟩
 exact⟨J,0,[],rfl,[],J,0,rfl,zM _,by simp[maxLen],Rd.none_,λi u l hu=>by simp at hu⟩;simp only[if_true]at hmm;subst hmm;have hp:p=MemPlace.row a m++(List.range m).flatMap Pl:=congrArg Prod.snd hx;have hb:∀i,i<len->∃l:List UInt8,Bys W W (V i) l:=λi hi=>by obtain⟨_,h2⟩:=hel i zO;obtain⟨A,n',c',e,_,l,af,_⟩:=GT underlying26 underlying5 Tryz.cc_u8 h2 (λx wu=>hlt x (by rw[hp];exact List.mem_append_right _ (List.mem_flatMap.2 ⟨i,List.mem_range.2 zO,wu⟩)));simp only[List.cons.injEq,and_true]at e;exact⟨l,by rw[e];exact af⟩
 obtain⟨L,hL⟩:=choose_lt (α:=List UInt8) (p:=λi l=>Bys W W.heap.size (V i) l) hb;refine⟨E a,m,(List.range len).map L,zA3,(List.range len).map V,E a,m,zA3,by simpa using hl,hm,?_,λi u l hu hll=>?_⟩;rw[List.length_map,List.length_range];refine Tt (c:=m) hl zA3 (λx wu=>hlt x (by rw[hp];exact List.mem_append_left _ wu)) (λi u hu=>?_);have hi:i<len:=by have:=(List.getElem?_eq_some_iff.1 hu).1;simpa using this
 rw[List.getElem?_map,List.getElem?_range hi]at hu;cases hu;exact(hel i zO).1;have hi:i<len:=by have:=(List.getElem?_eq_some_iff.1 hu).1;simpa using this
 rw[List.getElem?_map,List.getElem?_range hi]at hu hll;cases hu;cases hll;exact hL i hi
theorem rd_write {fuel:Nat} {cs:List Value} {d:DataW H} {p:List MemPlace} (h:DataW.trod enc prog W 0 (fun _=>true) true fuel 142 cs=some (d,p)) (hlt:∀ x∈p,x.block<W.heap.size) : ∃ a A l c,cs=[.int .i64 a,.slice A l.length c]/\Bys W W.heap.size (.slice A l.length c) l/\(Lit.int .i64 a).wf=true:=by
 obtain⟨xs,n,hl,iG,hp,hf⟩:=KZ underlying142 h;rw[Tryz.cc_write] at hl
 match cs,hl with
 | [c0,c1],_ =>
  match xs,iG with
  | [y0,y1],_ =>
   have g0:_=some y0:=hf 0 3 0 1 rfl Tryz.cc_int;have g1:_=some y1:=hf 1 26 1 1 rfl Tryz.cc_bytes;simp only[List.drop,List.take] at g0 g1;obtain⟨a,ea,_,wa⟩:=DataW.trod_int underlying3 g0;have fG:p=y0.2++(y1.2++[]):=hp;obtain⟨d1,p1⟩:=y1;obtain⟨A,m,c,es,hmc,l,hb,hlen⟩:=GT underlying26 underlying5 Tryz.cc_u8 g1 (fun x hx=>hlt x (by rw[fG];simp[hx]));simp only[List.cons.injEq,and_true] at ea es;subst ea es hlen;exact⟨a,A,l,c,rfl,hb,wa⟩
theorem qmv{fuel:Nat}{cs:List U}{d:DataW H}{p:List MemPlace}(h:DataW.trod enc prog W 0 (λ_=>F) F fuel 23 cs=E (d,p))(hlt:∀x∈p,x.block<W.heap.size):∃A c ws,cs=[y A ws.length c]/\Wrs W W (y A ws.length c) ws:=by
 rcases open_slice underlying23 h with⟨rfl,_⟩|⟨a,len,cap,m,n,D,Pl,rfl,_,hl,hm,hmm,hx,hel⟩
 exact⟨J,0,[],rfl,[],rfl,⟨J,0,rfl,zM _,by simp[maxLen],Rd.none_⟩,λp h=>by cases h⟩;simp only[if_true]at hmm;subst hmm;rw[Tryz.cc_write]at hx hel;have hp:p=MemPlace.row a (m*2)++(List.range m).flatMap Pl:=congrArg Prod.snd hx;have hb:∀i,i<len->∃q:(Int×List UInt8)×U,(∃A c,q.2=y A q.1.2.length c)/\Bys W W q.2 q.1.2/\W.cell? (a.add (i*2))=E (I O q.1.1)/\W.cell? (a.add (i*2+1))=E q.2:=λi hi=>by
  obtain⟨cs',h1,h2⟩:=hel i zO;obtain⟨_,_,h3⟩:=World.cells?_some h1;obtain⟨r,A,l,c,rfl,af,_⟩:=rd_write h2 (λx wu=>hlt x (by rw[hp];exact List.mem_append_right _ (List.mem_flatMap.2 ⟨i,List.mem_range.2 zO,wu⟩)));have e0:=h3 0 zO;have e1:=h3 1 zO;have ea:∀j,(a.add (i*2)).add j=a.add (i*2+j):=λj=>by
   unfold Addr.add
   repeat' split
   all_goals simp_all
   all_goals omega
  rw[ea]at e0 e1;exact⟨((r,l),y A l.length c),⟨A,c,rfl⟩,af,e0,e1⟩
 obtain⟨Q,hQ⟩:=choose_lt (α:=(Int×List UInt8)×U) (p:=λi q=>(∃A c,q.2=y A q.1.2.length c)/\Bys W W.heap.size q.2 q.1.2/\W.cell? (a.add (i*2))=E (I O q.1.1)/\W.cell? (a.add (i*2+1))=E q.2) hb;refine⟨E a,m,((List.range len).map Q).map (·.1),zA3,(List.range len).map Q,rfl,⟨E a,m,zA3,by simpa using hl,hm,?_⟩,λq hq=>?_⟩;rw[List.length_map,List.length_map,List.length_range];refine qgp (by rw[YV];simp) zO (λx wu=>hlt x ?_) (λj u hu=>?_);rw[hp];refine List.mem_append_left _ ?_;unfold MemPlace.row at wu⊢;rw[List.mem_map]at wu⊢;obtain⟨k,hk,e⟩:=wu;exact⟨k,List.mem_range.2 (by have:=List.mem_range.1 hk;omega),e⟩;have hj:j<len*2:=by have:=(List.getElem?_eq_some_iff.1 hu).1;rw[YV]at this;simpa using this
 obtain⟨c0,c1⟩:=Yt ((List.range len).map Q) (j/2) zA2;obtain⟨_,_,q0,q1⟩:=hQ (j/2) zO;rcases(show j=j/2*2\/j=j/2*2+1 by omega)with e|e
 have hu':E u=E _:=(hu.symm.trans (congrArg (λt=>(jF ((List.range len).map Q))[t]?) e)).trans c0;cases hu';rw[show a.add j=a.add (j/2*2)from congrArg _ e,q0];simp;have hu':E u=E _:=(hu.symm.trans (congrArg (λt=>(jF ((List.range len).map Q))[t]?) e)).trans c1;cases hu';rw[show a.add j=a.add (j/2*2+1)from congrArg _ e,q1];simp;obtain⟨i,hi,rfl⟩:=List.mem_map.1 hq;obtain⟨q0,q1,_⟩:=hQ i (List.mem_range.1 hi);exact⟨q0,q1⟩
theorem rd_ints{fuel:Nat}{cs:List U}{d:DataW H}{p:List MemPlace}(h:DataW.trod enc prog W 0 (λ_=>F) F fuel 30 cs=E (d,p))(hlt:∀x∈p,x.block<W.heap.size):∃A c l,cs=[y A l.length c]/\ZS W W (y A l.length c) l/\∀a∈l,(Lit.int O a).wf=F:=by
 rcases open_ints underlying30 underlying3 Tryz.cc_int h with⟨rfl,_⟩|⟨a,len,cap,zs,rfl,_,hl,hm,hz,hx,aF,ah⟩
 exact⟨J,0,[],rfl,⟨J,0,rfl,zM _,by simp[maxLen],Rd.none_⟩,λa h=>by cases h⟩;simp only[if_true]at hz;have hp:p=MemPlace.row a zs.length:=congrArg Prod.snd hx;have hll:(zs.take len).length=len:=by rw[List.length_take];omega
 refine⟨E a,cap,zs.take len,by rw[hll],⟨E a,cap,rfl,zO,hm,?_⟩,λn hn=>ah n (List.mem_of_mem_take hn)⟩;rw[hll];refine Tt (c:=cap) hl zA2 (λx wu=>hlt x (by rw[hp,hz];exact wu)) (λi u hu=>?_);rw[List.getElem?_map,List.getElem?_take]at hu;split at hu;rename_i hi;rw[aF i zO,<-hu];simp[zL (show i<zs.length by omega)];cases hu
theorem rd_disk{fuel:Nat}{cs:List U}{d:DataW H}{p:List MemPlace}(h:DataW.trod enc prog W 0 (λ_=>F) F fuel 25 cs=E (d,p))(hlt:∀x∈p,x.block<W.heap.size):∃A1 c1 A2 c2 bs ws,cs=[y A1 (List.length bs) c1,y A2 (List.length ws) c2]/\Bls W W (y A1 bs.length c1) bs/\Wrs W W (y A2 ws.length c2) ws:=by
 obtain⟨xs,n,hl,iG,hp,hf⟩:=KZ underlying25 h;rw[Tryz.cc_disk]at hl
 match cs,hl with
 |[c0,c1],_=>
  match xs,iG with
  |[(d0,p0),(d1,p1)],_=>
   have g0:_=E (d0,p0):=hf 0 22 0 1 rfl Tryz.cc_blocks;have g1:_=E (d1,p1):=hf 1 23 1 1 rfl Tryz.cc_writes;simp only[List.drop,List.take]at g0 g1;have fG:p=p0++(p1++[]):=hp;obtain⟨A1,k1,bs,e1,h1⟩:=qmu g0 (λx hx=>hlt x (by rw[fG];simp[hx]));obtain⟨A2,k2,ws,e2,h2⟩:=qmv g1 (λx hx=>hlt x (by rw[fG];simp[hx]));simp only[List.cons.injEq,and_true]at e1 e2;subst e1 e2;exact⟨A1,k1,A2,k2,bs,ws,rfl,h1,h2⟩
theorem rd_store{fuel:Nat}{cs:List U}{d:DataW H}{p:List MemPlace}(h:DataW.trod enc prog W 0 (λ_=>F) F fuel 28 cs=E (d,p))(hlt:∀x∈p,x.block<W.heap.size):∃A1 c1 A2 c2 A3 c3 A4 c4,∃S:Sto,cs=[y A1 S.bs.length c1,y A2 S.ws.length c2,y A3 S.now.length c3,y A4 S.last.length c4]/\Qh W W (y A1 S.bs.length c1) (y A2 S.ws.length c2) (y A3 S.now.length c3) (y A4 S.last.length c4) S:=by
 obtain⟨xs,n,hl,iG,hp,hf⟩:=KZ underlying28 h;rw[Tryz.cc_store]at hl
 match cs,hl with
 |[c0,c1,c2,c3],_=>
  match xs,iG with
  |[(d0,p0),(d1,p1),(d2,p2)],_=>
   have g0:_=E (d0,p0):=hf 0 25 0 2 rfl Tryz.cc_disk;have g1:_=E (d1,p1):=hf 1 26 2 1 rfl Tryz.cc_bytes;have g2:_=E (d2,p2):=hf 2 26 3 1 rfl Tryz.cc_bytes;simp only[List.drop,List.take]at g0 g1 g2;have fG:p=p0++(p1++(p2++[])):=hp;obtain⟨A1,k1,A2,k2,bs,ws,e1,h1,h2⟩:=rd_disk g0 (λx hx=>hlt x (by rw[fG];simp[hx]));obtain⟨A3,n3,k3,e3,_,l3,h3,q3⟩:=GT underlying26 underlying5 Tryz.cc_u8 g1 (λx hx=>hlt x (by rw[fG];simp[hx]));obtain⟨A4,n4,k4,e4,_,l4,h4,q4⟩:=GT underlying26 underlying5 Tryz.cc_u8 g2 (λx hx=>hlt x (by rw[fG];simp[hx]));simp only[List.cons.injEq,and_true]at e1 e3 e4;obtain⟨rfl,rfl⟩:=e1;subst e3 e4 q3 q4;exact⟨A1,k1,A2,k2,A3,k3,A4,k4,⟨bs,ws,l3,l4⟩,rfl,h1,h2,h3,h4⟩
theorem rd_pool{fuel:Nat}{cs:List U}{d:DataW H}{p:List MemPlace}(h:DataW.trod enc prog W 0 (λ_=>F) F fuel 32 cs=E (d,p))(hlt:∀x∈p,x.block<W.heap.size):∃A1 c1 A2 c2 A3 c3 A4 c4 gen root next A5 c5,∃(S:Sto)(dead:List Int),cs=(qR (y A1 S.bs.length c1) (y A2 S.ws.length c2) (y A3 S.now.length c3) (y A4 S.last.length c4) gen root next (y A5 dead.length c5)).toList /\
   Qh W W (y A1 S.bs.length c1) (y A2 S.ws.length c2) (y A3 S.now.length c3) (y A4 S.last.length c4) S/\ZS W W (y A5 dead.length c5) dead /\
   (Lit.int Z gen).wf=F/\(Lit.int O root).wf=F/\(Lit.int Z next).wf=F/\∀a∈dead,(Lit.int O a).wf=F:=by
 obtain⟨xs,n,hl,iG,hp,hf⟩:=KZ underlying32 h;rw[Tryz.cc_pool]at hl
 match cs,hl with
 |[c0,c1,c2,c3,c4,c5,c6,c7],_=>
  match xs,iG with
  |[(d0,p0),(d1,p1),(d2,p2),(d3,p3),(d4,p4)],_=>
   have g0:_=E (d0,p0):=hf 0 28 0 4 rfl Tryz.cc_store;have g1:_=E (d1,p1):=hf 1 29 4 1 rfl Tryz.cc_u32;have g2:_=E (d2,p2):=hf 2 3 5 1 rfl Tryz.cc_int;have g3:_=E (d3,p3):=hf 3 29 6 1 rfl Tryz.cc_u32;have g4:_=E (d4,p4):=hf 4 30 7 1 rfl Tryz.cc_ints;simp only[List.drop,List.take]at g0 g1 g2 g3 g4;have fG:p=p0++(p1++(p2++(p3++(p4++[])))):=hp;obtain⟨A1,k1,A2,k2,A3,k3,A4,k4,S,e0,hS⟩:=rd_store g0 (λx hx=>hlt x (by rw[fG];simp[hx]));obtain⟨gen,e1,_,w1⟩:=DataW.trod_int underlying29 g1;obtain⟨root,e2,_,w2⟩:=DataW.trod_int underlying3 g2;obtain⟨next,e3,_,w3⟩:=DataW.trod_int underlying29 g3;obtain⟨A5,k5,dead,e4,hd,w4⟩:=rd_ints g4 (λx hx=>hlt x (by rw[fG];simp[hx]));simp only[List.cons.injEq,and_true]at e0 e1 e2 e3 e4;obtain⟨rfl,rfl,rfl,rfl⟩:=e0;subst e1 e2 e3 e4;exact⟨A1,k1,A2,k2,A3,k3,A4,k4,gen,root,next,A5,k5,S,dead,rfl,hS,hd,w1,w2,w3,w4⟩
end
end Go.Proofs.YtmeadnlmepcmbaaGreat
namespace Go.Proofs.YtmeadnlmepcmbaaGreat.reapGone
set_option linter.unusedSimpArgs false
set_option linter.unusedVariables false
open Go.ChangeShapes Go.WideShapes Go.ChangeAt Go.RowKit
theorem own:ownKnob Tryz.prog.godebug=J:=zQ
theorem laidOut:laidOutB prog=F:=zQ
set_option maxRecDepth 100000 in
theorem lifted (os:Os) (started:os.Started) (H:Type) (enc:TypeId×Value->H):ReturnsInHanded {} checked os 7 .any (Rows.reapGoneSpec.pre6 enc prog Tryz.f7 Rows.reapGoneRow.domain false) (Rows.reapGoneSpec.post enc prog Tryz.f7 false true false false):=by
 refine returnsInHanded_of_change (C:=checked) own started zQ func7
  (ChangeSpec.witness6 (enc:=enc) (C:=checked) false ⟨#[],#[.agg (qR (.slice none 0 0) (.slice none 0 0) (.slice none 0 0) (.slice none 0 0) 0 0 0 (.slice none 0 0)),.int .u32 0],[]⟩ 8 zQ zQ zQ zQ) ?_
 intro W base args ds gs before hVJ hW hcnd _;have hFP:∀ (j:Nat) t v,Tryz.f7.params[j]?=some t->args[j]?=some v->Value.okWide prog W .any base t v:=hVJ;have bZ:=hW;have hlt:∀ x∈before,x.block<W.heap.size:=fun x hx=>hW.lt x hx;obtain⟨p,q,hA0,hV,rfl,hfz,hnd⟩:=hW;have hA:DataW.TrodAll enc prog W 0 (fun _=>true) true Tryz.f7.params.toList args.toList ds p:=hA0;rw[params7] at hA hFP;obtain⟨v0,vs0,d0,ds0,p0,q0,hargs,rfl,rfl,h0,r0⟩:=trodAll_cons hA;obtain⟨v1,vs1,d1,ds1,p1,q1,rfl,rfl,rfl,h1,r1⟩:=trodAll_cons r0;obtain⟨rfl,rfl,rfl⟩:=trodAll_nil r1;obtain rfl:args=#[v0,v1]:=by cases args;simp_all
 obtain⟨rfl,rfl⟩:=trodVars_none hV;obtain⟨cs0,rfl,_⟩:=okWide_struct underlying32 (hFP 0 32 v0 rfl rfl);obtain⟨id,rfl⟩:=okWide_int underlying29 (hFP 1 29 v1 rfl rfl);obtain⟨n0,h0⟩:=h0;obtain⟨A1,c1,A2,c2,A3,c3,A4,c4,gen,root,next,A5,c5,S,dead,e0,hS,hd,_,_,_,_⟩:=rd_pool h0 (fun x hx=>hlt x (by simp[hx]));have e0':cs0=qR (.slice A1 S.bs.length c1) (.slice A2 S.ws.length c2) (.slice A3 S.now.length c3) (.slice A4 S.last.length c4) gen root next (.slice A5 dead.length c5):=by obtain⟨cs0⟩:=cs0;have:cs0=_:=e0;rw[this]
 subst e0';have walk:Calls prog 7 #[.agg (qR (.slice A1 S.bs.length c1) (.slice A2 S.ws.length c2) (.slice A3 S.now.length c3) (.slice A4 S.last.length c4) gen root next (.slice A5 dead.length c5)),.int .u32 id] W (Ret (.bool true) W):=qmz A1 _ c1 A2 _ c2 A3 _ c3 A4 _ c4 gen root next A5 c5 S dead id W hS hd
 refine walk.mono fun e W' ⟨he,hB⟩=>?_;subst he;exact⟨_,rfl,law_post rfl laidOut rfl underlying4 (by
  intro t ht;have:t=32\/t=29:=by rw[params7] at ht;simpa using ht
  rcases this with rfl|rfl
  ·exact⟨zQ,of_decide_eq_true zQ⟩
  ·exact⟨zQ,of_decide_eq_true zQ⟩) bZ rfl hB⟩
theorem over:Rows.reapGoneRow.holds Tryz.pinned (OpenSpec.ofChange Rows.reapGoneSpec):=
 OpenClaim.holds_of_wide 7 Tryz.f7 rfl rfl rfl rfl rfl rfl rfl ⟨rfl,rfl,rfl,rfl,rfl⟩ rfl rfl rfl rfl rfl zQ func7 zQ
  (of_decide_eq_true zQ) (by unfold Func.isWrapper;first|(rw[if_pos (by decide +kernel)];kernel_rfl)|(rw[if_neg (by decide +kernel)];exact⟨rfl,rfl⟩))
  (λos started H enc _=>lifted os started H enc)
theorem proved:Rows.ReapGoneSaid:=over
end Go.Proofs.YtmeadnlmepcmbaaGreat.reapGone
