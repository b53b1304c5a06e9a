/- Lemmas of the proof. -/
import Derived.Test.YtmeadnlmepcmbaaGreatZJ08
set_option linter.all false
set_option maxHeartbeats 8000000
open Go.Proofs.Tryz
namespace Go.Proofs.YtmeadnlmepcmbaaGreat
open Go.RowKit
def Ze (b:List UInt8):List UInt8:=qB (crc (Ks 124 b)) 4++Ks 124 b
theorem vH {b:List UInt8} (h:b.length<=124):(Ze b).length=128:=by unfold Ze;rw[List.length_append,QB,KO h]
set_option maxRecDepth 100000 in
theorem seal_any (A c) (b:List UInt8) (hl:b.length<=124) (w:World) (h:Bys w w.heap.size (.slice A b.length c) b):Calls prog 204 #[.slice A b.length c] w (Zg (IsB0 w.heap.size 128 (Ze b)) w):=by
 have hmk:∀ w,(Instr.makeSlice 26 (.int .i64 124) (.int .i64 124)).run prog w=.ok (.slice (some ⟨w.heap.size,0,none⟩) 124 124) (w.alloc (.cells ((List.replicate 124 (0:UInt8)).map bv).toArray 5)):=fun _=>zQ;have hsz:(Tryz.prog.info? 5).map (·.size)=some 1:=zQ;have hcr:crc (Ks 124 b)<4294967296:=qhF _;have hd:decide ((b.length:Int)>124)=false:=decide_eq_false zO;replace h:=zH h;go_enter func204,ntmps204;go_wp2_with fail;generalize aA:World.alloc w _=w1;have x1:Ext w w1:=by rw[<-aA];exact zN _ _
 have r1:w1.heap[w.heap.size]?=some (.cells ((List.replicate 124 (0:UInt8)).map bv).toArray 5 (0,0)):=by rw[<-aA];exact zI _ _ _ rfl
 clear aA hmk;have di:=UV (P:=prog) w1 26 26 3 5 w.heap.size 0 124 124 A c b _ _ underlying26 hsz r1 (h.out.below x1) hl zA1;rw[di];clear di;have r2:=setRow_heap w1 w.heap.size _ (List.take 0 (List.map bv (List.replicate 124 0)).toArray.toList++List.map bv b++List.drop (0+b.length) (List.map bv (List.replicate 124 0)).toArray.toList).toArray _ _ r1;have x2:Below w.heap.size w (w1.setRow w.heap.size (List.take 0 (List.map bv (List.replicate 124 0)).toArray.toList++List.map bv b++List.drop (0+b.length) (List.map bv (List.replicate 124 0)).toArray.toList).toArray):=
  Below.grown x1 (UZ _ _ _) x1.size (fun g e=>by cases e;exact zM _)
 generalize bP:w1.setRow w.heap.size (List.take 0 (List.map bv (List.replicate 124 0)).toArray.toList++List.map bv b++List.drop (0+b.length) (List.map bv (List.replicate 124 0)).toArray.toList).toArray=w2 at *;rw[pad_row] at r2;have hp:∀ W,Ext w2 W->Bys W W.heap.size (.slice (some ⟨w.heap.size,0,none⟩) 124 124) (Ks 124 b):=fun W hW=>by
  refine⟨_,124,by rw[KO hl],Nat.le_of_eq (KO hl),zA6,by rw[KO hl];simp[KO hl],fun _=>⟨w.heap.size,0,rfl,?_,fun j u hu=>?_⟩⟩
  ·have:=(zG.1 (qb r2 hW)).1;omega
  ·rw[Nat.zero_add,qa (qb r2 hW)];simpa using hu
 clear bP r1 x1;have HO:=zH (fun W (hW:Ext w2 W)=>qdY _ (Ks 124 b) W (hp W hW) (by rw[KO hl];omega));replace hp:=zH hp;replace r2:=zH r2;go_wp2_with fail;refine(HO.out _ (Ext.refl _)).mono ?_;rintro e w3 ⟨rfl,tq⟩;have x3:Ext w2 w3:=tq;clear tq;have HF:=zH (Xd (crc (Ks 124 b)) hcr w3);go_wp2_with fail;refine HF.out.mono ?_;rintro e w4 ⟨u4,rfl,⟨A4,c4,rfl,hu4,hf4⟩,bT⟩;have x4:Ext w2 w4:=x3.trans bT;clear HF bT;go_wp2_with fail;generalize aT:World.alloc w4 _=w5;have x45:Ext w4 w5:=by rw[<-aT];exact zN _ _
 have r5:w5.heap[w4.heap.size]?=some (.cells #[.slice A4 4 c4,.slice (some ⟨w.heap.size,0,none⟩) 124 124] 26 (0,0)):=by rw[<-aT];exact zI _ _ _ rfl
 clear aT;have x5:=x4.trans x45;have hfl:[qB (crc (Ks 124 b)) 4,Ks 124 b].flatten=Ze b:=by simp[Ze]
 have HC:=kZ (some ⟨w4.heap.size,0,none⟩) 2 2 [.slice A4 4 c4,.slice (some ⟨w.heap.size,0,none⟩) 124 124] [qB (crc (Ks 124 b)) 4,Ks 124 b] rfl rfl w5 ⟨rfl,fun _=>⟨w4.heap.size,0,rfl,(zG.1 r5).1,fun j u hu=>by rw[Nat.zero_add,qa r5];simpa using hu⟩⟩
  (fun i v l hv uZ=>by
   rcases i with _|_|i
   ·cases hv;cases uZ;exact(hu4.below x45).more x45.size
   ·cases hv;cases uZ;exact hp.out w5 x5
   ·simp at hv) zO (by rw[hfl,vH hl];omega)
 rw[hfl,vH hl] at HC;replace HC:=zH HC;replace hu4:=zH hu4;go_wp2_with fail;refine HC.out.mono ?_;rintro e w6 ⟨u6,rfl,aB,bz⟩;have x6:Below w.heap.size w w6:=x2.trans (Below.mono (Ext.trans x5 bz) x2.size);have HI:=zH ((IsB.of_own aB));go_wp2_with fail;refine bodyPost_ret (v:=.tuple #[u6,.int .i64 0]) (by simp[results,results204,go_sem]) rfl ⟨_,rfl,⟨u6,rfl,?_⟩,x6⟩;obtain⟨A',c',h1,h2,h3⟩:=HI.out;exact⟨A',c',h1,h2,h3.mono (by have:=x2.size;have:=x5.size;omega)⟩
def vK (lvl:Int) (n:Nat) (xs:List It) (k:Nat):List UInt8:=78 :: UInt8.ofNat lvl.toNat :: UInt8.ofNat n :: QW (xs.take k)
theorem qhd (lvl:Int) (n:Nat) {xs:List It} {k:Nat} (hk:k<xs.length):vK lvl n xs (k+1)=vK lvl n xs k++Zw xs[k]:=by unfold vK QW;rw[List.take_succ_eq_append_getElem hk,List.flatMap_append];simp only[List.flatMap_cons,List.flatMap_nil,List.append_nil,List.cons_append]
theorem YF (lvl:Int) (xs:List It):vK lvl xs.length xs xs.length=Qu lvl xs:=by unfold vK Qu;rw[List.take_length]
theorem YG (lvl:Int) (n:Nat) {xs:List It} (k:Nat) (h:∀ x∈xs,zu x) (hl:xs.length<=5):(vK lvl n xs k).length<=123:=by
 have h1:=Yo (xs.take k) (fun x hx=>h x (List.mem_of_mem_take hx));have h2:(xs.take k).length<=xs.length:=by rw[List.length_take];omega
 unfold vK;simp only[List.length_cons];omega
theorem jF {lvl:Int} {xs:List It} (h:Qf lvl xs=true):0<=lvl/\lvl<6/\xs.length<=5/\∀ x∈xs,itB x.r x.val.length=true:=by unfold Qf at h;rw[Bool.and_eq_true] at h;have h1:0<=lvl/\lvl<6/\xs.length<=5/\(0<lvl->xs.length≠0):=of_decide_eq_true h.1;refine⟨h1.1,h1.2.1,h1.2.2.1,fun x hx=>?_⟩;obtain⟨i,hi,rfl⟩:=List.getElem_of_mem hx;have h2:=List.all_eq_true.1 h.2 i (List.mem_range.2 hi);unfold qag at h2;rw[zL hi] at h2;simp only[Bool.and_eq_true] at h2;exact h2.1.1
theorem qbU {R:Ending->World->Prop} {a:Act} {W:World} {u v:Value} (h2:a.tmps[2]?.getD undef=u) (h3:a.tmps[3]?.getD undef=v) (hd:a.defers=[]) (hR:R (.returned (.tuple #[u,v])) W):bodyPost prog Tryz.f195 R .ret a W:=by refine bodyPost_ret (v:=.tuple #[u,v]) ?_ hd hR;simp[results,results195,go_sem,h2,h3]
structure NWr (lvl:Int) (xs:List It) (w2:World) (v i:Value) (wr:World):Prop where
 ex:∃ k:Nat,k<=xs.length/\i=.int .i64 (k:Int)/\wr.ownsRow w2.heap.size 5 1 v (vK lvl xs.length xs k).length ((vK lvl xs.length xs k).map bv)/\Ext w2 wr
theorem qiu (lvl:Int) (A n c) (xs:List It) (w:World) (hx:Its w w.heap.size (.slice A n c) xs) (hm:Qf lvl xs=false):Calls prog 195 #[jP lvl A n c] w (Ret (.tuple #[.slice none 0 0,.int .i64 8]) w):=by
 have HC:=zH (fun W (hW:Ext w W)=>VY lvl A n c xs W (hx.ext hW));rw[hm,show JQ false=8 from rfl] at HC;clear hx;go_enter func195,ntmps195;go_wp2_with fail;generalize aA:World.alloc w _=w1;have x1:Ext w w1:=by rw[<-aA];exact zN _ _
 clear aA;refine(HC.out w1 x1).mono ?_;rintro e w2 ⟨rfl,hB⟩;have x2:Below w.heap.size w w2:=Ext.trans x1 hB;clear hB;go_wp2;exact qbU rfl rfl rfl ⟨rfl,x2⟩
set_option maxRecDepth 100000 in
theorem qbT (lvl:Int) (A n c) (xs:List It) (w:World) (hx:Its w w.heap.size (.slice A n c) xs) (hm:Qf lvl xs=true) (ho:∀ x∈xs,zu x):Calls prog 195 #[jP lvl A n c] w (Zg (IsB0 w.heap.size 128 (Ze (Qu lvl xs))) w):=by
 have HC:=zH (fun W (hW:Ext w W)=>VY lvl A n c xs W (hx.ext hW));rw[hm,show JQ true=0 from rfl] at HC;obtain⟨oD,xO,hl5,hib⟩:=jF hm;obtain⟨hn,fJ,fF,hA⟩:=hx.at_;subst hn;obtain⟨L,rfl⟩:=Int.eq_ofNat_of_zero_le oD;have hcv:IntKind.u8.wrap ((xs.length:Nat):Int)=((xs.length:Nat):Int):=by simp[IntKind.wrap,IntKind.bits,IntKind.signed];omega
 have ah:IntKind.u8.wrap (L:Int)=(L:Int):=by simp[IntKind.wrap,IntKind.bits,IntKind.signed];omega
 have dM:(vK (L:Int) xs.length xs 0).map bv=[.int .u8 78,.int .u8 (L:Int),.int .u8 (xs.length:Nat)]:=by simp[vK,QW,bv];omega
 have hX:=zH hx;have hO:=zH ho;have hI:=zH hib;clear hx ho hib hm;go_enter func195,ntmps195;go_wp2_with fail;generalize aA:World.alloc w _=w1;have x1:Ext w w1:=by rw[<-aA];exact zN _ _
 have r1:w1.heap[w.heap.size]?=some (.cells #[.int .i64 L,.slice A xs.length c] 113 (0,0)):=by rw[<-aA];exact zI _ _ _ rfl
 clear aA;refine(HC.out w1 x1).mono ?_;rintro e w2 ⟨rfl,hB⟩;have x2:Below w.heap.size w w2:=Ext.trans x1 hB;have r2:=qb r1 hB;have k2:=qa r2;clear hB r1 x1 HC;go_upto_region 5 with fail;generalize aO:World.alloc w2 _=w3;have x3:Ext w2 w3:=by rw[<-aO];exact zN _ _
 have o3:w3.ownsRow w2.heap.size 5 1 (.slice (some ⟨w2.heap.size,0,none⟩) 3 3) (vK (L:Int) xs.length xs 0).length ((vK (L:Int) xs.length xs 0).map bv):=by rw[dM,<-aO];exact World.ownsRow_lit (base:=w2.heap.size) (e:=5) (size:=1) w2 #[.int .u8 78,.int .u8 (L:Int),.int .u8 (xs.length:Nat)] 3 (zM _) zA6 rfl
 have r3:=qb r2 x3;have k3:=qa r3;clear aO k2 dM;have I0:NWr (L:Int) xs w2 (.slice (some ⟨w2.heap.size,0,none⟩) 3 3) (.int .i64 0) w3:=⟨0,Nat.zero_le _,rfl,o3,x3⟩
 replace I0:=zH I0;clear o3;go_wp2_with fail;clear k3 r3;go_loopw [5,26] (fun v i wr=>NWr (L:Int) xs w2 v i wr) (fun _ i _=>xs.length-(intOf i).toNat)
 case atStart=>exact I0.out
 case round =>
  obtain⟨k,hk,rfl,own,xr⟩:=hrel.ex;clear hrel I0;by_cases hlt:k<xs.length
  ·have aI:=hlt;obtain⟨b,off,rfl,hb⟩:=hA zO;have xw:Ext w wr:=Ext.trans x2 xr;obtain⟨A',c',d0,d1,d2,d3,d4,aS⟩:=(hX.out.ext xw).item k aI;have hok:=hO.out xs[k] (List.getElem_mem aI);have hib:=hI.out xs[k] (List.getElem_mem aI);have lX:=zH (qhd (L:Int) xs.length aI);have mi:=YG (L:Int) xs.length k hO.out hl5;have bC:xs[k].val.length<=12:=hok.2.2.2.2;have HW:=zH (fun W (hW:Ext wr W)=>qie xs[k] hok hib A' c' W ((aS.below hW).more hW.size));generalize xs[k]=x at *;replace own:=zH own;replace mi:=zH mi;clear aS hok hib;go_wp2_with fail;generalize hw4:World.alloc wr _=w4;have x4:Ext wr w4:=by rw[<-hw4];exact zN _ _
   clear hw4 d0 d1 d2 d3 d4;refine(HW.out w4 x4).mono ?_;rintro e w5 ⟨u,rfl,⟨u5,rfl,A5,c5,rfl,hb5,hf5⟩,hB⟩;have x5:Ext wr w5:=x4.trans hB;have own5:=zm own.out x5;clear hB x4 own;obtain⟨i0,hi,ag,aV,aW⟩:=info_parts Tryz.info_u8;obtain⟨A6,c6,e6,hc6,oG,hr6⟩:=hb5;simp only[Value.slice.injEq] at e6;obtain⟨rfl,e7,rfl⟩:=e6;go_wp2_with (at_builtin;refine Qh ?_);refine QF.go (Qz _ rfl (.tmp 35) (.tmp 36) 26 rfl w2.heap.size 5 i0 (.int .u8 0) 1 1 underlying26 hi ag aV aW rfl zD _ _ _ rfl own5 w5.heap.size A5 _ c5 ((Zw x).map bv) rfl hr6 (Uf _) (by have:=mi.out;omega) zD (Nat.le_trans xr.size x5.size) ?_);intro v8 w8 own8 _ yT _;have IR:NWr (L:Int) xs w2 v8 (.int .i64 ((k:Int)+1)) w8:=⟨k+1,aI,rfl,by rw[lX.out,List.map_append,List.length_append];exact own8,Below.trans (Ext.trans xr x5) yT⟩
   replace IR:=zH IR;clear own8 yT hi ag aV aW own5;go_wp2_with fail;refine⟨IR.out,?_⟩;simp[intOf];omega
  ·obtain rfl:k=xs.length:=zO;rw[YF] at own;have mQ:(Qu (L:Int) xs).length<=124:=by have:=YG (L:Int) xs.length xs.length hO.out hl5;rw[YF] at this;omega
   obtain⟨A6,c6,e6,hc6,oG,hr6⟩:=Bys.of_own own;have aS:=Bys.of_own own;subst e6;have HS:=zH (seal_any A6 c6 (Qu (L:Int) xs) mQ wr aS);have xw:Below w.heap.size w wr:=Ext.trans x2 xr;clear aS hr6 own;replace xr:=zH xr;go_wp2_with fail;refine HS.out.mono ?_;rintro e w7 ⟨u,rfl,⟨u7,rfl,hI7⟩,hB⟩;have x7:Below w.heap.size w w7:=xw.trans (Below.mono hB xw.size);have hI8:IsB0 w.heap.size 128 (Ze (Qu (L:Int) xs)) (.tuple #[u7,.int .i64 0]) w7:=by obtain⟨A',c',q1,q2,q3⟩:=hI7;exact⟨u7,rfl,A',c',q1,q2,q3.mono xw.size⟩
   clear hB hI7;replace hI8:=zH hI8;go_wp2_with fail;exact qbU rfl rfl rfl ⟨_,rfl,hI8.out,x7⟩
set_option maxRecDepth 100000 in
theorem qhA (b lo:Nat) (A1:OA) (n1 c1:Nat) (g c3:Nat) (A4:OA) (c4:Nat) (bs:List (List UInt8)) (now last:List UInt8) (hn:now.length=256) (hl:last.length=256) (hn8:now[8]?=some 0) (hl8:last[8]?=some 0) (w:World) (aQ:lo<=b) (hr:w.heap[b]?=some (.cells #[.slice A1 n1 c1,.slice none 0 0,.slice (some ⟨g,0,none⟩) 256 c3,.slice A4 256 c4] 223 (0,0))) (ho:w.ownsRow lo 5 1 (.slice (some ⟨g,0,none⟩) 256 c3) 256 (now.map bv)) (hb:Bls w lo (.slice A1 n1 c1) bs) (ha:Bys w lo (.slice A4 256 c4) last):Calls prog 165 #[.pointer (some ⟨b,0,none⟩),jP 0 none 0 0] w (fun e W=>e=.returned (.tuple #[.int .i64 8,.int .i64 0])/\Below lo w W/\∃ A2 c2,W.heap[b]?=some (.cells #[.slice A1 n1 c1,.slice A2 1 c2,.slice (some ⟨g,0,none⟩) 256 c3,.slice A4 256 c4] 223 (0,0)) /\
   qV W W.heap.size (.slice A1 n1 c1) (.slice A2 1 c2) (.slice (some ⟨g,0,none⟩) 256 c3) (.slice A4 256 c4) ⟨bs,[(8,Ze (Qu 0 []))],now.set 8 1,last⟩):=by
 have nU:=(ZB ho).1 8 zO;rw[hn8] at nU;replace nU:w.cell? ⟨g,8,none⟩=some (.int .u8 0):=nU;obtain⟨_,sF,xP,hzg⟩:=ZB ho;obtain⟨A,c,e,hac,_,har⟩:=ha;rw[hl] at e hac har;simp only[Value.slice.injEq,true_and] at e;obtain⟨rfl,rfl⟩:=e;obtain⟨b4,o4,rfl,oP,yD⟩:=har.2 zO;have sJ:w.cell? ⟨b4,o4+8,none⟩=some (.int .u8 0):=yD 8 (bv 0) (by rw[List.getElem?_map,hl8];rfl);have zb:b<w.heap.size:=(zG.1 hr).1;have hW:=zH (fun W=>qbT 0 none 0 0 [] W (Its.nil W W.heap.size) zD (fun x hx=>by cases hx));go_enter func165,ntmps165;go_wp2_with fail;generalize aA:World.alloc _ _=w1;have x1:Ext w w1:=by rw[<-aA];exact zN _ _
 have p1:w1.heap[w.heap.size]?=some (.cells #[.int .i64 0,.slice none 0 0] 113 (0,0)):=by rw[<-aA];exact zI _ _ _ rfl
 clear aA;refine(hW.out w1).mono ?_;rintro e w2 ⟨u,rfl,⟨u,rfl,⟨A0,c0,rfl,hu,hf⟩⟩,hB⟩;have hB:Ext w1 w2:=hB;have x2:Ext w w2:=x1.trans hB;have p2:=qb p1 hB;have r2:=qb hr x2;have o2:=zm ho x2;have kp:=qa p2;have kr:=qa r2;have fr:=qe r2;have kn:w2.cell? ⟨g,8,none⟩=some (.int .u8 0):=Ext.cell x2 nU;have z2:=x2.size;have z1:w.heap.size<w1.heap.size:=(zG.1 p1).1;have kl:w2.cell? ⟨b4,o4+8,none⟩=some (.int .u8 0):=Ext.cell x2 sJ;clear hB x1 p1 nU sJ yD hW;go_wp2_with fail;go_loopw [21] (fun i wr=>i=.int .i64 0/\wr=w2) (fun _ _=>0)
 case atStart=>exact⟨rfl,rfl⟩
 case round =>
  obtain⟨rfl,hw⟩:=hrel;replace hw:=hw.symm;subst hw;go_wp2_with fail;go_loopw [4] (fun i W=>i=.int .i64 8/\Ext w2 W) (fun _ _=>0)
  case atStart=>exact⟨rfl,Ext.refl _⟩
  case round =>
   obtain⟨rfl,hE⟩:=hrel;have g1:∀ W,qj.r wr W->∀ i,W.cell? ⟨b,i,none⟩=#[.slice A1 n1 c1,.slice none 0 0,.slice (some ⟨g,0,none⟩) 256 c3,.slice (some ⟨b4,o4,none⟩) 256 c4][i]?:=fun W h=>qa (qb (qb r2 hE) h);have g2:∀ W,qj.r wr W->W.cell? ⟨g,8,none⟩=some (.int .u8 0):=fun W h=>Ext.cell (hE.trans h) kn;have g3:∀ W,qj.r wr W->W.cell? ⟨b4,o4+8,none⟩=some (.int .u8 0):=fun W h=>Ext.cell (hE.trans h) kl;clear kp kr fr kn kl;go_wp2_with fail;refine qp zQ ?_;refine qQ (w:=wr) qj (qH []) [true,true,true,true,true,true,true,true,true,true,true,true,true,true,true,true,true,true,true,true,true,true] 0 zQ zQ zQ zQ zQ zQ zQ ?st (Rel.drew _ _) ?walk
   case st=>exact qk (fun _ h=>by cases h)
   case walk =>
    intro K hK;dsimp only[qu];refine zC1 ?_;refine qv (hK _ _ fun W hW hF=>?_);have hW:Ext wr W:=hW;have x3:Ext w2 W:=hE.trans hW;clear hF hK g1 g2 g3 hE hW;refine zB5 ?_;have r3:=qb r2 x3;have o3:=zm o2 x3;have kr:=qa r3;have fr:=qe r3;obtain⟨i0,hi,ag,aV,aW⟩:=info_parts Tryz.info_write;have z3:=x3.size;have hu3:=(hu.below x3).more x3.size;have xw3:Ext w W:=x2.trans x3;have x2z:=x2.size;clear r2 o2 x2 x3 hu p2;replace o3:=zH o3;replace hu3:=zH hu3;go_wp2;refine Qr ?_;go_wp2_with (at_builtin;refine Qh ?_);refine QF.go (js _ rfl (.tmp 78) (.tmp 82) 23 rfl W.heap.size 142 i0 (.agg #[.int .i64 0,.slice none 0 0]) 2 32 underlying23 hi ag aV aW rfl zD _ 0 [] rfl (World.ownsRow_nil _ _ _ _) #[.int .i64 8,.slice A0 128 c0] rfl rfl zA7 zO zD (zM _) ?_);intro v4 w4 own4 _ bT _;have bT:Ext W w4:=bT;simp only[Nat.zero_add,List.nil_append] at own4;obtain⟨A2,c2,rfl,hc21,hc22⟩:=qE own4;have r4:=qb r3 bT;have kr4:=qa r4;have fr4:=qe r4;have o4':=zm o3.out bT;have z5:=bT.size;have kg:=(ZB o4').1 8 zO;have fg:=(ZB o4').2.1 8;have hlt:=QP own4;have hbg:g≠b:=by
     intro e;subst e;obtain⟨_,h2⟩:=o4';rcases h2 with ⟨e,_⟩|⟨g',cap,cur,e,_,mZ,_⟩
     ·cases e
     ·cases e;exact qU mZ r4 zD rfl
    have z6:b<w2.heap.size:=by have:=x2z;omega
    replace own4:=zH own4;replace o4':=zH o4';have yE:=hf.mono (lo':=w.heap.size) zO;clear r3 kr fr hc21 hc22;go_wp2_with fail;have st:∀ q,q≠b->q≠g->((w4.setCell ⟨b,1,none⟩ (.slice A2 1 c2)).setCell ⟨g,8,none⟩ (.int .u8 1)).heap[q]?=w4.heap[q]?:=fun q h1 h2=>(zJ _ _ _ _ h2).trans (zJ _ _ _ _ h1);have xw4:Ext w w4:=xw3.trans bT;have hB:Below lo w ((w4.setCell ⟨b,1,none⟩ (.slice A2 1 c2)).setCell ⟨g,8,none⟩ (.int .u8 1)):=Below.setCell (Below.setCell (Below.mono xw4 zO) (p:=⟨b,1,none⟩) aQ _) (p:=⟨g,8,none⟩) xP _;have rf:=qi r4 1 (.slice A2 1 c2);have rf2:=(zJ (w4.setCell ⟨b,1,none⟩ (.slice A2 1 c2)) ⟨g,8,none⟩ (.int .u8 1) b (fun e=>hbg e.symm)).trans rf;have of4:=qbf (qgE (k:=1) (v:=.slice A2 1 c2) o4'.out hbg) (k:=8) zO 1;have hz:((w4.setCell ⟨b,1,none⟩ (.slice A2 1 c2)).setCell ⟨g,8,none⟩ (.int .u8 1)).heap.size=w4.heap.size:=zA2;have ow:=ZH (w':=(w4.setCell ⟨b,1,none⟩ (.slice A2 1 c2)).setCell ⟨g,8,none⟩ (.int .u8 1)) own4.out (fun q h1 _=>st q zO zO);have hu4:Bys ((w4.setCell ⟨b,1,none⟩ (.slice A2 1 c2)).setCell ⟨g,8,none⟩ (.int .u8 1)) w4.heap.size (.slice A0 128 c0) (Ze (Qu 0 [])):=(((hu3.out.below bT).more bT.size).setCell yE (p:=⟨b,1,none⟩) zb _).setCell yE (p:=⟨g,8,none⟩) hzg _;have hsl:(Ze (Qu 0 [])).length=128:=vH zD;refine bodyPost_ret (v:=.tuple #[.int .i64 8,.int .i64 0]) (by simp[results,results165,go_sem]) rfl ⟨rfl,hB,A2,c2,rf2,⟨?_,?_,?_,?_⟩⟩
    ·exact(hb.below hB).more zO
    ·rw[hz];refine⟨[((8,Ze (Qu 0 [])),.slice A0 128 c0)],rfl,?_,?_⟩
     ·obtain⟨A',c',e,q1,q2⟩:=qE ow;cases e;exact⟨A2,c2,rfl,q1,q2,by have:=Rd.of_own ow;rw[hz] at this;exact this⟩
     ·intro p hp;simp only[List.mem_singleton] at hp;subst hp;exact⟨⟨A0,c0,by rw[hsl]⟩,hu4⟩
    ·exact Bys.of_own of4
    ·have e1:Bys w lo (.slice (some ⟨b4,o4,none⟩) 256 c4) last:=⟨_,c4,by rw[hl],zO,by assumption,by rw[hl];exact har⟩
     exact(e1.below hB).more zO
def jk (n:Nat):List UInt8:=List.replicate n 0
theorem ZC (n:Nat):(jk n).length=n:=by simp[jk]
theorem qiY (n:Nat):madeCells #[.int .u8 0] n=((jk n).map bv).toArray:=by
 apply Array.ext_getElem?;intro i;unfold madeCells jk;rw[Array.getElem?_map,Array.getElem?_range,List.getElem?_toArray,List.getElem?_map,List.getElem?_replicate];by_cases h:i<n
 ·rw[if_pos h,if_pos h];simp[Nat.mod_one,bv]
 ·rw[if_neg h,if_neg h];rfl
theorem qjL {n:Nat} (hn:n<1000000) (w:World):(Instr.makeSlice 26 (.int .i64 (n:Int)) (.int .i64 (n:Int))).run prog w=.ok (.slice (some ⟨w.heap.size,0,none⟩) n n) (w.alloc (.cells ((jk n).map bv).toArray 5)):=by obtain⟨i0,hi,ag,aV,aW⟩:=info_parts Tryz.info_u8;have h:=run_make (P:=prog) w 26 5 i0 _ underlying26 hi ag .i64 .i64 (n:Int) (n:Int) zO zO (by rw[aW];omega) zO;rw[aV,Int.toNat_natCast,Nat.mul_one] at h;rw[<-qiY];exact h
theorem qfN (w:World):Calls prog 186 #[] w (Zg (fun u W=>u=.slice (some ⟨w.heap.size,0,none⟩) 256 256/\W.heap[w.heap.size]?=some (.cells ((jk 256).map bv).toArray 5 (0,0))) w):=by have hmk:∀ w,(Instr.makeSlice 26 (.int .i64 256) (.int .i64 256)).run prog w=.ok (.slice (some ⟨w.heap.size,0,none⟩) 256 256) (w.alloc (.cells ((jk 256).map bv).toArray 5)):=fun w=>qjL (n:=256) zO w;go_enter func186,ntmps186;go_wp2;go_ret;exact⟨_,rfl,⟨rfl,zI _ _ _ rfl⟩,zN _ _⟩
structure NewI (w2:World) (BB:Nat) (i:Value) (wr:World):Prop where
 ex:∃ (k:Nat) (cs:Array Value),k<=256/\i=.int .i64 (k:Int)/\Below BB w2 wr/\BB<wr.heap.size/\wr.heap[BB]?=some (.cells cs 26 (0,0))/\cs.size=256 /\
  wr.heap[BB+1]?=some (.cells #[.slice (some ⟨BB,0,none⟩) 256 256,.slice none 0 0] 25 (0,0))/\∀ i,i<k->∃ b,cs[i]?=some (.slice (some ⟨b,0,none⟩) 128 128)/\BB<b/\wr.heap[b]?=some (.cells ((jk 128).map bv).toArray 5 (0,0))
def vp:List (List UInt8):=List.replicate 256 (jk 128)
set_option maxRecDepth 100000 in
theorem dnew_any (w:World):Calls prog 185 #[] w (Zg (fun u W=>∃ BB,u=Xb (some ⟨BB,0,none⟩) 256 256 none 0 0/\∀ W2:World,(∀ q:Addr,w.heap.size<=q.block->q.block<W.heap.size->W2.cell? q=W.cell? q)->Bls W2 W.heap.size (.slice (some ⟨BB,0,none⟩) 256 256) vp) w):=by
 have hmk:∀ w,(Instr.makeSlice 26 (.int .i64 128) (.int .i64 128)).run prog w=.ok (.slice (some ⟨w.heap.size,0,none⟩) 128 128) (w.alloc (.cells ((jk 128).map bv).toArray 5)):=fun w=>qjL (n:=128) zO w;have hmk2:∀ w,(Instr.makeSlice 22 (.int .i64 256) (.int .i64 256)).run prog w=.ok (.slice (some ⟨w.heap.size,0,none⟩) 256 256) (w.alloc (.cells (madeCells #[.slice none 0 0] 256) 26)):=fun w=>UW (n:=256) zO w;go_enter func185,ntmps185;go_wp2_with fail;generalize bP:(World.alloc (World.alloc (World.alloc _ _) _) _)=w2;have x2:Ext w w2:=by rw[<-bP];exact((zN _ _).trans (zN _ _)).trans (zN _ _)
 have q2:w2.heap[w.heap.size]?=some (.cells #[.slice none 0 0,.slice none 0 0] 25 (0,0)):=by rw[<-bP];exact(zK _ _ _ zA1).trans ((zK _ _ _ zA2).trans (zI _ _ _ rfl))
 have b2:w2.heap[w.heap.size+1]?=some (.cells (madeCells #[.slice none 0 0] 256) 26 (0,0)):=by rw[<-bP];exact(zK _ _ _ zA2).trans (zI _ _ _ zA2)
 have d2:w2.heap[w.heap.size+1+1]?=some (.cells #[.slice (some ⟨w.heap.size+1,0,none⟩) 256 256,.slice none 0 0] 25 (0,0)):=by rw[<-bP];exact zI _ _ _ zA2
 have I0:NewI w2 (w.heap.size+1) (.int .i64 0) w2:=⟨0,_,zO,rfl,Below.refl _ _,(zG.1 b2).1,b2,size_madeCells _ _,d2,fun i hi=>zO⟩
 have kd:=qa d2;replace I0:=zH I0;clear bP hmk2 b2 d2;go_wp2_with fail;go_loopw [8] (fun i wr=>NewI w2 (w.heap.size+1) i wr) (fun i _=>256-(intOf i).toNat)
 case atStart=>exact I0.out
 case round =>
  obtain⟨k,cs,hk,rfl,hE,hz,aF,hsz,hd,dA⟩:=hrel.ex;clear hrel I0 kd;have xw:Below w.heap.size w wr:=Below.trans x2 (Below.mono hE zO);by_cases hlt:k<256
  ·have aI:=hlt;have g1:∀ W,qj.r wr W->∀ i,W.cell? ⟨w.heap.size+1+1,i,none⟩=#[.slice (some ⟨w.heap.size+1,0,none⟩) 256 256,.slice none 0 0][i]?:=fun W h=>qa (qb hd h);have uJ:=zH (IntWalk.wrap64_in ((k:Int)+1) zO);have hEh:=zH hE;have hcsh:=zH dA;have hON:=zH aF;have hdh:=zH hd;clear hE dA aF hd;go_wp2_with fail;refine qp zQ ?_;refine qQ (w:=wr) qj (qH [(3,qaz wr.heap.size 128 128 5 ((jk 128).map bv).toArray)]) [true,true,true,true,true] 1 zQ zQ zQ zQ zQ zQ zQ ?st (Rel.drew _ _) ?walk
   case st=>exact qk (by simp only[List.forall_mem_cons];exact⟨Yx _ _ _ _ _,fun _ h=>by cases h⟩)
   case walk =>
    intro K hK;dsimp only[qu];refine zC1 ?_;refine qy (qaz wr.heap.size 128 128 5 ((jk 128).map bv).toArray) zA0 zA0 (fun W hW _=>?_) (fun (b:Nat)=>?_)
    ·have hW:Ext wr W:=hW;refine jE (u:=.slice (some ⟨W.heap.size,0,none⟩) 128 128) (w':=W.alloc (.cells ((jk 128).map bv).toArray 5)) ?_ ⟨W.heap.size,rfl,⟨zI _ _ _ rfl,hW.size⟩,zN _ _⟩;go_simp
    refine zC1 ?_
    first
     |(refine qd (.pointer (some ⟨w.heap.size+1,0+k,none⟩)) zA0 zA0 (fun W hW _=>⟨W,?_,Rel.refl _ W⟩) ?_
       ·go_simp;rw[IntWalk.i64_in (k:Int) zO,if_pos zO];simp
       simp only[Act.put,qm,qf,qc,qg,zX,zA,zB,zC])
     |skip
    refine zC1 ?_;refine qv (hK _ _ fun W hW hF=>?_);have hb:W.heap[b]?=some (.cells ((jk 128).map bv).toArray 5 (0,0))/\wr.heap.size<=b:=(hF 3).1;have hW:Ext wr W:=hW;clear hF hK g1 hmk;refine zB5 ?_;have rB:=qb hON.out hW;have kB:=qa rB k;have fB:=qe rB k;rw[Array.getElem?_eq_getElem zO] at kB;have IR:NewI w2 (w.heap.size+1) (.int .i64 ((k:Int)+1)) (W.setCell ⟨w.heap.size+1,k,none⟩ (.slice (some ⟨b,0,none⟩) 128 128)):=⟨k+1,_,zO,rfl,Below.setCell (Below.trans hEh.out (Below.mono hW zO)) (p:=⟨w.heap.size+1,k,none⟩) (zM _) _,by have:=hW.size;simp;omega,qi rB k _,by simpa using hsz,
     (zJ _ _ _ _ (by show _≠w.heap.size+1;omega)).trans (qb hdh.out hW),fun i hi=>by
      rw[Array.getElem?_setIfInBounds];by_cases e:k=i
      ·subst e;rw[if_pos rfl,if_pos zO];exact⟨b,rfl,zO,(zJ _ _ _ _ (by show _≠w.heap.size+1;omega)).trans hb.1⟩
      ·rw[if_neg e];obtain⟨b',e1,e2,e3⟩:=hcsh.out i zO;exact⟨b',e1,e2,(zJ _ _ _ _ (by show _≠w.heap.size+1;omega)).trans (qb e3 hW)⟩⟩
    replace IR:=zH IR;generalize cs[k]=u0 at *;clear hb hW rB;go_wp2;refine Qr ?_;go_wp2_with fail;try rw[uJ.out]
    refine⟨IR.out,?_⟩;simp[intOf];omega
  ·obtain rfl:k=256:=zO;have qq:=(hE.block w.heap.size zO).trans q2;have kq:=qa qq;have fq:=qe qq;have kd:=qa hd;have rf:=qi (qi qq 0 (.slice (some ⟨w.heap.size+1,0,none⟩) 256 256)) 1 (.slice none 0 0);have kf:=qa rf;have bf:Below w.heap.size w ((wr.setCell ⟨w.heap.size,0,none⟩ (.slice (some ⟨w.heap.size+1,0,none⟩) 256 256)).setCell ⟨w.heap.size,1,none⟩ (.slice none 0 0)):=Below.setCell (Below.setCell xw (p:=⟨w.heap.size,0,none⟩) (zM _) _) (p:=⟨w.heap.size,1,none⟩) (zM _) _;have DF:∀ W2:World,(∀ q:Addr,w.heap.size<=q.block->q.block<((wr.setCell ⟨w.heap.size,0,none⟩ (.slice (some ⟨w.heap.size+1,0,none⟩) 256 256)).setCell ⟨w.heap.size,1,none⟩ (.slice none 0 0)).heap.size->W2.cell? q=((wr.setCell ⟨w.heap.size,0,none⟩ (.slice (some ⟨w.heap.size+1,0,none⟩) 256 256)).setCell ⟨w.heap.size,1,none⟩ (.slice none 0 0)).cell? q)->Bls W2 ((wr.setCell ⟨w.heap.size,0,none⟩ (.slice (some ⟨w.heap.size+1,0,none⟩) 256 256)).setCell ⟨w.heap.size,1,none⟩ (.slice none 0 0)).heap.size (.slice (some ⟨w.heap.size+1,0,none⟩) 256 256) vp:=by
    have st:∀ b,b≠w.heap.size->((wr.setCell ⟨w.heap.size,0,none⟩ (.slice (some ⟨w.heap.size+1,0,none⟩) 256 256)).setCell ⟨w.heap.size,1,none⟩ (.slice none 0 0)).heap[b]?=wr.heap[b]?:=fun b hb=>(zJ _ _ _ _ hb).trans (zJ _ _ _ _ hb);generalize World.setCell (World.setCell wr _ _) _ _=wf at *;intro W2 hk;have rB:=(st (w.heap.size+1) zO).trans aF;have zB:=(zG.1 rB).1;refine⟨cs.toList,some ⟨w.heap.size+1,0,none⟩,256,by simp[vp],by simp[vp],zA6,⟨by simp[vp,hsz],fun _=>⟨w.heap.size+1,0,rfl,zB,fun j u hu=>?_⟩⟩,fun i u l hu hl=>?_⟩
    ·rw[hk ⟨w.heap.size+1,0+j,none⟩ (by show w.heap.size<=w.heap.size+1;omega) zB,Nat.zero_add,qa rB];simpa using hu
    have hi:i<256:=by have:=(List.getElem?_eq_some_iff.1 hl).1;simpa [vp] using this
    have e0:cs.toList[i]?=cs[i]?:=zA2;obtain⟨b,e1,e2,e3⟩:=dA i hi;rw[e0,e1] at hu;cases hu;have xO:l=jk 128:=by
     have:vp[i]?=some (jk 128):=by unfold vp;rw[List.getElem?_replicate,if_pos hi]
     rw[this] at hl;cases hl;rfl
    subst xO;have e4:=(st b zO).trans e3;have zb:=(zG.1 e4).1;refine⟨_,128,by rw[ZC],by rw[ZC];omega,zA6,zA2,fun _=>⟨b,0,rfl,zb,fun j u hu=>?_⟩⟩;rw[hk ⟨b,0+j,none⟩ (by show w.heap.size<=b;omega) zb,Nat.zero_add,qa e4];simpa using hu
   replace kf:=zH kf;replace bf:=zH bf;replace DF:=zH DF;clear rf hE aF dA hd;go_wp2;have kf:=kf.out;exact bodyPost_ret (v:=Xb (some ⟨w.heap.size+1,0,none⟩) 256 256 none 0 0) (by simp[results,results185,go_sem,kf]) rfl ⟨_,rfl,⟨w.heap.size+1,rfl,DF.out⟩,bf.out⟩
theorem Tryz.info_vol:(Tryz.prog.info? 36).map (fun i=>(i.zero,i.size,i.bytes))=some (some (.agg #[.int .u32 0,.int .i64 0,.bool false,.int .u32 0]),4,24):=zQ
abbrev vol4 (v:Vol):Array Value:=#[.int .u32 v.id,.int .i64 v.root,.bool v.fz,.int .u32 v.frm]
structure VRel (p:CP) (w1:World) (refs nodes:Nat->Nat) (pcs:Array Value) (next:Int) (vs0:List Vol) (xs:List It) (h:Nat) (A:OA) (c:Nat) (vv0:Value) (w:World) (i:Value) (wr:World):Prop where
 ex:∃ (k:Nat) (vs:List Vol) (vv:Value) (ca:Array Value),k<=xs.length/\i=.int .i64 (k:Int)/\Zy next vs0 (qC p.S h (xs.take k))=some vs/\vs.length<=16/\VolI p w1 wr vs vv ca refs nodes/\YP p vv0 w wr/\kO vv0 w.heap.size vv /\
  (∀ q,vv.ownBlock=some q->q≠w.heap.size/\q≠w.heap.size+1)/\wr.heap[w.heap.size]?=some (.cells pcs 32 (0,0))/\wr.heap[w.heap.size+1]?=some (.cells #[.int .i64 h,.slice A xs.length c] 113 (0,0))
set_option maxRecDepth 100000 in
theorem qhl (p:CP) (w1:World) (f:Int->Option Value) (refs nodes:Nat->Nat) (s1 s2 s3 s4:Value) (gen root next:Int) (dead:Value) (hC:Cen p w1 f) (h:Nat) (HL:∀ h',h=h'+1->VolsC p w1 f refs nodes s1 s2 s3 s4 gen root next dead h'):VolsC p w1 f refs nodes s1 s2 s3 s4 gen root next dead h:=by
 intro xs A c vs0 vv0 ca0 w HI bC rJ hlen aK aN nU;have aQ:=QP HI.own;replace hC:=zH hC;replace HI:=zH HI;replace rJ:=zH rJ;replace aK:=zH aK;replace aN:=zH aN;replace nU:=zH nU;replace aQ:=zH aQ;replace HL:=zH HL;replace bC:=zH bC;go_enter func111,ntmps111;go_wp2;generalize bP:(World.alloc (World.alloc _ _) _)=w2;have x2:Ext w w2:=by rw[<-bP];exact(zN _ _).trans (zN _ _)
 have q2:w2.heap[w.heap.size]?=some (.cells (qF s1 s2 s3 s4 gen root next dead) 32 (0,0)):=by rw[<-bP];exact(zK _ _ _ zA2).trans (zI _ _ _ rfl)
 have n2:w2.heap[w.heap.size+1]?=some (.cells #[.int .i64 h,.slice A xs.length c] 113 (0,0)):=by rw[<-bP];exact zI _ _ _ zA2
 clear bP;have I0:VRel p w1 refs nodes (qF s1 s2 s3 s4 gen root next dead) next vs0 xs h A c vv0 w (.int .i64 0) w2:=by
  refine⟨0,vs0,vv0,ca0,Nat.zero_le _,rfl,?_,bC.out,HI.out.ext x2,(YP.refl _ _ _).ext x2,kO.refl _ _,fun q hq=>?_,q2,n2⟩
  ·rw[List.take_zero,JS];rfl
  ·have:=(aQ.out q hq).2;omega
 replace I0:=zH I0;clear x2 q2 n2;go_loopw [15] (fun i wr=>VRel p w1 refs nodes (qF s1 s2 s3 s4 gen root next dead) next vs0 xs h A c vv0 w i wr) (fun i _=>xs.length-(intOf i).toNat)
 case atStart=>exact I0.out
 case round =>
  obtain⟨k,vs,vv,ca,hk,rfl,hgo,hvs,V,F,eX,hnq,qr,nr⟩:=hrel.ex;clear I0;by_cases hlt:k<xs.length
  ·have aI:=hlt;obtain⟨b9,off9,rfl,hb9⟩:=aK.out.its.at_.2.2.2 zO;obtain⟨A',c',d0,d1,d2,d3,d4,aS⟩:=(V.t.its hC.out aK.out).its.item k aI;have hxk:=rJ.out xs[k] (List.getElem_mem aI);have HLEAF:Hid (h=0->qC p.S h (xs.take (k+1))=qC p.S h (xs.take k)++[xs[k]]):=zH fun e=>by rw[e];exact qib aI
   have HNODE:Hid (∀ h' ys lvl,h=h'+1->qt p.S xs[k].r.toNat=some (lvl,ys)->qC p.S h (xs.take (k+1))=qC p.S h (xs.take k)++qC p.S h' ys):=zH fun h' ys lvl e hn=>by rw[e];exact qic aI hn
   have HONE:=zH (ZU aN.out xs[k] (List.getElem_mem aI));have HKN:=zH (fun h0=>nU.out h0 xs[k] (List.getElem_mem aI));have HBAD:=zH (fun hb=>@qiQ p.S h xs (k+1) next vs0 aI hb);generalize xs[k]=x at *;have kn:=qa nr;replace V:=zH V;replace F:=zH F;replace eX:=zH eX;replace hnq:=zH hnq;replace hgo:=zH hgo;replace aS:=zH aS;replace hxk:=zH hxk;have hz:w.heap.size+1<wr.heap.size:=(zG.1 nr).1;replace hvs:=zH hvs;rcases Nat.eq_zero_or_pos h with hh|hh
   ·have hd:decide ((h:Int)>0)=false:=decide_eq_false zO;have hd3:¬0<h:=zO;replace hh:=zH hh;go_wp2_with fail;generalize aO:World.alloc wr _=w3;have x3:Ext wr w3:=by rw[<-aO];exact zN _ _
    clear aO d0 d1 d2 d3 d4;refine(qiR x hxk.out A' c' w3 ((aS.out.below x3).more x3.size)).mono ?_;rintro e w4 ⟨u,rfl,⟨v',rfl,hv'⟩,hB⟩;have x4:=x3.trans hB;clear hB x3;have dL:Zy next vs0 (qC p.S h (xs.take (k+1)))=if Jn next x=true/\vs.length≠16 then some (vs++[Jq x]) else none:=by rw[HLEAF.out hh.out,vQ,hgo.out];rfl
    have HB8:Hid (¬(Jn next x=true/\vs.length≠16)->∀ W,Ext wr W->VolsQ p w1 refs nodes next vs0 (qC p.S h xs) vv0 w (.returned (.int .i64 8)) W):=zH fun hb W hx =>
     ⟨F.out.ext hx,by rw[HBAD.out (by rw[dL,if_neg hb])]⟩
    have V4:=V.out.ext x4;obtain⟨AV,cV,rfl,-,-⟩:=qE V4.own;have kc:w4.cell? ⟨p.cb,518,none⟩=some (.slice AV vs.length cV):=by rw[qa V4.t.row];exact V4.t.ar.vol
    have kq4:=qa (qb qr x4);have hcb4:p.cb<w4.heap.size:=(zG.1 V4.t.row).1;have hqz4:w.heap.size<w4.heap.size:=by have:=x4.size;omega
    replace dL:=zH dL;rcases hiv:KG x with _|_
    ·have HB:=HB8.out (fun hh=>by have:=hh.1;unfold Jn at this;rw[hiv] at this;cases this);replace HB:=zH HB;replace hiv:=zH hiv;clear kc kq4 V4;go_wp2_with fail;go_ret;exact HB.out _ (x4.trans (zN _ _))
    ·have hve:=hv' hiv;have hid:v'.id=x.i:=by rw[hve];rfl
     have fK:Jn next x=(decide (x.i≠0) && decide (x.i<next)):=by unfold Jn;rw[hiv,Bool.true_and]
     replace hiv:=zH hiv;replace hve:=zH hve;rcases Int.decEq v'.id 0 with oZ|oZ
     ·rcases Int.decLt v'.id next with ng|ng
      ·have HB:=HB8.out (fun hh=>by have:=hh.1;rw[fK] at this;simp at this;omega);have hg1:decide (v'.id≥next)=true:=decide_eq_true zO;replace HB:=zH HB;replace hid:=zH hid;replace fK:=zH fK;clear ng hv' V4;go_wp2_with fail;go_ret;exact HB.out _ (x4.trans (zN _ _))
      ·have hg1:decide (v'.id≥next)=false:=decide_eq_false zO;have hg2:decide (next<=v'.id)=false:=decide_eq_false zO;rcases Nat.decEq vs.length 16 with uw|uw
       ·have yE:((vs.length:Int) == 16)=false:=by rw[beq_eq_false_iff_ne];omega
        have hok:Jn next x=true:=by rw[fK];simp;omega
        replace hok:=zH hok;replace hid:=zH hid;replace fK:=zH fK;replace V4:=zH V4;clear ng hv';have h16':=zH uw;go_wp2_with fail;generalize aT:World.alloc w4 _=w5;have x45:Ext w4 w5:=by rw[<-aT];exact zN _ _
        have r5:w5.heap[w4.heap.size]?=some (.cells (vol4 v') 36 (0,0)):=by rw[<-aT];exact zI _ _ _ rfl
        clear aT kc kq4 uw yE hg1 hg2 oZ;have x5:=x4.trans x45;have V5:=V4.out.ext x45;have q5:=qb qr x5;have nr5:=qb nr x5;have hol:=QP V5.own;have hDF:=V5.t.lt;have hbase5:=V5.t.off.size;have hvs5:=hvs.out;have hn4:(Value.slice AV vs.length cV).ownBlock≠some w4.heap.size:=fun e=>by have:=(QP V4.out.own _ e).2;omega
        have gZ:(Value.slice AV vs.length cV).ownBlock≠some p.cb:=fun e=>by have:=(hol _ e).1;omega
        obtain⟨RR,bJ⟩:∃ RR:Rel,RR=Km w1.heap.size 36 4 w5.heap.size (.slice AV vs.length cV) vs.length (je vs) (vs.length+1) (je vs++(vol4 v').toList):=⟨_,rfl⟩
        replace bJ:=zH bJ;have gV:∀ W,RR.r w5 W->W.cell? ⟨p.cb,518,none⟩=some (.slice AV vs.length cV):=fun W h=>jX (bJ.out ▸ h) gZ (by rw[qa V5.t.row];exact V5.t.ar.vol);have gv:∀ W,RR.r w5 W->∀ i,W.cell? ⟨w4.heap.size,i,none⟩=(vol4 v')[i]?:=fun W h=>qa (VQ (bJ.out ▸ h) hn4 r5);refine qp zQ ?_;refine qQ (w:=w5) RR (qH [(6,Jf w5.heap.size 1 36 (vol4 v')),(7,UN w1.heap.size 36 4 w5.heap.size (.slice AV vs.length cV) (vs.length+1) (je vs++(vol4 v').toList))])
         [true,true,true,true,true,true,true,true] 3 zQ zQ zQ zQ zQ zQ zQ ?st (Rel.drew _ _) ?walk
        case st=>rw[bJ.out];exact qk (by simp only[List.forall_mem_cons];exact⟨Xs (fun g hg=>by have:=hol g hg;omega),qaS,fun _ h=>by cases h⟩)
        case walk =>
         intro K hK;dsimp only[qu];refine zC2 ?_;refine qy (Jf w5.heap.size 1 36 (vol4 v')) zA0 zA0 (fun W hW _=>?_) (fun (pb:Nat)=>?_)
         ·rw[bJ.out] at hW ⊢;refine qak ?_ hW.1.size;go_simp
         simp only[Act.put,qf,qc,qg,qX,JL,zA,zB,zC];refine qy (UN w1.heap.size 36 4 w5.heap.size (.slice AV vs.length cV) (vs.length+1) (je vs++(vol4 v').toList)) zA0 zA0 (fun W hW hp=>?_) (fun (p7:OA×Nat)=>?_)
         ·rw[bJ.out] at hW ⊢;obtain⟨i0,hi,ag,aV,aW⟩:=info_parts Tryz.info_vol;obtain⟨dM,_⟩:=(hp 6 zD).1;obtain⟨v2,w',az,hD,hR'⟩:=YL (P:=prog) (lo:=w5.heap.size) W 91 91 i0 _ 24 underlying91 hi ag aV aW rfl zD (hW.2.1 V5.own) ⟨pb,0,none⟩ 1 1 (vol4 v').toList rfl (qgU dM) zA7 zO zD (by have:=hW.1.size;omega) hW.1.size;obtain⟨A2,c2,rfl,_,_⟩:=qE hD.1;refine jE (u:=.slice A2 (vs.length+1) c2) (w':=w') ?_ ⟨(A2,c2),rfl,hD,hR'⟩;exact qai (s:=.tmp 67) (x:=.tmp 69) rfl rfl rfl az
         obtain⟨A2,c2⟩:=p7;refine zC2 ?_;refine qv (hK _ _ fun W hW hF=>?_);have hD:=(hF 7).1;clear hF hK gV gv;rw[bJ.out] at hW;change Done _ _ _ _ _ _ _ _ W at hD;refine zB5 ?_;have TW:=V5.t.grown hW.1 (fun q hq=>(hol q hq).1);have T6:=TW.setVol (.slice A2 (vs.length+1) c2);have own6:=Vb hD.1 (p:=⟨p.cb,518,none⟩) hDF (.slice A2 (vs.length+1) c2);have hcw:p.cb<w.heap.size:=Nat.lt_of_lt_of_le hDF HI.out.t.off.size;have q6:(W.setCell ⟨p.cb,518,none⟩ (.slice A2 (vs.length+1) c2)).heap[w.heap.size]?=_:=(zJ _ _ _ _ (by show w.heap.size≠p.cb;omega)).trans (VQ hW (fun e=>(hnq.out _ e).1 rfl) q5);have n6:(W.setCell ⟨p.cb,518,none⟩ (.slice A2 (vs.length+1) c2)).heap[w.heap.size+1]?=_:=(zJ _ _ _ _ (by show w.heap.size+1≠p.cb;omega)).trans (VQ hW (fun e=>(hnq.out _ e).2 rfl) nr5);have F6:=((F.out.ext x5).grown eX.out hW.1).setC (i:=518) (u:=.slice A2 (vs.length+1) c2);have N6:kO vv0 w.heap.size (.slice A2 (vs.length+1) c2):=kO.trans eX.out (n':=w5.heap.size) hD.2 (by have:=F.out.size;have:=x5.size;omega);have B6:∀ q,(Value.slice A2 (vs.length+1) c2).ownBlock=some q->q≠w.heap.size/\q≠w.heap.size+1:=by
          intro q hq;rcases hD.2 with e|⟨g,e,e2⟩
          ·exact hnq.out q (e ▸ hq)
          ·rw[e] at hq;cases hq;have:=x5.size;omega
         have kc:=qa TW.row;have kv:=TW.ar.vol;have fc:=qe TW.row;have IR:VRel p w1 refs nodes (qF s1 s2 s3 s4 gen root next dead) next vs0 xs h (some ⟨b9,off9,none⟩) c vv0 w (.int .i64 ((k:Int)+1)) (W.setCell ⟨p.cb,518,none⟩ (.slice A2 (vs.length+1) c2)):=by
          refine⟨k+1,vs++[v'],_,_,aI,rfl,?_,?_,⟨T6,?_⟩,F6,N6,B6,q6,n6⟩
          ·rw[dL.out,if_pos ⟨hok.out,h16'.out⟩,hve.out]
          ·rw[List.length_append,List.length_singleton];have:=h16'.out;omega
          ·rw[List.length_append,List.length_singleton,qfI];exact own6
         replace IR:=zH IR;clear T6 own6 q6 n6 F6 N6 B6 hW hD q5 nr5 V5 r5 x5 x4 x45;replace TW:=zH TW;go_wp2;refine Qr ?_;go_wp2_with fail;refine⟨IR.out,?_⟩;simp[intOf];omega
       ·have yE:((vs.length:Int) == 16)=true:=by rw[beq_iff_eq];omega
        have HB:=HB8.out (fun hh=>hh.2 uw);replace HB:=zH HB;replace hid:=zH hid;replace fK:=zH fK;replace uw:=zH uw;clear ng hv' V4;go_wp2_with fail;go_ret;exact HB.out _ (x4.trans (zN _ _))
     ·have HB:=HB8.out (fun hh=>by have:=hh.1;rw[fK] at this;simp at this;omega);replace HB:=zH HB;replace hid:=zH hid;replace fK:=zH fK;clear hv' V4 kc kq4;go_wp2_with fail;go_ret;exact HB.out _ (x4.trans (zN _ _))
   ·have hd:decide ((h:Int)>0)=true:=decide_eq_true zO;have hd2:decide (0<h)=true:=decide_eq_true hh;replace hh:=zH hh;obtain⟨h',yI⟩:∃ h',h=h'+1:=⟨h-1,by have:=hh.out;omega⟩
    obtain⟨b,nN,bQ,bU,ys,hnode,hsy⟩:=ZF (yI ▸ HONE.out);obtain⟨v9,hv9⟩:=Option.isSome_iff_exists.1 (HKN.out hh.out);obtain⟨n9,lv9,ys',A9,c9,f9,l9,b9',e9,-,-,hn9,rfl,mM,xn,xH⟩:=hC.out.known _ _ hv9;obtain rfl:b=n9:=zO;rw[hnode,Option.some.injEq,Prod.mk.injEq] at hn9;obtain⟨e1,rfl⟩:=hn9;obtain rfl:h'=lv9:=zO;have hMAP:=hC.out.map;have hmay:=(qM hnode).1;have eQ:=fun y hy=>((qM hnode).2.1 y hy).1;have hPL:ys.length<=5:=by unfold Qf ja at hmay;simp at hmay;omega
    have hyk:0<h'->∀ y∈ys,(f y.r).isSome=true:=fun h0=>xH (by rw[xn.1];exact hsy) h0;have HN2:=HNODE.out h' ys h' yI (by rw[nN,Int.toNat_natCast];exact hnode);have HCALL:=HL.out h' yI ys A9 c9 vs vv ca;rw[nN] at d3 hv9;have sF:=qjn;replace yI:=zH yI;replace nN:=zH nN;replace hnode:=zH hnode;replace hsy:=zH hsy;replace mM:=zH mM;replace eQ:=zH eQ;replace hyk:=zH hyk;replace HN2:=zH HN2;replace HCALL:=zH HCALL;replace hv9:=zH hv9;clear xn xH hmay e9 e1;replace hMAP:=zH hMAP;go_wp2_with fail;generalize aO:World.alloc wr _=w3;have x3:Ext wr w3:=by rw[<-aO];exact zN _ _
    have r3:w3.heap[wr.heap.size]?=some (.cells #[.int .u8 x.k,.int .u32 x.i,.int .u32 x.o,.int .i64 b,.slice A' x.val.length c'] 51 (0,0)):=by rw[<-aO];exact zI _ _ _ rfl
    clear aO d0 d1 d2 d3 d4;have V3:=V.out.ext x3;have C3:=V3.t.cen hC.out;have gP:∀ W,qj.r w3 W->∀ i,W.cell? ⟨w.heap.size,i,none⟩=(qF s1 s2 s3 s4 gen root next dead)[i]?:=fun W h=>qa (qb (qb qr x3) h);have gX:∀ W,qj.r w3 W->∀ i,W.cell? ⟨wr.heap.size,i,none⟩=#[.int .u8 x.k,.int .u32 x.i,.int .u32 x.o,.int .i64 b,.slice A' x.val.length c'][i]?:=fun W h=>qa (qb r3 h);have gM:∀ W,qj.r w3 W->W.cell? ⟨p.cb,5,none⟩=some (.map (some p.mb)):=fun W h=>by rw[qa (qb C3.row h)];exact C3.c5
    refine qp zQ ?_;refine qQ (w:=w3) qj (qH []) [true,true,true,true,true,true,true,true,true,true] 2 zQ zQ zQ zQ zQ zQ zQ ?st2 (Rel.drew _ _) ?walk2
    case st2=>exact qk (fun _ h=>by cases h)
    case walk2 =>
     intro K hK;dsimp only[qu];refine zC2 ?_;refine qd (jD h' A9 ys.length c9 f9 l9 b9') zA0 zA0 (fun W hW _=>⟨W,?_,Rel.refl _ W⟩) ?_
     ·have iY:Ext w3 W:=hW;have hm:=Xx (P:=prog) W (C3.ext iY).map 93 3 156 underlying93 underlying3 hv9.out;go_simp
     refine zC2 ?_;refine qv (hK _ _ fun W hW hF=>?_);have iY:Ext w3 W:=hW;have x4:=x3.trans iY;clear hF hK gP gX gM sF;refine zB5 ?_;have VW:=V.out.ext x4;have qW:=qb qr x4;have nW:=qb nr x4;clear hW iY x3 r3 V3 C3;replace VW:=zH VW;go_wp2_with fail;refine(HCALL.out W VW.out hvs.out eQ.out hPL mM.out hsy.out hyk.out).mono ?_;rintro e w6 ⟨F6,hm⟩;have dL:Zy next vs0 (qC p.S h (xs.take (k+1)))=Zy next vs (qC p.S h' ys):=by rw[HN2.out,vQ,hgo.out];rfl
     have FW:=(F.out.ext x4).trans F6 eX.out;have hcw:p.cb<w.heap.size:=Nat.lt_of_lt_of_le V.out.t.lt HI.out.t.off.size;have hzW:w.heap.size+1<W.heap.size:=(zG.1 nW).1;have q6:=(F6.block w.heap.size zO zO (fun e=>(hnq.out _ e).1 rfl)).trans qW;have n6:=(F6.block (w.heap.size+1) zO zO (fun e=>(hnq.out _ e).2 rfl)).trans nW;rcases hg6:Zy next vs (qC p.S h' ys) with _|vs'
     ·rw[hg6] at hm dL;obtain rfl:e=.returned (.int .i64 8):=hm;have HB:VolsQ p w1 refs nodes next vs0 (qC p.S h xs) vv0 w (.returned (.int .i64 8)) w6:=⟨FW,by rw[HBAD.out dL]⟩
      replace HB:=zH HB;clear q6 n6 FW F6 dL x4 qW nW;go_wp2_with fail;refine Qr ?_;go_wp2_with fail;go_ret;exact HB.out
     ·rw[hg6] at hm dL;obtain⟨rfl,vv',ca',V6,N6⟩:=hm;have IR:VRel p w1 refs nodes (qF s1 s2 s3 s4 gen root next dead) next vs0 xs h (some ⟨b9,off9,none⟩) c vv0 w (.int .i64 ((k:Int)+1)) w6:=by
       refine⟨k+1,vs',vv',ca',aI,rfl,dL,kG next _ _ _ hvs.out hg6,V6,FW,kO.trans eX.out N6 zO,fun q hq=>?_,q6,n6⟩;rcases N6 with e|⟨g,e,e2⟩
       ·exact hnq.out q (e ▸ hq)
       ·rw[e] at hq;cases hq;omega
      replace IR:=zH IR;clear q6 n6 FW F6 dL x4 qW nW V6 N6;go_wp2_with fail;refine Qr ?_;go_wp2_with fail;refine⟨IR.out,?_⟩;simp[intOf];omega
  ·have lU:k=xs.length:=zO;have HQ:VolsQ p w1 refs nodes next vs0 (qC p.S h xs) vv0 w (.returned (.int .i64 0)) wr:=by rw[lU,List.take_length] at hgo;exact⟨F,by rw[hgo];exact⟨rfl,vv,ca,V,eX⟩⟩
   replace HQ:=zH HQ;replace V:=zH V;replace F:=zH F;replace eX:=zH eX;replace hnq:=zH hnq;replace hgo:=zH hgo;replace lU:=zH lU;clear qr nr;go_wp2;go_ret;exact HQ.out
def TreeQ (p:CP) (R:List Nat) (r:Int) (vv:Value) (w:World) (f:Int->Option Value) (e:Ending) (w':World):Prop:=
 e=.returned (.int .i64 (if okL p.S (-1) r=true then 0 else 8))/\w'.os=w.os/\w'.tape=w.tape/\w'.output=w.output/\w.heap.size<=w'.heap.size/\(∀ k,k<w.heap.size->k≠p.cb->k≠p.mb->w'.heap[k]?=w.heap[k]?) /\
  (okL p.S (-1) r=true->∃ ca g refs nodes,Cen (p.put ca) w' g/\vA f g/\Ar ca refs nodes vv/\qR p.S (R++[r.toNat]) refs nodes/\Gp p.S g (R++[r.toNat]))
theorem Tryz.info_int:(Tryz.prog.info? 3).map (fun i=>(i.zero,i.size,i.bytes))=some (some (.int .i64 0),1,8):=zQ
structure TRel (p:CP) (w1:World) (vv:Value) (R:List Nat) (v:Value) (wr:World):Prop where
 ex:∃ (s:List Nat) (rf nd:Nat->Nat) (ca:Array Value),lenV v=s.length/\wr.ownsRow w1.heap.size 3 1 v s.length (Jo s)/\TrI p w1.heap.size w1 wr vv ca rf nd/\Wk p.S R rf nd s
structure IRel (p:CP) (w1:World) (vv:Value) (s':List Nat) (lv9:Nat) (xs:List It) (rf nd':Nat->Nat) (nb:Nat) (A9:OA) (c9:Nat) (v i:Value) (wq:World):Prop where
 ex:∃ (k:Nat) (rf':Nat->Nat) (ca':Array Value),k<=xs.length/\i=.int .i64 (k:Int)/\(∀ x,rf' x=rf x+(Kt xs k).count x)/\lenV v=(s'++ZM lv9 xs k).length /\
  wq.ownsRow w1.heap.size 3 1 v (s'++ZM lv9 xs k).length (Jo (s'++ZM lv9 xs k))/\(∀ q,v.ownBlock=some q->q≠nb)/\TrI p w1.heap.size w1 wq vv ca' rf' nd' /\
  wq.heap[nb]?=some (.cells #[.int .i64 lv9,.slice A9 xs.length c9] 113 (0,0))
set_option maxRecDepth 100000 in
theorem tree_any (p:CP) (R:List Nat) (hRl:R.length<=100) (r:Int) (w:World) (f:Int->Option Value) (refs nodes:Nat->Nat) (vv:Value) (hC:Cen p w f) (hA:Ar p.ca refs nodes vv) (hN:qR p.S R refs nodes) (hR:Gp p.S f R):Calls prog 112 #[.pointer (some ⟨p.cb,0,none⟩),.int .i64 r] w (TreeQ p R r vv w f):=by
 replace hC:=zH hC;replace hA:=zH hA;replace hN:=zH hN;replace hR:=zH hR;have hfi:=field_is;have sF:=qjn;go_enter func112,ntmps112;go_wp2_with fail;refine(qbG p r w f hC.out).mono ?_;rintro e w1 ⟨v,g,rfl,⟨lvl,A,n,c,fk,lk,rfl,bZ⟩,bK,hm,hg,hn⟩;have C1:=hC.out.after bK hm hg hn;rcases hok:okL p.S (-1) r with _|_
 ·have HQ:TreeQ p R r vv w f (.returned (.int .i64 8)) w1:=⟨by rw[hok];rfl,hg.os,hg.tape,hg.output,hg.size,fun k h1 _ h2=>hg.block k h1 zA1,fun h=>by rw[hok] at h;cases h⟩
  replace HQ:=zH HQ;replace C1:=zH C1;clear bZ bK hm hg hn;go_wp2;go_ret;exact HQ.out
 ·obtain⟨a,rfl,cO⟩:=ZR hok;have hga:=bZ hok;have ak:a<256:=cO.2.1;have kc:=qa C1.row;have fc:=qe C1.row;have kr:=hA.out.ref a ak;replace C1:=zH C1;replace cO:=zH cO;replace hga:=zH hga;clear bZ;have aA:wrap64 ((refs a:Int)+1)=(refs a:Int)+1:=IntWalk.wrap64_in _ (by have:=qgN (jU.walk.1 hN.out.mkd) a;omega);have T1:TrI p w1.heap.size w1 w1 vv p.ca refs nodes:=⟨Off.refl (zM _),C1.out.row,hA.out,fun _ _=>rfl,(zG.1 C1.out.row).1⟩
  have Rk:Gp p.S g (R++[a]):=fun b hb=>by
   rcases List.mem_append.1 hb with hb|hb
   ·exact⟨(hR.out b hb).1,bK.some_ _ (hR.out b hb).2⟩
   ·rw[List.mem_singleton.1 hb];exact⟨cO.out,by rw[hga.out];rfl⟩
  replace Rk:=zH Rk;go_wp2_with fail;have gR:∀ W,qj.r w1 W->W.cell? ⟨p.cb,6+a,none⟩=some (.int .i64 (refs a:Int)):=fun W h=>by rw[qa (qb C1.out.row h)];exact kr
  refine qp zQ ?_;refine zo 0 10 (.pointer (some ⟨p.cb,0,none⟩)) zQ (by simp only[List.getElem?_toArray,List.getElem?_cons_zero];exact rfl) zQ zQ zQ zA0 (fun W=>?_) ?_
  ·go_simp
  simp only[Act.put,qf,qc,qg,zA,zB,zC];refine zo 7 9 (.pointer (some ⟨p.cb,0,none⟩)) zQ zA5 zQ zQ zQ zA0 (fun W=>?_) ?_
  ·go_simp
  simp only[Act.put,qf,qc,qg,zA,zB,zC];refine zo 8 8 (.pointer (some ⟨p.cb,6,none⟩)) zQ zA5 zQ zQ zQ zA0 (fun W=>?_) ?_
  ·go_simp
  simp only[Act.put,qf,qc,qg,zA,zB,zC];refine ZO (w:=w1) qj (qH []) [false,true,true,true,true,true,true,false,false,true] 1 zQ zQ zQ zQ zQ zQ ?st (Rel.drew _ _) ?walk
  case st=>exact qk (fun _ h=>by cases h)
  case walk =>
   intro K hK;dsimp only[qu];refine zB6 ?_
   first
    |(refine qd (.pointer (some ⟨p.cb,6+a,none⟩)) zA0 zA0 (fun W hW _=>⟨W,?_,Rel.refl _ W⟩) ?_
      ·go_simp;intro ig;exfalso;omega
      simp only[Act.put,qf,qc,qg,zA,zB,zC])
    |skip
   refine zB6 ?_
   first
    |(refine qd (.pointer (some ⟨p.cb,6+a,none⟩)) zA0 zA0 (fun W hW _=>⟨W,?_,Rel.refl _ W⟩) ?_
      ·go_simp;intro ig;exfalso;omega
      simp only[Act.put,qf,qc,qg,zA,zB,zC])
    |skip
   refine zB6 ?_;refine qv (hK _ _ fun W hW hF=>?_);have au:Ext w1 W:=hW;clear hF hK gR kc fc kr;refine zB5 ?_;have T2:=(T1.ext au).addRef ak;have rc:=qb C1.out.row au;have kc:=qa rc;have fc:=qe rc;have kr:=hA.out.ref a ak;go_wp2;refine Qr ?_;go_wp2_with fail;generalize aO:World.alloc _ _=w3;have T3:TrI p w1.heap.size w1 w3 vv _ (vC refs a) nodes:=T2.ext (by rw[<-aO];exact zN _ _);have o3:w3.ownsRow w1.heap.size 3 1 (.slice (some ⟨W.heap.size,0,none⟩) 1 1) 1 (Jo [a]):=by have h:=World.ownsRow_lit (base:=w1.heap.size) (e:=3) (size:=1) (W.setCell ⟨p.cb,6+a,none⟩ (.int .i64 ((refs a:Int)+1))) #[.int .i64 (a:Int)] 1 (by simpa using au.size) zA6 rfl;rw[<-aO];have hz:(W.setCell ⟨p.cb,6+a,none⟩ (.int .i64 ((refs a:Int)+1))).heap.size=W.heap.size:=zA2;rw[hz] at h;exact h
   have K3:=hN.out.start a;generalize (p.ca.setIfInBounds (6+a) _)=ca3 at T3;clear aO kc fc kr rc T2 au T1 hN hA aA;generalize W.heap.size=g3 at *;replace T3:=zH T3;replace o3:=zH o3;replace K3:=zH K3;go_loopw [5] (fun v wr=>TRel p w1 vv (R++[a]) v wr) (fun v wr=>6*leftW wr p.cb+lenV v)
   case atStart=>exact⟨[a],_,_,_,rfl,o3.out,T3.out,K3.out⟩
   case round =>
    obtain⟨s,rf,nd,ca,hsl,aB,T,K⟩:=hrel.ex;clear T3 o3 K3;rcases List.eq_nil_or_concat s with rfl|⟨s',b,rfl⟩
    ·obtain⟨A,c',rfl,-,-⟩:=qE aB;have hd:qR p.S (R++[a]) rf nd:=K.done;have HQ:TreeQ p R (a:Int) vv w f (.returned (.int .i64 0)) wr:=by
      refine⟨by rw[hok];rfl,?_,?_,?_,?_,?_,fun _=>⟨ca,g,rf,nd,T.cen C1.out,bK,T.ar,?_,?_⟩⟩
      ·exact T.off.os.trans hg.os
      ·exact T.off.tape.trans hg.tape
      ·exact T.off.output.trans hg.output
      ·exact Nat.le_trans hg.size T.off.size
      ·intro k h1 h2 h3;exact(T.off.block k (Nat.lt_of_lt_of_le h1 hg.size) h2).trans (hg.block k h1 zA1)
      ·simpa using hd
      ·simpa using Rk.out
     replace HQ:=zH HQ;replace T:=zH T;replace K:=zH K;replace hd:=zH hd;clear aB hsl bK hm hg hn;go_wp2;go_ret;exact HQ.out
    ·rw[List.concat_eq_append] at *;obtain⟨m,hm0⟩:∃ m,m=s'.length:=⟨_,rfl⟩
     rw[List.length_append,List.length_singleton,<-hm0] at aB;rw[Ym] at aB;rcases aB.2 with ⟨h0,-⟩|⟨gb,cap,cur,rfl,yG,aF,gZ,fF,dA,nM⟩
     ·exfalso;have:=aB.1;simp[XJ] at this;rw[h0] at hsl;simp[lenV] at hsl
     ·obtain⟨gb',off',e0,hgb',aU⟩:=(Rd.of_own aB).2 zO;simp only[Option.some.injEq,Addr.mk.injEq,and_true] at e0;obtain⟨rfl,rfl⟩:=e0;have kb:=aU m (.int .i64 (b:Int)) (by rw[List.getElem?_append_right (by rw[XJ];omega),XJ,<-hm0];simp);rw[Nat.zero_add] at kb;clear aU;have hAU:=TU (xs:=Jo s') (news:=[.int .i64 (b:Int)]) (n:=m) (m:=1) aB (by rw[XJ,hm0];omega);obtain⟨oQ,lF⟩:=Rk.out.reach C1.out.known (K.wk.stk b (List.mem_append_right _ (List.mem_singleton.2 rfl)));have bU:=oQ.2.1;have bP:wrap64 ((m:Int)+1-1)=(m:Int):=by rw[IntWalk.wrap64_in _ (by unfold maxLen at fF;omega)];omega
      have hw22:wrap64 (m:Int)=(m:Int):=IntWalk.wrap64_in _ (by unfold maxLen at fF;omega);replace aB:=zH aB;replace hAU:=zH hAU;replace T:=zH T;replace K:=zH K;replace oQ:=zH oQ;replace lF:=zH lF;replace hm0:=zH hm0;replace hsl:=zH hsl;have hmc:m<=cap:=Nat.le_of_succ_le gZ;have hcap:¬cap=0:=fun e=>by rw[e] at gZ;exact absurd gZ (Nat.not_succ_le_zero _)
      clear aF;clear nM dA bK hm hg hn yG fF gZ;have kn0:=T.out.ar.node b bU;have aO:wrap64 ((nd b:Int)+1)=(nd b:Int)+1:=IntWalk.wrap64_in _ (by have:=K.out.few b;simp at this;omega);go_wp2_with fail;have gN:∀ W,qj.r wr W->W.cell? ⟨p.cb,262+b,none⟩=some (.int .i64 (nd b:Int)):=fun W h=>by rw[qa (qb T.out.row h)];exact kn0
      refine qp zQ ?_;refine zo 0 10 (.pointer (some ⟨p.cb,0,none⟩)) zQ (by simp only[List.getElem?_toArray,List.getElem?_cons_zero];exact rfl) zQ zQ zQ zA0 (fun W=>?_) ?_
      ·go_simp
      simp only[Act.put,qf,qc,qg,zA,zB,zC];refine zo 2 9 (.pointer (some ⟨p.cb,0,none⟩)) zQ zA5 zQ zQ zQ zA0 (fun W=>?_) ?_
      ·go_simp
      simp only[Act.put,qf,qc,qg,zA,zB,zC];refine zo 7 8 (.pointer (some ⟨p.cb,0,none⟩)) zQ zA5 zQ zQ zQ zA0 (fun W=>?_) ?_
      ·go_simp
      simp only[Act.put,qf,qc,qg,zA,zB,zC];refine zo 8 7 (.pointer (some ⟨p.cb,262,none⟩)) zQ zA5 zQ zQ zQ zA0 (fun W=>?_) ?_
      ·go_simp
      simp only[Act.put,qf,qc,qg,zA,zB,zC];refine ZO (w:=wr) qj (qH []) [false,true,false,true,true,true,true,false,false,true] 1 zQ zQ zQ zQ zQ zQ ?st (Rel.drew _ _) ?walk
      case st=>exact qk (fun _ h=>by cases h)
      case walk =>
       intro K' hK';dsimp only[qu];refine zB6 ?_
       first
        |(refine qd (.pointer (some ⟨p.cb,262+b,none⟩)) zA0 zA0 (fun W hW _=>⟨W,?_,Rel.refl _ W⟩) ?_
          ·go_simp;intro ig;exfalso;omega
          simp only[Act.put,qf,qc,qg,zA,zB,zC])
        |skip
       refine zB6 ?_
       first
        |(refine qd (.pointer (some ⟨p.cb,262+b,none⟩)) zA0 zA0 (fun W hW _=>⟨W,?_,Rel.refl _ W⟩) ?_
          ·go_simp;intro ig;exfalso;omega
          simp only[Act.put,qf,qc,qg,zA,zB,zC])
        |skip
       refine zB6 ?_;refine qv (hK' _ _ fun W hW hF=>?_);have iY:Ext wr W:=hW;clear hF hK' gN;refine zB5 ?_;have T2:=(T.out.ext iY).addNode bU;have rc:=qb T.out.row iY;have kc:=qa rc;have fc:=qe rc;have o2:(W.setCell ⟨p.cb,262+b,none⟩ (.int .i64 ((nd b:Int)+1))).ownsRow w1.heap.size 3 1 (.slice (some ⟨gb,0,none⟩) m cap) m (Jo s'):=Vb (zm hAU.out iY) (p:=⟨p.cb,262+b,none⟩) T.out.lt _;generalize (ca.setIfInBounds (262+b) _)=ca4 at T2;replace rc:=zH rc;go_wp2;refine Qr ?_;rw[aO];generalize hw4:W.setCell ⟨p.cb,262+b,none⟩ (.int .i64 ((nd b:Int)+1))=w4 at *;clear hw4 kc fc rc iY;replace T2:=zH T2;replace o2:=zH o2;have kc:=qa T2.out.row;have kn2:=T2.out.ar.node b bU;have hbb:vC nd b b=nd b+1:=by unfold vC;rw[if_pos rfl]
       rw[hbb] at kn2;have kq:w4.cell? ⟨p.cb,262+b,none⟩=some (.int .i64 ((nd b:Int)+1)):=(kc _).trans kn2;have kq5:w4.cell? ⟨p.cb,5,none⟩=some (.map (some p.mb)):=(kc _).trans ((T2.out.low 5 zO).trans C1.out.c5);clear kc kn2;rcases Nat.eq_zero_or_pos (nd b) with hz|hz
       ·have dE:decide (((nd b+1:Nat):Int)>1)=false:=decide_eq_false zO;have bG:decide ((nd b:Int)+1>1)=false:=decide_eq_false zO;replace hz:=zH hz;go_wp2_with (at_lookup;refine Qh ?_);obtain⟨v9,hv9⟩:=Option.isSome_iff_exists.1 lF.out;obtain⟨n9,lv9,xs,A9,c9,f9,l9,b9,e9,-,-,hnode,rfl,aK,-,-⟩:=C1.out.known _ _ hv9;obtain rfl:b=n9:=zO;have hMap:=(T2.out.cen C1.out).map;refine QF.go (Gj _ rfl (.tmp 61) (.tmp 62) 93 rfl underlying93 underlying3 rfl rfl hMap hv9 ?_);have hmay:=(qM hnode).1;have rJ:=(qM hnode).2.1;have hlen:xs.length<=5:=by unfold Qf ja at hmay;simp at hmay;omega
        clear hMap hv9 hmay kq kq5;replace hnode:=zH hnode;replace aK:=zH aK;replace rJ:=zH rJ;go_wp2_with fail;generalize aT:World.alloc w4 _=w5;have T5:=T2.out.ext (by rw[<-aT];exact zN _ _:Ext w4 w5);have o5:=zm o2.out (by rw[<-aT];exact zN _ _:Ext w4 w5);have n5:w5.heap[w4.heap.size]?=some (.cells #[.int .i64 lv9,.slice A9 xs.length c9] 113 (0,0)):=by rw[<-aT];exact zI _ _ _ rfl
        have z5:gb<w4.heap.size:=(QP o2.out gb rfl).2;clear aT;have hlt9:=T2.out.lt;have bT:=T2.out.off.size;generalize w4.heap.size=nb at *;have I0:IRel p w1 vv s' lv9 xs rf (vC nd b) nb A9 c9 (.slice (some ⟨gb,0,none⟩) m cap) (.int .i64 0) w5:=by
         refine⟨0,rf,ca4,Nat.zero_le _,rfl,fun x=>by rw[qkX];rfl,?_,?_,fun q hq=>?_,T5,n5⟩
         ·rw[qaA,List.append_nil];exact hm0.out
         ·rw[qaA,List.append_nil,<-hm0.out];exact o5
         ·simp[Value.ownBlock] at hq;omega
        replace I0:=zH I0;clear o5 T5 n5;go_loopw [5,68] (fun v i wq=>IRel p w1 vv s' lv9 xs rf (vC nd b) nb A9 c9 v i wq) (fun _ i _=>xs.length-(intOf i).toNat)
        case atStart=>exact I0.out
        case round =>
         obtain⟨k,rf',ca',hk,rfl,yN,bC,aj,iG,TI,nI⟩:=hrel.ex;clear I0;by_cases hlt:k<xs.length
         ·have aI:=hlt;obtain⟨b9',off9,rfl,hb9⟩:=aK.out.its.at_.2.2.2 zO;obtain⟨A',c',d0,d1,d2,d3,d4,-⟩:=(TI.its C1.out aK.out).its.item k aI;obtain⟨⟨-,-,-,⟨nK,hr2⟩,-⟩,-⟩:=rJ.out xs[k] (List.getElem_mem aI);have HSK:=zH (fun h=>qgH (lvl:=lv9) aI h);have HPU:=zH (fun h h'=>qgG (lvl:=lv9) aI h h');have HRS:=zH (fun h=>qkW aI h yN);have HRB:=zH (fun h=>qkV aI h yN);generalize xs[k]=x at *;obtain⟨r,hr⟩:=Int.eq_ofNat_of_zero_le nK;rw[hr] at d3 hr2;have rH:r<256:=zO;rw[hr,Int.toNat_natCast] at HSK HPU HRS HRB;clear nK hr2;replace hr:=zH hr;replace yN:=zH yN;replace TI:=zH TI;replace aj:=zH aj;replace bC:=zH bC;replace iG:=zH iG;rcases Nat.eq_zero_or_pos r with hr0|hr0
          ·have xZ:((r:Int) == 0)=true:=by rw[beq_iff_eq];omega
           have sZ:=HRS.out hr0;have uk:=HSK.out (.inl hr0);replace hr0:=zH hr0;replace sZ:=zH sZ;replace uk:=zH uk;go_wp2_with fail;refine⟨⟨k+1,rf',ca',aI,rfl,sZ.out,?_,?_,iG.out,TI.out.ext (zN _ _),qb nI (zN _ _)⟩,by simp[intOf];omega⟩
           ·rw[uk.out];exact bC.out
           ·rw[uk.out];exact zm aj.out (zN _ _)
          ·have xZ:((r:Int) == 0)=false:=by rw[beq_eq_false_iff_ne];omega
           have hEL:¬r=0:=zO;have sZ:=HRB.out hEL;replace sZ:=zH sZ;replace hEL:=zH hEL;clear hr0;go_wp2_with fail;generalize dS:World.alloc wr _=w6;have x6:Ext wr w6:=by rw[<-dS];exact zN _ _
           have r6:w6.heap[wr.heap.size]?=some (.cells #[.int .u8 x.k,.int .u32 x.i,.int .u32 x.o,.int .i64 r,.slice A' x.val.length c'] 51 (0,0)):=by rw[<-dS];exact zI _ _ _ rfl
           clear dS d0 d1 d2 d3 d4;have T6:=TI.out.ext x6;have o6:=zm aj.out x6;have n6:=qb nI x6;have kr0:=T6.ar.ref r rH;have dS:wrap64 ((rf' r:Int)+1)=(rf' r:Int)+1:=IntWalk.wrap64_in _ (by have h1:=yN.out r;have h2:=List.count_le_length (a:=r) (l:=Kt xs k);have h3:=qch (xs:=xs) (k:=k);have h4:=qgN K.out.wk r;simp at h4;omega);have gR:∀ W,qj.r w6 W->W.cell? ⟨p.cb,6+r,none⟩=some (.int .i64 (rf' r:Int)):=fun W h=>by rw[qa (qb T6.row h)];exact kr0
           have gI:∀ W,qj.r w6 W->∀ i,W.cell? ⟨wr.heap.size,i,none⟩=#[.int .u8 x.k,.int .u32 x.i,.int .u32 x.o,.int .i64 r,.slice A' x.val.length c'][i]?:=fun W h=>qa (qb r6 h);refine qp zQ ?_;refine zo 0 11 (.pointer (some ⟨p.cb,0,none⟩)) zQ (by simp only[List.getElem?_toArray,List.getElem?_cons_zero];exact rfl) zQ zQ zQ zA0 (fun W=>?_) ?_
           ·go_simp
           simp only[Act.put,qf,qc,qg,zA,zB,zC];refine zo 3 10 (.pointer (some ⟨p.cb,0,none⟩)) zQ zA5 zQ zQ zQ zA0 (fun W=>?_) ?_
           ·go_simp
           simp only[Act.put,qf,qc,qg,zA,zB,zC];refine zo 8 9 (.pointer (some ⟨p.cb,0,none⟩)) zQ zA5 zQ zQ zQ zA0 (fun W=>?_) ?_
           ·go_simp
           simp only[Act.put,qf,qc,qg,zA,zB,zC];refine zo 9 8 (.pointer (some ⟨p.cb,6,none⟩)) zQ zA5 zQ zQ zQ zA0 (fun W=>?_) ?_
           ·go_simp
           simp only[Act.put,qf,qc,qg,zA,zB,zC];refine ZO (w:=w6) qj (qH []) [false,true,true,false,true,true,true,true,false,false,true] 1 zQ zQ zQ zQ zQ zQ ?st (Rel.drew _ _) ?walk
           case st=>exact qk (fun _ h=>by cases h)
           case walk =>
            intro K2 hK2;dsimp only[qu];refine zB6 ?_
            first
             |(refine qd (.pointer (some ⟨p.cb,6+r,none⟩)) zA0 zA0 (fun W hW _=>⟨W,?_,Rel.refl _ W⟩) ?_
               ·go_simp;intro ig;exfalso;omega
               simp only[Act.put,qf,qc,qg,zA,zB,zC])
             |skip
            refine zB6 ?_
            first
             |(refine qd (.pointer (some ⟨p.cb,6+r,none⟩)) zA0 zA0 (fun W hW _=>⟨W,?_,Rel.refl _ W⟩) ?_
               ·go_simp;intro ig;exfalso;omega
               simp only[Act.put,qf,qc,qg,zA,zB,zC])
             |skip
            refine zB6 ?_;refine qv (hK2 _ _ fun W hW hF=>?_);have iY:Ext w6 W:=hW;clear hF hK2 gR gI;refine zB5 ?_;have T7:=(T6.ext iY).addRef rH;have rc:=qb T6.row iY;have kc:=qa rc;have fc:=qe rc;have hlp:=T6.lt;have o7:(W.setCell ⟨p.cb,6+r,none⟩ (.int .i64 ((rf' r:Int)+1))).ownsRow w1.heap.size 3 1 _ _ _:=Vb (zm o6 iY) (p:=⟨p.cb,6+r,none⟩) hlp _;have n7:(W.setCell ⟨p.cb,6+r,none⟩ (.int .i64 ((rf' r:Int)+1))).heap[nb]?=_:=(zJ _ _ _ _ (by show nb≠p.cb;omega)).trans (qb n6 iY);have r7:(W.setCell ⟨p.cb,6+r,none⟩ (.int .i64 ((rf' r:Int)+1))).heap[wr.heap.size]?=_:=(zJ _ _ _ _ (by show wr.heap.size≠p.cb;have:=TI.out.off.size;omega)).trans (qb r6 iY);generalize (ca'.setIfInBounds (6+r) _)=ca7 at T7;replace rc:=zH rc;go_wp2;refine Qr ?_;rw[dS];generalize gp:W.setCell ⟨p.cb,6+r,none⟩ (.int .i64 ((rf' r:Int)+1))=w7 at *;clear gp kc fc rc iY T6 o6 n6 x6 r6 kr0 dS;have kn7:=qa n7;have kr7:=qa r7;replace T7:=zH T7;replace o7:=zH o7;rcases Nat.eq_zero_or_pos lv9 with hv0|hv0
            ·have nJ:decide ((lv9:Int)>0)=false:=decide_eq_false zO;have hq4:decide (0<lv9)=false:=decide_eq_false zO;have uk:=HSK.out (.inr hv0);replace uk:=zH uk;replace hv0:=zH hv0;go_wp2_with fail;refine⟨⟨k+1,vC rf' r,ca7,aI,rfl,sZ.out,?_,?_,iG.out,T7.out,n7⟩,by simp[intOf];omega⟩
             ·rw[uk.out];exact bC.out
             ·rw[uk.out];exact o7.out
            ·have nJ:decide ((lv9:Int)>0)=true:=decide_eq_true zO;have hq4:decide (0<lv9)=true:=decide_eq_true hv0;have uk:=HPU.out hEL.out hv0;replace uk:=zH uk;replace hv0:=zH hv0;have hlv7:=bC.out;have hEF:=iG.out;have hz7:nb<w7.heap.size:=(zG.1 n7).1;have sD:(s'++ZM lv9 xs k).length<1073741824:=by
              have h1:=K.out.few b;have h2:(ZM lv9 xs k).length<=k:=by
               unfold ZM;split
               ·exact qch
               ·simp
              simp at h1;rw[List.length_append];omega
             replace hlv7:=zH hlv7;replace hEF:=zH hEF;replace sD:=zH sD;obtain⟨i0,hi,ag,aV,aW⟩:=info_parts Tryz.info_int;go_wp2_with (at_builtin;refine Qh ?_);refine QF.go (js _ rfl (.tmp 89) (.tmp 92) 30 rfl w1.heap.size 3 i0 (.int .i64 0) 1 8 underlying30 hi ag aV aW rfl zD _ _ _ rfl o7.out #[.int .i64 (r:Int)] rfl rfl zA7 sD.out zD T7.out.off.size ?_);intro v8 w8 own8 g8 _ hGB;have T8:=T7.out.grown g8 fun q hq=>(QP o7.out q hq).1;have n8:=(g8.block nb hz7 (fun e=>hEF.out nb e.symm rfl)).trans n7;have hnb8:∀ q,v8.ownBlock=some q->q≠nb:=by
              intro q hq;rcases hGB with e|⟨q',e,e2⟩
              ·exact hEF.out q (e.symm.trans hq)
              ·rw[e] at hq;cases hq;omega
             obtain⟨A8,c8,hv8,-,-⟩:=qE own8;have hFQ:lenV v8=(s'++ZM lv9 xs (k+1)).length:=by rw[hv8,uk.out];simp only[lenV,List.length_append,List.length_cons,List.length_nil];omega
             have own9:w8.ownsRow w1.heap.size 3 1 v8 (s'++ZM lv9 xs (k+1)).length (Jo (s'++ZM lv9 xs (k+1))):=by
              have hcat:(s'++ZM lv9 xs (k+1)).length=(s'++ZM lv9 xs k).length+1:=by rw[uk.out,<-List.append_assoc,List.length_append,List.length_singleton]
              rw[hcat,uk.out,<-List.append_assoc,Ym];exact own8
             have IR:IRel p w1 vv s' lv9 xs rf (vC nd b) nb (some ⟨b9',off9,none⟩) c9 v8 (.int .i64 ((k:Int)+1)) w8:=⟨k+1,vC rf' r,ca7,aI,rfl,sZ.out,hFQ,own9,hnb8,T8,n8⟩
             replace IR:=zH IR;clear own8 g8 hGB hv8 hFQ own9 hnb8 T8 n8 hi ag aV aW;go_wp2_with fail;refine⟨IR.out,?_⟩;simp[intOf];omega
         ·have lU:k=xs.length:=zO;subst lU;have KN:=K.out.new hz.out bU hnode.out yN;have e1:=UA T.out.row T.out.ar;have e2:=UA TI.row TI.ar;have e3:=Ua (M:=Jz nd) (a:=b) (decide_eq_false (by have:=hz.out;omega)) 256;rw[<-Ko,if_pos bU] at e3;have bM:(ZM lv9 xs xs.length).length<=5:=by
           unfold ZM;split
           ·exact Nat.le_trans qch hlen
           ·simp
          replace e3:=zH e3;clear bP hw22 aO;go_wp2_with fail;go_roundw
          case rel =>exact⟨s'++ZM lv9 xs xs.length,rf',vC nd b,ca',bC,aj,TI,KN⟩
          case measure =>rw[e1,e2,bC,List.length_append,<-hm0.out];have e3':=e3.out;simp only[lenV];omega
       ·have dE:decide (((nd b+1:Nat):Int)>1)=true:=decide_eq_true zO;have bG:decide ((nd b:Int)+1>1)=true:=decide_eq_true zO;replace hz:=zH hz;go_wp2_with fail;go_roundw
        case rel =>exact⟨s',rf,vC nd b,ca4,hm0.out,by rw[<-hm0.out];exact o2.out,T2.out,K.out.again hz.out⟩
        case measure =>have e1:=UA T.out.row T.out.ar;have e2:=UA T2.out.row T2.out.ar;rw[Kp hz.out] at e2;rw[e1,e2];simp[lenV]
def ca0 (s1 s2 s3 s4:Value) (bb mb:Nat):Array Value:=(#[s1,s2,s3,s4,.pointer (some ⟨bb,0,none⟩),.map (some mb)]++Array.replicate 512 (.int .i64 0))++#[.slice none 0 0]
theorem ca_eq (s1 s2 s3 s4:Value) (bb mb:Nat):(((((Tryz.zeroCells96.setIfInBounds 0 s1).setIfInBounds 1 s2).setIfInBounds 2 s3).setIfInBounds 3 s4).setIfInBounds 4 (.pointer (some ⟨bb,0,none⟩))).setIfInBounds 5 (.map (some mb))=ca0 s1 s2 s3 s4 bb mb:=zQ
end Go.Proofs.YtmeadnlmepcmbaaGreat
