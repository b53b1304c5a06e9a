/- Lemmas of the proof. -/
import Derived.OrdersIn
import Derived.TacticsIn
import Derived.CallsIn
import Derived.RangeFuncKeeps
import Derived.Sort.CutIn
import Derived.Test.YtmeadnlmepcmbaaGreatZS11
set_option linter.all false
set_option maxHeartbeats 8000000
open Go.Proofs.Tryz
open Go.Value renaming slice→E,int→O,tuple→Oa,pointer→Od
open Go.Ending renaming returned→I
open Option renaming some→U,none→Y
open Go renaming World→X,Value→Og
open Go.Obj renaming cells→Z
open Bool renaming true→Ob,false→Of
open Go.IntKind renaming i64→Oc
open Go.World renaming alloc→Oe
namespace Go.Proofs.YtmeadnlmepcmbaaGreat
open Go.RowKit
variable {n k i:Nat}{xs:List It}{lvl:Int}{R:Ending->World->Prop}{a:Act}{W:World}{u v:Value}{ops:Array Oper}{o:Oper}
set_option maxRecDepth 100000 in
theorem qjP(x:It)(hx:QW x)(hb:itB x.r x.val.length=Ob)(A c)(w:X)(h:Bys w w (E A x.val.length c) x.val):Calls prog 203 #[Yc x.k x.i x.o x.r A x.val.length c] w (zv (IsB0 w (12+x.val.length) (ZO x)) w):=by
 have HC:=zH (λW=>Jz x.k x.i x.o x.r A x.val.length c W);rw[hb,show JQ Ob=0 from rfl]at HC;obtain⟨kk,ki,ko,kr,l⟩:=x;obtain⟨⟨hk1,hk2⟩,⟨hi1,hi2⟩,⟨ho1,ho2⟩,⟨hr1,hr2⟩,hl⟩:=hx;dsimp only at*;clear hb;obtain⟨k,rfl⟩:=Int.eq_ofNat_of_zero_le hk1;obtain⟨i,rfl⟩:=Int.eq_ofNat_of_zero_le hi1;obtain⟨o,rfl⟩:=Int.eq_ofNat_of_zero_le ho1;obtain⟨r,rfl⟩:=Int.eq_ofNat_of_zero_le hr1;have HB:Hid (ZO ⟨k,i,o,r,l⟩=[[UInt8.ofNat k],qT i 4,qT o 4,qT r 2,[UInt8.ofNat l.length],l].flatten):=by refine zH ?_;simp[ZO]
 have hkb:bv (UInt8.ofNat k)=O .u8 (k:Int):=by simp[bv];omega
 have hlb:bv (UInt8.ofNat l.length)=O .u8 ((l.length:Nat):Int):=by simp[bv];omega
 have HL:Hid ([[UInt8.ofNat k],qT i 4,qT o 4,qT r 2,[UInt8.ofNat l.length],l].flatten.length=12+l.length):=by refine zH ?_;simp[QV];omega
 have hcv:IntKind.u8.wrap ((l.length:Nat):Int)=((l.length:Nat):Int):=by simp[IntKind.wrap,IntKind.bits,IntKind.signed];omega
 replace⟨hkb,hlb,h⟩:=zH3 hkb hlb h;rw[HB.out];clear HB;generalize hFL:[[UInt8.ofNat k],qT i 4,qT o 4,qT r 2,[UInt8.ofNat l.length],l]=FL at*;go_enter func203,ntmps203;go_wp2_with fail;generalize hw1:Oe w _=w1;have x1:Ext w w1:=hw1▸zN _ _;have r1:w1.heap[w.heap.size]?=U (Z #[O .u8 k,O .u32 i,O .u32 o,r,E A l.length c] 51):=hw1▸zI _ _ _ rfl;clear hw1;refine(HC.out w1).mono ?_;rintro e w2 ⟨rfl,hB⟩;have x2:Ext w w2:=Ext.trans x1 hB;have r2:=qb r1 hB;have k2:=qa r2;clear hB r1 x1 HC;go_wp2_with fail;refine(qgB r zO _).mono ?_;rintro e w3 ⟨u,rfl,⟨u2,rfl,A2,c2,rfl,hb2,hf2⟩,hB⟩;have x3:Ext w w3:=Ext.trans x2 hB;have r3:=qb r2 hB;clear hB k2 r2 x2;go_wp2_with fail;have hE:∀W,Ext w3 W->∀j,W.cell? ⟨w,j,Y⟩=#[O .u8 k,O .u32 i,O .u32 o,r,E A l.length c][j]?:=λW h=>qa (qb r3 h);refine ZC (qV [(3,ZY w3.heap.size 1 5 #[O .u8 k]),(7,XQ w3.heap.size 4 (qT i 4)),(11,XQ w3.heap.size 4 (qT o 4)),(17,ZY w3.heap.size 1 5 #[O .u8 (l.length:Nat)]),(20,kQ w3.heap.size 6 26 (VI FL)),(21,XQ w3.heap.size (12+l.length) FL.flatten)]) 22 zQ zQ zQ zA1 zQ zQ ?st ?walk
 case st=>exact ZR (by simp only[List.forall_mem_cons];exact⟨jw _ _ _ _,JF _ _ _,JF _ _ _,jw _ _ _ _,Kx (VI.stable _),JF _ _ _,λ_ h=>by cases h⟩)
 case walk=>
  intro K hK;dsimp only[List.take];refine zC2 ?_;refine QT (ZY w3.heap.size 1 5 #[O .u8 k]) zA0 zA0 (λW hW _=>?_) (λ(p3:Nat)=>?_)
  ·refine Xg ?_ hW.size;go_simp
  refine zC2 ?_;refine QT (XQ w3.heap.size 4 (qT i 4)) zA0 zA0 (λW hW _=>?_) (λp7=>?_)
  ·refine Za ?_ ((Tg i zO W).mono λe w' h=>?_)
   ·go_simp
   obtain⟨u,rfl,⟨A,c,rfl,h1,h2⟩,h3⟩:=h;exact⟨(A,c),rfl,⟨h1,h2.mono hW.size⟩,h3⟩
  obtain⟨A7,c7⟩:=p7;refine zC2 ?_;refine QT (XQ w3.heap.size 4 (qT o 4)) zA0 zA0 (λW hW _=>?_) (λp11=>?_)
  ·refine Za ?_ ((Tg o zO W).mono λe w' h=>?_)
   ·go_simp
   obtain⟨u,rfl,⟨A,c,rfl,h1,h2⟩,h3⟩:=h;exact⟨(A,c),rfl,⟨h1,h2.mono hW.size⟩,h3⟩
  obtain⟨A11,c11⟩:=p11;refine zC2 ?_;refine QT (ZY w3.heap.size 1 5 #[O .u8 (l.length:Nat)]) zA0 zA0 (λW hW _=>?_) (λ(p17:Nat)=>?_)
  ·refine Xg ?_ hW.size;go_simp
  refine zC2 ?_;refine QT (kQ w3.heap.size 6 26 (VI FL)) zA0 zA0 (λW hW hp=>?_) (λ(p20:Nat)=>?_)
  ·obtain⟨f3,_⟩:W.heap[p3]?=U (Z #[O .u8 k] 5)/\w3.heap.size<=p3:=(hp 3 zA1).1;obtain⟨f7,_⟩:Bys W W (E A7 4 c7) (qT i 4)/\_:=(hp 7 zA1).1;obtain⟨f11,_⟩:Bys W W (E A11 4 c11) (qT o 4)/\_:=(hp 11 zA1).1;obtain⟨f17,_⟩:W.heap[p17]?=U (Z #[O .u8 (l.length:Nat)] 5)/\w3.heap.size<=p17:=(hp 17 zA1).1;have hR:VI FL [E p3 1 1,E A7 4 c7,E A11 4 c11,E A2 2 c2,E p17 1 1,E A l.length c] W:=by
    subst hFL;rw[<-hkb.out]at f3;rw[<-hlb.out]at f17;refine⟨rfl,λj v m hv hl=>?_⟩;rcases j with _|_|_|_|_|_|j
    cases hv;cases hl;exact Bys.lit (l:=[UInt8.ofNat k]) f3 (by simp[maxLen]);cases hv;cases hl;exact f7;cases hv;cases hl;exact f11;cases hv;cases hl;exact(hb2.below hW).more hW.size;cases hv;cases hl;exact Bys.lit (l:=[UInt8.ofNat l.length]) f17 (by simp[maxLen]);cases hv;cases hl;exact(h.out.below (Ext.trans x3 hW)).more (Ext.trans x3 hW).size;simp at hv
   refine Tl (cs:=#[E (U ⟨p3,0,Y⟩) 1 1,E A7 4 c7,E A11 4 c11,E A2 2 c2,E (U ⟨p17,0,Y⟩) 1 1,E A l.length c]) ?_ hW.size rfl ?_
   ·go_simp
   exact VI.stable _ _ _ _ (zN _ _) hR
  simp only[Act.put,qf,qc,qh,qv,Qz,zA,zB,zC];refine QT (XQ w3.heap.size (12+l.length) FL.flatten) zA0 zA0 (λW hW hp=>?_) (λp21=>?_)
  ·obtain⟨_,cs,hcs,hAH,hR⟩:=(hp 20 zA1).1;have hFn:FL.length=6:=by rw[<-hFL];rfl
   refine Za ?_ ((KU (U ⟨p20,0,Y⟩) 6 6 cs.toList FL (by simpa using hcs) hFn W (Rd.row hAH 6 hcs) (λi v l h1 h2=>hR.2 i v l h1 h2) zO (by rw[HL.out];omega)).mono λe w' h=>?_)
   ·go_simp
   rw[HL.out]at h;exact Tv h hW.size
  obtain⟨A21,c21⟩:=p21;refine zC2 ?_;refine jk (hK _ _ λW hW hF=>?_);obtain⟨f21,g21⟩:Bys W W (E A21 (12+l.length) c21) FL.flatten/\ZV w3 (E A21 (12+l.length) c21):=(hF 21).1;clear hF hK hE;have x4:Ext w W:=x3.trans hW;dsimp only[List.drop];go_wp2;refine bodyPost_ret (v:=Oa #[E A21 (12+l.length) c21,O Oc 0]) (by simp[results,results203,go_sem]) rfl ⟨_,rfl,⟨_,rfl,A21,c21,rfl,f21,g21.mono (by have:=x3.size;omega)⟩,x4⟩
def Ys(n:Nat)(b:List UInt8):List UInt8:=b++List.replicate (n-b.length) 0
theorem YK{b:List UInt8}(h:b.length<=n):(Ys n b).length=n:=by simp[Ys];omega
theorem pad_row(n:Nat)(b:List UInt8):List.take 0 (List.map bv (List.replicate n 0)).toArray.toList++List.map bv b++List.drop (0+b.length) (List.map bv (List.replicate n 0)).toArray.toList=(Ys n b).map bv:=by simp[Ys,List.map_replicate,List.drop_replicate]
def Zm(b:List UInt8):List UInt8:=qT (crc (Ys 124 b)) 4++Ys 124 b
theorem Vx{b:List UInt8}(h:b.length<=124):(Zm b).length=128:=by unfold Zm;rw[List.length_append,QV,YK h]
set_option maxRecDepth 100000 in
theorem seal_any(A c)(b:List UInt8)(hl:b.length<=124)(w:X)(h:Bys w w (E A b.length c) b):Calls prog 204 #[E A b.length c] w (zv (IsB0 w 128 (Zm b)) w):=by
 have hmk:∀w,(Instr.makeSlice 26 (O Oc 124) (O Oc 124)).run prog w=.ok (E (U ⟨w.heap.size,0,Y⟩) 124 124) (w.alloc (Z ((List.replicate 124 (0:UInt8)).map bv).toArray 5)):=λ_=>zQ;have hsz:(Tryz.prog.info? 5).map (·.size)=U 1:=zQ;have hcr:crc (Ys 124 b)<4294967296:=qjq _;have hd:decide ((b.length:Int)>124)=Of:=decide_eq_false zO;replace h:=zH h;go_enter func204,ntmps204;go_wp2_with fail;generalize hw1:Oe w _=w1;have x1:Ext w w1:=hw1▸zN _ _;have r1:w1.heap[w.heap.size]?=U (Z ((List.replicate 124 (0:UInt8)).map bv).toArray 5 (0,0)):=hw1▸zI _ _ _ rfl;clear hw1 hmk;have hcp:=qaa (P:=prog) w1 26 26 3 5 w.heap.size 0 124 124 A c b _ _ underlying26 hsz r1 (h.out.below x1) hl zA2;rw[hcp];clear hcp;have r2:=setRow_heap w1 w.heap.size _ (List.take 0 (List.map bv (List.replicate 124 0)).toArray.toList++List.map bv b++List.drop (0+b.length) (List.map bv (List.replicate 124 0)).toArray.toList).toArray _ _ r1;have x2:Below w w (w1.setRow w (List.take 0 (List.map bv (List.replicate 124 0)).toArray.toList++List.map bv b++List.drop (0+b.length) (List.map bv (List.replicate 124 0)).toArray.toList).toArray):=
  Below.grown x1 (qae _ _ _) x1.size (λg e=>by cases e;exact zM _)
 generalize hw2:w1.setRow w.heap.size (List.take 0 (List.map bv (List.replicate 124 0)).toArray.toList++List.map bv b++List.drop (0+b.length) (List.map bv (List.replicate 124 0)).toArray.toList).toArray=w2 at*;rw[pad_row]at r2;have hp:∀W,Ext w2 W->Bys W W.heap.size (E w 124 124) (Ys 124 b):=λW hW=>by refine⟨_,124,by rw[YK hl],Nat.le_of_eq (YK hl),zA7,by rw[YK hl];simp[YK hl],λ_=>⟨w.heap.size,0,rfl,?_,λj u hu=>?_⟩⟩;have:=(zG.1 (qb r2 hW)).1;omega;rw[Nat.zero_add,qa (qb r2 hW)];simpa using hu
 clear hw2 r1 x1;have HO:=zH (λW (hW:Ext w2 W)=>qft _ (Ys 124 b) W (hp W hW) (by rw[YK hl];omega));replace⟨hp,r2⟩:=zH2 hp r2;go_wp2_with fail;refine(HO.out _ (Ext.refl _)).mono ?_;rintro e w3 ⟨rfl,hB3⟩;have x3:Ext w2 w3:=hB3;clear hB3;have HF:=zH (Tg (crc (Ys 124 b)) hcr w3);go_wp2_with fail;refine HF.out.mono ?_;rintro e w4 ⟨u4,rfl,⟨A4,c4,rfl,hu4,hf4⟩,hB4⟩;have x4:Ext w2 w4:=x3.trans hB4;clear HF hB4;go_wp2_with fail;generalize hw5:Oe w4 _=w5;have x45:Ext w4 w5:=hw5▸zN _ _;have r5:w5.heap[w4.heap.size]?=U (Z #[E A4 4 c4,E w 124 124] 26):=hw5▸zI _ _ _ rfl;clear hw5;have x5:=x4.trans x45;have hfl:[qT (crc (Ys 124 b)) 4,Ys 124 b].flatten=Zm b:=by simp[Zm]
 have HC:=KU (U ⟨w4.heap.size,0,Y⟩) 2 2 [E A4 4 c4,E (U ⟨w.heap.size,0,Y⟩) 124 124] [qT (crc (Ys 124 b)) 4,Ys 124 b] rfl rfl w5 ⟨rfl,λ_=>⟨w4.heap.size,0,rfl,(zG.1 r5).1,λj u hu=>by rw[Nat.zero_add,qa r5];simpa using hu⟩⟩
  (λi v l hv hl'=>by
   rcases i with _|_|i
   cases hv;cases hl';exact(hu4.below x45).more x45.size;cases hv;cases hl';exact hp.out w5 x5
   ·simp at hv) zO (by rw[hfl,Vx hl];omega)
 rw[hfl,Vx hl]at HC;replace⟨HC,hu4⟩:=zH2 HC hu4;go_wp2_with fail;refine HC.out.mono ?_;rintro e w6 ⟨u6,rfl,hAD,hB6⟩;have x6:Below w w w6:=x2.trans (Below.mono (Ext.trans x5 hB6) x2.size);have HI:=zH ((IsB.of_own hAD));go_wp2_with fail;refine bodyPost_ret (v:=Oa #[u6,O Oc 0]) (by simp[results,results204,go_sem]) rfl ⟨_,rfl,⟨u6,rfl,?_⟩,x6⟩;obtain⟨A',c',h1,h2,h3⟩:=HI.out;exact⟨A',c',h1,h2,h3.mono (by have:=x2.size;have:=x5.size;omega)⟩
def Vz(lvl:Int)(n:Nat)(xs:List It)(k:Nat):List UInt8:=78::UInt8.ofNat lvl.toNat::UInt8.ofNat n::zo (xs.take k)
theorem qiL(lvl:Int)(n:Nat)(hk:k<xs.length):Vz lvl n xs (k+1)=Vz lvl n xs k++ZO xs[k]:=by unfold Vz zo;rw[List.take_succ_eq_append_getElem hk,List.flatMap_append];simp only[List.flatMap_cons,List.flatMap_nil,List.append_nil,List.cons_append]
theorem XC(lvl:Int)(xs:List It):Vz lvl xs.length xs xs.length=QF lvl xs:=by unfold Vz QF;rw[List.take_length]
theorem XE(lvl:Int)(n:Nat)(k:Nat)(h:∀x∈xs,QW x)(hl:xs.length<=5):(Vz lvl n xs k).length<=123:=by
 have h1:=Xi (xs.take k) (λx hx=>h x (List.mem_of_mem_take hx));have h2:(xs.take k).length<=xs.length:=by rw[List.length_take];omega
 unfold Vz;simp only[List.length_cons];omega
theorem Jh(h:Qq lvl xs=Ob):0<=lvl/\lvl<6/\xs.length<=5/\∀x∈xs,itB x.r x.val.length=Ob:=by unfold Qq at h;rw[Bool.and_eq_true]at h;have h1:0<=lvl/\lvl<6/\xs.length<=5/\(0<lvl->xs.length≠0):=of_decide_eq_true h.1;refine⟨h1.1,h1.2.1,h1.2.2.1,λx hx=>?_⟩;obtain⟨i,hi,rfl⟩:=List.getElem_of_mem hx;have h2:=List.all_eq_true.1 h.2 i (List.mem_range.2 hi);unfold qba at h2;rw[zL hi]at h2;simp only[Bool.and_eq_true]at h2;exact h2.1.1
theorem qde(h2:a.tmps[2]?.getD undef=u)(h3:a.tmps[3]?.getD undef=v)(hd:a.defers=[])(hR:R (I (Oa #[u,v])) W):bodyPost prog Tryz.f195 R .ret a W:=by refine bodyPost_ret (v:=Oa #[u,v]) ?_ hd hR;simp[results,results195,go_sem,h2,h3]
structure NWr(lvl:Int)(xs:List It)(w2:X)(v i:Og)(wr:X):Prop where
 ex:∃k:Nat,k<=xs.length/\i=O Oc (k:Int)/\wr.ownsRow w2 5 1 v (Vz lvl xs.length xs k).length ((Vz lvl xs.length xs k).map bv)/\Ext w2 wr
theorem qkd(lvl:Int)(A n c)(xs:List It)(w:X)(hx:Its w w (E A n c) xs)(hm:Qq lvl xs=Of):Calls prog 195 #[Jc lvl A n c] w (Ret (Oa #[E Y 0 0,O Oc 8]) w):=by have HC:=zH (λW (hW:Ext w W)=>Kv lvl A n c xs W (hx.ext hW));rw[hm,show JQ Of=8 from rfl]at HC;clear hx;go_enter func195,ntmps195;go_wp2_with fail;generalize hw1:Oe w _=w1;have x1:Ext w w1:=hw1▸zN _ _;clear hw1;refine(HC.out w1 x1).mono ?_;rintro e w2 ⟨rfl,hB⟩;have x2:Below w w w2:=Ext.trans x1 hB;clear hB;go_wp2;exact qde rfl rfl rfl ⟨rfl,x2⟩
set_option maxRecDepth 100000 in
theorem qdd(lvl:Int)(A n c)(xs:List It)(w:X)(hx:Its w w (E A n c) xs)(hm:Qq lvl xs=Ob)(ho:∀x∈xs,QW x):Calls prog 195 #[Jc lvl A n c] w (zv (IsB0 w 128 (Zm (QF lvl xs))) w):=by
 have HC:=zH (λW (hW:Ext w W)=>Kv lvl A n c xs W (hx.ext hW));rw[hm,show JQ Ob=0 from rfl]at HC;obtain⟨hl1,hl2,hl5,hib⟩:=Jh hm;obtain⟨hn,hcn,hcm,hA⟩:=hx.at_;subst hn;obtain⟨L,rfl⟩:=Int.eq_ofNat_of_zero_le hl1;have hcv:IntKind.u8.wrap ((xs.length:Nat):Int)=((xs.length:Nat):Int):=by simp[IntKind.wrap,IntKind.bits,IntKind.signed];omega
 have hcl:IntKind.u8.wrap (L:Int)=(L:Int):=by simp[IntKind.wrap,IntKind.bits,IntKind.signed];omega
 have hFZ:(Vz (L:Int) xs.length xs 0).map bv=[O .u8 78,O .u8 (L:Int),O .u8 (xs.length:Nat)]:=by simp[Vz,zo,bv];omega
 have hX:=zH hx;have hO:=zH ho;have hI:=zH hib;clear hx ho hib hm;go_enter func195,ntmps195;go_wp2_with fail;generalize hw1:Oe w _=w1;have x1:Ext w w1:=hw1▸zN _ _;have r1:w1.heap[w.heap.size]?=U (Z #[L,E A xs.length c] 113):=hw1▸zI _ _ _ rfl;clear hw1;refine(HC.out w1 x1).mono ?_;rintro e w2 ⟨rfl,hB⟩;have x2:Below w w w2:=Ext.trans x1 hB;have r2:=qb r1 hB;have k2:=qa r2;clear hB r1 x1 HC;go_upto_region 5 with fail;generalize hw3:Oe w2 _=w3;have x3:Ext w2 w3:=hw3▸zN _ _;have o3:w3.ownsRow w2 5 1 (E w2 3 3) (Vz (L:Int) xs.length xs 0).length ((Vz (L:Int) xs.length xs 0).map bv):=by rw[hFZ,<-hw3];exact World.ownsRow_lit (base:=w2.heap.size) (e:=5) (size:=1) w2 #[O .u8 78,O .u8 (L:Int),O .u8 (xs.length:Nat)] 3 (zM _) zA7 rfl
 have r3:=qb r2 x3;have k3:=qa r3;clear hw3 k2 hFZ;have I0:NWr (L:Int) xs w2 (E w2 3 3) (O Oc 0) w3:=⟨0,Nat.zero_le _,rfl,o3,x3⟩
 replace I0:=zH I0;clear o3;go_wp2_with fail;clear k3 r3;go_loopw [5,26] (λv i wr=>NWr (L:Int) xs w2 v i wr) (λ_ i _=>xs.length-(intOf i).toNat)
 case atStart=>exact I0.out
 case round=>
  obtain⟨k,hk,rfl,own,xr⟩:=hrel.ex;clear hrel I0;by_cases hlt:k<xs.length
  ·have hBP:=hlt;obtain⟨b,off,rfl,hb⟩:=hA zO;have xw:Ext w wr:=Ext.trans x2 xr;obtain⟨A',c',d0,d1,d2,d3,d4,hby⟩:=(hX.out.ext xw).item k hBP;have hok:=hO.out xs[k] (List.getElem_mem hBP);have hib:=hI.out xs[k] (List.getElem_mem hBP);have hsu:=zH (qiL (L:Int) xs.length hBP);have htl:=XE (L:Int) xs.length k hO.out hl5;have hvl:xs[k].val.length<=12:=hok.2.2.2.2;have HW:=zH (λW (hW:Ext wr W)=>qjP xs[k] hok hib A' c' W ((hby.below hW).more hW.size));generalize xs[k]=x at*;replace⟨own,htl⟩:=zH2 own htl;clear hby hok hib;go_wp2_with fail;generalize hw4:Oe wr _=w4;have x4:Ext wr w4:=hw4▸zN _ _;clear hw4 d0 d1 d2 d3 d4;refine(HW.out w4 x4).mono ?_;rintro e w5 ⟨u,rfl,⟨u5,rfl,A5,c5,rfl,hb5,hf5⟩,hB⟩;have x5:Ext wr w5:=x4.trans hB;have own5:=zX own.out x5;clear hB x4 own;obtain⟨i0,hi,hz0,hz1,hz2⟩:=info_parts Tryz.info_u8;obtain⟨A6,c6,e6,hc6,hm6,hr6⟩:=hb5;simp only[Value.slice.injEq]at e6;obtain⟨rfl,e7,rfl⟩:=e6;go_wp2_with (at_builtin;refine Qa ?_);refine Qs.go (QG _ rfl (.tmp 35) (.tmp 36) 26 rfl w2.heap.size 5 i0 (O .u8 0) 1 1 underlying26 hi hz0 hz1 hz2 rfl zA1 _ _ _ rfl own5 w5.heap.size A5 _ c5 ((ZO x).map bv) rfl hr6 (Gp _) (by have:=htl.out;omega) zA1 (Nat.le_trans xr.size x5.size) ?_);intro v8 w8 own8 _ hB8 _;have IR:NWr (L:Int) xs w2 v8 (O Oc ((k:Int)+1)) w8:=⟨k+1,hBP,rfl,by rw[hsu.out,List.map_append,List.length_append];exact own8,Below.trans (Ext.trans xr x5) hB8⟩
   replace IR:=zH IR;clear own8 hB8 hi hz0 hz1 hz2 own5;go_wp2_with fail;refine⟨IR.out,?_⟩;simp[intOf];omega
  obtain rfl:k=xs.length:=zO;rw[XC]at own;have hl3:(QF (L:Int) xs).length<=124:=by have:=XE (L:Int) xs.length xs.length hO.out hl5;rw[XC]at this;omega
  obtain⟨A6,c6,e6,hc6,hm6,hr6⟩:=Bys.of_own own;have hby:=Bys.of_own own;subst e6;have HS:=zH (seal_any A6 c6 (QF (L:Int) xs) hl3 wr hby);have xw:Below w w wr:=Ext.trans x2 xr;clear hby hr6 own;replace xr:=zH xr;go_wp2_with fail;refine HS.out.mono ?_;rintro e w7 ⟨u,rfl,⟨u7,rfl,hI7⟩,hB⟩;have x7:Below w w w7:=xw.trans (Below.mono hB xw.size);have hI8:IsB0 w 128 (Zm (QF (L:Int) xs)) (Oa #[u7,O Oc 0]) w7:=by obtain⟨A',c',q1,q2,q3⟩:=hI7;exact⟨u7,rfl,A',c',q1,q2,q3.mono xw.size⟩
  clear hB hI7;replace hI8:=zH hI8;go_wp2_with fail;exact qde rfl rfl rfl ⟨_,rfl,hI8.out,x7⟩
structure qgT(F:Fence):Prop where
 fn:∀f,F.fn f
 depth:¬F.depth.isSome=Ob
 call:∀{n:Nat}{P:Program}{f:FuncId}{args:Array Og}{w:X}{R:Ending->X->Prop},Calls P f args w R->CallsIn F n P f args w R
theorem wideF:qgT Fence.wide:=⟨λ_=>trivial,λh=>(by cases h),λh=>callsIn_wide.2 h⟩
theorem vM(l:Nat):qgT (Fence.wide.inRound l):=⟨λ_=>trivial,λh=>(by cases h),λh=>CallsIn.inRound l (callsIn_wide.2 h)⟩
def Xp(ops:Array Oper):Bool:=ops.toList.all λo=>match o.op with | .defer _=>Of|_=>Ob
theorem Xq(h:Xp ops=Ob)(ho:ops[i]?=o):∀c,o.op≠.defer c:=by intro c hc;have h1:=List.all_eq_true.1 h o (by have:=Array.mem_of_getElem? ho;simpa using this);rw[hc]at h1;cases h1
section
variable {F:Fence} {P:Program} {ops:Array Oper} {n:Nat}
theorem qbK{Q':Exit->Act->X->Prop}:∀(l:List Oper)(k:Nat)(listed:Array Bool)(a:Act)(W:X),(∀j,j<l.length->l[j]?=ops[k+j]?)->qad ops l.length k listed=Ob->wpListIn F n P ops Q' l a W->wpAnyIn F n P .any ops Q' l.length listed a W
 |[],_,_,_,_,_,hB,h=>⟨by simpa [qad]using hB,h⟩
 |o::l,k,listed,a,W,hl,hB,h=>by
  simp only[List.length_cons,qad,Bool.and_eq_true]at hB;obtain⟨hr,hB'⟩:=hB;have hr':Region.ready .any ops listed=[k]:=by simpa using hr
  have h0:ops[k]?=o:=by simpa using(hl 0 zA3).symm
  refine⟨λe=>(by rw[hr']at e;cases e),λi hi=>?_⟩;rw[hr']at hi;obtain rfl:i=k:=by simpa using hi
  have hl':∀j,j<l.length->l[j]?=ops[i+1+j]?:=λj hj=>by have:=hl (j+1) (by simpa using hj);simpa [Nat.add_assoc,Nat.add_comm 1 j]using this
  refine wpOpIn_mono (λa w hw=>qbK l (i+1) _ a w hl' hB' hw) ?_;unfold wpOpIn;simp only[h0];exact h
end
section
variable {F0:Fence} {R:Rel} {P:Program} {ops:Array Oper} {w0:World} {n:Nat}
theorem qbT(HF:qgT F0)(HN:Xp ops=Ob){H:Nat->Option Qd}{i:Nat}{o:Oper}{a:Act}{F:qR}{K:Act->qR->Prop}{K':Act->X->Prop}{Q':Exit->Act->X->Prop}{W:X}(hi:ops[i]?=o)(hH:∀i h,H i=U h->∀p,qU R (h.φ p))(hst:∀k,qU R (F k))(hW:R.r w0 W)(hF:∀k,F k W)(hK:∀a' F' W',K a' F'->(∀k,qU R (F' k))->R.r w0 W'->(∀k,F' k W')->K' a' W')(h:FOpG R P ops w0 H i o K a F):wpOpIn F0 n P ops Q' i K' a W:=by
 obtain⟨hh,hok,hn⟩:=h;have go:∀p W',R.r W W'->hh.φ p W'->K' (a.put o.dst (hh.f p)) W':=λp W' he hφ=>by
  have hF':∀k,upd F i o (hh.φ p) k W':=λk=>by unfold upd;split;exact⟨hφ,λj _=>hst j _ _ he (hF j)⟩;exact hst k _ _ he (hF k)
  exact hK _ _ W' (hn p ⟨W',R.trans hW he,hF'⟩) (jq hst i o (hok.stable hH p)) (R.trans hW he) hF'
 unfold wpOpIn;simp only[hi];rcases hok with⟨x1,rfl⟩|⟨x1,x2,v,rfl,x3⟩|⟨x1,x2,x3⟩
 simp only[x1,Bool.false_eq_true,if_false];exact⟨λf _=>HF.fn f,go () W (R.refl W) trivial⟩;simp only[x1,if_true];obtain⟨w',hr,he⟩:=x3 W hW λk _=>hF k;refine⟨λf _=>HF.fn f,?_⟩;rw[Oper.semAt_eq _ _ _ (Xq HN hi),hr];exact go () w' he trivial;simp only[x1,if_true];have h3:=x3 W hW λk _=>hF k;unfold Qw at h3;refine⟨λf _=>HF.fn f,?_⟩;rw[Oper.semAt_eq _ _ _ (Xq HN hi)];generalize(execOp a.eval o).run P W=r at*;cases r with
 |ok m w'=>
  cases m<;>simp only[Zn]at h3<;>simp only[Oper.uponIn]
  case value u=>obtain⟨p,rfl,hp,he⟩:=h3;exact go p w' he hp
  case skip=>
   obtain⟨p,e,hp,he⟩:=h3;have:=go p w' he hp
   rwa [<-e]at this
  case enter f args=>obtain⟨he,hcl⟩:=h3;refine⟨λh=>absurd h HF.depth,HF.call (hcl.mono λe w'' ⟨p,he1,hp,he2⟩=>?_)⟩;subst he1;exact go p w'' (R.trans he he2) hp
 |halt x w'=>simp only[Zn]at h3
theorem YT(HF:qgT F0)(HN:Xp ops=Ob){H:Nat->Option Qd}(hH:∀i h,H i=U h->∀p,qU R (h.φ p)){L:Array Bool}{t:Nat}{Q:Act->qR->Prop}{Q':Exit->Act->X->Prop}(hQ:∀a F W,Q a F->R.r w0 W->(∀k,F k W)->wpAnyIn F0 n P .any ops Q' t L a W):∀(fuel:Nat)(listed:Array Bool)(a:Act)(F:qR)(W:X),(∀k,qU R (F k))->R.r w0 W->(∀k,F k W)->Kb R P ops w0 H L Q fuel listed a F->wpAnyIn F0 n P .any ops Q' (fuel+t) listed a W
 |0,listed,a,F,W,_,hW,hF,h=>by rw[h.1,Nat.zero_add];exact hQ a F W h.2 hW hF
 |fuel+1,listed,a,F,W,hst,hW,hF,h=>by rw[show fuel+1+t=fuel+t+1 by omega];refine⟨λh0=>absurd h0 h.1,λi hi=>?_⟩;obtain⟨_,o,ho,_⟩:=mem_ready.1 hi;exact qbT HF HN ho hH hst hW hF (λa' F' W' hk hJP hW' hF'=>YT HF HN hH hQ fuel _ a' F' W' hJP hW' hF' hk) (h.2 i hi o ho)
theorem zu{id:Nat}{l:List Oper}{Q:Exit->Act->X->Prop}{a:Act}{w:X}(R:Rel)(H:Nat->Option Qd)(M:List Bool)(t:Nat)(HF:qgT F0)(HN:Xp l.toArray=Ob)(hm:P.follows .mixedOrders=Ob)(hs:Region.noSelect l.toArray=Ob)(ht:qfu l.toArray (QX l.length (l.length-t)) ((qA 0 l M).map (·.1))=Ob)(hc0:Xb l.toArray (Array.replicate l.length Of)=Ob)(hB:Zs l.toArray (QX l.length (l.length-t)) ((qA 0 l M).map (·.1)) (Array.replicate l.length Of)=Ob)(hKZ:qad l.toArray t (l.length-t) (QX l.length (l.length-t))=Ob)(hfu:l.length=(qA 0 l M).length+t)(htl:(l.drop (l.length-t)).length=t)(hH:∀i h,H i=U h->∀p,qU R (h.φ p))(hW:R.r w w.drew)(h:∀K:Act->qR->Prop,(∀a' F',(∀W,R.r w W->(∀k,F' k W)->wpListIn F0 n P l.toArray Q (l.drop (l.length-t)) a' W)->K a' F')->jJ R P l.toArray w H K (qA 0 l M) a (λ_ _=>True)):(Code.region id l.toArray Ob).wpIn F0 n P Q a w:=by
 have h:=h _ (λa' F' hh=>hh);refine wpIn_region_any hm ?_;have key:=TM (w0:=w) hH hs (λ_ _ h=>h.step) (XB ht) (qA 0 l M) (Array.replicate l.length Of) a (λ_ _=>True) (vN hc0) (λx hx=>by obtain⟨j,h1,h2⟩:=vV l M 0 x hx;refine⟨?_,List.mem_map.2 ⟨x,hx,rfl⟩⟩;rw[h1,Nat.zero_add];simpa using h2) hB (λ_ _ _ _ _=>trivial) ⟨w.drew,hW,λ_=>trivial⟩ (λ_ _ _=>trivial) h;have:=YT (n:=n) (w0:=w) HF HN hH (t:=t) (Q':=Q) (λa F W hq hW hF=>by
  have:=qbK (F:=F0) (n:=n) (l.drop (l.length-t)) (l.length-t) _ a W (λj _=>by rw[List.getElem?_drop];simp) (by rw[htl];exact hKZ) (hq W hW hF)
  rwa [htl]at this) _ _ _ _ w.drew (λ_ _ _ _ _=>trivial) hW (λ_=>trivial) key
 rw[<-hfu]at this;simpa using this
end
end Go.Proofs.YtmeadnlmepcmbaaGreat
namespace Go.Proofs.YtmeadnlmepcmbaaGreat
open Go.RowKit Go.Shelf
attribute [local go_sem] Oper.semAt_some
variable {k m B:Nat}{S:Sto}{w:World}{v:Value}
def YB(S:Sto)(a:Nat):Nat:=(S.last[a]?.getD 0).toNat
def jD(S:Sto)(a:Nat):Bool:=decide (8<=a)&&(decide (Zy S a=0)&&decide (YB S a=0))
def JV(S:Sto)(k:Nat):List Nat:=(List.range k).filter (jD S)
def ZK(S:Sto):List Nat:=JV S 256
theorem Th(S:Sto)(k:Nat):JV S (k+1)=if jD S k=Ob then JV S k++[k]else JV S k:=by unfold JV;rw[List.range_succ,List.filter_append];by_cases h:jD S k=Ob;rw[if_pos h];simp[h];rw[if_neg h];simp[h]
theorem qjC(S:Sto)(k:Nat):(JV S k).length<=k:=Nat.le_trans (List.length_filter_le _ _) zA3
theorem freeTo_8(S:Sto):JV S 8=[]:=by
 unfold JV;rw[List.filter_eq_nil_iff];intro a ha;have:a<8:=by simpa using ha
 unfold jD;simp[show ¬8<=a by omega]
theorem qcy(S:Sto)(h:k<=m):JV S k <+:JV S m:=by
 induction m with
 |zero=>
  obtain rfl:k=0:=zO;exact List.prefix_refl _
 |succ m ih=>
  rcases Nat.lt_or_ge m k with h1|h1
  obtain rfl:k=m+1:=zO;exact List.prefix_refl _;refine(ih h1).trans ?_;rw[Th];split;exact List.prefix_append _ _;exact List.prefix_refl _
theorem qld(S:Sto)(a:Nat):Zy S a<256:=UInt8.toNat_lt _
theorem qhQ(S:Sto)(a:Nat):YB S a<256:=UInt8.toNat_lt _
theorem qlg(a b:Nat)(ha:a<256)(hb:b<256):(bits .or .u8 (a:Int) (b:Int)==0)=(decide (a=0)&&decide (b=0)):=by
 have e:bits .or .u8 (a:Int) (b:Int)=((a||| b:Nat):Int):=by
  have e:∀n:Nat,n<256->(BitVec.ofInt 8 (n:Int)).toNat=n:=λn hn=>by simp[BitVec.ofInt_natCast];omega
  have hx:a||| b<2^8:=Nat.or_lt_two_pow zO zO
  show IntKind.u8.wrap (((BitVec.ofInt 8 (a:Int)||| BitVec.ofInt 8 (b:Int)).toNat:Nat):Int)=_;rw[BitVec.toNat_or,e a ha,e b hb];simp[IntKind.wrap,IntKind.bits,IntKind.signed];omega
 rw[e];by_cases h:a=0/\b=0;obtain⟨rfl,rfl⟩:=h;rfl;have h2:a||| b≠0:=by
  intro h3;have h4:a<=a||| b:=Nat.left_le_or
  have h5:b<=a||| b:=Nat.right_le_or
  exact h ⟨zO,zO⟩
 have h6:(decide (a=0)&&decide (b=0))=Of:=by
  rcases Nat.eq_zero_or_pos a with h7|h7
  have:b≠0:=λh8=>h ⟨h7,h8⟩;simp[this];simp[show a≠0 by omega]
 rw[h6];simpa using λh9:((a||| b:Nat):Int)=0=>h2 zO
theorem last_at(hS:qk S=Ob)(h:Bys w B v S.last):∃b o c,v=E (U ⟨b,o,Y⟩) 256 c/\b<B/\∀a,a<256->w.cell? ⟨b,o+a,Y⟩=U (O .u8 (YB S a:Int)):=by obtain⟨-,-,-,hl⟩:=qZ hS;obtain⟨A,c,e,hc,hm,hr⟩:=h;obtain⟨b,o,rfl,hb,hAG⟩:=hr.2 zO;rw[hl]at e;exact⟨b,o,c,e,hb,λa ha=>hAG a _ (by rw[List.getElem?_map,zL zO];unfold YB;rw[zL zO];rfl)⟩
set_option maxRecDepth 100000 in
theorem free_in(n:Nat)(hn:1<=n)(l bs n₀:Nat)(v1 v2 v3 v4:Og)(S:Sto)(hS:qk S=Ob)(J Jx:List Nat->X->Prop)(hY:∀pre x W,J pre W->pre.length<256->YieldAt Fence.wide (n-1) prog l #[O Oc ((x:Nat):Int)] W λe W'=>(e=I (.bool Ob)/\J (pre++[x]) W'/\Below n₀ W W')\/(e=I (.bool Of)/\Jx (pre++[x]) W'))(hJ:∀pre W W',J pre W->Ext W W'->J pre W')(W:X)(hbs:bs<n₀)(hn₀:n₀<=W)(hAH:W.heap[bs]?=U (Z #[v1,v2,v3,v4] 28))(hst:Qi W n₀ v1 v2 v3 v4 S)(h0:J [] W):CallsIn Fence.wide n prog 187 #[.func (.yield l) #[] #[],Od bs] W λe W'=>(∃v,e=I v)/\((∃ys,ys=ZK S/\J ys W')\/(∃pre,pre <+:ZK S/\Jx pre W')):=by
 obtain⟨b3,o3,c3,rfl,hb3,hc3⟩:=qaG hS hst.now;obtain⟨b4,o4,c4,rfl,hb4,hc4⟩:=last_at hS hst.last;replace hst:=zH hst;refine callsIn_of_wp func187 rfl trivial ?_ rfl;simp only[ntmps187,List.size_toArray,List.length_cons,List.length_nil,Nat.reduceAdd,Nat.reduceSub,Array.replicate_succ,Array.replicate_zero,List.push_toArray,List.append_toArray,List.nil_append,List.cons_append]
 gi_wp2_with fail
 gi_loopw [3] (λi wr=>∃k:Nat,8<=k/\k<=256/\i=O Oc (k:Int)/\J (JV S k) wr/\Below n₀ W wr) (λi _=>256-(intOf i).toNat)
 case atStart=>exact⟨8,zO,zO,rfl,by rw[freeTo_8];exact h0,Below.refl _ _⟩
 case round=>
  obtain⟨k,hk8,hk,rfl,hJs,hB⟩:=hrel;have hro:=(hB.block bs hbs).trans hAH;by_cases hlt:k<256
  ·have hcx:=(World.cell?_of_block (a:=⟨b3,o3+k,Y⟩) (hB.block b3 hb3)).trans (hc3 k hlt);have hcy:=(World.cell?_of_block (a:=⟨b4,o4+k,Y⟩) (hB.block b4 hb4)).trans (hc4 k hlt);have gS:∀W',qp.r wr W'->∀i,W'.cell? ⟨bs,i,Y⟩=#[v1,v2,E (b3,o3) 256 c3,E (b4,o4) 256 c4][i]?:=λW' h=>qa (qb hro h);have gX:∀W',qp.r wr W'->W'.cell? (b3,o3+k)=U (O .u8 (Zy S k:Int)):=λW' h=>Ext.cell h hcx;have gY:∀W',qp.r wr W'->W'.cell? (b4,o4+k)=U (O .u8 (YB S k:Int)):=λW' h=>Ext.cell h hcy;have hsu:=zH (Th S k);have hfb:jD S k=(decide (Zy S k=0)&&decide (YB S k=0)):=by unfold jD;simp[hk8]
   have hbz:(bits .or .u8 ((Zy S k:Nat):Int) ((YB S k:Nat):Int)==0)=jD S k:=qlg _ _ (qld S k) (qhQ S k)▸hfb.symm;generalize Zy S k=nw at*;generalize YB S k=lw at*;replace⟨hfb,hc3,hc4,hro⟩:=zH4 hfb hc3 hc4 hro;have hln:=zH (qjC S k);clear hcx hcy;rcases Bool.eq_false_or_eq_true (jD S k)with hfr|hfr
   ·rw[hfr]at hbz;replace hsu:=zH ((if_pos hfr)▸hsu.out);replace hfr:=zH hfr
    gi_upto_region 3 with fail
    refine zu qp (qV []) (List.replicate 15 Ob) 3 wideF zQ zQ zQ zQ zQ zQ zQ zQ zQ ?st (Rel.drew _ _) ?walk
    case st=>intro i h hx;simp[qV]at hx
    case walk=>
     intro K hK;dsimp only[qA,List.replicate];refine zB6 ?_
     first
      |(refine qe (Od (U ⟨b3,o3+k,Y⟩)) zA0 zA0 (λW hW _=>⟨W,?_,Rel.refl _ W⟩) ?_
        ·go_simp;rw[IntWalk.i64_in (k:Int) zO,if_pos zO];simp
        simp only[Act.put,qo,qf,qc,qh,zA,zB,zC])
      |skip
     refine zB6 ?_
     first
      |(refine qe (Od (U ⟨b4,o4+k,Y⟩)) zA0 zA0 (λW hW _=>⟨W,?_,Rel.refl _ W⟩) ?_
        ·go_simp;rw[IntWalk.i64_in (k:Int) zO,if_pos zO];simp
        simp only[Act.put,qo,qf,qc,qh,zA,zB,zC])
      |skip
     refine zB6 ?_;refine qF (hK _ _ λW2 hW hF=>?_);clear hF hK;refine zB5 ?_;obtain⟨fn,tm,asg,bdy,hy,hR⟩:=hY (JV S k) k W2 (hJ _ _ _ hJs hW) (by have:=hln.out;omega)
     gi_wp2_with fail
     refine hR.mono ?_;rintro e W3 (⟨rfl,hJ3,hk3⟩|⟨rfl,hKP⟩)
     ·gi_wp2_with fail
      go_roundw
      case rel=>exact⟨k+1,zO,zO,by go_num,by rw[hsu.out];exact hJ3,hB.trans ((Below.mono hW (Nat.le_trans hn₀ hB.size)).trans hk3)⟩
      case measure=>simp[intOf];omega
     gi_wp2_with fail
     refine bodyPost_ret (results_none rfl _ _ _) rfl ?_;exact⟨⟨_,rfl⟩,.inr ⟨_,hsu.out▸qcy S zO,hKP⟩⟩
   rw[hfr]at hbz;replace hsu:=zH ((if_neg (show ¬jD S k=Ob by rw[hfr];decide))▸hsu.out);replace hfr:=zH hfr
   gi_upto_region 3 with fail
   refine zu qp (qV []) (List.replicate 15 Ob) 3 wideF zQ zQ zQ zQ zQ zQ zQ zQ zQ ?st (Rel.drew _ _) ?walk
   case st=>intro i h hx;simp[qV]at hx
   case walk=>
    intro K hK;dsimp only[qA,List.replicate];refine zB6 ?_
    first
     |(refine qe (Od (U ⟨b3,o3+k,Y⟩)) zA0 zA0 (λW hW _=>⟨W,?_,Rel.refl _ W⟩) ?_
       ·go_simp;rw[IntWalk.i64_in (k:Int) zO,if_pos zO];simp
       simp only[Act.put,qo,qf,qc,qh,zA,zB,zC])
     |skip
    refine zB6 ?_
    first
     |(refine qe (Od (U ⟨b4,o4+k,Y⟩)) zA0 zA0 (λW hW _=>⟨W,?_,Rel.refl _ W⟩) ?_
       ·go_simp;rw[IntWalk.i64_in (k:Int) zO,if_pos zO];simp
       simp only[Act.put,qo,qf,qc,qh,zA,zB,zC])
     |skip
    refine zB6 ?_;refine qF (hK _ _ λW2 hW hF=>?_);clear hF hK;refine zB5 ?_;refine⟨λ_ h=>(by cases h),?_⟩
    gi_wp2_with fail
    go_roundw
    case rel=>exact⟨k+1,zO,zO,by go_num,by rw[hsu.out];exact hJ _ _ _ hJs hW,hB.trans (Below.mono hW (Nat.le_trans hn₀ hB.size))⟩
    case measure=>simp[intOf];omega
  gi_wp2_with fail
  obtain rfl:k=256:=zO;go_end0;exact⟨⟨_,rfl⟩,.inl ⟨_,rfl,hJs⟩⟩
end Go.Proofs.YtmeadnlmepcmbaaGreat
namespace Go.Proofs.YtmeadnlmepcmbaaGreat
open Go.RowKit
variable {F:Fence}{n nf:Nat}{P:Program}{ops:Array Oper}{l rest:List Oper}{a:Act}{w W:World}{Q:Exit->Act->World->Prop}{o:Oper}{R:Ending->World->Prop}{u v:Value}
theorem UH(h:Qs (wpListIn F n P ops Q l a w)):wpListIn F n P ops Q l a w:=h
theorem UG(w:X)(hgd:o.guard=Y)(s x:Operand)(t:TypeId)(ho:o.op=.call {callee:=.builtin .append,args:=#[s,x],argTypes:=#[t,t]})(base:Nat)(e:TypeId)(i:TypeInfo)(z:Og)(size bytes:Nat)(ht:P.underlying t=U (.slice e))(hi:P.info? e=i)(hz:i.zero=z)(hHJ:i.size=size)(hby:i.bytes=bytes)(hzs:z.cells.size=size)(hsz:0<size)(v:Og)(n:Nat)(xs:List Og)(hs:a.eval s=v)(hAD:w.ownsRow base e size v n xs)(cs:Array Og)(hx:a.eval x=E w 1 1)(hl:cs.size=size)(h1:∀u∈cs.toList,u.oneCell'=Ob)(hn:n<1073741824)(hGV:bytes<=65536)(hMP:base<=w)(h:∀v' w',w'.ownsRow base e size v' (n+1) (xs++cs.toList)->w.grownBy w' v.ownBlock->(v'.ownBlock=v.ownBlock\/∃g,v'.ownBlock=U g/\w.heap.size<=g)->wpListIn F nf P ops Q rest (a.put o.dst v') w'):wpListIn F nf P ops Q (o::rest) a (w.alloc (Z cs e)):=by
 refine wpListIn_plain hgd λK hK=>?_;have hb:(n+1)*bytes<=140737488355328:=Nat.le_trans (Nat.mul_le_mul_left _ hGV) zO;have hm:n+1<=maxLen:=zA7;obtain⟨v',w',hCQ,h2,h3,_,h5⟩:=run_append_own_at (P:=P) (w.alloc (Z cs e)) base t o.type e i z size bytes ht hi hz hHJ hby hzs hsz v n xs (hAD.alloc _) ⟨w.heap.size,0,Y⟩ 1 1 cs.toList
  (by rw[Array.length_toList];omega) (XY w cs e) h1 hm hb zA2
 have hg:w.grownBy w' v.ownBlock:=⟨h3.os,h3.tape,h3.output,Nat.le_trans zA3 h3.size,λk hk hne=>(h3.block k zA2 hne).trans (zK w _ k hk)⟩
 unfold Oper.wpIn;refine⟨?_,?_⟩;simp[Oper.about,ho,resolve,Target.leads,Sem.run_pure];rw[Oper.semAt_plain F _ _ (by rw[ho];intro c hc';cases hc')];simp only[execOp,ho,resolve,invoke,builtin,Sem.run_bind,Sem.run_pure,Result.andThen_ok,List.map_toArray,List.map_cons,List.map_nil,hs,hx,hCQ];exact hK _ _ (h v' w' h2 hg (h5.imp id λe=>⟨_,e,zA3⟩))
def RefsQ(S:Sto)(root next:Int)(dead:List Int)(w:X)(e:Ending)(w':X):Prop:=Below w w w' /\
 ((e=I (Oa #[E Y 0 0,O Oc 8])/\∀vs,Qy S root next dead vs->∃refs nodes,Qk S (Qo root dead vs) refs nodes/\¬QQ S refs) \/
  ∃vs refs nodes cb ca vv lo,e=I (Oa #[E (U ⟨cb,6,Y⟩) 256 256,O Oc 0])/\w.heap.size<=lo/\Taken S root next dead vs refs nodes lo cb ca vv w')
theorem qiA(h2:a.tmps[2]?.getD undef=u)(h3:a.tmps[3]?.getD undef=v)(hd:a.defers=[])(hR:R (I (Oa #[u,v])) W):bodyPost prog Tryz.f73 R .ret a W:=by refine bodyPost_ret (v:=Oa #[u,v]) ?_ hd hR;simp[results,results73,go_sem,h2,h3]
set_option maxRecDepth 100000 in
theorem refs_any(A1 n1 c1 A2 n2 c2 A3 n3 c3 A4 n4 c4)(gen root next:Int)(A5 c5)(S:Sto)(dead:List Int)(w:X)(h:Qi w w (E A1 n1 c1) (E A2 n2 c2) (E A3 n3 c3) (E A4 n4 c4) S)(hd:ZM w w (E A5 dead.length c5) dead):Calls prog 73 #[.agg (qQ (E A1 n1 c1) (E A2 n2 c2) (E A3 n3 c3) (E A4 n4 c4) gen root next (E A5 dead.length c5))] w (RefsQ S root next dead w):=by
 have HT:=zH (λW (hx:Ext w W)=>YN A1 n1 c1 A2 n2 c2 A3 n3 c3 A4 n4 c4 gen root next A5 c5 S dead W (h.ext hx) (by obtain⟨A,c,e,q1,q2,q3⟩:=hd;exact⟨A,c,e,q1,q2,(q3.below hx).more hx.size⟩));clear h hd;go_enter func73,ntmps73;go_wp2_with fail;generalize hw1:Oe w _=w1;have x1:Ext w w1:=hw1▸zN _ _;clear hw1;refine(HT.out w1 x1).mono ?_;rintro e w2 ⟨hB,hQ⟩;have x2:Below w w w2:=Ext.trans x1 hB;rcases hQ with⟨rfl,hno⟩|⟨vs,refs,nodes,cb,ca,vv,rfl,hT⟩
 ·have HB:RefsQ S root next dead w (I (Oa #[E Y 0 0,O Oc 8])) w2:=⟨x2,.inl ⟨rfl,hno⟩⟩
  replace HB:=zH HB;clear hno hB;go_wp2_with fail;exact qiA rfl rfl rfl HB.out
 have HB:RefsQ S root next dead w (I (Oa #[E (cb,6) 256 256,O Oc 0])) w2:=⟨x2,.inr ⟨vs,refs,nodes,cb,ca,vv,_,rfl,x1.size,hT⟩⟩
 replace HB:=zH HB;clear hT hB;go_wp2_with fail;exact qiA rfl rfl rfl HB.out
def Ku(nodes:Nat->Nat)(k:Nat):List Nat:=(List.range k).filter λa=>decide (0<nodes a)
theorem qjX(nodes:Nat->Nat)(k:Nat):Ku nodes (k+1)=if 0<nodes k then Ku nodes k++[k]else Ku nodes k:=by unfold Ku;rw[List.range_succ,List.filter_append];by_cases h:0<nodes k;rw[if_pos h];simp[h];rw[if_neg h];simp[h]
theorem qeU(nodes:Nat->Nat)(k:Nat):(Ku nodes k).length<=k:=by unfold Ku;exact Nat.le_trans (List.length_filter_le _ _) zA3
def qjf(S:Sto)(root next:Int)(dead:List Int)(w:X)(e:Ending)(w':X):Prop:=Below w w w' /\
 ((e=I (Oa #[E Y 0 0,O Oc 8])/\∀vs,Qy S root next dead vs->∃refs nodes,Qk S (Qo root dead vs) refs nodes/\¬QQ S refs) \/
  ∃vs refs nodes v lo,e=I (Oa #[v,O Oc 0])/\w.heap.size<=lo/\Qy S root next dead vs/\Qk S (Qo root dead vs) refs nodes/\QQ S refs/\w'.ownsRow lo 3 1 v (Ku nodes 256).length (JR (Ku nodes 256)))
structure N1(nodes:Nat->Nat)(w2:X)(v i:Og)(wr:X):Prop where
 ex:∃k:Nat,k<=256/\i=O Oc (k:Int)/\wr.ownsRow w2 3 1 v (Ku nodes k).length (JR (Ku nodes k))/\Ext w2 wr
theorem qeW(h2:a.tmps[2]?.getD undef=u)(h3:a.tmps[3]?.getD undef=v)(hd:a.defers=[])(hR:R (I (Oa #[u,v])) W):bodyPost prog Tryz.f74 R .ret a W:=by refine bodyPost_ret (v:=Oa #[u,v]) ?_ hd hR;simp[results,results74,go_sem,h2,h3]
set_option maxRecDepth 100000 in
theorem qms(A1 n1 c1 A2 n2 c2 A3 n3 c3 A4 n4 c4)(gen root next:Int)(A5 c5)(S:Sto)(dead:List Int)(w:X)(h:Qi w w (E A1 n1 c1) (E A2 n2 c2) (E A3 n3 c3) (E A4 n4 c4) S)(hd:ZM w w (E A5 dead.length c5) dead):Calls prog 74 #[.agg (qQ (E A1 n1 c1) (E A2 n2 c2) (E A3 n3 c3) (E A4 n4 c4) gen root next (E A5 dead.length c5))] w (qjf S root next dead w):=by
 have HT:=zH (λW (hx:Ext w W)=>YN A1 n1 c1 A2 n2 c2 A3 n3 c3 A4 n4 c4 gen root next A5 c5 S dead W (h.ext hx) (by obtain⟨A,c,e,q1,q2,q3⟩:=hd;exact⟨A,c,e,q1,q2,(q3.below hx).more hx.size⟩));clear h hd;go_enter func74,ntmps74;go_wp2_with fail;generalize hw1:Oe w _=w1;have x1:Ext w w1:=hw1▸zN _ _;clear hw1;refine(HT.out w1 x1).mono ?_;rintro e w2 ⟨hB,hQ⟩;have x2:Below w w w2:=Ext.trans x1 hB;rcases hQ with⟨rfl,hno⟩|⟨vs,refs,nodes,cb,ca,vv,rfl,hT⟩
 ·have HB:qjf S root next dead w (I (Oa #[E Y 0 0,O Oc 8])) w2:=⟨x2,.inl ⟨rfl,hno⟩⟩
  replace HB:=zH HB;clear hno hB;go_wp2_with fail;exact qeW rfl rfl rfl HB.out
 have hcc:∀j v,(XZ nodes)[j]?=U v->w2.cell? ⟨cb,262+j,Y⟩=U v:=λj v hj=>by obtain⟨h1,rfl⟩:=qkI hj;rw[qa hT.row];exact hT.ar.node j h1
 replace hT:=zH hT;clear hB;go_wp2_with (refine YV rfl 94 (.tmp 17) rfl cb 262 rfl (XZ nodes) _ hcc underlying94 rfl (by rw[show(XZ nodes).length=256 by simp[XZ]];kernel_rfl) ?_);clear hcc;go_loopw [2,19] (λv i wq=>N1 nodes w2 v i wq) (λ_ i _=>256-(intOf i).toNat)
 case atStart=>exact⟨0,zO,rfl,World.ownsRow_nil _ _ _ _,Ext.refl _⟩
 case round=>
  obtain⟨k,hk,rfl,own,xr⟩:=hrel.ex;clear hrel;by_cases hlt:k<256
  ·have hix:=Uz (cs:=(XZ nodes).toArray) hlt (v:=O Oc (nodes k)) (by rw[List.getElem?_toArray];exact qcn nodes hlt);have hml:=qeU nodes k;generalize(XZ nodes).toArray=arr at*;obtain⟨AR,cR,rfl,hYF,hYG⟩:=qM own;clear hYF hYG;replace⟨own,xr⟩:=zH2 own xr;have hsu:=zH (qjX nodes k);rcases Nat.eq_zero_or_pos (nodes k)with h0|h0
   ·have hc1:decide ((nodes k:Int)>0)=Of:=decide_eq_false zO;have hc2:decide (0<nodes k)=Of:=decide_eq_false zO;have IR:N1 nodes w2 (E AR (Ku nodes k).length cR) (O Oc ((k:Int)+1)) wr:=⟨k+1,hlt,rfl,by rw[hsu.out,if_neg zO];exact own.out,xr.out⟩
    replace⟨IR,h0⟩:=zH2 IR h0;go_wp2_with fail;refine⟨IR.out,?_⟩;simp[intOf];omega
   have hc1:decide ((nodes k:Int)>0)=Ob:=decide_eq_true zO;have hc2:decide (0<nodes k)=Ob:=decide_eq_true h0;obtain⟨i0,hi,hz0,hz1,hz2⟩:=info_parts Tryz.info_int;replace⟨hml,h0⟩:=zH2 hml h0;go_wp2_with (at_builtin;refine Qa ?_);refine Qs.go (ZB _ rfl (.tmp 25) (.tmp 27) 30 rfl w2.heap.size 3 i0 (O Oc 0) 1 8 underlying30 hi hz0 hz1 hz2 rfl zA1 _ _ _ rfl own.out #[O Oc (k:Int)] rfl rfl zA8 (by have:=hml.out;omega) zA1 xr.out.size ?_);intro v8 w8 own8 _ hB8 _;have IR:N1 nodes w2 v8 (O Oc ((k:Int)+1)) w8:=⟨k+1,hlt,rfl,by rw[hsu.out,if_pos h0.out,Xh,List.length_append,List.length_singleton];exact own8,Below.trans xr.out hB8⟩
   replace IR:=zH IR;clear own8 hB8 hi hz0 hz1 hz2;go_wp2_with fail;refine⟨IR.out,?_⟩;simp[intOf];omega
  obtain rfl:k=256:=zO;have HB:qjf S root next dead w (I (Oa #[_,O Oc 0])) wr:=⟨x2.trans (Below.mono xr x2.size),.inr ⟨vs,refs,nodes,_,w2.heap.size,rfl,x2.size,hT.out.pool,hT.out.cnt,hT.out.enough,own⟩⟩
  replace⟨HB,own,xr⟩:=zH3 HB own xr;go_wp2_with fail;exact qeW rfl rfl rfl HB.out
end Go.Proofs.YtmeadnlmepcmbaaGreat
namespace Go.Proofs.YtmeadnlmepcmbaaGreat
open Go.RowKit Go.Shelf
attribute [local go_sem] Oper.semAt_some
variable {w W W' w':World}{B n B' D:Nat}{e:TypeId}{v u:Value}{xs:List Value}{o:Obj}{R:Ending->World->Prop}{a:Act}
theorem qjD(n:Nat)(hn:1<=n)(bs n₀:Nat)(v1 v2 v3 v4:Og)(S:Sto)(hS:qk S=Ob)(w:X)(hbs:bs<n₀)(hn₀:n₀<=w)(hAH:w.heap[bs]?=U (Z #[v1,v2,v3,v4] 28))(hst:Qi w n₀ v1 v2 v3 v4 S):SeqStopsK Fence.wide n prog 187 #[Od bs] (λx:Nat=>#[(x:Int)]) (Below n₀) (λys=>ys=ZK S) (λpre=>pre <+:ZK S) 256 w:=λl J Jx W hW hJ _ hY h0=>
 free_in n hn l bs n₀ v1 v2 v3 v4 S hS J Jx hY (λpre W1 W2 h hx=>hJ pre W1 W2 Y h ⟨hx.os,hx.tape,hx.output,hx.size,λk hk _=>hx.block k hk⟩ (λ_ e=>by cases e)) W hbs (Nat.le_trans hn₀ hW.size) ((hW.block bs (Nat.lt_of_lt_of_le hbs hn₀)).trans hAH) (hst.below (Below.mono hW hn₀)) h0
theorem GV{size:Nat}(h:w.ownsRow B e size v n xs):∀g,v.ownBlock=U g->∃c fz,w.heap[g]?=U (Z c e fz):=by
 intro g hg;rcases h.2 with⟨rfl,_⟩|⟨b,cap,cur,rfl,_,h2,_⟩
 simp[Value.ownBlock]at hg;simp[Value.ownBlock]at hg;subst hg;exact⟨cur,(0,0),h2⟩
theorem own_down{size:Nat}(h:w.ownsRow B e size v n xs)(hb:B'<=B):w.ownsRow B' e size v n xs:=by rcases h with⟨h1,h2|⟨g,cap,cur,e1,h3,h4⟩⟩;exact⟨h1,.inl h2⟩;exact⟨h1,.inr ⟨g,cap,cur,e1,zO,h4⟩⟩
theorem qgp{size:Nat}(h:w.ownsRow B e size v n xs)(hD:w.heap[D]?=o)(ho:o.isCells=Of):v.ownBlock=Y\/v.ownBlock≠U D:=by refine .inr λhv=>?_;obtain⟨c,fz,h3⟩:=GV h D hv;rw[hD]at h3;cases h3;cases ho
theorem qaW{row:Option Nat}(hg:W.grownBy W' row)(hr:∀g,row=U g->B<=g)(hB:B<=W:=by omega):Below B W W':=(Below.refl _ _).grown hg hB (λk e=>hr k e)
theorem qbk{size:Nat}(h:w.ownsRow B e size v n xs)(hg:w.grownBy w' v.ownBlock):KeepsOthers w w':=⟨hg.size,λk o hk ho=>(hg.block k (zG.1 hk).1 (λe1=>by obtain⟨c,fz,h3⟩:=GV h k e1.symm;rw[hk]at h3;cases h3;cases ho)).trans hk⟩
theorem qgn(b base:Nat)(ty ety:TypeId):OwnFrom B (λ(pre:List Nat) W=>∃v,W.heap[b]?=U (Z #[v] ty)/\W.ownsRow base ety 1 v pre.length (JR pre)):=λs A C row ⟨v,h1,h2⟩ hg hr=>
 ⟨v,QL (β:=Unit) _ _ _ _ () A C row h1 hg hr,h2.kept hg (by
  rcases hv:v.ownBlock with _|g
  exact .inl rfl
  ·refine .inr λe=>?_;obtain⟨_,o,ho,hc⟩:=hr g e.symm;rcases GV h2 g hv with⟨c,fz,h3⟩;rw[ho]at h3;cases h3;cases hc)⟩
set_option maxRecDepth 100000 in
theorem qfF(n:Nat)(h3:3<=n)(bs:Nat)(v1 v2 v3 v4:Og)(S:Sto)(hS:qk S=Ob)(w:X)(hbs:bs<w)(hAH:w.heap[bs]?=U (Z #[v1,v2,v3,v4] 28))(hst:Qi w w v1 v2 v3 v4 S):CallsIn Fence.wide n prog 190 #[E Y 0 0,.func (.func 187) #[] #[Od bs]] w λe W'=>∃v,e=I v/\Below w w W'/\W'.ownsRow (↑w+1) 3 1 v (ZK S).length (JR (ZK S)):=by
 have h1:1<=n:=zO;refine callsIn_of_wp_marks func190 rfl trivial ?_ rfl;simp only[ntmps190,List.size_toArray,List.length_cons,List.length_nil,Nat.reduceAdd,Nat.reduceSub,Array.replicate_succ,Array.replicate_zero,List.push_toArray,List.append_toArray,List.nil_append,List.cons_append]
 gi_wp2_with fail
 have x1:Ext w (w.alloc (Z #[E Y 0 0] 30)):=zN _ _;obtain⟨i0,hi,hz0,hz1,hz2⟩:=info_parts Tryz.info_int;refine wpIn_rangeFunc_ownH rfl h1 (gf:=187) (lb:=#[Od (U ⟨bs,0,Y⟩)]) rfl trivial (enters_of func187 zQ rfl)
  (qjD (n-1) zO bs w.heap.size v1 v2 v3 v4 S hS _ hbs zA3 (qb hAH x1) (hst.below x1)) Below.trans (belowK_b zA3) (Below.refl _ _) (λ_=>rfl)
  (λpre W=>(∃v,W.heap[w.heap.size]?=U (Z #[v] 30 (0,0))/\W.ownsRow (w.heap.size+1) 3 1 v pre.length (JR pre))/\Below w.heap.size w W)
  (λ_ _ _=>False)
  (OwnFrom.and (qgn _ _ _ _) (ownFrom_below (zM _) zA3))
  (λ_ _ _ _ _ hs _ _=>hs)
  ⟨⟨E Y 0 0,zI _ _ _ rfl,World.ownsRow_nil _ _ _ _⟩,x1⟩
  (λx a' _=>a'={tmps:=#[E Y 0 0,.func (.func 187) #[] #[Od (U ⟨bs,0,Y⟩)],Od (U ⟨w.heap.size,0,Y⟩),undef,E Y 0 0,O Oc (x:Int),.func (.func 187) #[] #[Od (U ⟨bs,0,Y⟩)],O Oc (x:Int),undef,undef,undef,undef,undef],defers:=[]})
  (λx a'=>Xv _ _) ?assign ?body ?done ?stop
 case assign=>
  rintro l pre x W K hI hK
  gi_wp2_with fail
  exact hK _ _ (KeepsFrom.refl _ _) (Below.refl _ _) hI rfl
 case body=>
  rintro l pre x a' W hl - ⟨⟨v,hr,hAD⟩,hB⟩ rfl hpl;have kr:=qa hr;have zb:w.heap.size<W:=(zG.1 hr).1;have hne:v.ownBlock≠U w.heap.size:=λe=>by have:=(zl hAD _ e).1;omega
  obtain⟨Av,cv,rfl,-,-⟩:=qM hAD
  gi_wp2_with (gi_at_builtin;refine UH ?_)
  refine Qs.go (UG W rfl (.tmp 8) (.tmp 10) 30 rfl (w.heap.size+1) 3 i0 _ 1 8 underlying30 hi hz0 hz1 hz2 rfl zA1 (E Av pre.length cv) pre.length _ zE hAD #[O Oc (x:Int)] zE rfl zA8 zO zA1 zO ?_);intro v' W3 hIN hg hat;have hg0:∀g,(Value.slice Av pre.length cv).ownBlock=U g->w.heap.size+1<=g:=λg e=>(zl hAD _ e).1;have hr3:W3.heap[w.heap.size]?=_:=(hg.block _ zb (λe=>hne e.symm)).trans hr;have kr3:=qa hr3;have fr3:=qd hr3;have hB3:Below w W W3:=qaW hg λg e=>by have:=hg0 g e;omega
  have hg3:∀g,v'.ownBlock=U g->w.heap.size+1<=g:=λg e=>(zl hIN _ e).1;have hJK:KeepsOthers W W3:=qbk hAD hg;replace⟨hg,hAD,hat⟩:=zH3 hg hAD hat;obtain⟨Av',cv',rfl,-,-⟩:=qM hIN;replace hIN:=zH hIN
  gi_wp2_with fail
  refine⟨(hJK.trans (KeepsOthers.setCell _ _ _)).from _,hB3.setCell (p:=⟨w.heap.size,0,Y⟩) (zM _) _,⟨_,qj hr3 0 _,?_⟩,hB.trans (hB3.setCell (p:=⟨w.heap.size,0,Y⟩) (zM _) _)⟩;rw[List.length_append,List.length_singleton,Xh];exact hIN.out.kept (grownBy_setCell' _ _ _) (.inr λe=>by have:=hg3 _ e;omega)
 case done=>
  rintro D ys W hD rfl ⟨⟨v,hr,hAD⟩,hB⟩ hK;have kr:=qa hr
  gi_wp2_with fail
  refine⟨zA3,.inl ⟨_,_,rfl,run_takeDeferred hK,?_⟩⟩;exact⟨_,results_tmp rfl _ _ _,v,rfl,hB.trans (belowK_b (w:=w) (zM _) W D _ _ (by simp at hD;omega) hK rfl rfl),hAD.kept (grownBy_putObj' W D _) (qgp hAD hK rfl)⟩
 case stop=>rintro D c pre W _ _ h _;exact h.elim
def RFreeQ(S:Sto)(w:X)(e:Ending)(w':X):Prop:=Below w w w' /\
 ((qk S=Of/\e=I (Oa #[E Y 0 0,O Oc 8]))\/(qk S=Ob/\∃v,e=I (Oa #[v,O Oc 0])/\w'.ownsRow w 3 1 v (ZK S).length (JR (ZK S))))
set_option maxRecDepth 100000 in
theorem qht(bs:Nat)(v1 v2 v3 v4:Og)(S:Sto)(hS:qk S=Ob)(w:X)(hbs:bs<w)(hAH:w.heap[bs]?=U (Z #[v1,v2,v3,v4] 28))(hst:Qi w w v1 v2 v3 v4 S):Calls prog 154 #[.func (.func 187) #[] #[Od bs]] w λe W'=>∃v,e=I v/\Below w w W'/\W'.ownsRow (↑w+1) 3 1 v (ZK S).length (JR (ZK S)):=by go_enter func154,ntmps154;go_wp2_with fail;refine((callsIn_wide (n:=3)).1 (qfF 3 zO bs v1 v2 v3 v4 S hS w hbs hAH hst)).mono ?_;rintro e w2 ⟨v,rfl,hB,hAD⟩;obtain⟨A,c,rfl,-,-⟩:=qM hAD;replace hAD:=zH hAD;go_wp2_with fail;go_ret;exact⟨_,rfl,hB,hAD.out⟩
theorem qjB(A1 n1 c1 A2 n2 c2 A3 n3 c3 A4 n4 c4)(w:X):Calls prog 147 #[Qp A1 n1 c1 A2 n2 c2 A3 n3 c3 A4 n4 c4] w (λe w'=>e=I (.func (.func 187) #[] #[Od w])/\w'=w.alloc (Z #[E A1 n1 c1,E A2 n2 c2,E A3 n3 c3,E A4 n4 c4] 28)):=by go_enter func147,ntmps147;go_wp2;go_ret;exact⟨rfl,rfl⟩
theorem qfh(h2:a.tmps[2]?.getD undef=u)(h3:a.tmps[3]?.getD undef=v)(hd:a.defers=[])(hR:R (I (Oa #[u,v])) W):bodyPost prog Tryz.f100 R .ret a W:=by refine bodyPost_ret (v:=Oa #[u,v]) ?_ hd hR;simp[results,results100,go_sem,h2,h3]
set_option maxRecDepth 100000 in
theorem qfg(A1 n1 c1 A2 n2 c2 A3 n3 c3 A4 n4 c4)(S:Sto)(w:X)(h:Qi w w (E A1 n1 c1) (E A2 n2 c2) (E A3 n3 c3) (E A4 n4 c4) S):Calls prog 100 #[Qp A1 n1 c1 A2 n2 c2 A3 n3 c3 A4 n4 c4] w (RFreeQ S w):=by
 have HC:=zH (λW (hx:Ext w W)=>vz A1 n1 c1 A2 n2 c2 A3 n3 c3 A4 n4 c4 S W (h.ext hx));replace h:=zH h;go_enter func100,ntmps100;go_wp2_with fail;generalize hw1:(Oe w _)=w1;have x1:Ext w w1:=hw1▸zN _ _;have r1:w1.heap[w.heap.size]?=U (Z #[E A1 n1 c1,E A2 n2 c2,E A3 n3 c3,E A4 n4 c4] 28):=hw1▸zI _ _ _ rfl;clear hw1;refine(HC.out w1 x1).mono ?_;clear HC;rintro e w2 ⟨rfl,hB⟩;have x2:Ext w w2:=x1.trans hB;have r2:=qb r1 hB;have k2:=qa r2;clear hB r1 x1;rcases hS:qk S with _|_
 ·rw[vl rfl];replace hS:=zH hS;go_wp2_with fail;exact qfh rfl rfl rfl ⟨x2,.inl ⟨hS.out,rfl⟩⟩
 rw[vQ rfl];go_wp2_with fail;refine(qjB A1 n1 c1 A2 n2 c2 A3 n3 c3 A4 n4 c4 w2).mono ?_;rintro e w3 ⟨rfl,rfl⟩;have x3:Ext w2 (w2.alloc (Z #[E A1 n1 c1,E A2 n2 c2,E A3 n3 c3,E A4 n4 c4] 28)):=zN _ _;have r3:(w2.alloc (Z #[E A1 n1 c1,E A2 n2 c2,E A3 n3 c3,E A4 n4 c4] 28)).heap[w2.heap.size]?=_:=zI _ _ _ rfl;have h3:=h.out.ext (x2.trans x3);generalize hw3:w2.alloc _=w3 at*;have s3:w2.heap.size<w3:=(zG.1 r3).1;go_wp2_with fail;refine(qht w2.heap.size _ _ _ _ S hS w3 s3 r3 h3).mono ?_;rintro e w4 ⟨v,rfl,hB4,hAD⟩;obtain⟨A,c,rfl,-,-⟩:=qM hAD;have HR:RFreeQ S w (I (Oa #[E A (ZK S).length c,O Oc 0])) w4:=⟨Ext.trans (x2.trans x3) hB4,.inr ⟨hS,_,rfl,own_down hAD (by have:=(x2.trans x3).size;omega)⟩⟩
 replace⟨HR,hAD,hS⟩:=zH3 HR hAD hS;clear hw3 r3 r2 k2;go_wp2_with fail;exact qfh rfl rfl rfl HR.out
end Go.Proofs.YtmeadnlmepcmbaaGreat
namespace Go.Proofs.YtmeadnlmepcmbaaGreat
open Go.RowKit
section
variable {F0:Fence} {P:Program} {ops:Array Oper} {n:Nat}
end


end Go.Proofs.YtmeadnlmepcmbaaGreat
namespace Go.Proofs.YtmeadnlmepcmbaaGreat
open Go.RowKit Go.Shelf
attribute [local go_sem] Oper.semAt_some
variable {W W' w C:World}
def zZ(S:Sto):Nat:=(ZK S).headD 0
def vI(S:Sto)(a:Nat)(data:List UInt8):Sto:=⟨S.bs,S.ws++[((a:Int),data)],S.now.set a 1,S.last⟩
theorem KeepsOthers.of_ext(h:Ext W W'):KeepsOthers W W':=⟨h.size,λk _ hk _=>(h.block k (zG.1 hk).1).trans hk⟩
theorem YM{x0 x1 x2 x3 y z:Og}{ty1 ty2 ty3:TypeId}{u0 u1 u2 u3 u5 u6:Og}(r4:W.heap[w.heap.size+2]?=U (Z #[u0,u1,u2,u3] ty1))(r5:W.heap[w.heap.size+3]?=U (Z #[u5] ty2))(r6:W.heap[w.heap.size+4]?=U (Z #[u6] ty3))(hC:C=((((((W.setCell ⟨w.heap.size+1+1,0,Y⟩ x0).setCell ⟨w.heap.size+1+1,1,Y⟩ x1).setCell ⟨w.heap.size+1+1,2,Y⟩ x2).setCell ⟨w.heap.size+1+1,3,Y⟩ x3).setCell ⟨w.heap.size+1+1+1,0,Y⟩ y).setCell ⟨w.heap.size+1+1+1+1,0,Y⟩ z)):C.heap[w.heap.size+2]?=U (Z #[x0,x1,x2,x3] ty1)/\C.heap[w.heap.size+3]?=U (Z #[y] ty2)/\C.heap[w.heap.size+4]?=U (Z #[z] ty3)/\(∀{B:Nat}{w0:X},B<=w+2->Below B w0 W->Below B w0 C)/\C.heap.size=W/\(∀k,w.heap.size+5<=k->C.heap[k]?=W.heap[k]?)/\KeepsOthers W C:=by subst hC;have hs:=λ(A:X)(b j:Nat)(v:Og)(k:Nat)(hk:k≠b)=>zJ A ⟨b,j,Y⟩ v k hk;refine⟨?_,?_,?_,λhB h=>?_,zA3,λk hk=>?_,?_⟩;rw[hs _ _ _ _ _ zO,hs _ _ _ _ _ zO];exact KO r4 x0 x1 x2 x3;rw[hs _ _ _ _ _ zO];refine qj (t:=ty2) (cs:=#[u5]) ?_ 0 y;rw[hs _ _ _ _ _ zO,hs _ _ _ _ _ zO,hs _ _ _ _ _ zO,hs _ _ _ _ _ zO];exact r5;refine qj (t:=ty3) (cs:=#[u6]) ?_ 0 z;rw[hs _ _ _ _ _ zO,hs _ _ _ _ _ zO,hs _ _ _ _ _ zO,hs _ _ _ _ _ zO,hs _ _ _ _ _ zO];exact r6;exact Below.setCell (Below.setCell (Zv h (b:=w.heap.size+1+1) zO x0 x1 x2 x3) (p:=⟨w.heap.size+1+1+1,0,Y⟩) zA2 _) (p:=⟨w.heap.size+1+1+1+1,0,Y⟩) zA2 _;rw[hs _ _ _ _ _ zO,hs _ _ _ _ _ zO,hs _ _ _ _ _ zO,hs _ _ _ _ _ zO,hs _ _ _ _ _ zO,hs _ _ _ _ _ zO];exact(((((KeepsOthers.setCell _ _ _).trans (KeepsOthers.setCell _ _ _)).trans (KeepsOthers.setCell _ _ _)).trans (KeepsOthers.setCell _ _ _)).trans (KeepsOthers.setCell _ _ _)).trans (KeepsOthers.setCell _ _ _)
end Go.Proofs.YtmeadnlmepcmbaaGreat
namespace Go.Proofs.YtmeadnlmepcmbaaGreat
open Go.RowKit
variable {k:Nat}{e:Int}{R:Ending->World->Prop}{a:Act}{W:World}{v:Value}
def Zz(t:List UInt8)(a:Nat):Except Int (List UInt8):=if a=0 then .ok t else if qO t a=0 then .error 6 else if qO t a=255 then .error 70 else .ok (QB t a 1)
def ZI:List Nat->List UInt8->Except Int (List UInt8)
 |[],t=>.ok t
 |a::r,t=>match Zz t a with
  |.error e=>.error e
  |.ok t'=>ZI r t'
theorem VF:∀(l r:List Nat)(t:List UInt8),ZI (l++r) t=match ZI l t with
  |.error e=>.error e
  |.ok t'=>ZI r t'
 |[],_,_=>rfl
 |a::l,r,t=>by
  simp only[List.cons_append,ZI];cases Zz t a with
  |error e=>rfl
  |ok t'=>exact VF l r t'
theorem qdz(a:Nat)(t:List UInt8):ZI [a] t=Zz t a:=by simp only[ZI];cases Zz t a<;>rfl
def qB(its:List It):List Nat:=its.map λx=>x.r.toNat
theorem Yg{its:List It}(hk:k<its.length):qB (its.take (k+1))=qB (its.take k)++[(its[k].r).toNat]:=by unfold qB;rw[List.take_succ_eq_append_getElem hk,List.map_append];rfl
theorem qkm{its:List It}(k:Nat):qB its=qB (its.take k)++qB (its.drop k):=by unfold qB;rw[<-List.map_append,List.take_append_drop]
theorem qkp{its:List It}(hk:k<its.length){t t':List UInt8}(h:ZI (qB (its.take k)) t=.ok t')(h1:Zz t' (its[k].r).toNat=.error e):ZI (qB its) t=.error e:=by rw[qkm (its:=its) (k+1),VF,Yg hk,VF,h];simp only[qdz,h1]
theorem qiJ{its:List It}(hk:k<its.length){t t' t'':List UInt8}(h:ZI (qB (its.take k)) t=.ok t')(h1:Zz t' (its[k].r).toNat=.ok t''):ZI (qB (its.take (k+1))) t=.ok t'':=by rw[Yg hk,VF,h];simp only[qdz,h1]
def Zb(S:Sto)(lvl:Int)(its:List It):Except Int (Nat×Sto):=
 if Qq lvl its=Ob then
  match ZI (qB its) S.now with
  |.error e=>.error e
  |.ok t=>if ZK (qu S t)=[]\/S.ws.length=4096 then .error 9 else .ok (zZ (qu S t),vI (qu S t) (zZ (qu S t)) (Zm (QF lvl its)))
 else .error 8
section
variable {D:Nat->Prop} {B lo b g:Nat} {k:Option Nat} {S:Sto} {w W:World}
theorem Bch.lens(h:Bch D B lo b g k S w):S.now.length=256/\S.last.length=256:=by obtain⟨A1,n1,c1,v2,c3,A4,c4,hr,ho,-,-,h4⟩:=h.ex;have:=ho.1;have h5:=h4.at_.1;exact⟨by simpa using this,h5.symm⟩
theorem Bch.cells(h:Bch D B lo b g k S w):∃A1 n1 c1 v2 c3 A4 c4,(∀i,w.cell? ⟨b,i,Y⟩=#[E A1 n1 c1,v2,E g 256 c3,E A4 256 c4][i]?)/\(∀a,a<256->w.cell? ⟨g,a,Y⟩=U (O .u8 (Zy S a:Int)))/\(∀a,w.frozen? ⟨g,a,Y⟩=Of):=by obtain⟨A1,n1,c1,v2,c3,A4,c4,hr,ho,-,-,-⟩:=h.ex;obtain⟨h1,h2,-,-⟩:=ZT ho;exact⟨A1,n1,c1,v2,c3,A4,c4,qa hr,h1,h2⟩
end
theorem UP(h4:a.tmps[4]?.getD undef=v)(hd:a.defers=[])(hR:R v W):bodyPost prog Tryz.f170 R .ret a W:=by refine bodyPost_ret (v:=v) ?_ hd hR;simp[results,results170,go_sem,h4]
set_option maxRecDepth 100000 in
theorem qcp(D:Nat->Prop)(B lo b g:Nat)(k:Option Nat)(S:Sto)(a:Nat)(ha:a<256)(w:X)(h:Bch D B lo b g k S w):Calls prog 170 #[Od b,(a:Int)] w λe W=>Ql lo b g k w W /\
   ((qO S.now a=0/\e=I (O Oc 6))\/(qO S.now a=255/\e=I (O Oc 70))\/(qO S.now a≠0/\qO S.now a≠255/\e=I (O Oc 0)/\Bch D B lo b g k (qu S (QB S.now a 1)) W)):=by
 obtain⟨A1,n1,c1,v2,c3,A4,c4,kr,hk,hf⟩:=h.cells;have hka:=hk a ha;have hfa:=hf a;have hT:Hid (QB S.now a 1=S.now.set a (UInt8.ofNat (qO S.now a+1))):=rfl;have hOP:=zH (h.count ha (UInt8.ofNat (qO S.now a+1)));have hcn:Zy S a=qO S.now a:=rfl;have hc2:=(S.now[a]?.getD 0).toNat_lt;have hc:qO S.now a=(S.now[a]?.getD 0).toNat:=rfl;rw[hcn]at hka;rw[<-hc]at hc2;have hwv:=qgC (qO S.now a+1);generalize qO S.now a=nv at*;clear hk hf hc hcn h;by_cases h0:nv=0
 ·subst h0;clear hOP hT hwv;go_enter func170,ntmps170;go_wp2_with fail;exact UP rfl rfl ⟨Ql.refl _ _ _ _ _,.inl ⟨by trivial,rfl⟩⟩
 have hz1:((nv:Int)==0)=Of:=by rw[beq_eq_false_iff_ne];omega
 have hz2:decide (nv=0)=Of:=decide_eq_false zO;by_cases h1:nv=255
 ·subst h1;clear hOP hT hwv;go_enter func170,ntmps170;go_wp2_with fail;exact UP rfl rfl ⟨Ql.refl _ _ _ _ _,.inr (.inl ⟨by trivial,rfl⟩)⟩
 have hz3:((nv:Int)==255)=Of:=by rw[beq_eq_false_iff_ne];omega
 have hz4:decide (nv=255)=Of:=decide_eq_false zO;replace⟨h0,h1⟩:=zH2 h0 h1;rw[show((nv+1:Nat):Int)=(nv:Int)+1 from rfl]at hwv;go_enter func170,ntmps170;go_wp2_with fail;refine UP rfl rfl ⟨hOP.out.2,.inr (.inr ⟨h0.out,h1.out,rfl,?_⟩)⟩;rw[hT.out];exact hOP.out.1
set_option maxRecDepth 100000 in
theorem Tc(D:Nat->Prop)(B lo b g:Nat)(k:Option Nat)(S:Sto)(a:Nat)(ha:a<256)(w:X)(h:Bch D B lo b g k S w):Calls prog 141 #[Od b,(a:Int)] w λe W=>Ql lo b g k w W /\
   ((qO S.now a=0/\e=I (O Oc 6))\/(qO S.now a≠0/\e=I (O Oc 0)/\Bch D B lo b g k (qu S (Vi S.now a)) W)):=by
 obtain⟨A1,n1,c1,v2,c3,A4,c4,kr,hk,hf⟩:=h.cells;have hka:=hk a ha;have hfa:=hf a;have hT:Hid (Vi S.now a=S.now.set a (UInt8.ofNat (qO S.now a-1))):=rfl;have hOP:=zH (h.count ha (UInt8.ofNat (qO S.now a-1)));have hcn:Zy S a=qO S.now a:=rfl;have hc2:=(S.now[a]?.getD 0).toNat_lt;have hc:qO S.now a=(S.now[a]?.getD 0).toNat:=rfl;rw[hcn]at hka;rw[<-hc]at hc2;generalize qO S.now a=nv at*;clear hk hf hc hcn h;by_cases h0:nv=0
 ·subst h0;clear hOP hT;go_enter func141,ntmps141;go_wp2_with fail;exact qco rfl rfl ⟨Ql.refl _ _ _ _ _,.inl ⟨by trivial,rfl⟩⟩
 have hz1:((nv:Int)==0)=Of:=by rw[beq_eq_false_iff_ne];omega
 have hwv:=qly (n:=nv) zO hc2;replace h0:=zH h0;go_enter func141,ntmps141;go_wp2_with fail;refine qco rfl rfl ⟨hOP.out.2,.inr ⟨h0.out,rfl,?_⟩⟩;rw[hT.out];exact hOP.out.1
end Go.Proofs.YtmeadnlmepcmbaaGreat
