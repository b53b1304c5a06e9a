/- Texts IWrite, Pad, Seal, NWrite, FreeI, FreeIt, PushI, Refs, Nodes, joined. -/
import Derived.OrdersIn
import Derived.TacticsIn
import Derived.CallsIn
import Derived.RangeFuncKeeps
import Derived.RangeFuncBound
import Derived.RangeFuncLeaves
import Derived.Shelf.Abstract
import Derived.OwnWalkIn
import Derived.TacticsInMore
import Derived.Sort.CutIn
import Derived.Test.YtpbniokljofedaaGreatZE01
import Derived.Test.YtpbniokljofedaaGreatZE03
import Derived.Test.YtpbniokljofedaaGreatZE05
import Derived.Test.YtpbniokljofedaaGreatZE06
import Derived.Test.YtpbniokljofedaaGreatZE10
import Derived.Test.YtpbniokljofedaaGreatZE12
import Derived.Test.YtpbniokljofedaaGreatZE14
import Derived.Test.YtpbniokljofedaaGreatZE15
set_option linter.unusedSimpArgs false
set_option linter.unusedVariables false
set_option maxHeartbeats 8000000
set_option maxRecDepth 100000
namespace Go.Proofs.YtpbniokljofedaaGreat
open Go.RowKit
theorem qft (x:It) (hx:jd x) (hb:itB x.r x.val.length=true) (A:Option Addr) (c:Nat) (w:World) (h:Bys w w.heap.size (.slice A x.val.length c) x.val) :
  Calls Tryz.prog 177 #[VA x.k x.i x.o x.r A x.val.length c] w (zE (IsB0 w.heap.size (12+x.val.length) (Jp x)) w):=by
 have HC:=zH (fun W=>Ja x.k x.i x.o x.r A x.val.length c W)
 rw[hb,show Jc true=0 from rfl] at HC
 obtain⟨kk,ki,ko,kr,l⟩:=x
 obtain⟨⟨hk1,hk2⟩,⟨hi1,hi2⟩,⟨ho1,ho2⟩,⟨hr1,hr2⟩,hl⟩:=hx
 dsimp only at *
 clear hb
 obtain⟨k,rfl⟩:=Int.eq_ofNat_of_zero_le hk1
 obtain⟨i,rfl⟩:=Int.eq_ofNat_of_zero_le hi1
 obtain⟨o,rfl⟩:=Int.eq_ofNat_of_zero_le ho1
 obtain⟨r,rfl⟩:=Int.eq_ofNat_of_zero_le hr1
 have HB:Hid (Jp ⟨k,i,o,r,l⟩=[[UInt8.ofNat k],qA i 4,qA o 4,qA r 2,[UInt8.ofNat l.length],l].flatten):=by
  refine zH ?_
  simp[Jp]
 have hkb:bv (UInt8.ofNat k)=.int .u8 (k:Int):=by simp[bv];omega
 have hlb:bv (UInt8.ofNat l.length)=.int .u8 ((l.length:Nat):Int):=by simp[bv];omega
 have HL:Hid ([[UInt8.ofNat k],qA i 4,qA o 4,qA r 2,[UInt8.ofNat l.length],l].flatten.length=12+l.length):=by
  refine zH ?_
  simp[Zd]
  omega
 have hcv:IntKind.u8.wrap ((l.length:Nat):Int)=((l.length:Nat):Int):=by simp[IntKind.wrap,IntKind.bits,IntKind.signed];omega
 replace hkb:=zH hkb
 replace hlb:=zH hlb
 replace h:=zH h
 rw[HB.out]
 clear HB
 generalize hFL:[[UInt8.ofNat k],qA i 4,qA o 4,qA r 2,[UInt8.ofNat l.length],l]=FL at *
 go_enter Tryz.func177,Tryz.ntmps177
 go_wp2_with fail
 generalize hw1:World.alloc w _=w1
 have x1:Ext w w1:=by rw[←hw1];exact zN _ _
 have r1:w1.heap[w.heap.size]?=some (.cells #[.int .u8 k,.int .u32 i,.int .u32 o,.int .i64 r,.slice A l.length c] 68 (0,0)):=by rw[←hw1];exact zI _ _ _ rfl
 clear hw1
 refine(HC.out w1).mono ?_
 rintro e w2 ⟨rfl,hB⟩
 have x2:Ext w w2:=Ext.trans x1 hB
 have r2:=qb r1 hB
 have k2:=qa r2
 clear hB r1 x1 HC
 go_wp2_with fail
 refine(qbX r (by omega) _).mono ?_
 rintro e w3 ⟨u,rfl,⟨u2,rfl,A2,c2,rfl,hb2,hf2⟩,hB⟩
 have x3:Ext w w3:=Ext.trans x2 hB
 have r3:=qb r2 hB
 have z3:=x2.size
 clear hB k2 r2 x2
 go_wp2_with fail
 have hE:∀ W,Ext w3 W→∀ j,W.cell? ⟨w.heap.size,j,none⟩=#[.int .u8 k,.int .u32 i,.int .u32 o,.int .i64 r,.slice A l.length c][j]?:=fun W h=>qa (qb r3 h)
 refine zF (qE [(3,jx w3.heap.size 1 5 #[.int .u8 k]),(7,Ku w3.heap.size 4 (qA i 4)),(11,Ku w3.heap.size 4 (qA o 4)),(17,jx w3.heap.size 1 5 #[.int .u8 (l.length:Nat)]),(20,vz w3.heap.size 6 26 (JW FL)),(21,Ku w3.heap.size (12+l.length) FL.flatten)]) 22 (by kernel_rfl) (by kernel_rfl) (by kernel_rfl) (by decide) (by kernel_rfl) (by kernel_rfl) ?st ?walk
 case st=>exact Zf (by simp only[List.forall_mem_cons];exact⟨JL _ _ _ _,jC _ _ _,jC _ _ _,JL _ _ _ _,Vd (JW.stable _),jC _ _ _,fun _ h=>by cases h⟩)
 case walk =>
  intro K hK
  dsimp only[List.take]
  repeat ((first|(refine qJ ?_ (by rfl) (by rfl) (fun W hW _=>⟨W,?_,Ext.refl W⟩) ?_;rotate_left;(first|(go_simp;with_reducible rfl)|(go_simp;done)))|(refine qU (by rfl) ?_));try simp only[Act.put,qj,qf,qc,qg,qM,Qk,qf,zA,zB,zC])
  refine QB (jx w3.heap.size 1 5 #[.int .u8 k]) (by rfl) (by rfl) (fun W hW _=>?_) (fun (p3:Nat)=>?_)
  ·refine kQ ?_ hW.size
   go_simp
  simp only[Act.put,qj,qf,qc,qg,qM,Qk,qf,zA,zB,zC]
  repeat ((first|(refine qJ ?_ (by rfl) (by rfl) (fun W hW _=>⟨W,?_,Ext.refl W⟩) ?_;rotate_left;(first|(go_simp;with_reducible rfl)|(go_simp;done)))|(refine qU (by rfl) ?_));try simp only[Act.put,qj,qf,qc,qg,qM,Qk,qf,zA,zB,zC])
  refine QB (Ku w3.heap.size 4 (qA i 4)) (by rfl) (by rfl) (fun W hW _=>?_) (fun p7=>?_)
  ·refine QW ?_ ((KI i (by omega) W).mono fun e w' h=>?_)
   ·go_simp
   obtain⟨u,rfl,⟨A,c,rfl,h1,h2⟩,h3⟩:=h
   exact⟨(A,c),rfl,⟨h1,h2.mono hW.size⟩,h3⟩
  obtain⟨A7,c7⟩:=p7
  simp only[Act.put,qj,qf,qc,qg,qM,Qk,qf,zA,zB,zC]
  repeat ((first|(refine qJ ?_ (by rfl) (by rfl) (fun W hW _=>⟨W,?_,Ext.refl W⟩) ?_;rotate_left;(first|(go_simp;with_reducible rfl)|(go_simp;done)))|(refine qU (by rfl) ?_));try simp only[Act.put,qj,qf,qc,qg,qM,Qk,qf,zA,zB,zC])
  refine QB (Ku w3.heap.size 4 (qA o 4)) (by rfl) (by rfl) (fun W hW _=>?_) (fun p11=>?_)
  ·refine QW ?_ ((KI o (by omega) W).mono fun e w' h=>?_)
   ·go_simp
   obtain⟨u,rfl,⟨A,c,rfl,h1,h2⟩,h3⟩:=h
   exact⟨(A,c),rfl,⟨h1,h2.mono hW.size⟩,h3⟩
  obtain⟨A11,c11⟩:=p11
  simp only[Act.put,qj,qf,qc,qg,qM,Qk,qf,zA,zB,zC]
  repeat ((first|(refine qJ ?_ (by rfl) (by rfl) (fun W hW _=>⟨W,?_,Ext.refl W⟩) ?_;rotate_left;(first|(go_simp;with_reducible rfl)|(go_simp;done)))|(refine qU (by rfl) ?_));try simp only[Act.put,qj,qf,qc,qg,qM,Qk,qf,zA,zB,zC])
  refine QB (jx w3.heap.size 1 5 #[.int .u8 (l.length:Nat)]) (by rfl) (by rfl) (fun W hW _=>?_) (fun (p17:Nat)=>?_)
  ·refine kQ ?_ hW.size
   go_simp
  simp only[Act.put,qj,qf,qc,qg,qM,Qk,qf,zA,zB,zC]
  repeat ((first|(refine qJ ?_ (by rfl) (by rfl) (fun W hW _=>⟨W,?_,Ext.refl W⟩) ?_;rotate_left;(first|(go_simp;with_reducible rfl)|(go_simp;done)))|(refine qU (by rfl) ?_));try simp only[Act.put,qj,qf,qc,qg,qM,Qk,qf,zA,zB,zC])
  refine QB (vz w3.heap.size 6 26 (JW FL)) (by rfl) (by rfl) (fun W hW hp=>?_) (fun (p20:Nat)=>?_)
  ·obtain⟨f3,_⟩:W.heap[p3]?=some (.cells #[.int .u8 k] 5 (0,0))∧w3.heap.size≤p3:=(hp 3 (by decide)).1
   obtain⟨f7,_⟩:Bys W W.heap.size (.slice A7 4 c7) (qA i 4)∧_:=(hp 7 (by decide)).1
   obtain⟨f11,_⟩:Bys W W.heap.size (.slice A11 4 c11) (qA o 4)∧_:=(hp 11 (by decide)).1
   obtain⟨f17,_⟩:W.heap[p17]?=some (.cells #[.int .u8 (l.length:Nat)] 5 (0,0))∧w3.heap.size≤p17:=(hp 17 (by decide)).1
   have hR:JW FL [.slice (some ⟨p3,0,none⟩) 1 1,.slice A7 4 c7,.slice A11 4 c11,.slice A2 2 c2,.slice (some ⟨p17,0,none⟩) 1 1,.slice A l.length c] W:=by
    subst hFL
    rw[←hkb.out] at f3
    rw[←hlb.out] at f17
    refine⟨rfl,fun j v m hv hl=>?_⟩
    rcases j with _|_|_|_|_|_|j
    ·cases hv;cases hl;exact Bys.lit (l:=[UInt8.ofNat k]) f3 (by simp[maxLen])
    ·cases hv;cases hl;exact f7
    ·cases hv;cases hl;exact f11
    ·cases hv;cases hl;exact(hb2.below hW).more hW.size
    ·cases hv;cases hl;exact Bys.lit (l:=[UInt8.ofNat l.length]) f17 (by simp[maxLen])
    ·cases hv;cases hl;exact(h.out.below (Ext.trans x3 hW)).more (Ext.trans x3 hW).size
    ·simp at hv
   refine KY (cs:=#[.slice (some ⟨p3,0,none⟩) 1 1,.slice A7 4 c7,.slice A11 4 c11,.slice A2 2 c2,.slice (some ⟨p17,0,none⟩) 1 1,.slice A l.length c]) ?_ hW.size rfl ?_
   ·go_simp
   ·exact JW.stable _ _ _ _ (zN _ _) hR
  simp only[Act.put,qj,qf,qc,qg,qM,Qk,qf,zA,zB,zC]
  refine QB (Ku w3.heap.size (12+l.length) FL.flatten) (by rfl) (by rfl) (fun W hW hp=>?_) (fun p21=>?_)
  ·obtain⟨_,cs,hcs,hrow,hR⟩:=(hp 20 (by decide)).1
   have hFn:FL.length=6:=by rw[←hFL];rfl
   refine QW ?_ ((Vy (some ⟨p20,0,none⟩) 6 6 cs.toList FL (by simpa using hcs) hFn W (Rd.row hrow 6 hcs) (fun i v l h1 h2=>hR.2 i v l h1 h2) (by omega) (by rw[HL.out];omega)).mono fun e w' h=>?_)
   ·go_simp
   rw[HL.out] at h
   exact Yc h hW.size
  obtain⟨A21,c21⟩:=p21
  simp only[Act.put,qj,qf,qc,qg,qM,Qk,qf,zA,zB,zC]
  repeat ((first|(refine qJ ?_ (by rfl) (by rfl) (fun W hW _=>⟨W,?_,Ext.refl W⟩) ?_;rotate_left;(first|(go_simp;with_reducible rfl)|(go_simp;done)))|(refine qU (by rfl) ?_));try simp only[Act.put,qj,qf,qc,qg,qM,Qk,qf,zA,zB,zC])
  refine Zx (hK _ _ fun W hW hF=>?_)
  obtain⟨f21,g21⟩:Bys W W.heap.size (.slice A21 (12+l.length) c21) FL.flatten∧Zp w3.heap.size (.slice A21 (12+l.length) c21):=(hF 21).1
  clear hF hK hE
  have x4:Ext w W:=x3.trans hW
  dsimp only[List.drop]
  go_wp2
  refine bodyPost_ret (v:=.tuple #[.slice A21 (12+l.length) c21,.int .i64 0]) (by simp[results,Tryz.results177,go_sem]) rfl ⟨_,rfl,⟨_,rfl,A21,c21,rfl,f21,g21.mono (by have:=x3.size;omega)⟩,x4⟩
def Xi (n:Nat) (b:List UInt8):List UInt8:=b++List.replicate (n-b.length) 0
theorem VS {n:Nat} {b:List UInt8} (h:b.length≤n):(Xi n b).length=n:=by simp[Xi];omega
theorem pad_row (n:Nat) (b:List UInt8):List.take 0 (List.map bv (List.replicate n 0)).toArray.toList++List.map bv b++List.drop (0+b.length) (List.map bv (List.replicate n 0)).toArray.toList=(Xi n b).map bv:=by
 simp[Xi,List.map_replicate,List.drop_replicate]
def jo (b:List UInt8):List UInt8:=qA (crc (Xi 124 b)) 4++Xi 124 b
theorem vK {b:List UInt8} (h:b.length≤124):(jo b).length=128:=by unfold jo;rw[List.length_append,Zd,VS h]
theorem seal_any (A:Option Addr) (c:Nat) (b:List UInt8) (hl:b.length≤124) (w:World) (h:Bys w w.heap.size (.slice A b.length c) b) :
  Calls Tryz.prog 178 #[.slice A b.length c] w (zE (IsB0 w.heap.size 128 (jo b)) w):=by
 have hmk:∀ w,(Instr.makeSlice 26 (.int .i64 124) (.int .i64 124)).run Tryz.prog w=.ok (.slice (some ⟨w.heap.size,0,none⟩) 124 124) (w.alloc (.cells ((List.replicate 124 (0:UInt8)).map bv).toArray 5)):=fun _=>by kernel_rfl
 have hsz:(Tryz.prog.info? 5).map (·.size)=some 1:=by kernel_rfl
 have hcr:crc (Xi 124 b)<4294967296:=crc_lt _
 have hd:decide ((b.length:Int)>124)=false:=decide_eq_false (by omega)
 replace h:=zH h
 go_enter Tryz.func178,Tryz.ntmps178
 go_wp2_with fail
 generalize hw1:World.alloc w _=w1
 have x1:Ext w w1:=by rw[←hw1];exact zN _ _
 have r1:w1.heap[w.heap.size]?=some (.cells ((List.replicate 124 (0:UInt8)).map bv).toArray 5 (0,0)):=by rw[←hw1];exact zI _ _ _ rfl
 clear hw1 hmk
 have hcp:=XC (P:=Tryz.prog) w1 26 26 3 5 w.heap.size 0 124 124 A c b _ _ Tryz.underlying26 hsz r1 (h.out.below x1) hl (by simp;omega)
 rw[hcp]
 clear hcp
 have r2:=setRow_heap w1 w.heap.size _ (List.take 0 (List.map bv (List.replicate 124 0)).toArray.toList++List.map bv b++List.drop (0+b.length) (List.map bv (List.replicate 124 0)).toArray.toList).toArray _ _ r1
 have x2:Below w.heap.size w (w1.setRow w.heap.size (List.take 0 (List.map bv (List.replicate 124 0)).toArray.toList++List.map bv b++List.drop (0+b.length) (List.map bv (List.replicate 124 0)).toArray.toList).toArray):=
  Below.grown x1 (XI _ _ _) x1.size (fun g e=>by cases e;exact zM _)
 generalize hw2:w1.setRow w.heap.size (List.take 0 (List.map bv (List.replicate 124 0)).toArray.toList++List.map bv b++List.drop (0+b.length) (List.map bv (List.replicate 124 0)).toArray.toList).toArray=w2 at *
 rw[pad_row] at r2
 have hp:∀ W,Ext w2 W→Bys W W.heap.size (.slice (some ⟨w.heap.size,0,none⟩) 124 124) (Xi 124 b):=fun W hW=>by
  refine⟨_,124,by rw[VS hl],Nat.le_of_eq (VS hl),by unfold maxLen;omega,by rw[VS hl];simp[VS hl],fun _=>⟨w.heap.size,0,rfl,?_,fun j u hu=>?_⟩⟩
  ·have:=(zG.1 (qb r2 hW)).1
   omega
  ·rw[Nat.zero_add,qa (qb r2 hW)]
   simpa using hu
 clear hw2 r1 x1
 have HO:=zH (fun W (hW:Ext w2 W)=>qba _ (Xi 124 b) W (hp W hW) (by rw[VS hl];omega))
 replace hp:=zH hp
 replace r2:=zH r2
 have hcn:((crc (Xi 124 b):Nat):Int)<4294967296:=by omega
 go_wp2_with fail
 refine(HO.out _ (Ext.refl _)).mono ?_
 rintro e w3 ⟨rfl,hB3⟩
 have x3:Ext w2 w3:=hB3
 clear hB3
 have HF:=zH (KI (crc (Xi 124 b)) hcr w3)
 go_wp2_with fail
 refine HF.out.mono ?_
 rintro e w4 ⟨u4,rfl,⟨A4,c4,rfl,hu4,hf4⟩,hB4⟩
 have x4:Ext w2 w4:=x3.trans hB4
 clear HF hB4
 go_wp2_with fail
 generalize hw5:World.alloc w4 _=w5
 have x45:Ext w4 w5:=by rw[←hw5];exact zN _ _
 have r5:w5.heap[w4.heap.size]?=some (.cells #[.slice A4 4 c4,.slice (some ⟨w.heap.size,0,none⟩) 124 124] 26 (0,0)):=by rw[←hw5];exact zI _ _ _ rfl
 clear hw5
 have x5:=x4.trans x45
 have hfl:[qA (crc (Xi 124 b)) 4,Xi 124 b].flatten=jo b:=by simp[jo]
 have HC:=Vy (some ⟨w4.heap.size,0,none⟩) 2 2 [.slice A4 4 c4,.slice (some ⟨w.heap.size,0,none⟩) 124 124] [qA (crc (Xi 124 b)) 4,Xi 124 b] rfl rfl w5 ⟨rfl,fun _=>⟨w4.heap.size,0,rfl,(zG.1 r5).1,fun j u hu=>by rw[Nat.zero_add,qa r5];simpa using hu⟩⟩
  (fun i v l hv hl'=>by
   rcases i with _|_|i
   ·cases hv;cases hl';exact(hu4.below x45).more x45.size
   ·cases hv;cases hl';exact hp.out w5 x5
   ·simp at hv) (by omega) (by rw[hfl,vK hl];omega)
 rw[hfl,vK hl] at HC
 replace HC:=zH HC
 replace hu4:=zH hu4
 go_wp2_with fail
 refine HC.out.mono ?_
 rintro e w6 ⟨u6,rfl,hown,hB6⟩
 have x6:Below w.heap.size w w6:=x2.trans (Below.mono (Ext.trans x5 hB6) x2.size)
 have HI:=zH ((IsB.of_own hown))
 go_wp2_with fail
 refine bodyPost_ret (v:=.tuple #[u6,.int .i64 0]) (by simp[results,Tryz.results178,go_sem]) rfl ⟨_,rfl,⟨u6,rfl,?_⟩,x6⟩
 obtain⟨A',c',h1,h2,h3⟩:=HI.out
 exact⟨A',c',h1,h2,h3.mono (by have:=x2.size;have:=x5.size;omega)⟩
def JA (lvl:Int) (n:Nat) (xs:List It) (k:Nat):List UInt8:=78 :: UInt8.ofNat lvl.toNat :: UInt8.ofNat n :: ZY (xs.take k)
theorem qeF (lvl:Int) (n:Nat) {xs:List It} {k:Nat} (hk:k<xs.length):JA lvl n xs (k+1)=JA lvl n xs k++Jp xs[k]:=by
 unfold JA ZY
 rw[List.take_succ_eq_append_getElem hk,List.flatMap_append]
 simp only[List.flatMap_cons,List.flatMap_nil,List.append_nil,List.cons_append]
theorem Ki (lvl:Int) (xs:List It):JA lvl xs.length xs xs.length=Za lvl xs:=by unfold JA Za;rw[List.take_length]
theorem kM (lvl:Int) (n:Nat) {xs:List It} (k:Nat) (h:∀ x∈xs,jd x) (hl:xs.length≤5):(JA lvl n xs k).length≤123:=by
 have h1:=Tq (xs.take k) (fun x hx=>h x (List.mem_of_mem_take hx))
 have h2:(xs.take k).length≤xs.length:=by rw[List.length_take];omega
 unfold JA
 simp only[List.length_cons]
 omega
theorem jR {lvl:Int} {xs:List It} (h:Qg lvl xs=true):0≤lvl∧lvl<6∧xs.length≤5∧∀ x∈xs,itB x.r x.val.length=true:=by
 unfold Qg at h
 rw[Bool.and_eq_true] at h
 have h1:0≤lvl∧lvl<6∧xs.length≤5∧(0<lvl→xs.length≠0):=of_decide_eq_true h.1
 refine⟨h1.1,h1.2.1,h1.2.2.1,fun x hx=>?_⟩
 obtain⟨i,hi,rfl⟩:=List.getElem_of_mem hx
 have h2:=List.all_eq_true.1 h.2 i (List.mem_range.2 hi)
 unfold Uz at h2
 rw[zL hi] at h2
 simp only[Bool.and_eq_true] at h2
 exact h2.1.1
theorem qao {R:Ending→World→Prop} {a:Act} {W:World} {u v:Value} (h2:a.tmps[2]?.getD undef=u) (h3:a.tmps[3]?.getD undef=v) (hd:a.defers=[]) (hR:R (.returned (.tuple #[u,v])) W):bodyPost Tryz.prog Tryz.f167 R .ret a W:=by
 refine bodyPost_ret (v:=.tuple #[u,v]) ?_ hd hR
 simp[results,Tryz.results167,go_sem,h2,h3]
structure NWr (lvl:Int) (xs:List It) (w2:World) (v i:Value) (wr:World):Prop where
 ex:∃ k:Nat,k≤xs.length∧i=.int .i64 (k:Int)∧wr.ownsRow w2.heap.size 5 1 v (JA lvl xs.length xs k).length ((JA lvl xs.length xs k).map bv)∧Ext w2 wr
theorem qgg (lvl:Int) (A:Option Addr) (n c:Nat) (xs:List It) (w:World) (hx:Its w w.heap.size (.slice A n c) xs) (hm:Qg lvl xs=false) :
  Calls Tryz.prog 167 #[jm lvl A n c] w (Ret (.tuple #[.slice none 0 0,.int .i64 8]) w):=by
 have HC:=zH (fun W (hW:Ext w W)=>vV lvl A n c xs W (hx.ext hW))
 rw[hm,show Jc false=8 from rfl] at HC
 clear hx
 go_enter Tryz.func167,Tryz.ntmps167
 go_wp2_with fail
 generalize hw1:World.alloc w _=w1
 have x1:Ext w w1:=by rw[←hw1];exact zN _ _
 clear hw1
 refine(HC.out w1 x1).mono ?_
 rintro e w2 ⟨rfl,hB⟩
 have x2:Below w.heap.size w w2:=Ext.trans x1 hB
 clear hB
 go_wp2
 exact qao rfl rfl rfl ⟨rfl,x2⟩
theorem GP (lvl:Int) (A:Option Addr) (n c:Nat) (xs:List It) (w:World) (hx:Its w w.heap.size (.slice A n c) xs) (hm:Qg lvl xs=true) (ho:∀ x∈xs,jd x) :
  Calls Tryz.prog 167 #[jm lvl A n c] w (zE (IsB0 w.heap.size 128 (jo (Za lvl xs))) w):=by
 have HC:=zH (fun W (hW:Ext w W)=>vV lvl A n c xs W (hx.ext hW))
 rw[hm,show Jc true=0 from rfl] at HC
 obtain⟨hl1,hl2,hl5,hib⟩:=jR hm
 obtain⟨hn,hcn,hcm,hA⟩:=hx.at_
 subst hn
 obtain⟨L,rfl⟩:=Int.eq_ofNat_of_zero_le hl1
 have hcv:IntKind.u8.wrap ((xs.length:Nat):Int)=((xs.length:Nat):Int):=by simp[IntKind.wrap,IntKind.bits,IntKind.signed];omega
 have hcl:IntKind.u8.wrap (L:Int)=(L:Int):=by simp[IntKind.wrap,IntKind.bits,IntKind.signed];omega
 have hcells:(JA (L:Int) xs.length xs 0).map bv=[.int .u8 78,.int .u8 (L:Int),.int .u8 (xs.length:Nat)]:=by
  simp[JA,ZY,bv]
  omega
 have hX:=zH hx
 have hO:=zH ho
 have hI:=zH hib
 clear hx ho hib hm
 go_enter Tryz.func167,Tryz.ntmps167
 go_wp2_with fail
 generalize hw1:World.alloc w _=w1
 have x1:Ext w w1:=by rw[←hw1];exact zN _ _
 have r1:w1.heap[w.heap.size]?=some (.cells #[.int .i64 L,.slice A xs.length c] 49 (0,0)):=by rw[←hw1];exact zI _ _ _ rfl
 clear hw1
 refine(HC.out w1 x1).mono ?_
 rintro e w2 ⟨rfl,hB⟩
 have x2:Below w.heap.size w w2:=Ext.trans x1 hB
 have r2:=qb r1 hB
 have k2:=qa r2
 clear hB r1 x1 HC
 go_upto_region 5 with fail
 generalize hw3:World.alloc w2 _=w3
 have x3:Ext w2 w3:=by rw[←hw3];exact zN _ _
 have o3:w3.ownsRow w2.heap.size 5 1 (.slice (some ⟨w2.heap.size,0,none⟩) 3 3) (JA (L:Int) xs.length xs 0).length ((JA (L:Int) xs.length xs 0).map bv):=by
  rw[hcells,←hw3]
  exact World.ownsRow_lit (base:=w2.heap.size) (e:=5) (size:=1) w2 #[.int .u8 78,.int .u8 (L:Int),.int .u8 (xs.length:Nat)] 3 (zM _) (by unfold maxLen;omega) rfl
 have r3:=qb r2 x3
 have k3:=qa r3
 clear hw3 k2 hcells
 have I0:NWr (L:Int) xs w2 (.slice (some ⟨w2.heap.size,0,none⟩) 3 3) (.int .i64 0) w3:=⟨0,Nat.zero_le _,rfl,o3,x3⟩
 replace I0:=zH I0
 clear o3
 go_wp2_with fail
 clear k3 r3
 go_loopw [5,26] (fun v i wr=>NWr (L:Int) xs w2 v i wr) (fun _ i _=>xs.length-(intOf i).toNat)
 case atStart=>exact I0.out
 case round =>
  obtain⟨k,hk,rfl,own,xr⟩:=hrel.ex
  clear hrel I0
  by_cases hlt:k<xs.length
  ·have hlt':=hlt
   obtain⟨b,off,rfl,hb⟩:=hA (by omega)
   have xw:Ext w wr:=Ext.trans x2 xr
   obtain⟨A',c',d0,d1,d2,d3,d4,hby⟩:=(hX.out.ext xw).item k hlt'
   have hok:=hO.out xs[k] (List.getElem_mem hlt')
   have hib:=hI.out xs[k] (List.getElem_mem hlt')
   have hsu:=zH (qeF (L:Int) xs.length hlt')
   have htl:=kM (L:Int) xs.length k hO.out hl5
   have hvl:xs[k].val.length≤12:=hok.2.2.2.2
   have HW:=zH (fun W (hW:Ext wr W)=>qft xs[k] hok hib A' c' W ((hby.below hW).more hW.size))
   generalize xs[k]=x at *
   replace own:=zH own
   replace htl:=zH htl
   clear hby hok hib
   go_wp2_with fail
   generalize hw4:World.alloc wr _=w4
   have x4:Ext wr w4:=by rw[←hw4];exact zN _ _
   clear hw4 d0 d1 d2 d3 d4
   refine(HW.out w4 x4).mono ?_
   rintro e w5 ⟨u,rfl,⟨u5,rfl,A5,c5,rfl,hb5,hf5⟩,hB⟩
   have x5:Ext wr w5:=x4.trans hB
   have own5:=QT own.out x5
   clear hB x4 own
   obtain⟨i0,hi,hz0,hz1,hz2⟩:=info_parts Tryz.info_u8
   obtain⟨A6,c6,e6,hc6,hm6,hr6⟩:=hb5
   simp only[Value.slice.injEq] at e6
   obtain⟨rfl,e7,rfl⟩:=e6
   go_wp2_with (at_builtin;refine qZ ?_)
   refine QA.go (Qq _ rfl (.tmp 35) (.tmp 36) 26 rfl w2.heap.size 5 i0 (.int .u8 0) 1 1 Tryz.underlying26 hi hz0 hz1 hz2 rfl (by decide) _ _ _ rfl own5 w5.heap.size A5 _ c5 ((Jp x).map bv) rfl hr6 (XJ _) (by have:=htl.out;omega) (by decide) (Nat.le_trans xr.size x5.size) ?_)
   intro v8 w8 own8 _ hB8 _
   have IR:NWr (L:Int) xs w2 v8 (.int .i64 ((k:Int)+1)) w8:=⟨k+1,hlt',rfl,by
    rw[hsu.out,List.map_append,List.length_append]
    exact own8,Below.trans (Ext.trans xr x5) hB8⟩
   replace IR:=zH IR
   clear own8 hB8 hi hz0 hz1 hz2 own5
   go_wp2_with fail
   refine⟨IR.out,?_⟩
   simp[intOf]
   omega
  ·obtain rfl:k=xs.length:=by omega
   rw[Ki] at own
   have hl3:(Za (L:Int) xs).length≤124:=by
    have:=kM (L:Int) xs.length xs.length hO.out hl5
    rw[Ki] at this
    omega
   obtain⟨A6,c6,e6,hc6,hm6,hr6⟩:=Bys.of_own own
   have hby:=Bys.of_own own
   subst e6
   have HS:=zH (seal_any A6 c6 (Za (L:Int) xs) hl3 wr hby)
   have xw:Below w.heap.size w wr:=Ext.trans x2 xr
   clear hby hr6 own
   replace xr:=zH xr
   go_wp2_with fail
   refine HS.out.mono ?_
   rintro e w7 ⟨u,rfl,⟨u7,rfl,hI7⟩,hB⟩
   have x7:Below w.heap.size w w7:=xw.trans (Below.mono hB xw.size)
   have hI8:IsB0 w.heap.size 128 (jo (Za (L:Int) xs)) (.tuple #[u7,.int .i64 0]) w7:=by
    obtain⟨A',c',q1,q2,q3⟩:=hI7
    exact⟨u7,rfl,A',c',q1,q2,q3.mono xw.size⟩
   clear hB hI7
   replace hI8:=zH hI8
   go_wp2_with fail
   exact qao rfl rfl rfl ⟨_,rfl,hI8.out,x7⟩
structure qee (F:Fence):Prop where
 fn:∀ f,F.fn f
 depth:¬F.depth.isSome=true
 call:∀ {n:Nat} {P:Program} {f:FuncId} {args:Array Value} {w:World} {R:Ending→World→Prop},Calls P f args w R→CallsIn F n P f args w R
theorem wideF:qee Fence.wide:=⟨fun _=>trivial,fun h=>(by cases h),fun h=>callsIn_wide.2 h⟩
theorem JP (l:Nat):qee (Fence.wide.inRound l):=⟨fun _=>trivial,fun h=>(by cases h),fun h=>CallsIn.inRound l (callsIn_wide.2 h)⟩
def Gf (ops:Array Oper):Bool:=ops.toList.all fun o=>match o.op with | .defer _=>false|_=>true
theorem XK {ops:Array Oper} (h:Gf ops=true) {i:Nat} {o:Oper} (ho:ops[i]?=some o):∀ c,o.op≠.defer c:=by
 intro c hc
 have h1:=List.all_eq_true.1 h o (by
  have:=Array.mem_of_getElem? ho
  simpa using this)
 rw[hc] at h1
 cases h1
section
variable {F:Fence} {P:Program} {ops:Array Oper} {n:Nat}
theorem Uf {Q':Exit→Act→World→Prop}:∀ (l:List Oper) (k:Nat) (listed:Array Bool) (a:Act) (W:World),(∀ j,j<l.length→l[j]?=ops[k+j]?)→TS ops l.length k listed=true→wpListIn F n P ops Q' l a W→wpAnyIn F n P .any ops Q' l.length listed a W
 | [],_,_,_,_,_,hB,h=>⟨by simpa [TS] using hB,h⟩
 |o :: l,k,listed,a,W,hl,hB,h=>by
  simp only[List.length_cons,TS,Bool.and_eq_true] at hB
  obtain⟨hr,hB'⟩:=hB
  have hr':Region.ready .any ops listed=[k]:=by simpa using hr
  have h0:ops[k]?=some o:=by simpa using (hl 0 (by simp)).symm
  refine⟨fun e=>(by rw[hr'] at e;cases e),fun i hi=>?_⟩
  rw[hr'] at hi
  obtain rfl:i=k:=by simpa using hi
  have hl':∀ j,j<l.length→l[j]?=ops[i+1+j]?:=fun j hj=>by have:=hl (j+1) (by simpa using hj);simpa [Nat.add_assoc,Nat.add_comm 1 j] using this
  refine wpOpIn_mono (fun a w hw=>Uf l (i+1) _ a w hl' hB' hw) ?_
  unfold wpOpIn
  simp only[h0]
  exact h
end
section
variable {F0:Fence} {R:Rel} {P:Program} {ops:Array Oper} {w0:World} {n:Nat}
theorem UM (HF:qee F0) (HN:Gf ops=true) {H:Nat→Option qS} {i:Nat} {o:Oper} {a:Act} {F:qN} {K:Act→qN→Prop} {K':Act→World→Prop} {Q':Exit→Act→World→Prop} {W:World} (hi:ops[i]?=some o)
  (hH:∀ i h,H i=some h→∀ p,qD R (h.φ p)) (hst:∀ k,qD R (F k)) (hW:R.r w0 W) (hF:∀ k,F k W)
  (hK:∀ a' F' W',K a' F'→(∀ k,qD R (F' k))→R.r w0 W'→(∀ k,F' k W')→K' a' W') (h:FOpG R P ops w0 H i o K a F):wpOpIn F0 n P ops Q' i K' a W:=by
 obtain⟨hh,hok,hn⟩:=h
 have go:∀ p W',R.r W W'→hh.φ p W'→K' (a.put o.dst (hh.f p)) W':=fun p W' he hφ=>by
  have hF':∀ k,upd F i o (hh.φ p) k W':=fun k=>by
   unfold upd
   split
   ·exact⟨hφ,fun j _=>hst j _ _ he (hF j)⟩
   ·exact hst k _ _ he (hF k)
  exact hK _ _ W' (hn p ⟨W',R.trans hW he,hF'⟩) (Zu hst i o (hok.stable hH p)) (R.trans hW he) hF'
 unfold wpOpIn
 simp only[hi]
 rcases hok with ⟨x1,rfl⟩|⟨x1,x2,v,rfl,x3⟩|⟨x1,x2,x3⟩
 ·simp only[x1,Bool.false_eq_true,if_false]
  exact⟨fun f _=>HF.fn f,go () W (R.refl W) trivial⟩
 ·simp only[x1,if_true]
  obtain⟨w',hr,he⟩:=x3 W hW fun k _=>hF k
  refine⟨fun f _=>HF.fn f,?_⟩
  rw[Oper.semAt_eq _ _ _ (XK HN hi),hr]
  exact go () w' he trivial
 ·simp only[x1,if_true]
  have h3:=x3 W hW fun k _=>hF k
  unfold QK at h3
  refine⟨fun f _=>HF.fn f,?_⟩
  rw[Oper.semAt_eq _ _ _ (XK HN hi)]
  generalize (execOp a.eval o).run P W=r at *
  cases r with
  |ok m w' =>
   cases m <;> simp only[ZN] at h3 <;> simp only[Oper.uponIn]
   case value u =>
    obtain⟨p,rfl,hp,he⟩:=h3
    exact go p w' he hp
   case skip =>
    obtain⟨p,e,hp,he⟩:=h3
    have:=go p w' he hp
    rwa [←e] at this
   case enter f args =>
    obtain⟨he,hcl⟩:=h3
    refine⟨fun h=>absurd h HF.depth,HF.call (hcl.mono fun e w'' ⟨p,he1,hp,he2⟩=>?_)⟩
    subst he1
    exact go p w'' (R.trans he he2) hp
  |halt x w'=>simp only[ZN] at h3
theorem VT (HF:qee F0) (HN:Gf ops=true) {H:Nat→Option qS} (hH:∀ i h,H i=some h→∀ p,qD R (h.φ p)) {L:Array Bool} {t:Nat} {Q:Act→qN→Prop} {Q':Exit→Act→World→Prop}
  (hQ:∀ a F W,Q a F→R.r w0 W→(∀ k,F k W)→wpAnyIn F0 n P .any ops Q' t L a W) :
  ∀ (fuel:Nat) (listed:Array Bool) (a:Act) (F:qN) (W:World),(∀ k,qD R (F k))→R.r w0 W→(∀ k,F k W)→vF R P ops w0 H L Q fuel listed a F→wpAnyIn F0 n P .any ops Q' (fuel+t) listed a W
 |0,listed,a,F,W,_,hW,hF,h=>by
  rw[h.1,Nat.zero_add]
  exact hQ a F W h.2 hW hF
 |fuel+1,listed,a,F,W,hst,hW,hF,h=>by
  rw[show fuel+1+t=fuel+t+1 by omega]
  refine⟨fun h0=>absurd h0 h.1,fun i hi=>?_⟩
  obtain⟨_,o,ho,_⟩:=mem_ready.1 hi
  exact UM HF HN ho hH hst hW hF (fun a' F' W' hk hst' hW' hF'=>VT HF HN hH hQ fuel _ a' F' W' hst' hW' hF' hk) (h.2 i hi o ho)
theorem zh {id:Nat} {l:List Oper} {Q:Exit→Act→World→Prop} {a:Act} {w:World} (R:Rel) (H:Nat→Option qS) (M:List Bool) (t:Nat) (HF:qee F0) (HN:Gf l.toArray=true) (hm:P.follows .mixedOrders=true)
  (hs:Region.noSelect l.toArray=true) (ht:qen l.toArray (QQ l.length (l.length-t)) ((qp 0 l M).map (·.1))=true) (hc0:Yj l.toArray (Array.replicate l.length false)=true) (hB:Zw l.toArray (QQ l.length (l.length-t)) ((qp 0 l M).map (·.1)) (Array.replicate l.length false)=true)
  (hseq:TS l.toArray t (l.length-t) (QQ l.length (l.length-t))=true) (hfu:l.length=(qp 0 l M).length+t) (htl:(l.drop (l.length-t)).length=t)
  (hH:∀ i h,H i=some h→∀ p,qD R (h.φ p)) (hW:R.r w w.drew)
  (h:∀ K:Act→qN→Prop,(∀ a' F',(∀ W,R.r w W→(∀ k,F' k W)→wpListIn F0 n P l.toArray Q (l.drop (l.length-t)) a' W)→K a' F')→jq R P l.toArray w H K (qp 0 l M) a (fun _ _=>True)):(Code.region id l.toArray true).wpIn F0 n P Q a w:=by
 have h:=h _ (fun a' F' hh=>hh)
 refine wpIn_region_any hm ?_
 have key:=KB (w0:=w) hH hs (fun _ _ h=>h.step) (Xu ht) (qp 0 l M) (Array.replicate l.length false) a (fun _ _=>True) (vt hc0) (fun x hx=>by
  obtain⟨j,h1,h2⟩:=vy l M 0 x hx
  refine⟨?_,List.mem_map.2 ⟨x,hx,rfl⟩⟩
  rw[h1,Nat.zero_add]
  simpa using h2) hB (fun _ _ _ _ _=>trivial) ⟨w.drew,hW,fun _=>trivial⟩ (fun _ _ _=>trivial) h
 have:=VT (n:=n) (w0:=w) HF HN hH (t:=t) (Q':=Q) (fun a F W hq hW hF=>by
  have:=Uf (F:=F0) (n:=n) (l.drop (l.length-t)) (l.length-t) _ a W (fun j _=>by rw[List.getElem?_drop];simp) (by rw[htl];exact hseq) (hq W hW hF)
  rwa [htl] at this) _ _ _ _ w.drew (fun _ _ _ _ _=>trivial) hW (fun _=>trivial) key
 rw[←hfu] at this
 simpa using this
end
end Go.Proofs.YtpbniokljofedaaGreat
namespace Go.Proofs.YtpbniokljofedaaGreat
open Go.RowKit Go.Shelf
attribute [local go_sem] Oper.semAt_some
def kz (S:Sto) (a:Nat):Nat:=(S.last[a]?.getD 0).toNat
def ZS (S:Sto) (a:Nat):Bool:=decide (8≤a) && (decide (zO S a=0) && decide (kz S a=0))
def jN (S:Sto) (k:Nat):List Nat:=(List.range k).filter (ZS S)
def QU (S:Sto):List Nat:=jN S 256
theorem KC (S:Sto) (k:Nat):jN S (k+1)=if ZS S k=true then jN S k++[k] else jN S k:=by
 unfold jN
 rw[List.range_succ,List.filter_append]
 by_cases h:ZS S k=true
 ·rw[if_pos h];simp[h]
 ·rw[if_neg h];simp[h]
theorem qfI (S:Sto) (k:Nat):(jN S k).length≤k:=Nat.le_trans (List.length_filter_le _ _) (by simp)
theorem freeTo_8 (S:Sto):jN S 8=[]:=by
 unfold jN
 rw[List.filter_eq_nil_iff]
 intro a ha
 have:a<8:=by simpa using ha
 unfold ZS
 simp[show ¬8≤a by omega]
theorem GS (S:Sto) {k m:Nat} (h:k≤m):jN S k <+: jN S m:=by
 induction m with
 |zero =>
  obtain rfl:k=0:=by omega
  exact List.prefix_refl _
 |succ m ih =>
  rcases Nat.lt_or_ge m k with h1|h1
  ·obtain rfl:k=m+1:=by omega
   exact List.prefix_refl _
  ·refine(ih h1).trans ?_
   rw[KC]
   split
   ·exact List.prefix_append _ _
   ·exact List.prefix_refl _
theorem qhc (S:Sto) (a:Nat):zO S a<256:=UInt8.toNat_lt _
theorem qec (S:Sto) (a:Nat):kz S a<256:=UInt8.toNat_lt _
theorem qgV (a b:Nat) (ha:a<256) (hb:b<256):(bits .or .u8 (a:Int) (b:Int) == 0)=(decide (a=0) && decide (b=0)):=by
 have e:bits .or .u8 (a:Int) (b:Int)=((a ||| b:Nat):Int):=by
  have e:∀ n:Nat,n<256→(BitVec.ofInt 8 (n:Int)).toNat=n:=fun n hn=>by simp[BitVec.ofInt_natCast];omega
  have hx:a ||| b<2 ^ 8:=Nat.or_lt_two_pow (by omega) (by omega)
  show IntKind.u8.wrap (((BitVec.ofInt 8 (a:Int) ||| BitVec.ofInt 8 (b:Int)).toNat:Nat):Int)=_
  rw[BitVec.toNat_or,e a ha,e b hb]
  simp[IntKind.wrap,IntKind.bits,IntKind.signed]
  omega
 rw[e]
 by_cases h:a=0∧b=0
 ·obtain⟨rfl,rfl⟩:=h;rfl
 ·have h2:a ||| b≠0:=by
   intro h3
   have h4:a≤a ||| b:=Nat.left_le_or
   have h5:b≤a ||| b:=Nat.right_le_or
   exact h ⟨by omega,by omega⟩
  have h6:(decide (a=0) && decide (b=0))=false:=by
   rcases Nat.eq_zero_or_pos a with h7|h7
   ·have:b≠0:=fun h8=>h ⟨h7,h8⟩
    simp[this]
   ·simp[show a≠0 by omega]
  rw[h6]
  simpa using fun h9:((a ||| b:Nat):Int)=0=>h2 (by omega)
theorem last_at {S:Sto} (hS:qo S=true) {w:World} {B:Nat} {v:Value} (h:Bys w B v S.last):∃ b o c,v=.slice (some ⟨b,o,none⟩) 256 c∧b<B∧∀ a,a<256→w.cell? ⟨b,o+a,none⟩=some (.int .u8 (kz S a:Int)):=by
 obtain⟨-,-,-,hl⟩:=qV hS
 obtain⟨A,c,e,hc,hm,hr⟩:=h
 obtain⟨b,o,rfl,hb,hcell⟩:=hr.2 (by omega)
 rw[hl] at e
 exact⟨b,o,c,e,hb,fun a ha=>hcell a _ (by rw[List.getElem?_map,zL (by omega)];unfold kz;rw[zL (by omega)];rfl)⟩
theorem free_in (n:Nat) (hn:1≤n) (l bs n₀:Nat) (v1 v2 v3 v4:Value) (S:Sto) (hS:qo S=true) (J Jx:List Nat→World→Prop)
  (hY:∀ pre x W,J pre W→pre.length<256→YieldAt Fence.wide (n-1) Tryz.prog l #[.int .i64 ((x:Nat):Int)] W fun e W'=>(e=.returned (.bool true)∧J (pre++[x]) W'∧Below n₀ W W')∨(e=.returned (.bool false)∧Jx (pre++[x]) W'))
  (hJ:∀ pre W W',J pre W→Ext W W'→J pre W')
  (W:World) (hbs:bs<n₀) (hn₀:n₀≤W.heap.size) (hrow:W.heap[bs]?=some (.cells #[v1,v2,v3,v4] 28 (0,0))) (hst:qT W n₀ v1 v2 v3 v4 S) (h0:J [] W) :
  CallsIn Fence.wide n Tryz.prog 175 #[.func (.yield l) #[] #[],.pointer (some ⟨bs,0,none⟩)] W fun e W'=>(∃ v,e=.returned v)∧((∃ ys,ys=QU S∧J ys W')∨(∃ pre,pre <+: QU S∧Jx pre W')):=by
 obtain⟨b3,o3,c3,rfl,hb3,hc3⟩:=TE hS hst.now
 obtain⟨b4,o4,c4,rfl,hb4,hc4⟩:=last_at hS hst.last
 replace hst:=zH hst
 refine callsIn_of_wp Tryz.func175 rfl trivial ?_ rfl
 simp only[Tryz.ntmps175,List.size_toArray,List.length_cons,List.length_nil,Nat.reduceAdd,Nat.reduceSub,Array.replicate_succ,Array.replicate_zero,List.push_toArray,List.append_toArray,List.nil_append,List.cons_append]
 gi_wp2_with fail
 gi_loopw [3] (fun i wr=>∃ k:Nat,8≤k∧k≤256∧i=.int .i64 (k:Int)∧J (jN S k) wr∧Below n₀ W wr) (fun i _=>256-(intOf i).toNat)
 case atStart=>exact⟨8,by omega,by omega,rfl,by rw[freeTo_8];exact h0,Below.refl _ _⟩
 case round =>
  obtain⟨k,hk8,hk,rfl,hJs,hB⟩:=hrel
  have hro:=(hB.block bs hbs).trans hrow
  by_cases hlt:k<256
  ·have hcx:=(World.cell?_of_block (a:=⟨b3,o3+k,none⟩) (hB.block b3 hb3)).trans (hc3 k hlt)
   have hcy:=(World.cell?_of_block (a:=⟨b4,o4+k,none⟩) (hB.block b4 hb4)).trans (hc4 k hlt)
   have gS:∀ W',ql.r wr W'→∀ i,W'.cell? ⟨bs,i,none⟩=#[v1,v2,.slice (some ⟨b3,o3,none⟩) 256 c3,.slice (some ⟨b4,o4,none⟩) 256 c4][i]?:=fun W' h=>qa (qb hro h)
   have gX:∀ W',ql.r wr W'→W'.cell? ⟨b3,o3+k,none⟩=some (.int .u8 (zO S k:Int)):=fun W' h=>Ext.cell h hcx
   have gY:∀ W',ql.r wr W'→W'.cell? ⟨b4,o4+k,none⟩=some (.int .u8 (kz S k:Int)):=fun W' h=>Ext.cell h hcy
   have hsu:=zH (KC S k)
   have hfb:ZS S k=(decide (zO S k=0) && decide (kz S k=0)):=by unfold ZS;simp[hk8]
   have hbz:(bits .or .u8 ((zO S k:Nat):Int) ((kz S k:Nat):Int) == 0)=ZS S k:=qgV _ _ (qhc S k) (qec S k) ▸ hfb.symm
   generalize zO S k=nw at *
   generalize kz S k=lw at *
   replace hfb:=zH hfb
   replace hc3:=zH hc3
   replace hc4:=zH hc4
   replace hro:=zH hro
   have hln:=zH (qfI S k)
   clear hcx hcy
   rcases Bool.eq_false_or_eq_true (ZS S k) with hfr|hfr
   ·rw[hfr] at hbz
    replace hsu:=zH ((if_pos hfr) ▸ hsu.out)
    replace hfr:=zH hfr
    gi_upto_region 3 with fail
    refine zh ql (qE []) (List.replicate 15 true) 3 wideF (by kernel_rfl) (by kernel_rfl) (by kernel_rfl) (by kernel_rfl) (by kernel_rfl) (by kernel_rfl) (by kernel_rfl) (by kernel_rfl) (by kernel_rfl) ?st (Rel.drew _ _) ?walk
    case st=>intro i h hx;simp[qE] at hx
    case walk =>
     intro K hK
     dsimp only[qp,List.replicate]
     repeat ((first|(refine qe ?_ (by rfl) (by rfl) (fun W hW _=>⟨W,?_,Rel.refl _ W⟩) ?_;rotate_left;(first|(go_simp;with_reducible rfl)|(go_simp;done)))|(refine qh (by rfl) ?_));try simp only[Act.put,qj,qf,qc,qg,zA,zB,zC])
     first
      |(refine qe (.pointer (some ⟨b3,o3+k,none⟩)) (by rfl) (by rfl) (fun W hW _=>⟨W,?_,Rel.refl _ W⟩) ?_
        ·go_simp
         rw[IntWalk.i64_in (k:Int) (by omega),if_pos (by omega)]
         simp
        simp only[Act.put,qj,qf,qc,qg,zA,zB,zC])
      |skip
     repeat ((first|(refine qe ?_ (by rfl) (by rfl) (fun W hW _=>⟨W,?_,Rel.refl _ W⟩) ?_;rotate_left;(first|(go_simp;with_reducible rfl)|(go_simp;done)))|(refine qh (by rfl) ?_));try simp only[Act.put,qj,qf,qc,qg,zA,zB,zC])
     first
      |(refine qe (.pointer (some ⟨b4,o4+k,none⟩)) (by rfl) (by rfl) (fun W hW _=>⟨W,?_,Rel.refl _ W⟩) ?_
        ·go_simp
         rw[IntWalk.i64_in (k:Int) (by omega),if_pos (by omega)]
         simp
        simp only[Act.put,qj,qf,qc,qg,zA,zB,zC])
      |skip
     repeat ((first|(refine qe ?_ (by rfl) (by rfl) (fun W hW _=>⟨W,?_,Rel.refl _ W⟩) ?_;rotate_left;(first|(go_simp;with_reducible rfl)|(go_simp;done)))|(refine qh (by rfl) ?_));try simp only[Act.put,qj,qf,qc,qg,zA,zB,zC])
     refine qt (hK _ _ fun W2 hW hF=>?_)
     clear hF hK
     dsimp only[List.drop,List.length_cons,List.length_nil]
     obtain⟨fn,tm,asg,bdy,hy,hR⟩:=hY (jN S k) k W2 (hJ _ _ _ hJs hW) (by have:=hln.out;omega)
     gi_wp2_with fail
     refine hR.mono ?_
     rintro e W3 (⟨rfl,hJ3,hk3⟩|⟨rfl,hJx3⟩)
     ·gi_wp2_with fail
      go_roundw
      case rel=>exact⟨k+1,by omega,by omega,by go_num,by rw[hsu.out];exact hJ3,hB.trans ((Below.mono hW (Nat.le_trans hn₀ hB.size)).trans hk3)⟩
      case measure=>simp[intOf];omega
     ·gi_wp2_with fail
      refine bodyPost_ret (results_none rfl _ _ _) rfl ?_
      exact⟨⟨_,rfl⟩,.inr ⟨_,hsu.out ▸ GS S (by omega),hJx3⟩⟩
   ·rw[hfr] at hbz
    replace hsu:=zH ((if_neg (show ¬ZS S k=true by rw[hfr];decide)) ▸ hsu.out)
    replace hfr:=zH hfr
    gi_upto_region 3 with fail
    refine zh ql (qE []) (List.replicate 15 true) 3 wideF (by kernel_rfl) (by kernel_rfl) (by kernel_rfl) (by kernel_rfl) (by kernel_rfl) (by kernel_rfl) (by kernel_rfl) (by kernel_rfl) (by kernel_rfl) ?st (Rel.drew _ _) ?walk
    case st=>intro i h hx;simp[qE] at hx
    case walk =>
     intro K hK
     dsimp only[qp,List.replicate]
     repeat ((first|(refine qe ?_ (by rfl) (by rfl) (fun W hW _=>⟨W,?_,Rel.refl _ W⟩) ?_;rotate_left;(first|(go_simp;with_reducible rfl)|(go_simp;done)))|(refine qh (by rfl) ?_));try simp only[Act.put,qj,qf,qc,qg,zA,zB,zC])
     first
      |(refine qe (.pointer (some ⟨b3,o3+k,none⟩)) (by rfl) (by rfl) (fun W hW _=>⟨W,?_,Rel.refl _ W⟩) ?_
        ·go_simp
         rw[IntWalk.i64_in (k:Int) (by omega),if_pos (by omega)]
         simp
        simp only[Act.put,qj,qf,qc,qg,zA,zB,zC])
      |skip
     repeat ((first|(refine qe ?_ (by rfl) (by rfl) (fun W hW _=>⟨W,?_,Rel.refl _ W⟩) ?_;rotate_left;(first|(go_simp;with_reducible rfl)|(go_simp;done)))|(refine qh (by rfl) ?_));try simp only[Act.put,qj,qf,qc,qg,zA,zB,zC])
     first
      |(refine qe (.pointer (some ⟨b4,o4+k,none⟩)) (by rfl) (by rfl) (fun W hW _=>⟨W,?_,Rel.refl _ W⟩) ?_
        ·go_simp
         rw[IntWalk.i64_in (k:Int) (by omega),if_pos (by omega)]
         simp
        simp only[Act.put,qj,qf,qc,qg,zA,zB,zC])
      |skip
     repeat ((first|(refine qe ?_ (by rfl) (by rfl) (fun W hW _=>⟨W,?_,Rel.refl _ W⟩) ?_;rotate_left;(first|(go_simp;with_reducible rfl)|(go_simp;done)))|(refine qh (by rfl) ?_));try simp only[Act.put,qj,qf,qc,qg,zA,zB,zC])
     refine qt (hK _ _ fun W2 hW hF=>?_)
     clear hF hK
     dsimp only[List.drop,List.length_cons,List.length_nil]
     refine⟨fun _ h=>(by cases h),?_⟩
     gi_wp2_with fail
     go_roundw
     case rel=>exact⟨k+1,by omega,by omega,by go_num,by rw[hsu.out];exact hJ _ _ _ hJs hW,hB.trans (Below.mono hW (Nat.le_trans hn₀ hB.size))⟩
     case measure=>simp[intOf];omega
  ·gi_wp2_with fail
   obtain rfl:k=256:=by omega
   go_end0
   exact⟨⟨_,rfl⟩,.inl ⟨_,rfl,hJs⟩⟩
end Go.Proofs.YtpbniokljofedaaGreat
namespace Go.Proofs.YtpbniokljofedaaGreat
open Go.RowKit
theorem YO {F:Fence} {n:Nat} {P:Program} {ops:Array Oper} {l:List Oper} {a:Act} {w:World} {Q:Exit→Act→World→Prop} (h:QA (wpListIn F n P ops Q l a w)):wpListIn F n P ops Q l a w:=h
theorem YK {F:Fence} {nf:Nat} {P:Program} (w:World) {ops:Array Oper} {rest:List Oper} {o:Oper} {a:Act} {Q:Exit→Act→World→Prop} (hgd:o.guard=none) (s x:Operand) (t:TypeId)
  (ho:o.op=.call { callee:=.builtin .append,args:=#[s,x],argTypes:=#[t,t] })
  (base:Nat) (e:TypeId) (i:TypeInfo) (z:Value) (size bytes:Nat) (ht:P.underlying t=some (.slice e)) (hi:P.info? e=some i) (hz:i.zero=some z)
  (hsize:i.size=size) (hby:i.bytes=bytes) (hzs:z.cells.size=size) (hsz:0<size)
  (v:Value) (n:Nat) (xs:List Value) (hs:a.eval s=v) (hown:w.ownsRow base e size v n xs) (cs:Array Value)
  (hx:a.eval x=.slice (some ⟨w.heap.size,0,none⟩) 1 1) (hl:cs.size=size) (h1:∀ u∈cs.toList,u.oneCell'=true)
  (hn:n<1073741824) (hbytes:bytes≤65536) (hbase:base≤w.heap.size)
  (h:∀ v' w',w'.ownsRow base e size v' (n+1) (xs++cs.toList)→w.grownBy w' v.ownBlock→(v'.ownBlock=v.ownBlock∨∃ g,v'.ownBlock=some g∧w.heap.size≤g)→wpListIn F nf P ops Q rest (a.put o.dst v') w') :
  wpListIn F nf P ops Q (o :: rest) a (w.alloc (.cells cs e)):=by
 refine wpListIn_plain hgd fun K hK=>?_
 have hb:(n+1)*bytes≤140737488355328:=Nat.le_trans (Nat.mul_le_mul_left _ hbytes) (by omega)
 have hm:n+1≤maxLen:=by unfold maxLen;omega
 obtain⟨v',w',hrun,h2,h3,_,h5⟩:=run_append_own_at (P:=P) (w.alloc (.cells cs e)) base t o.type e i z size bytes ht hi hz hsize hby hzs hsz v n xs (hown.alloc _) ⟨w.heap.size,0,none⟩ 1 1 cs.toList
  (by rw[Array.length_toList];omega) (KG w cs e) h1 hm hb (by simp;omega)
 have hg:w.grownBy w' v.ownBlock:=⟨h3.os,h3.tape,h3.output,Nat.le_trans (by simp) h3.size,fun k hk hne=>(h3.block k (by simp;omega) hne).trans (zK w _ k hk)⟩
 unfold Oper.wpIn
 refine⟨?_,?_⟩
 ·simp[Oper.about,ho,resolve,Target.leads,Sem.run_pure]
 ·rw[Oper.semAt_plain F _ _ (by rw[ho];intro c hc';cases hc')]
  simp only[execOp,ho,resolve,invoke,builtin,Sem.run_bind,Sem.run_pure,Result.andThen_ok,List.map_toArray,List.map_cons,List.map_nil,hs,hx,hrun]
  exact hK _ _ (h v' w' h2 hg (h5.imp id fun e=>⟨_,e,by simp⟩))
def RefsQ (S:Sto) (root next:Int) (dead:List Int) (w:World) (e:Ending) (w':World):Prop:=Below w.heap.size w w' ∧
 ((e=.returned (.tuple #[.slice none 0 0,.int .i64 8])∧∀ vs,Qf S root next dead vs→∃ refs nodes,qQ S (Qt root dead vs) refs nodes∧¬Qz S refs) ∨
  ∃ vs refs nodes cb ca vv lo,e=.returned (.tuple #[.slice (some ⟨cb,6,none⟩) 256 256,.int .i64 0])∧w.heap.size≤lo∧Taken S root next dead vs refs nodes lo cb ca vv w')
theorem qea {R:Ending→World→Prop} {a:Act} {W:World} {u v:Value} (h2:a.tmps[2]?.getD undef=u) (h3:a.tmps[3]?.getD undef=v) (hd:a.defers=[]) (hR:R (.returned (.tuple #[u,v])) W):bodyPost Tryz.prog Tryz.f19 R .ret a W:=by
 refine bodyPost_ret (v:=.tuple #[u,v]) ?_ hd hR
 simp[results,Tryz.results19,go_sem,h2,h3]
theorem refs_any (A1:Option Addr) (n1 c1:Nat) (A2:Option Addr) (n2 c2:Nat) (A3:Option Addr) (n3 c3:Nat) (A4:Option Addr) (n4 c4:Nat) (gen root next:Int) (A5:Option Addr) (c5:Nat) (S:Sto) (dead:List Int) (w:World)
  (h:qT w w.heap.size (.slice A1 n1 c1) (.slice A2 n2 c2) (.slice A3 n3 c3) (.slice A4 n4 c4) S) (hd:ZE w w.heap.size (.slice A5 dead.length c5) dead) :
  Calls Tryz.prog 19 #[.agg (qB (.slice A1 n1 c1) (.slice A2 n2 c2) (.slice A3 n3 c3) (.slice A4 n4 c4) gen root next (.slice A5 dead.length c5))] w (RefsQ S root next dead w):=by
 have HT:=zH (fun W (hx:Ext w W)=>km A1 n1 c1 A2 n2 c2 A3 n3 c3 A4 n4 c4 gen root next A5 c5 S dead W (h.ext hx) (by
  obtain⟨A,c,e,q1,q2,q3⟩:=hd
  exact⟨A,c,e,q1,q2,(q3.below hx).more hx.size⟩))
 clear h hd
 go_enter Tryz.func19,Tryz.ntmps19
 go_wp2_with fail
 generalize hw1:World.alloc w _=w1
 have x1:Ext w w1:=by rw[←hw1];exact zN _ _
 clear hw1
 refine(HT.out w1 x1).mono ?_
 rintro e w2 ⟨hB,hQ⟩
 have x2:Below w.heap.size w w2:=Ext.trans x1 hB
 rcases hQ with ⟨rfl,hno⟩|⟨vs,refs,nodes,cb,ca,vv,rfl,hT⟩
 ·have HB:RefsQ S root next dead w (.returned (.tuple #[.slice none 0 0,.int .i64 8])) w2:=⟨x2,.inl ⟨rfl,hno⟩⟩
  replace HB:=zH HB
  clear hno hB
  go_wp2_with fail
  exact qea rfl rfl rfl HB.out
 ·have HB:RefsQ S root next dead w (.returned (.tuple #[.slice (some ⟨cb,6,none⟩) 256 256,.int .i64 0])) w2:=⟨x2,.inr ⟨vs,refs,nodes,cb,ca,vv,_,rfl,x1.size,hT⟩⟩
  replace HB:=zH HB
  clear hT hB
  go_wp2_with fail
  exact qea rfl rfl rfl HB.out
def Va (nodes:Nat→Nat) (k:Nat):List Nat:=(List.range k).filter fun a=>decide (0<nodes a)
theorem qfw (nodes:Nat→Nat) (k:Nat):Va nodes (k+1)=if 0<nodes k then Va nodes k++[k] else Va nodes k:=by
 unfold Va
 rw[List.range_succ,List.filter_append]
 by_cases h:0<nodes k
 ·rw[if_pos h];simp[h]
 ·rw[if_neg h];simp[h]
theorem qbl (nodes:Nat→Nat) (k:Nat):(Va nodes k).length≤k:=by
 unfold Va
 exact Nat.le_trans (List.length_filter_le _ _) (by simp)
def qgc (S:Sto) (root next:Int) (dead:List Int) (w:World) (e:Ending) (w':World):Prop:=Below w.heap.size w w' ∧
 ((e=.returned (.tuple #[.slice none 0 0,.int .i64 8])∧∀ vs,Qf S root next dead vs→∃ refs nodes,qQ S (Qt root dead vs) refs nodes∧¬Qz S refs) ∨
  ∃ vs refs nodes v lo,e=.returned (.tuple #[v,.int .i64 0])∧w.heap.size≤lo∧Qf S root next dead vs∧qQ S (Qt root dead vs) refs nodes∧Qz S refs∧w'.ownsRow lo 3 1 v (Va nodes 256).length (jG (Va nodes 256)))
structure N1 (nodes:Nat→Nat) (w2:World) (v i:Value) (wr:World):Prop where
 ex:∃ k:Nat,k≤256∧i=.int .i64 (k:Int)∧wr.ownsRow w2.heap.size 3 1 v (Va nodes k).length (jG (Va nodes k))∧Ext w2 wr
theorem qbm {R:Ending→World→Prop} {a:Act} {W:World} {u v:Value} (h2:a.tmps[2]?.getD undef=u) (h3:a.tmps[3]?.getD undef=v) (hd:a.defers=[]) (hR:R (.returned (.tuple #[u,v])) W):bodyPost Tryz.prog Tryz.f21 R .ret a W:=by
 refine bodyPost_ret (v:=.tuple #[u,v]) ?_ hd hR
 simp[results,Tryz.results21,go_sem,h2,h3]
theorem qhz (A1:Option Addr) (n1 c1:Nat) (A2:Option Addr) (n2 c2:Nat) (A3:Option Addr) (n3 c3:Nat) (A4:Option Addr) (n4 c4:Nat) (gen root next:Int) (A5:Option Addr) (c5:Nat) (S:Sto) (dead:List Int) (w:World)
  (h:qT w w.heap.size (.slice A1 n1 c1) (.slice A2 n2 c2) (.slice A3 n3 c3) (.slice A4 n4 c4) S) (hd:ZE w w.heap.size (.slice A5 dead.length c5) dead) :
  Calls Tryz.prog 21 #[.agg (qB (.slice A1 n1 c1) (.slice A2 n2 c2) (.slice A3 n3 c3) (.slice A4 n4 c4) gen root next (.slice A5 dead.length c5))] w (qgc S root next dead w):=by
 have HT:=zH (fun W (hx:Ext w W)=>km A1 n1 c1 A2 n2 c2 A3 n3 c3 A4 n4 c4 gen root next A5 c5 S dead W (h.ext hx) (by
  obtain⟨A,c,e,q1,q2,q3⟩:=hd
  exact⟨A,c,e,q1,q2,(q3.below hx).more hx.size⟩))
 clear h hd
 go_enter Tryz.func21,Tryz.ntmps21
 go_wp2_with fail
 generalize hw1:World.alloc w _=w1
 have x1:Ext w w1:=by rw[←hw1];exact zN _ _
 clear hw1
 refine(HT.out w1 x1).mono ?_
 rintro e w2 ⟨hB,hQ⟩
 have x2:Below w.heap.size w w2:=Ext.trans x1 hB
 rcases hQ with ⟨rfl,hno⟩|⟨vs,refs,nodes,cb,ca,vv,rfl,hT⟩
 ·have HB:qgc S root next dead w (.returned (.tuple #[.slice none 0 0,.int .i64 8])) w2:=⟨x2,.inl ⟨rfl,hno⟩⟩
  replace HB:=zH HB
  clear hno hB
  go_wp2_with fail
  exact qbm rfl rfl rfl HB.out
 ·have hcc:∀ j v,(Ky nodes)[j]?=some v→w2.cell? ⟨cb,262+j,none⟩=some v:=fun j v hj=>by
   obtain⟨h1,rfl⟩:=qgz hj
   rw[qa hT.row]
   exact hT.ar.node j h1
  replace hT:=zH hT
  clear hB
  go_wp2_with (refine ky rfl 82 (.tmp 17) rfl cb 262 rfl (Ky nodes) _ hcc Tryz.underlying82 rfl (by rw[show (Ky nodes).length=256 by simp[Ky]];kernel_rfl) ?_)
  clear hcc
  go_loopw [2,19] (fun v i wq=>N1 nodes w2 v i wq) (fun _ i _=>256-(intOf i).toNat)
  case atStart=>exact⟨0,by omega,rfl,World.ownsRow_nil _ _ _ _,Ext.refl _⟩
  case round =>
   obtain⟨k,hk,rfl,own,xr⟩:=hrel.ex
   clear hrel
   by_cases hlt:k<256
   ·have hix:=YH (cs:=(Ky nodes).toArray) hlt (v:=.int .i64 (nodes k)) (by rw[List.getElem?_toArray];exact Gx nodes hlt)
    have hml:=qbl nodes k
    generalize (Ky nodes).toArray=arr at *
    obtain⟨AR,cR,rfl,hcr1,hcr2⟩:=qw own
    clear hcr1 hcr2
    replace own:=zH own
    replace xr:=zH xr
    have hsu:=zH (qfw nodes k)
    rcases Nat.eq_zero_or_pos (nodes k) with h0|h0
    ·have hc1:decide ((nodes k:Int)>0)=false:=decide_eq_false (by omega)
     have hc2:decide (0<nodes k)=false:=decide_eq_false (by omega)
     have IR:N1 nodes w2 (.slice AR (Va nodes k).length cR) (.int .i64 ((k:Int)+1)) wr:=⟨k+1,hlt,rfl,by rw[hsu.out,if_neg (by omega)];exact own.out,xr.out⟩
     replace IR:=zH IR
     replace h0:=zH h0
     go_wp2_with fail
     refine⟨IR.out,?_⟩
     simp[intOf]
     omega
    ·have hc1:decide ((nodes k:Int)>0)=true:=decide_eq_true (by omega)
     have hc2:decide (0<nodes k)=true:=decide_eq_true h0
     obtain⟨i0,hi,hz0,hz1,hz2⟩:=info_parts Tryz.info_int
     replace hml:=zH hml
     replace h0:=zH h0
     go_wp2_with (at_builtin;refine qZ ?_)
     refine QA.go (ZP _ rfl (.tmp 25) (.tmp 27) 30 rfl w2.heap.size 3 i0 (.int .i64 0) 1 8 Tryz.underlying30 hi hz0 hz1 hz2 rfl (by decide) _ _ _ rfl own.out #[.int .i64 (k:Int)] rfl rfl (by simp[Value.oneCell']) (by have:=hml.out;omega) (by decide) xr.out.size ?_)
     intro v8 w8 own8 _ hB8 _
     have IR:N1 nodes w2 v8 (.int .i64 ((k:Int)+1)) w8:=⟨k+1,hlt,rfl,by
      rw[hsu.out,if_pos h0.out,Kd,List.length_append,List.length_singleton]
      exact own8,Below.trans xr.out hB8⟩
     replace IR:=zH IR
     clear own8 hB8 hi hz0 hz1 hz2
     go_wp2_with fail
     refine⟨IR.out,?_⟩
     simp[intOf]
     omega
   ·obtain rfl:k=256:=by omega
    have HB:qgc S root next dead w (.returned (.tuple #[_,.int .i64 0])) wr:=⟨x2.trans (Below.mono xr x2.size),.inr ⟨vs,refs,nodes,_,w2.heap.size,rfl,x2.size,hT.out.pool,hT.out.cnt,hT.out.enough,own⟩⟩
    replace HB:=zH HB
    replace own:=zH own
    replace xr:=zH xr
    go_wp2_with fail
    exact qbm rfl rfl rfl HB.out
end Go.Proofs.YtpbniokljofedaaGreat
