/- Texts OnOwn, IWrite, Pad, Seal, NWrite, Make0, NewD, BackW, joined. -/
import Derived.Test.YtpbniokljofedaaGreatZA01
import Derived.Test.YtpbniokljofedaaGreatZA03
import Derived.Test.YtpbniokljofedaaGreatZA06
import Derived.Test.YtpbniokljofedaaGreatZA07
import Derived.Test.YtpbniokljofedaaGreatZA09
set_option linter.unusedSimpArgs false
set_option linter.unusedVariables false
namespace Go.Proofs.YtpbniokljofedaaGreat
open Go.RowKit
theorem Gm {w:World} {lo g n c k:Nat} {l:List UInt8} (h:w.ownsRow lo 5 1 (.slice (some ⟨g,0,none⟩) n c) n (l.map bv)) (hk:k<n) (x:UInt8):(w.setCell ⟨g,k,none⟩ (bv x)).ownsRow lo 5 1 (.slice (some ⟨g,0,none⟩) n c) n ((l.set k x).map bv):=by
 obtain⟨h1,h2⟩:=h
 rcases h2 with ⟨e,_⟩|⟨g',cap,cur,e,hg,hr,hc,hm,hs,ht⟩
 ·cases e
 ·cases e
  have hk2:k<cur.size:=by omega
  refine⟨by simpa using h1,.inr ⟨g,c,_,rfl,hg,qj hr k _,hc,hm,by simpa using hs,?_⟩⟩
  apply List.ext_getElem?
  intro i
  rw[List.map_set,←ht,List.getElem?_take,List.getElem?_set,List.getElem?_take]
  simp only[Nat.mul_one,Array.getElem?_toList,Array.getElem?_setIfInBounds,List.length_take,Array.length_toList]
  by_cases hi:i<n
  ·rw[if_pos hi,if_pos hi]
   by_cases e:k=i
   ·subst e
    rw[if_pos rfl,if_pos rfl,if_pos hk2,if_pos (by omega)]
   ·rw[if_neg e,if_neg e]
  ·rw[if_neg hi,if_neg hi,if_neg (by omega)]
theorem qaR {w:World} {lo g n c b k:Nat} {l:List UInt8} {v:Value} (h:w.ownsRow lo 5 1 (.slice (some ⟨g,0,none⟩) n c) n (l.map bv)) (hg:g≠b):(w.setCell ⟨b,k,none⟩ v).ownsRow lo 5 1 (.slice (some ⟨g,0,none⟩) n c) n (l.map bv):=by
 obtain⟨h1,h2⟩:=h
 refine⟨h1,h2.imp id fun ⟨g',cap,cur,e,h3,h4,h5⟩=>?_⟩
 cases e
 exact⟨g,c,cur,rfl,h3,(Below.heap_setCell _ _ _ _ hg).trans h4,h5⟩
theorem Zc {w:World} {lo g n c:Nat} {l:List UInt8} (h:w.ownsRow lo 5 1 (.slice (some ⟨g,0,none⟩) n c) n (l.map bv)):(∀ k,k<n→w.cell? ⟨g,k,none⟩=some (.int .u8 ((l[k]?.getD 0).toNat:Int)))∧(∀ k,w.frozen? ⟨g,k,none⟩=false)∧lo≤g∧g<w.heap.size:=by
 have h1:=h.1
 obtain⟨h0,h2⟩:=h
 rcases h2 with ⟨e,_⟩|⟨g',cap,cur,e,hg,hr,hc,hm,hs,ht⟩
 ·cases e
 ·cases e
  refine⟨fun k hk=>?_,qg hr,hg,(zG.1 hr).1⟩
  have hl:l.length=n:=by simpa using h1
  have hkl:k<l.length:=by omega
  have e2:(l.map bv)[k]?=some (bv l[k]):=by rw[List.getElem?_map,List.getElem?_eq_getElem hkl];rfl
  rw[←ht,List.getElem?_take,if_pos (by omega)] at e2
  have e3:cur[k]?=cur.toList[k]?:=by simp
  rw[qa hr,e3,e2,List.getElem?_eq_getElem hkl]
  rfl
set_option maxHeartbeats 2000000 in
set_option maxRecDepth 100000 in
theorem qcg (A1:Option Addr) (n1 c1:Nat) (A2:Option Addr) (n2 c2:Nat) (A3:Option Addr) (n3 c3:Nat) (A4:Option Addr) (n4 c4:Nat) (S:Sto) (hl:S.now.length<1073741824) (w:World) (h:Qc w w.heap.size (.slice A1 n1 c1) (.slice A2 n2 c2) (.slice A3 n3 c3) (.slice A4 n4 c4) S) :
  Calls Tryz.prog 66 #[Qd A1 n1 c1 A2 n2 c2 A3 n3 c3 A4 n4 c4] w (zD (fun u W=>∃ b A3' c3',u=.pointer (some ⟨b,0,none⟩)∧w.heap.size≤b∧W.heap[b]?=some (.cells #[.slice A1 n1 c1,.slice A2 n2 n2,.slice A3' n3 c3',.slice A4 n4 c4] 191 (0,0))∧W.ownsRow w.heap.size 5 1 (.slice A3' n3 c3') n3 (S.now.map bv)) w):=by
 have hn3:Hid (n3=S.now.length):=zH h.now.at_.1
 obtain⟨-,h2a,h2b,-⟩:=h.ws.at_
 have HC:=zH (fun W (hW:Ext w W)=>JI (.slice A3 n3 c3) S.now hl W (h.ext hW).now)
 clear h
 go_enter Tryz.func66,Tryz.ntmps66
 go_wp2_with fail
 generalize hw1:(World.alloc _ _)=w1
 have x1:Ext w w1:=by rw[←hw1];exact Ext.alloc _ _
 have r1:w1.heap[w.heap.size]?=some (.cells #[.slice A1 n1 c1,.slice A2 n2 c2,.slice A3 n3 c3,.slice A4 n4 c4] 28 (0,0)):=by rw[←hw1];exact World.alloc_heap_at _ _ _ rfl
 clear hw1
 refine(HC.out _ x1).mono ?_
 rintro e w2 ⟨u,rfl,hu,hB⟩
 have x2:=x1.trans hB
 have r2:=qc r1 hB
 have s1:w.heap.size<w1.heap.size:=(zG.1 r1).1
 obtain⟨A3',c3',rfl,_,_⟩:=qJ hu
 have k2:=qa r2
 have f2:=qg r2
 clear hB r1 HC
 rw[←hn3.out] at hu ⊢
 go_wp2_with fail
 have hu3:=zp (w':=w2.setCell ⟨w.heap.size,2,none⟩ (.slice A3' n3 c3')) hu (fun b hb _=>Below.heap_setCell _ _ _ _ (by show b≠w.heap.size;omega))
 generalize hw3:(World.setCell _ _ _)=w3 at *
 have x3:Ext w w3:=by rw[←hw3];exact Below.setCell x2 (p:=⟨w.heap.size,2,none⟩) (Nat.le_refl _) _
 have r3:w3.heap[w.heap.size]?=some (.cells #[.slice A1 n1 c1,.slice A2 n2 c2,.slice A3' n3 c3',.slice A4 n4 c4] 28 (0,0)):=by rw[←hw3];exact qj r2 2 _
 clear hw3 k2 f2 r2 x2 hu
 refine(qbC A2 n2 c2 h2a h2b _).mono ?_
 rintro e w4 ⟨rfl,hB⟩
 have x4:=x3.trans hB
 have r4:=qc r3 hB
 have hu4:=QJ hu3 hB
 have k4:=qa r4
 have f4:=qg r4
 have s4:w.heap.size<w4.heap.size:=(zG.1 r4).1
 clear hB r3 x3 hu3
 replace hu4:=zH hu4
 go_wp2
 have hu5:=zp (w':=w4.setCell ⟨w.heap.size,1,none⟩ (.slice A2 n2 n2)) hu4.out (fun b hb _=>Below.heap_setCell _ _ _ _ (by show b≠w.heap.size;omega))
 have bf:Below w.heap.size w ((w4.setCell ⟨w.heap.size,1,none⟩ (.slice A2 n2 n2)).alloc (.cells #[.slice A1 n1 c1,.slice A2 n2 n2,.slice A3' n3 c3',.slice A4 n4 c4] 191)):=by
  have x4':Below w.heap.size w w4:=x4
  exact(by repeat' (first|with_reducible exact Below.refl _ _|with_reducible assumption|with_reducible apply Below.drew|with_reducible apply qv|with_reducible refine Below.alloc ?_ ?_ _|with_reducible refine Below.setCell ?_ ?_ _|(simp;done)|(simp;omega)|omega))
 go_ret
 exact⟨_,rfl,⟨w4.heap.size,A3',c3',rfl,by omega,World.alloc_heap_at _ _ _ (by simp),Qu (QJ hu5 (Ext.alloc _ _)) (by omega)⟩,bf⟩
set_option maxHeartbeats 4000000 in
set_option maxRecDepth 100000 in
theorem qcf (x:It) (hx:ZL x) (hb:itB x.r x.val.length=true) (A:Option Addr) (c:Nat) (w:World) (h:Bys w w.heap.size (.slice A x.val.length c) x.val) :
  Calls Tryz.prog 177 #[vA x.k x.i x.o x.r A x.val.length c] w (zD (IsB0 w.heap.size (12+x.val.length) (js x)) w):=by
 have HC:=zH (fun W=>jJ x.k x.i x.o x.r A x.val.length c W)
 rw[hb,show jy true=0 from rfl] at HC
 obtain⟨kk,ki,ko,kr,l⟩:=x
 obtain⟨⟨hk1,hk2⟩,⟨hi1,hi2⟩,⟨ho1,ho2⟩,⟨hr1,hr2⟩,hl⟩:=hx
 dsimp only at *
 clear hb
 obtain⟨k,rfl⟩:=Int.eq_ofNat_of_zero_le hk1
 obtain⟨i,rfl⟩:=Int.eq_ofNat_of_zero_le hi1
 obtain⟨o,rfl⟩:=Int.eq_ofNat_of_zero_le ho1
 obtain⟨r,rfl⟩:=Int.eq_ofNat_of_zero_le hr1
 have HB:Hid (js ⟨k,i,o,r,l⟩=[[UInt8.ofNat k],qw i 4,qw o 4,qw r 2,[UInt8.ofNat l.length],l].flatten):=by
  refine zH ?_
  simp[js]
 have hkb:bv (UInt8.ofNat k)=.int .u8 (k:Int):=by simp[bv];omega
 have hlb:bv (UInt8.ofNat l.length)=.int .u8 ((l.length:Nat):Int):=by simp[bv];omega
 have HL:Hid ([[UInt8.ofNat k],qw i 4,qw o 4,qw r 2,[UInt8.ofNat l.length],l].flatten.length=12+l.length):=by
  refine zH ?_
  simp[QZ]
  omega
 have hcv:IntKind.u8.wrap ((l.length:Nat):Int)=((l.length:Nat):Int):=by simp[IntKind.wrap,IntKind.bits,IntKind.signed];omega
 replace hkb:=zH hkb
 replace hlb:=zH hlb
 replace h:=zH h
 rw[HB.out]
 clear HB
 generalize hFL:[[UInt8.ofNat k],qw i 4,qw o 4,qw r 2,[UInt8.ofNat l.length],l]=FL at *
 go_enter Tryz.func177,Tryz.ntmps177
 go_wp2_with fail
 generalize hw1:World.alloc w _=w1
 have x1:Ext w w1:=by rw[←hw1];exact Ext.alloc _ _
 have r1:w1.heap[w.heap.size]?=some (.cells #[.int .u8 k,.int .u32 i,.int .u32 o,.int .i64 r,.slice A l.length c] 68 (0,0)):=by rw[←hw1];exact World.alloc_heap_at _ _ _ rfl
 clear hw1
 refine(HC.out w1).mono ?_
 rintro e w2 ⟨rfl,hB⟩
 have x2:Ext w w2:=Ext.trans x1 hB
 have r2:=qc r1 hB
 have k2:=qa r2
 clear hB r1 x1 HC
 go_wp2_with fail
 refine(GF r (by omega) _).mono ?_
 rintro e w3 ⟨u,rfl,⟨u2,rfl,A2,c2,rfl,hb2,hf2⟩,hB⟩
 have x3:Ext w w3:=Ext.trans x2 hB
 have r3:=qc r2 hB
 have z3:=x2.size
 clear hB k2 r2 x2
 go_wp2_with fail
 have hE:∀ W,Ext w3 W→∀ j,W.cell? ⟨w.heap.size,j,none⟩=#[.int .u8 k,.int .u32 i,.int .u32 o,.int .i64 r,.slice A l.length c][j]?:=fun W h=>qa (qc r3 h)
 refine QR (qG [(3,ZK w3.heap.size 1 5 #[.int .u8 k]),(7,VL w3.heap.size 4 (qw i 4)),(11,VL w3.heap.size 4 (qw o 4)),(17,ZK w3.heap.size 1 5 #[.int .u8 (l.length:Nat)]),(20,Jq w3.heap.size 6 26 (jY FL)),(21,VL w3.heap.size (12+l.length) FL.flatten)]) 22 (by kernel_rfl) (by kernel_rfl) (by kernel_rfl) (by decide) (by kernel_rfl) (by kernel_rfl) ?st ?walk
 case st=>exact QY (by simp only[List.forall_mem_cons];exact⟨jR _ _ _ _,ZJ _ _ _,ZJ _ _ _,jR _ _ _ _,JX (jY.stable _),ZJ _ _ _,fun _ h=>by cases h⟩)
 case walk =>
  intro K hK
  dsimp only[List.take]
  repeat ((first|(refine qB ?_ (by rfl) (by rfl) (fun W hW _=>⟨W,?_,Ext.refl W⟩) ?_;rotate_left;(first|(go_simp;with_reducible rfl)|(go_simp;done)))|(refine qN (by rfl) ?_));try simp only[Act.put,qi,qe,qb,qf,qC,qY,qe,zA,zB,zC])
  refine Qm (ZK w3.heap.size 1 5 #[.int .u8 k]) (by rfl) (by rfl) (fun W hW _=>?_) (fun (p3:Nat)=>?_)
  ·refine Vq ?_ hW.size
   go_simp
  simp only[Act.put,qi,qe,qb,qf,qC,qY,qe,zA,zB,zC]
  repeat ((first|(refine qB ?_ (by rfl) (by rfl) (fun W hW _=>⟨W,?_,Ext.refl W⟩) ?_;rotate_left;(first|(go_simp;with_reducible rfl)|(go_simp;done)))|(refine qN (by rfl) ?_));try simp only[Act.put,qi,qe,qb,qf,qC,qY,qe,zA,zB,zC])
  refine Qm (VL w3.heap.size 4 (qw i 4)) (by rfl) (by rfl) (fun W hW _=>?_) (fun p7=>?_)
  ·refine Qz ?_ ((ku i (by omega) W).mono fun e w' h=>?_)
   ·go_simp
   obtain⟨u,rfl,⟨A,c,rfl,h1,h2⟩,h3⟩:=h
   exact⟨(A,c),rfl,⟨h1,h2.mono hW.size⟩,h3⟩
  obtain⟨A7,c7⟩:=p7
  simp only[Act.put,qi,qe,qb,qf,qC,qY,qe,zA,zB,zC]
  repeat ((first|(refine qB ?_ (by rfl) (by rfl) (fun W hW _=>⟨W,?_,Ext.refl W⟩) ?_;rotate_left;(first|(go_simp;with_reducible rfl)|(go_simp;done)))|(refine qN (by rfl) ?_));try simp only[Act.put,qi,qe,qb,qf,qC,qY,qe,zA,zB,zC])
  refine Qm (VL w3.heap.size 4 (qw o 4)) (by rfl) (by rfl) (fun W hW _=>?_) (fun p11=>?_)
  ·refine Qz ?_ ((ku o (by omega) W).mono fun e w' h=>?_)
   ·go_simp
   obtain⟨u,rfl,⟨A,c,rfl,h1,h2⟩,h3⟩:=h
   exact⟨(A,c),rfl,⟨h1,h2.mono hW.size⟩,h3⟩
  obtain⟨A11,c11⟩:=p11
  simp only[Act.put,qi,qe,qb,qf,qC,qY,qe,zA,zB,zC]
  repeat ((first|(refine qB ?_ (by rfl) (by rfl) (fun W hW _=>⟨W,?_,Ext.refl W⟩) ?_;rotate_left;(first|(go_simp;with_reducible rfl)|(go_simp;done)))|(refine qN (by rfl) ?_));try simp only[Act.put,qi,qe,qb,qf,qC,qY,qe,zA,zB,zC])
  refine Qm (ZK w3.heap.size 1 5 #[.int .u8 (l.length:Nat)]) (by rfl) (by rfl) (fun W hW _=>?_) (fun (p17:Nat)=>?_)
  ·refine Vq ?_ hW.size
   go_simp
  simp only[Act.put,qi,qe,qb,qf,qC,qY,qe,zA,zB,zC]
  repeat ((first|(refine qB ?_ (by rfl) (by rfl) (fun W hW _=>⟨W,?_,Ext.refl W⟩) ?_;rotate_left;(first|(go_simp;with_reducible rfl)|(go_simp;done)))|(refine qN (by rfl) ?_));try simp only[Act.put,qi,qe,qb,qf,qC,qY,qe,zA,zB,zC])
  refine Qm (Jq w3.heap.size 6 26 (jY FL)) (by rfl) (by rfl) (fun W hW hp=>?_) (fun (p20:Nat)=>?_)
  ·obtain⟨f3,_⟩:W.heap[p3]?=some (.cells #[.int .u8 k] 5 (0,0))∧w3.heap.size≤p3:=(hp 3 (by decide)).1
   obtain⟨f7,_⟩:Bys W W.heap.size (.slice A7 4 c7) (qw i 4)∧_:=(hp 7 (by decide)).1
   obtain⟨f11,_⟩:Bys W W.heap.size (.slice A11 4 c11) (qw o 4)∧_:=(hp 11 (by decide)).1
   obtain⟨f17,_⟩:W.heap[p17]?=some (.cells #[.int .u8 (l.length:Nat)] 5 (0,0))∧w3.heap.size≤p17:=(hp 17 (by decide)).1
   have hR:jY FL [.slice (some ⟨p3,0,none⟩) 1 1,.slice A7 4 c7,.slice A11 4 c11,.slice A2 2 c2,.slice (some ⟨p17,0,none⟩) 1 1,.slice A l.length c] W:=by
    subst hFL
    rw[←hkb.out] at f3
    rw[←hlb.out] at f17
    refine⟨rfl,fun j v m hv hl=>?_⟩
    rcases j with _|_|_|_|_|_|j
    ·cases hv;cases hl;exact Bys.lit (l:=[UInt8.ofNat k]) f3 (by simp[maxLen])
    ·cases hv;cases hl;exact f7
    ·cases hv;cases hl;exact f11
    ·cases hv;cases hl;exact(hb2.below hW).more hW.size
    ·cases hv;cases hl;exact Bys.lit (l:=[UInt8.ofNat l.length]) f17 (by simp[maxLen])
    ·cases hv;cases hl;exact(h.out.below (Ext.trans x3 hW)).more (Ext.trans x3 hW).size
    ·simp at hv
   refine kK (cs:=#[.slice (some ⟨p3,0,none⟩) 1 1,.slice A7 4 c7,.slice A11 4 c11,.slice A2 2 c2,.slice (some ⟨p17,0,none⟩) 1 1,.slice A l.length c]) ?_ hW.size rfl ?_
   ·go_simp
   ·exact jY.stable _ _ _ _ (Ext.alloc _ _) hR
  simp only[Act.put,qi,qe,qb,qf,qC,qY,qe,zA,zB,zC]
  refine Qm (VL w3.heap.size (12+l.length) FL.flatten) (by rfl) (by rfl) (fun W hW hp=>?_) (fun p21=>?_)
  ·obtain⟨_,cs,hcs,hrow,hR⟩:=(hp 20 (by decide)).1
   have hFn:FL.length=6:=by rw[←hFL];rfl
   refine Qz ?_ ((vw (some ⟨p20,0,none⟩) 6 6 cs.toList FL (by simpa using hcs) hFn W (Rd.row hrow 6 hcs) (fun i v l h1 h2=>hR.2 i v l h1 h2) (by omega) (by rw[HL.out];omega)).mono fun e w' h=>?_)
   ·go_simp
   rw[HL.out] at h
   exact kE h hW.size
  obtain⟨A21,c21⟩:=p21
  simp only[Act.put,qi,qe,qb,qf,qC,qY,qe,zA,zB,zC]
  repeat ((first|(refine qB ?_ (by rfl) (by rfl) (fun W hW _=>⟨W,?_,Ext.refl W⟩) ?_;rotate_left;(first|(go_simp;with_reducible rfl)|(go_simp;done)))|(refine qN (by rfl) ?_));try simp only[Act.put,qi,qe,qb,qf,qC,qY,qe,zA,zB,zC])
  refine zK (hK _ _ fun W hW hF=>?_)
  obtain⟨f21,g21⟩:Bys W W.heap.size (.slice A21 (12+l.length) c21) FL.flatten∧zm w3.heap.size (.slice A21 (12+l.length) c21):=(hF 21).1
  clear hF hK hE
  have x4:Ext w W:=x3.trans hW
  dsimp only[List.drop]
  go_wp2
  refine bodyPost_ret (v:=.tuple #[.slice A21 (12+l.length) c21,.int .i64 0]) (by simp[results,Tryz.results177,go_sem]) rfl ⟨_,rfl,⟨_,rfl,A21,c21,rfl,f21,g21.mono (by have:=x3.size;omega)⟩,x4⟩
def Kx (n:Nat) (b:List UInt8):List UInt8:=b++List.replicate (n-b.length) 0
theorem vW {n:Nat} {b:List UInt8} (h:b.length≤n):(Kx n b).length=n:=by simp[Kx];omega
theorem pad_row (n:Nat) (b:List UInt8):List.take 0 (List.map bv (List.replicate n 0)).toArray.toList++List.map bv b++List.drop (0+b.length) (List.map bv (List.replicate n 0)).toArray.toList=(Kx n b).map bv:=by
 simp[Kx,List.map_replicate,List.drop_replicate]
def ZF (b:List UInt8):List UInt8:=qw (crc (Kx 124 b)) 4++Kx 124 b
theorem JA {b:List UInt8} (h:b.length≤124):(ZF b).length=128:=by unfold ZF;rw[List.length_append,QZ,vW h]
set_option maxHeartbeats 2000000 in
set_option maxRecDepth 100000 in
theorem seal_any (A:Option Addr) (c:Nat) (b:List UInt8) (hl:b.length≤124) (w:World) (h:Bys w w.heap.size (.slice A b.length c) b) :
  Calls Tryz.prog 178 #[.slice A b.length c] w (zD (IsB0 w.heap.size 128 (ZF b)) w):=by
 have hmk:∀ w,(Instr.makeSlice 26 (.int .i64 124) (.int .i64 124)).run Tryz.prog w=.ok (.slice (some ⟨w.heap.size,0,none⟩) 124 124) (w.alloc (.cells ((List.replicate 124 (0:UInt8)).map bv).toArray 5)):=fun _=>by kernel_rfl
 have hsz:(Tryz.prog.info? 5).map (·.size)=some 1:=by kernel_rfl
 have hcr:crc (Kx 124 b)<4294967296:=crc_lt _
 have hd:decide ((b.length:Int)>124)=false:=decide_eq_false (by omega)
 replace h:=zH h
 go_enter Tryz.func178,Tryz.ntmps178
 go_wp2_with fail
 generalize hw1:World.alloc w _=w1
 have x1:Ext w w1:=by rw[←hw1];exact Ext.alloc _ _
 have r1:w1.heap[w.heap.size]?=some (.cells ((List.replicate 124 (0:UInt8)).map bv).toArray 5 (0,0)):=by rw[←hw1];exact World.alloc_heap_at _ _ _ rfl
 clear hw1 hmk
 have hcp:=Yo (P:=Tryz.prog) w1 26 26 3 5 w.heap.size 0 124 124 A c b _ _ Tryz.underlying26 hsz r1 (h.out.below x1) hl (by simp;omega)
 rw[hcp]
 clear hcp
 have r2:=setRow_heap w1 w.heap.size _ (List.take 0 (List.map bv (List.replicate 124 0)).toArray.toList++List.map bv b++List.drop (0+b.length) (List.map bv (List.replicate 124 0)).toArray.toList).toArray _ _ r1
 have x2:Below w.heap.size w (w1.setRow w.heap.size (List.take 0 (List.map bv (List.replicate 124 0)).toArray.toList++List.map bv b++List.drop (0+b.length) (List.map bv (List.replicate 124 0)).toArray.toList).toArray):=
  Below.grown x1 (Yh _ _ _) x1.size (fun g e=>by cases e;exact Nat.le_refl _)
 generalize hw2:w1.setRow w.heap.size (List.take 0 (List.map bv (List.replicate 124 0)).toArray.toList++List.map bv b++List.drop (0+b.length) (List.map bv (List.replicate 124 0)).toArray.toList).toArray=w2 at *
 rw[pad_row] at r2
 have hp:∀ W,Ext w2 W→Bys W W.heap.size (.slice (some ⟨w.heap.size,0,none⟩) 124 124) (Kx 124 b):=fun W hW=>by
  refine⟨_,124,by rw[vW hl],Nat.le_of_eq (vW hl),by unfold maxLen;omega,by rw[vW hl];simp[vW hl],fun _=>⟨w.heap.size,0,rfl,?_,fun j u hu=>?_⟩⟩
  ·have:=(zG.1 (qc r2 hW)).1
   omega
  ·rw[Nat.zero_add,qa (qc r2 hW)]
   simpa using hu
 clear hw2 r1 x1
 have HO:=zH (fun W (hW:Ext w2 W)=>UN _ (Kx 124 b) W (hp W hW) (by rw[vW hl];omega))
 replace hp:=zH hp
 replace r2:=zH r2
 have hcn:((crc (Kx 124 b):Nat):Int)<4294967296:=by omega
 go_wp2_with fail
 refine(HO.out _ (Ext.refl _)).mono ?_
 rintro e w3 ⟨rfl,hB3⟩
 have x3:Ext w2 w3:=hB3
 clear hB3
 have HF:=zH (ku (crc (Kx 124 b)) hcr w3)
 go_wp2_with fail
 refine HF.out.mono ?_
 rintro e w4 ⟨u4,rfl,⟨A4,c4,rfl,hu4,hf4⟩,hB4⟩
 have x4:Ext w2 w4:=x3.trans hB4
 clear HF hB4
 go_wp2_with fail
 generalize hw5:World.alloc w4 _=w5
 have x45:Ext w4 w5:=by rw[←hw5];exact Ext.alloc _ _
 have r5:w5.heap[w4.heap.size]?=some (.cells #[.slice A4 4 c4,.slice (some ⟨w.heap.size,0,none⟩) 124 124] 26 (0,0)):=by rw[←hw5];exact World.alloc_heap_at _ _ _ rfl
 clear hw5
 have x5:=x4.trans x45
 have hfl:[qw (crc (Kx 124 b)) 4,Kx 124 b].flatten=ZF b:=by simp[ZF]
 have HC:=vw (some ⟨w4.heap.size,0,none⟩) 2 2 [.slice A4 4 c4,.slice (some ⟨w.heap.size,0,none⟩) 124 124] [qw (crc (Kx 124 b)) 4,Kx 124 b] rfl rfl w5 ⟨rfl,fun _=>⟨w4.heap.size,0,rfl,(zG.1 r5).1,fun j u hu=>by rw[Nat.zero_add,qa r5];simpa using hu⟩⟩
  (fun i v l hv hl'=>by
   rcases i with _|_|i
   ·cases hv;cases hl';exact(hu4.below x45).more x45.size
   ·cases hv;cases hl';exact hp.out w5 x5
   ·simp at hv) (by omega) (by rw[hfl,JA hl];omega)
 rw[hfl,JA hl] at HC
 replace HC:=zH HC
 replace hu4:=zH hu4
 go_wp2_with fail
 refine HC.out.mono ?_
 rintro e w6 ⟨u6,rfl,hown,hB6⟩
 have x6:Below w.heap.size w w6:=x2.trans (Below.mono (Ext.trans x5 hB6) x2.size)
 have HI:=zH ((IsB.of_own hown))
 go_wp2_with fail
 refine bodyPost_ret (v:=.tuple #[u6,.int .i64 0]) (by simp[results,Tryz.results178,go_sem]) rfl ⟨_,rfl,⟨u6,rfl,?_⟩,x6⟩
 obtain⟨A',c',h1,h2,h3⟩:=HI.out
 exact⟨A',c',h1,h2,h3.mono (by have:=x2.size;have:=x5.size;omega)⟩
def jB (lvl:Int) (n:Nat) (xs:List It) (k:Nat):List UInt8:=78 :: UInt8.ofNat lvl.toNat :: UInt8.ofNat n :: Zq (xs.take k)
theorem qaU (lvl:Int) (n:Nat) {xs:List It} {k:Nat} (hk:k<xs.length):jB lvl n xs (k+1)=jB lvl n xs k++js xs[k]:=by
 unfold jB Zq
 rw[List.take_succ_eq_append_getElem hk,List.flatMap_append]
 simp only[List.flatMap_cons,List.flatMap_nil,List.append_nil,List.cons_append]
theorem Vr (lvl:Int) (xs:List It):jB lvl xs.length xs xs.length=zo lvl xs:=by unfold jB zo;rw[List.take_length]
theorem Vs (lvl:Int) (n:Nat) {xs:List It} (k:Nat) (h:∀ x∈xs,ZL x) (hl:xs.length≤5):(jB lvl n xs k).length≤123:=by
 have h1:=Yp (xs.take k) (fun x hx=>h x (List.mem_of_mem_take hx))
 have h2:(xs.take k).length≤xs.length:=by rw[List.length_take];omega
 unfold jB
 simp only[List.length_cons]
 omega
theorem ZW {lvl:Int} {xs:List It} (h:qX lvl xs=true):0≤lvl∧lvl<6∧xs.length≤5∧∀ x∈xs,itB x.r x.val.length=true:=by
 unfold qX at h
 rw[Bool.and_eq_true] at h
 have h1:0≤lvl∧lvl<6∧xs.length≤5∧(0<lvl→xs.length≠0):=of_decide_eq_true h.1
 refine⟨h1.1,h1.2.1,h1.2.2.1,fun x hx=>?_⟩
 obtain⟨i,hi,rfl⟩:=List.getElem_of_mem hx
 have h2:=List.all_eq_true.1 h.2 i (List.mem_range.2 hi)
 unfold Tw at h2
 rw[List.getElem?_eq_getElem hi] at h2
 simp only[Bool.and_eq_true] at h2
 exact h2.1.1
theorem TQ {R:Ending→World→Prop} {a:Act} {W:World} {u v:Value} (h2:a.tmps[2]?.getD undef=u) (h3:a.tmps[3]?.getD undef=v) (hd:a.defers=[]) (hR:R (.returned (.tuple #[u,v])) W):bodyPost Tryz.prog Tryz.f167 R .ret a W:=by
 refine bodyPost_ret (v:=.tuple #[u,v]) ?_ hd hR
 simp[results,Tryz.results167,go_sem,h2,h3]
structure NWr (lvl:Int) (xs:List It) (w2:World) (v i:Value) (wr:World):Prop where
 ex:∃ k:Nat,k≤xs.length∧i=.int .i64 (k:Int)∧wr.ownsRow w2.heap.size 5 1 v (jB lvl xs.length xs k).length ((jB lvl xs.length xs k).map bv)∧Ext w2 wr
theorem qbP (lvl:Int) (A:Option Addr) (n c:Nat) (xs:List It) (w:World) (hx:Its w w.heap.size (.slice A n c) xs) (hm:qX lvl xs=false) :
  Calls Tryz.prog 167 #[ZA lvl A n c] w (Ret (.tuple #[.slice none 0 0,.int .i64 8]) w):=by
 have HC:=zH (fun W (hW:Ext w W)=>JW lvl A n c xs W (hx.ext hW))
 rw[hm,show jy false=8 from rfl] at HC
 clear hx
 go_enter Tryz.func167,Tryz.ntmps167
 go_wp2_with fail
 generalize hw1:World.alloc w _=w1
 have x1:Ext w w1:=by rw[←hw1];exact Ext.alloc _ _
 clear hw1
 refine(HC.out w1 x1).mono ?_
 rintro e w2 ⟨rfl,hB⟩
 have x2:Below w.heap.size w w2:=Ext.trans x1 hB
 clear hB
 go_wp2
 exact TQ rfl rfl rfl ⟨rfl,x2⟩
set_option maxHeartbeats 4000000 in
set_option maxRecDepth 100000 in
theorem XZ (lvl:Int) (A:Option Addr) (n c:Nat) (xs:List It) (w:World) (hx:Its w w.heap.size (.slice A n c) xs) (hm:qX lvl xs=true) (ho:∀ x∈xs,ZL x) :
  Calls Tryz.prog 167 #[ZA lvl A n c] w (zD (IsB0 w.heap.size 128 (ZF (zo lvl xs))) w):=by
 have HC:=zH (fun W (hW:Ext w W)=>JW lvl A n c xs W (hx.ext hW))
 rw[hm,show jy true=0 from rfl] at HC
 obtain⟨hl1,hl2,hl5,hib⟩:=ZW hm
 obtain⟨hn,hcn,hcm,hA⟩:=hx.at_
 subst hn
 obtain⟨L,rfl⟩:=Int.eq_ofNat_of_zero_le hl1
 have hcv:IntKind.u8.wrap ((xs.length:Nat):Int)=((xs.length:Nat):Int):=by simp[IntKind.wrap,IntKind.bits,IntKind.signed];omega
 have hcl:IntKind.u8.wrap (L:Int)=(L:Int):=by simp[IntKind.wrap,IntKind.bits,IntKind.signed];omega
 have hcells:(jB (L:Int) xs.length xs 0).map bv=[.int .u8 78,.int .u8 (L:Int),.int .u8 (xs.length:Nat)]:=by
  simp[jB,Zq,bv]
  omega
 have hX:=zH hx
 have hO:=zH ho
 have hI:=zH hib
 clear hx ho hib hm
 go_enter Tryz.func167,Tryz.ntmps167
 go_wp2_with fail
 generalize hw1:World.alloc w _=w1
 have x1:Ext w w1:=by rw[←hw1];exact Ext.alloc _ _
 have r1:w1.heap[w.heap.size]?=some (.cells #[.int .i64 L,.slice A xs.length c] 49 (0,0)):=by rw[←hw1];exact World.alloc_heap_at _ _ _ rfl
 clear hw1
 refine(HC.out w1 x1).mono ?_
 rintro e w2 ⟨rfl,hB⟩
 have x2:Below w.heap.size w w2:=Ext.trans x1 hB
 have r2:=qc r1 hB
 have k2:=qa r2
 clear hB r1 x1 HC
 go_upto_region 5 with fail
 generalize hw3:World.alloc w2 _=w3
 have x3:Ext w2 w3:=by rw[←hw3];exact Ext.alloc _ _
 have o3:w3.ownsRow w2.heap.size 5 1 (.slice (some ⟨w2.heap.size,0,none⟩) 3 3) (jB (L:Int) xs.length xs 0).length ((jB (L:Int) xs.length xs 0).map bv):=by
  rw[hcells,←hw3]
  exact World.ownsRow_lit (base:=w2.heap.size) (e:=5) (size:=1) w2 #[.int .u8 78,.int .u8 (L:Int),.int .u8 (xs.length:Nat)] 3 (Nat.le_refl _) (by unfold maxLen;omega) rfl
 have r3:=qc r2 x3
 have k3:=qa r3
 clear hw3 k2 hcells
 have I0:NWr (L:Int) xs w2 (.slice (some ⟨w2.heap.size,0,none⟩) 3 3) (.int .i64 0) w3:=⟨0,Nat.zero_le _,rfl,o3,x3⟩
 replace I0:=zH I0
 clear o3
 go_wp2_with fail
 clear k3 r3
 go_loopw [5,26] (fun v i wr=>NWr (L:Int) xs w2 v i wr) (fun _ i _=>xs.length-(intOf i).toNat)
 case atStart=>exact I0.out
 case round =>
  obtain⟨k,hk,rfl,own,xr⟩:=hrel.ex
  clear hrel I0
  by_cases hlt:k<xs.length
  ·have hlt':=hlt
   obtain⟨b,off,rfl,hb⟩:=hA (by omega)
   have xw:Ext w wr:=Ext.trans x2 xr
   obtain⟨A',c',d0,d1,d2,d3,d4,hby⟩:=(hX.out.ext xw).item k hlt'
   have hok:=hO.out xs[k] (List.getElem_mem hlt')
   have hib:=hI.out xs[k] (List.getElem_mem hlt')
   have hsu:=zH (qaU (L:Int) xs.length hlt')
   have htl:=Vs (L:Int) xs.length k hO.out hl5
   have hvl:xs[k].val.length≤12:=hok.2.2.2.2
   have HW:=zH (fun W (hW:Ext wr W)=>qcf xs[k] hok hib A' c' W ((hby.below hW).more hW.size))
   generalize xs[k]=x at *
   replace own:=zH own
   replace htl:=zH htl
   clear hby hok hib
   go_wp2_with fail
   generalize hw4:World.alloc wr _=w4
   have x4:Ext wr w4:=by rw[←hw4];exact Ext.alloc _ _
   clear hw4 d0 d1 d2 d3 d4
   refine(HW.out w4 x4).mono ?_
   rintro e w5 ⟨u,rfl,⟨u5,rfl,A5,c5,rfl,hb5,hf5⟩,hB⟩
   have x5:Ext wr w5:=x4.trans hB
   have own5:=QJ own.out x5
   clear hB x4 own
   obtain⟨i0,hi,hz0,hz1,hz2⟩:=info_parts Tryz.info_u8
   obtain⟨A6,c6,e6,hc6,hm6,hr6⟩:=hb5
   simp only[Value.slice.injEq] at e6
   obtain⟨rfl,e7,rfl⟩:=e6
   go_wp2_with (at_builtin;refine qQ ?_)
   refine Qt.go (Qi _ rfl (.tmp 35) (.tmp 36) 26 rfl w2.heap.size 5 i0 (.int .u8 0) 1 1 Tryz.underlying26 hi hz0 hz1 hz2 rfl (by decide) _ _ _ rfl own5 w5.heap.size A5 _ c5 ((js x).map bv) rfl hr6 (Yw _) (by have:=htl.out;omega) (by decide) (Nat.le_trans xr.size x5.size) ?_)
   intro v8 w8 own8 _ hB8 _
   have IR:NWr (L:Int) xs w2 v8 (.int .i64 ((k:Int)+1)) w8:=⟨k+1,hlt',rfl,by
    rw[hsu.out,List.map_append,List.length_append]
    exact own8,Below.trans (Ext.trans xr x5) hB8⟩
   replace IR:=zH IR
   clear own8 hB8 hi hz0 hz1 hz2 own5
   go_wp2_with fail
   refine⟨IR.out,?_⟩
   simp[intOf]
   omega
  ·obtain rfl:k=xs.length:=by omega
   rw[Vr] at own
   have hl3:(zo (L:Int) xs).length≤124:=by
    have:=Vs (L:Int) xs.length xs.length hO.out hl5
    rw[Vr] at this
    omega
   obtain⟨A6,c6,e6,hc6,hm6,hr6⟩:=Bys.of_own own
   have hby:=Bys.of_own own
   subst e6
   have HS:=zH (seal_any A6 c6 (zo (L:Int) xs) hl3 wr hby)
   have xw:Below w.heap.size w wr:=Ext.trans x2 xr
   clear hby hr6 own
   replace xr:=zH xr
   go_wp2_with fail
   refine HS.out.mono ?_
   rintro e w7 ⟨u,rfl,⟨u7,rfl,hI7⟩,hB⟩
   have x7:Below w.heap.size w w7:=xw.trans (Below.mono hB xw.size)
   have hI8:IsB0 w.heap.size 128 (ZF (zo (L:Int) xs)) (.tuple #[u7,.int .i64 0]) w7:=by
    obtain⟨A',c',q1,q2,q3⟩:=hI7
    exact⟨u7,rfl,A',c',q1,q2,q3.mono xw.size⟩
   clear hB hI7
   replace hI8:=zH hI8
   go_wp2_with fail
   exact TQ rfl rfl rfl ⟨_,rfl,hI8.out,x7⟩
set_option maxHeartbeats 4000000 in
set_option maxRecDepth 100000 in
theorem qcc (b lo:Nat) (A1:Option Addr) (n1 c1:Nat) (g c3:Nat) (A4:Option Addr) (c4:Nat) (bs:List (List UInt8)) (now last:List UInt8) (hn:now.length=256) (hl:last.length=256) (hn8:now[8]?=some 0) (hl8:last[8]?=some 0) (w:World) (hlo:lo≤b)
  (hr:w.heap[b]?=some (.cells #[.slice A1 n1 c1,.slice none 0 0,.slice (some ⟨g,0,none⟩) 256 c3,.slice A4 256 c4] 191 (0,0))) (ho:w.ownsRow lo 5 1 (.slice (some ⟨g,0,none⟩) 256 c3) 256 (now.map bv)) (hb:Bls w lo (.slice A1 n1 c1) bs) (ha:Bys w lo (.slice A4 256 c4) last) :
  Calls Tryz.prog 142 #[.pointer (some ⟨b,0,none⟩),ZA 0 none 0 0] w (fun e W=>e=.returned (.tuple #[.int .i64 8,.int .i64 0])∧Below lo w W∧∃ A2 c2,W.heap[b]?=some (.cells #[.slice A1 n1 c1,.slice A2 1 c2,.slice (some ⟨g,0,none⟩) 256 c3,.slice A4 256 c4] 191 (0,0)) ∧
   Qc W W.heap.size (.slice A1 n1 c1) (.slice A2 1 c2) (.slice (some ⟨g,0,none⟩) 256 c3) (.slice A4 256 c4) ⟨bs,[(8,ZF (zo 0 []))],now.set 8 1,last⟩):=by
 have hkn:=(Zc ho).1 8 (by omega)
 rw[hn8] at hkn
 replace hkn:w.cell? ⟨g,8,none⟩=some (.int .u8 0):=hkn
 obtain⟨_,hfn,hlg,hzg⟩:=Zc ho
 obtain⟨A,c,e,hac,_,har⟩:=ha
 rw[hl] at e hac har
 simp only[Value.slice.injEq,true_and] at e
 obtain⟨rfl,rfl⟩:=e
 obtain⟨b4,o4,rfl,hb4,hc4⟩:=har.2 (by omega)
 have hk4:w.cell? ⟨b4,o4+8,none⟩=some (.int .u8 0):=hc4 8 (bv 0) (by rw[List.getElem?_map,hl8];rfl)
 have zb:b<w.heap.size:=(zG.1 hr).1
 have hW:=zH (fun W=>XZ 0 none 0 0 [] W (Its.nil W W.heap.size) (by decide) (fun x hx=>by cases hx))
 go_enter Tryz.func142,Tryz.ntmps142
 go_wp2_with fail
 generalize hw1:World.alloc _ _=w1
 have x1:Ext w w1:=by rw[←hw1];exact Ext.alloc _ _
 have p1:w1.heap[w.heap.size]?=some (.cells #[.int .i64 0,.slice none 0 0] 49 (0,0)):=by rw[←hw1];exact World.alloc_heap_at _ _ _ rfl
 clear hw1
 refine(hW.out w1).mono ?_
 rintro e w2 ⟨u,rfl,⟨u,rfl,⟨A0,c0,rfl,hu,hf⟩⟩,hB⟩
 have hB:Ext w1 w2:=hB
 have x2:Ext w w2:=x1.trans hB
 have p2:=qc p1 hB
 have r2:=qc hr x2
 have o2:=QJ ho x2
 have kp:=qa p2
 have kr:=qa r2
 have fr:=qg r2
 have kn:w2.cell? ⟨g,8,none⟩=some (.int .u8 0):=Ext.cell x2 hkn
 have z2:=x2.size
 have z1:w.heap.size<w1.heap.size:=(zG.1 p1).1
 have z4:b4<w.heap.size:=by have:=World.block_lt_of_cell? w _ hk4;exact this
 have kl:w2.cell? ⟨b4,o4+8,none⟩=some (.int .u8 0):=Ext.cell x2 hk4
 clear hB x1 p1 hkn hk4 hc4 hW
 go_wp2_with fail
 go_loopw [21] (fun i wr=>i=.int .i64 0∧wr=w2) (fun _ _=>0)
 case atStart=>exact⟨rfl,rfl⟩
 case round =>
  obtain⟨rfl,hw⟩:=hrel
  replace hw:=hw.symm
  subst hw
  go_wp2_with fail
  go_loopw [4] (fun i W=>i=.int .i64 8∧Ext w2 W) (fun _ _=>0)
  case atStart=>exact⟨rfl,Ext.refl _⟩
  case round =>
   obtain⟨rfl,hE⟩:=hrel
   have g1:∀ W,ql.r wr W→∀ i,W.cell? ⟨b,i,none⟩=#[.slice A1 n1 c1,.slice none 0 0,.slice (some ⟨g,0,none⟩) 256 c3,.slice (some ⟨b4,o4,none⟩) 256 c4][i]?:=fun W h=>qa (qc (qc r2 hE) h)
   have g2:∀ W,ql.r wr W→W.cell? ⟨g,8,none⟩=some (.int .u8 0):=fun W h=>Ext.cell (hE.trans h) kn
   have g3:∀ W,ql.r wr W→W.cell? ⟨b4,o4+8,none⟩=some (.int .u8 0):=fun W h=>Ext.cell (hE.trans h) kl
   clear kp kr fr kn kl
   go_wp2_with fail
   refine qm (by kernel_rfl) ?_
   refine qR (w:=wr) ql (qG []) [true,true,true,true,true,true,true,true,true,true,true,true,true,true,true,true,true,true,true,true,true,true] 0 (by kernel_rfl) (by kernel_rfl) (by kernel_rfl) (by kernel_rfl) (by kernel_rfl) (by kernel_rfl) (by kernel_rfl) ?st (Rel.drew _ _) ?walk
   case st=>exact qk (fun _ h=>by cases h)
   case walk =>
    intro K hK
    dsimp only[qp]
    repeat ((first|(refine qd ?_ (by rfl) (by rfl) (fun W hW _=>⟨W,?_,Rel.refl _ W⟩) ?_;rotate_left;(first|(go_simp;with_reducible rfl)|(go_simp;done)))|(refine qh (by rfl) ?_));try simp only[Act.put,qi,qe,qb,qf,QF,zA,zB,zC])
    refine qt (hK _ _ fun W hW hF=>?_)
    have hW:Ext wr W:=hW
    have x3:Ext w2 W:=hE.trans hW
    clear hF hK g1 g2 g3 hE hW
    dsimp only[List.drop,List.length_cons,List.length_nil]
    have r3:=qc r2 x3
    have o3:=QJ o2 x3
    have kr:=qa r3
    have fr:=qg r3
    obtain⟨i0,hi,hz0,hz1,hz2⟩:=info_parts Tryz.info_write
    have z3:=x3.size
    have hu3:=(hu.below x3).more x3.size
    have xw3:Ext w W:=x2.trans x3
    have x2z:=x2.size
    clear r2 o2 x2 x3 hu p2
    replace o3:=zH o3
    replace hu3:=zH hu3
    go_wp2
    refine Qn ?_
    go_wp2_with (at_builtin;refine qQ ?_)
    refine Qt.go (Zh _ rfl (.tmp 78) (.tmp 82) 23 rfl W.heap.size 130 i0 (.agg #[.int .i64 0,.slice none 0 0]) 2 32 Tryz.underlying23 hi hz0 hz1 hz2 rfl (by decide) _ 0 [] rfl (World.ownsRow_nil _ _ _ _) #[.int .i64 8,.slice A0 128 c0] rfl rfl (by simp[Value.oneCell']) (by omega) (by decide) (Nat.le_refl _) ?_)
    intro v4 w4 own4 _ hB4 _
    have hB4:Ext W w4:=hB4
    simp only[Nat.zero_add,List.nil_append] at own4
    obtain⟨A2,c2,rfl,hc21,hc22⟩:=qJ own4
    have r4:=qc r3 hB4
    have kr4:=qa r4
    have fr4:=qg r4
    have o4':=QJ o3.out hB4
    have z5:=hB4.size
    have kg:=(Zc o4').1 8 (by omega)
    have fg:=(Zc o4').2.1 8
    have hlt:=QM own4
    have hbg:g≠b:=by
     intro e
     subst e
     obtain⟨_,h2⟩:=o4'
     rcases h2 with ⟨e,_⟩|⟨g',cap,cur,e,_,hr',_⟩
     ·cases e
     ·cases e
      exact qH hr' r4 (by decide) rfl
    have z6:b<w2.heap.size:=by have:=x2z;omega
    replace own4:=zH own4
    replace o4':=zH o4'
    have hf1:=hf.mono (lo':=w.heap.size) (by omega)
    clear r3 kr fr hc21 hc22
    go_wp2_with fail
    have st:∀ q,q≠b→q≠g→((w4.setCell ⟨b,1,none⟩ (.slice A2 1 c2)).setCell ⟨g,8,none⟩ (.int .u8 1)).heap[q]?=w4.heap[q]?:=fun q h1 h2=>(Below.heap_setCell _ _ _ _ h2).trans (Below.heap_setCell _ _ _ _ h1)
    have xw4:Ext w w4:=xw3.trans hB4
    have hB:Below lo w ((w4.setCell ⟨b,1,none⟩ (.slice A2 1 c2)).setCell ⟨g,8,none⟩ (.int .u8 1)):=Below.setCell (Below.setCell (Below.mono xw4 (by omega)) (p:=⟨b,1,none⟩) hlo _) (p:=⟨g,8,none⟩) hlg _
    have rf:=qj r4 1 (.slice A2 1 c2)
    have rf2:=(Below.heap_setCell (w4.setCell ⟨b,1,none⟩ (.slice A2 1 c2)) ⟨g,8,none⟩ (.int .u8 1) b (fun e=>hbg e.symm)).trans rf
    have of4:=Gm (qaR (k:=1) (v:=.slice A2 1 c2) o4'.out hbg) (k:=8) (by omega) 1
    have hz:((w4.setCell ⟨b,1,none⟩ (.slice A2 1 c2)).setCell ⟨g,8,none⟩ (.int .u8 1)).heap.size=w4.heap.size:=by simp
    have hlt2:=hlt
    have ow:=zp (w':=(w4.setCell ⟨b,1,none⟩ (.slice A2 1 c2)).setCell ⟨g,8,none⟩ (.int .u8 1)) own4.out (fun q h1 _=>st q (by omega) (by omega))
    have hu4:Bys ((w4.setCell ⟨b,1,none⟩ (.slice A2 1 c2)).setCell ⟨g,8,none⟩ (.int .u8 1)) w4.heap.size (.slice A0 128 c0) (ZF (zo 0 [])):=(((hu3.out.below hB4).more hB4.size).setCell hf1 (p:=⟨b,1,none⟩) zb _).setCell hf1 (p:=⟨g,8,none⟩) hzg _
    have hsl:(ZF (zo 0 [])).length=128:=JA (by decide)
    refine bodyPost_ret (v:=.tuple #[.int .i64 8,.int .i64 0]) (by simp[results,Tryz.results142,go_sem]) rfl ⟨rfl,hB,A2,c2,rf2,⟨?_,?_,?_,?_⟩⟩
    ·exact(hb.below hB).more (by omega)
    ·rw[hz]
     refine⟨[((8,ZF (zo 0 [])),.slice A0 128 c0)],rfl,?_,?_⟩
     ·obtain⟨A',c',e,q1,q2⟩:=qJ ow
      cases e
      exact⟨A2,c2,rfl,q1,q2,by have:=Rd.of_own ow;rw[hz] at this;exact this⟩
     ·intro p hp
      simp only[List.mem_singleton] at hp
      subst hp
      exact⟨⟨A0,c0,by rw[hsl]⟩,hu4⟩
    ·exact Bys.of_own of4
    ·have e1:Bys w lo (.slice (some ⟨b4,o4,none⟩) 256 c4) last:=⟨_,c4,by rw[hl],by omega,by assumption,by rw[hl];exact har⟩
     exact(e1.below hB).more (by omega)
def Zf (n:Nat):List UInt8:=List.replicate n 0
theorem zf (n:Nat):(Zf n).length=n:=by simp[Zf]
theorem qcE (n:Nat):madeCells #[.int .u8 0] n=((Zf n).map bv).toArray:=by
 apply Array.ext_getElem?
 intro i
 unfold madeCells Zf
 rw[Array.getElem?_map,Array.getElem?_range,List.getElem?_toArray,List.getElem?_map,List.getElem?_replicate]
 by_cases h:i<n
 ·rw[if_pos h,if_pos h]
  simp[Nat.mod_one,bv]
 ·rw[if_neg h,if_neg h]
  rfl
theorem qdz {n:Nat} (hn:n<1000000) (w:World):(Instr.makeSlice 26 (.int .i64 (n:Int)) (.int .i64 (n:Int))).run Tryz.prog w=.ok (.slice (some ⟨w.heap.size,0,none⟩) n n) (w.alloc (.cells ((Zf n).map bv).toArray 5)):=by
 obtain⟨i0,hi,hz0,hz1,hz2⟩:=info_parts Tryz.info_u8
 have h:=run_make (P:=Tryz.prog) w 26 5 i0 _ Tryz.underlying26 hi hz0 .i64 .i64 (n:Int) (n:Int) (by omega) (by omega) (by rw[hz2];omega) (by omega)
 rw[hz1,Int.toNat_natCast,Nat.mul_one] at h
 rw[←qcE]
 exact h
theorem qbD (w:World):Calls Tryz.prog 94 #[] w (zD (fun u W=>u=.slice (some ⟨w.heap.size,0,none⟩) 256 256∧W.heap[w.heap.size]?=some (.cells ((Zf 256).map bv).toArray 5 (0,0))) w):=by
 have hmk:∀ w,(Instr.makeSlice 26 (.int .i64 256) (.int .i64 256)).run Tryz.prog w=.ok (.slice (some ⟨w.heap.size,0,none⟩) 256 256) (w.alloc (.cells ((Zf 256).map bv).toArray 5)):=fun w=>qdz (n:=256) (by omega) w
 go_enter Tryz.func94,Tryz.ntmps94
 go_wp2
 go_ret
 exact⟨_,rfl,⟨rfl,World.alloc_heap_at _ _ _ rfl⟩,Ext.alloc _ _⟩
structure NewI (w2:World) (BB:Nat) (i:Value) (wr:World):Prop where
 ex:∃ (k:Nat) (cs:Array Value),k≤256∧i=.int .i64 (k:Int)∧Below BB w2 wr∧BB<wr.heap.size∧wr.heap[BB]?=some (.cells cs 26 (0,0))∧cs.size=256 ∧
  wr.heap[BB+1]?=some (.cells #[.slice (some ⟨BB,0,none⟩) 256 256,.slice none 0 0] 25 (0,0))∧∀ i,i<k→∃ b,cs[i]?=some (.slice (some ⟨b,0,none⟩) 128 128)∧BB<b∧wr.heap[b]?=some (.cells ((Zf 128).map bv).toArray 5 (0,0))
def jt:List (List UInt8):=List.replicate 256 (Zf 128)
set_option maxHeartbeats 2000000 in
set_option maxRecDepth 100000 in
theorem dnew_any (w:World):Calls Tryz.prog 93 #[] w (zD (fun u W=>∃ BB,u=kz (some ⟨BB,0,none⟩) 256 256 none 0 0∧∀ W2:World,(∀ q:Addr,w.heap.size≤q.block→q.block<W.heap.size→W2.cell? q=W.cell? q)→Bls W2 W.heap.size (.slice (some ⟨BB,0,none⟩) 256 256) jt) w):=by
 have hmk:∀ w,(Instr.makeSlice 26 (.int .i64 128) (.int .i64 128)).run Tryz.prog w=.ok (.slice (some ⟨w.heap.size,0,none⟩) 128 128) (w.alloc (.cells ((Zf 128).map bv).toArray 5)):=fun w=>qdz (n:=128) (by omega) w
 have hmk2:∀ w,(Instr.makeSlice 22 (.int .i64 256) (.int .i64 256)).run Tryz.prog w=.ok (.slice (some ⟨w.heap.size,0,none⟩) 256 256) (w.alloc (.cells (madeCells #[.slice none 0 0] 256) 26)):=fun w=>Ya (n:=256) (by omega) w
 go_enter Tryz.func93,Tryz.ntmps93
 go_wp2_with fail
 generalize hw2:(World.alloc (World.alloc (World.alloc _ _) _) _)=w2
 have x2:Ext w w2:=by rw[←hw2];exact((Ext.alloc _ _).trans (Ext.alloc _ _)).trans (Ext.alloc _ _)
 have q2:w2.heap[w.heap.size]?=some (.cells #[.slice none 0 0,.slice none 0 0] 25 (0,0)):=by rw[←hw2];exact(Below.heap_alloc _ _ _ (by simp;omega)).trans ((Below.heap_alloc _ _ _ (by simp)).trans (World.alloc_heap_at _ _ _ rfl))
 have b2:w2.heap[w.heap.size+1]?=some (.cells (madeCells #[.slice none 0 0] 256) 26 (0,0)):=by rw[←hw2];exact(Below.heap_alloc _ _ _ (by simp)).trans (World.alloc_heap_at _ _ _ (by simp))
 have d2:w2.heap[w.heap.size+1+1]?=some (.cells #[.slice (some ⟨w.heap.size+1,0,none⟩) 256 256,.slice none 0 0] 25 (0,0)):=by rw[←hw2];exact World.alloc_heap_at _ _ _ (by simp)
 have I0:NewI w2 (w.heap.size+1) (.int .i64 0) w2:=⟨0,_,by omega,rfl,Below.refl _ _,(zG.1 b2).1,b2,size_madeCells _ _,d2,fun i hi=>by omega⟩
 have kd:=qa d2
 replace I0:=zH I0
 clear hw2 hmk2 b2 d2
 go_wp2_with fail
 go_loopw [8] (fun i wr=>NewI w2 (w.heap.size+1) i wr) (fun i _=>256-(intOf i).toNat)
 case atStart=>exact I0.out
 case round =>
  obtain⟨k,cs,hk,rfl,hE,hz,hrow,hsz,hd,hcs⟩:=hrel.ex
  clear hrel I0 kd
  have xw:Below w.heap.size w wr:=Below.trans x2 (Below.mono hE (by omega))
  by_cases hlt:k<256
  ·have hlt':=hlt
   have g1:∀ W,ql.r wr W→∀ i,W.cell? ⟨w.heap.size+1+1,i,none⟩=#[.slice (some ⟨w.heap.size+1,0,none⟩) 256 256,.slice none 0 0][i]?:=fun W h=>qa (qc hd h)
   have hwk:=zH (IntWalk.wrap64_in ((k:Int)+1) (by omega))
   have hEh:=zH hE
   have hcsh:=zH hcs
   have hrowh:=zH hrow
   have hdh:=zH hd
   clear hE hcs hrow hd
   go_wp2_with fail
   refine qm (by kernel_rfl) ?_
   refine qR (w:=wr) ql (qG [(3,Xe wr.heap.size 128 128 5 ((Zf 128).map bv).toArray)]) [true,true,true,true,true] 1 (by kernel_rfl) (by kernel_rfl) (by kernel_rfl) (by kernel_rfl) (by kernel_rfl) (by kernel_rfl) (by kernel_rfl) ?st (Rel.drew _ _) ?walk
   case st=>exact qk (by simp only[List.forall_mem_cons];exact⟨Vm _ _ _ _ _,fun _ h=>by cases h⟩)
   case walk =>
    intro K hK
    dsimp only[qp]
    repeat ((first|(refine qd ?_ (by rfl) (by rfl) (fun W hW _=>⟨W,?_,Rel.refl _ W⟩) ?_;rotate_left;(first|(go_simp;with_reducible rfl)|(go_simp;done)))|(refine qh (by rfl) ?_));try simp only[Act.put,qi,qe,qb,qf,QF,zA,zB,zC])
    refine qy (Xe wr.heap.size 128 128 5 ((Zf 128).map bv).toArray) (by rfl) (by rfl) (fun W hW _=>?_) (fun (b:Nat)=>?_)
    ·have hW:Ext wr W:=hW
     refine Zs (u:=.slice (some ⟨W.heap.size,0,none⟩) 128 128) (w':=W.alloc (.cells ((Zf 128).map bv).toArray 5)) ?_ ⟨W.heap.size,rfl,⟨World.alloc_heap_at _ _ _ rfl,hW.size⟩,Ext.alloc _ _⟩
     go_simp
    simp only[Act.put,qi,qe,qb,qf,QF,zA,zB,zC]
    repeat ((first|(refine qd ?_ (by rfl) (by rfl) (fun W hW _=>⟨W,?_,Rel.refl _ W⟩) ?_;rotate_left;(first|(go_simp;with_reducible rfl)|(go_simp;done)))|(refine qh (by rfl) ?_));try simp only[Act.put,qi,qe,qb,qf,QF,zA,zB,zC])
    first
     |(refine qd (.pointer (some ⟨w.heap.size+1,0+k,none⟩)) (by rfl) (by rfl) (fun W hW _=>⟨W,?_,Rel.refl _ W⟩) ?_
       ·go_simp
        rw[IntWalk.i64_in (k:Int) (by omega),if_pos (by omega)]
        simp
       simp only[Act.put,qi,qe,qb,qf,QF,zA,zB,zC])
     |skip
    repeat ((first|(refine qd ?_ (by rfl) (by rfl) (fun W hW _=>⟨W,?_,Rel.refl _ W⟩) ?_;rotate_left;(first|(go_simp;with_reducible rfl)|(go_simp;done)))|(refine qh (by rfl) ?_));try simp only[Act.put,qi,qe,qb,qf,QF,zA,zB,zC])
    refine qt (hK _ _ fun W hW hF=>?_)
    have hb:W.heap[b]?=some (.cells ((Zf 128).map bv).toArray 5 (0,0))∧wr.heap.size≤b:=(hF 3).1
    have hW:Ext wr W:=hW
    clear hF hK g1 hmk
    dsimp only[List.drop,List.length_cons,List.length_nil]
    have rB:=qc hrowh.out hW
    have kB:=qa rB k
    have fB:=qg rB k
    rw[Array.getElem?_eq_getElem (by omega)] at kB
    have IR:NewI w2 (w.heap.size+1) (.int .i64 ((k:Int)+1)) (W.setCell ⟨w.heap.size+1,k,none⟩ (.slice (some ⟨b,0,none⟩) 128 128)):=⟨k+1,_,by omega,rfl,Below.setCell (Below.trans hEh.out (Below.mono hW (by omega))) (p:=⟨w.heap.size+1,k,none⟩) (Nat.le_refl _) _,by have:=hW.size;simp;omega,qj rB k _,by simpa using hsz,
     (Below.heap_setCell _ _ _ _ (by show _≠w.heap.size+1;omega)).trans (qc hdh.out hW),fun i hi=>by
      rw[Array.getElem?_setIfInBounds]
      by_cases e:k=i
      ·subst e
       rw[if_pos rfl,if_pos (by omega)]
       exact⟨b,rfl,by omega,(Below.heap_setCell _ _ _ _ (by show _≠w.heap.size+1;omega)).trans hb.1⟩
      ·rw[if_neg e]
       obtain⟨b',e1,e2,e3⟩:=hcsh.out i (by omega)
       exact⟨b',e1,e2,(Below.heap_setCell _ _ _ _ (by show _≠w.heap.size+1;omega)).trans (qc e3 hW)⟩⟩
    replace IR:=zH IR
    generalize cs[k]=u0 at *
    clear hb hW rB
    go_wp2
    refine Qn ?_
    go_wp2_with fail
    try rw[hwk.out]
    refine⟨IR.out,?_⟩
    simp[intOf]
    omega
  ·obtain rfl:k=256:=by omega
   have qq:=(hE.block w.heap.size (by omega)).trans q2
   have kq:=qa qq
   have fq:=qg qq
   have kd:=qa hd
   have rf:=qj (qj qq 0 (.slice (some ⟨w.heap.size+1,0,none⟩) 256 256)) 1 (.slice none 0 0)
   have kf:=qa rf
   have bf:Below w.heap.size w ((wr.setCell ⟨w.heap.size,0,none⟩ (.slice (some ⟨w.heap.size+1,0,none⟩) 256 256)).setCell ⟨w.heap.size,1,none⟩ (.slice none 0 0)):=Below.setCell (Below.setCell xw (p:=⟨w.heap.size,0,none⟩) (Nat.le_refl _) _) (p:=⟨w.heap.size,1,none⟩) (Nat.le_refl _) _
   have DF:∀ W2:World,(∀ q:Addr,w.heap.size≤q.block→q.block<((wr.setCell ⟨w.heap.size,0,none⟩ (.slice (some ⟨w.heap.size+1,0,none⟩) 256 256)).setCell ⟨w.heap.size,1,none⟩ (.slice none 0 0)).heap.size→W2.cell? q=((wr.setCell ⟨w.heap.size,0,none⟩ (.slice (some ⟨w.heap.size+1,0,none⟩) 256 256)).setCell ⟨w.heap.size,1,none⟩ (.slice none 0 0)).cell? q)→Bls W2 ((wr.setCell ⟨w.heap.size,0,none⟩ (.slice (some ⟨w.heap.size+1,0,none⟩) 256 256)).setCell ⟨w.heap.size,1,none⟩ (.slice none 0 0)).heap.size (.slice (some ⟨w.heap.size+1,0,none⟩) 256 256) jt:=by
    have st:∀ b,b≠w.heap.size→((wr.setCell ⟨w.heap.size,0,none⟩ (.slice (some ⟨w.heap.size+1,0,none⟩) 256 256)).setCell ⟨w.heap.size,1,none⟩ (.slice none 0 0)).heap[b]?=wr.heap[b]?:=fun b hb=>(Below.heap_setCell _ _ _ _ hb).trans (Below.heap_setCell _ _ _ _ hb)
    generalize World.setCell (World.setCell wr _ _) _ _=wf at *
    intro W2 hk
    have rB:=(st (w.heap.size+1) (by omega)).trans hrow
    have zB:=(zG.1 rB).1
    refine⟨cs.toList,some ⟨w.heap.size+1,0,none⟩,256,by simp[jt],by simp[jt],by unfold maxLen;omega,⟨by simp[jt,hsz],fun _=>⟨w.heap.size+1,0,rfl,zB,fun j u hu=>?_⟩⟩,fun i u l hu hl=>?_⟩
    ·rw[hk ⟨w.heap.size+1,0+j,none⟩ (by show w.heap.size≤w.heap.size+1;omega) zB,Nat.zero_add,qa rB]
     simpa using hu
    have hi:i<256:=by
     have:=(List.getElem?_eq_some_iff.1 hl).1
     simpa [jt] using this
    have e0:cs.toList[i]?=cs[i]?:=by simp
    obtain⟨b,e1,e2,e3⟩:=hcs i hi
    rw[e0,e1] at hu
    cases hu
    have hl2:l=Zf 128:=by
     have:jt[i]?=some (Zf 128):=by unfold jt;rw[List.getElem?_replicate,if_pos hi]
     rw[this] at hl
     cases hl
     rfl
    subst hl2
    have e4:=(st b (by omega)).trans e3
    have zb:=(zG.1 e4).1
    refine⟨_,128,by rw[zf],by rw[zf];omega,by unfold maxLen;omega,by simp,fun _=>⟨b,0,rfl,zb,fun j u hu=>?_⟩⟩
    rw[hk ⟨b,0+j,none⟩ (by show w.heap.size≤b;omega) zb,Nat.zero_add,qa e4]
    simpa using hu
   replace kf:=zH kf
   replace bf:=zH bf
   replace DF:=zH DF
   clear rf hE hrow hcs hd
   go_wp2
   have kf:=kf.out
   exact bodyPost_ret (v:=kz (some ⟨w.heap.size+1,0,none⟩) 256 256 none 0 0) (by simp[results,Tryz.results93,go_sem,kf]) rfl ⟨_,rfl,⟨w.heap.size+1,rfl,DF.out⟩,bf.out⟩
end Go.Proofs.YtpbniokljofedaaGreat
namespace Go.Proofs.YtpbniokljofedaaGreat
open Go.RowKit Go.Shelf
attribute [local go_sem] Oper.semAt_some
abbrev Sl:Type:=Option Addr×Nat×Nat
abbrev sv (s:Sl):Value:=.slice s.1 s.2.1 s.2.2
abbrev W2:Type:=Int×Sl
abbrev w2z:W2:=(0,none,0,0)
set_option maxRecDepth 100000 in
set_option maxHeartbeats 1000000 in
theorem backW_in (n:Nat) (hn:1≤n) (l Bs b off len cap:Nat) (us:List W2) (hreach:len<1099511627776) (J Jx:List (Nat×W2)→World→Prop)
  (hY:∀ pre x W,J pre W→pre.length<len→YieldAt Fence.wide (n-1) Tryz.prog l #[.int .i64 (x.1:Int),.agg #[.int .i64 x.2.1,sv x.2.2]] W fun e W' =>
   (e=.returned (.bool true)∧J (pre++[x]) W'∧Qq Bs b W W')∨(e=.returned (.bool false)∧Jx (pre++[x]) W'))
  (W:World) (hBs:W.cell? ⟨Bs,0,none⟩=some (.slice (some ⟨b,off,none⟩) len cap)) (hc:∀ i,i<len→W.cell? ⟨b,off+i*2,none⟩=some (.int .i64 (us[i]?.getD w2z).1)∧W.cell? ⟨b,off+i*2+1,none⟩=some (sv (us[i]?.getD w2z).2)) (h0:J [] W) :
  CallsIn Fence.wide n Tryz.prog 141 #[.func (.yield l) #[] #[],.pointer (some ⟨Bs,0,none⟩)] W fun e W'=>(∃ v,e=.returned v) ∧
   ((∃ ys,ys=ZU (fun j=>(len-1-j,us[len-1-j]?.getD w2z)) len∧J ys W')∨(∃ pre,(∃ k,k≤len∧pre=ZU (fun j=>(len-1-j,us[len-1-j]?.getD w2z)) k)∧Jx pre W')):=by
 refine callsIn_of_wp Tryz.func141 rfl trivial ?_ rfl
 simp only[Tryz.ntmps141,List.size_toArray,List.length_cons,List.length_nil,Nat.reduceAdd,Nat.reduceSub,Array.replicate_succ,Array.replicate_zero,List.push_toArray,List.append_toArray,List.nil_append,List.cons_append]
 gi_wp2
 gi_loopw [3] (fun i wr=>∃ k:Nat,k≤len∧i=.int .i64 ((len:Int)-1-k)∧J (ZU (fun j=>(len-1-j,us[len-1-j]?.getD w2z)) k) wr∧Qq Bs b W wr)
  (fun i _=>(intOf i+1).toNat)
 case atStart=>exact⟨0,Nat.zero_le _,by simp,h0,Qq.refl _ _ _⟩
 case round =>
  obtain⟨k,hk,rfl,hJs,hnx⟩:=hrel
  have hBr:wr.cell? ⟨Bs,0,none⟩=some (.slice (some ⟨b,off,none⟩) len cap):=(World.cell?_of_block (w:=W) hnx.1).trans hBs
  by_cases hlt:k<len
  ·have hcx:=(World.cell?_of_block (w:=W) (a:=⟨b,off+(len-1-k)*2,none⟩) hnx.2).trans (hc (len-1-k) (by omega)).1
   have hcy:=(World.cell?_of_block (w:=W) (a:=⟨b,off+(len-1-k)*2+1,none⟩) hnx.2).trans (hc (len-1-k) (by omega)).2
   obtain⟨fn,tmps,assign,body,hy,hR⟩:=hY _ (len-1-k,us[len-1-k]?.getD w2z) wr hJs (by rw[vy];exact hlt)
   dsimp only at hy
   obtain⟨i,hi⟩:∃ i:Nat,len-1-k=i:=⟨_,rfl⟩
   have hi2:(len:Int)-1-k=(i:Int):=by omega
   have hil:i<len:=by omega
   have hik:k+i+1≤len∧len≤k+i+1:=by omega
   have HU:=zH (Vf (fun j=>(len-1-j,us[len-1-j]?.getD w2z)) k)
   obtain⟨u,hu⟩:∃ u,us[i]?.getD w2z=u:=⟨_,rfl⟩
   rw[hi] at hcx hcy hy hR
   rw[hu] at hcx hcy hy hR
   rw[hi2]
   clear hi2
   have HE:=zH hu
   clear hu
   have HI:=zH hi
   clear hi
   gi_wp2
   refine hR.mono ?_
   rintro e W3 (⟨rfl,hJ3,hk3⟩|⟨rfl,hJx3⟩)
   ·gi_wp2
    go_roundw
    case rel=>exact⟨k+1,by omega,by go_num,by rw[HU.out,HI.out,HE.out];exact hJ3,hnx.t hk3⟩
    case measure=>simp[intOf]
   ·gi_wp2
    refine bodyPost_ret (results_none rfl _ _ _) rfl ?_
    exact⟨⟨_,rfl⟩,.inr ⟨_,⟨k+1,by omega,by rw[HU.out,HI.out,HE.out]⟩,hJx3⟩⟩
  ·obtain rfl:k=len:=by omega
   gi_wp2
   go_end0
   exact⟨⟨_,rfl⟩,.inl ⟨_,rfl,hJs⟩⟩
set_option maxRecDepth 100000 in
set_option maxHeartbeats 1000000 in
theorem Gx (n l Bs c:Nat) (A:Option Addr) (J:List (Nat×W2)→World→Prop) (W:World) (hBs:W.cell? ⟨Bs,0,none⟩=some (.slice A 0 c)) (h0:J [] W) :
  CallsIn Fence.wide n Tryz.prog 141 #[.func (.yield l) #[] #[],.pointer (some ⟨Bs,0,none⟩)] W fun e W'=>(∃ v,e=.returned v)∧J [] W':=by
 refine callsIn_of_wp Tryz.func141 rfl trivial ?_ rfl
 simp only[Tryz.ntmps141,List.size_toArray,List.length_cons,List.length_nil,Nat.reduceAdd,Nat.reduceSub,Array.replicate_succ,Array.replicate_zero,List.push_toArray,List.append_toArray,List.nil_append,List.cons_append]
 gi_wp2
 gi_loopw [3] (fun i wr=>i=.int .i64 (-1)∧J [] wr) (fun _ _=>0)
 case atStart=>exact⟨rfl,h0⟩
 case round =>
  obtain⟨rfl,hJs⟩:=hrel
  gi_wp2
  go_end0
  exact⟨⟨_,rfl⟩,hJs⟩
def KQ (us:List W2) (k:Nat):List (Nat×W2):=ZU (fun j=>(us.length-1-j,us[us.length-1-j]?.getD w2z)) k
def SW (W:World) (Bs b:Nat) (v:Value) (us:List W2):Prop:=
 W.cell? ⟨Bs,0,none⟩=some v∧((us=[]∧∃ A c,v=.slice A 0 c)∨∃ off cap,v=.slice (some ⟨b,off,none⟩) us.length cap∧∀ i,i<us.length→W.cell? ⟨b,off+i*2,none⟩=some (.int .i64 (us[i]?.getD w2z).1)∧W.cell? ⟨b,off+i*2+1,none⟩=some (sv (us[i]?.getD w2z).2))
theorem SW.keep {W W':World} {Bs b:Nat} {v:Value} {us:List W2} (h:SW W Bs b v us) (hk:Qq Bs b W W'):SW W' Bs b v us:=by
 refine⟨(World.cell?_of_block (w:=W) hk.1).trans h.1,?_⟩
 rcases h.2 with h|⟨off,cap,e,hc⟩
 ·exact .inl h
 ·exact .inr ⟨off,cap,e,fun i hi=>⟨(World.cell?_of_block (w:=W) hk.2).trans (hc i hi).1,(World.cell?_of_block (w:=W) hk.2).trans (hc i hi).2⟩⟩
theorem qbx (n:Nat) (hn:1≤n) (Bs b:Nat) (v:Value) (us:List W2) (hreach:us.length<1099511627776) (w:World) (hBs:Bs<w.heap.size) (hb:b<w.heap.size) (hS:SW w Bs b v us) :
  SeqStopsK Fence.wide n Tryz.prog 141 #[.pointer (some ⟨Bs,0,none⟩)] (fun x:Nat×W2=>#[.int .i64 (x.1:Int),.agg #[.int .i64 x.2.1,sv x.2.2]]) (Qq Bs b) (fun ys=>ys=KQ us us.length)
   (fun pre=>∃ k,k≤us.length∧pre=KQ us k) us.length w:=fun l J Jx W hW _ _ hY h0=>by
 obtain⟨hc,h⟩:=hS.keep (Qq.below hW hBs hb)
 rcases h with ⟨rfl,A,c,rfl⟩|⟨off,cap,rfl,hcs⟩
 ·exact(Gx n l Bs c A J W hc h0).mono fun e W' ⟨he,hj⟩=>⟨he,.inl ⟨_,rfl,hj⟩⟩
 ·exact backW_in n hn l Bs b off us.length cap us hreach J Jx hY W hc hcs h0
set_option maxHeartbeats 1000000 in
theorem Kn (A:Option Addr) (m c:Nat) (w:World) :
  Calls Tryz.prog 91 #[.slice A m c] w (fun e w'=>e=.returned (.func (.func 141) #[] #[.pointer (some ⟨w.heap.size,0,none⟩)])∧w'=w.alloc (.cells #[.slice A m c] 23)):=by
 go_enter Tryz.func91,Tryz.ntmps91
 go_wp2
 go_ret
 exact⟨rfl,rfl⟩
end Go.Proofs.YtpbniokljofedaaGreat
