/- Texts NCheck, NMay, NMod, Told, joined. -/
import Derived.Test.YtckhnchnbeoogaaGreatV04
set_option linter.unusedSimpArgs false
set_option linter.unusedVariables false
namespace Go.Proofs.YtckhnchnbeoogaaGreat
open Go.RowKit
theorem vh {above:Bool} {xs:List It} {i:Nat} (hi:i<xs.length):UZ above xs i=(itB xs[i].r xs[i].val.length && (decide (i=0) || (match xs[i-1]? with|some y=>Xb y xs[i]|none=>true)) && !(above && (decide (xs[i].r=0) || decide (0<xs[i].val.length)))):=by
 unfold UZ
 rw[List.getElem?_eq_getElem hi]
 rfl
theorem YD {above:Bool} {xs:List It} {i:Nat} (hi:i<xs.length) (h:itB xs[i].r xs[i].val.length=false):UZ above xs i=false:=by
 rw[vh hi,h];rfl
set_option maxHeartbeats 4000000 in
set_option maxRecDepth 100000 in
theorem qcZ (lvl:Int) (A:Option Addr) (n c:Nat) (xs:List It) (w:World) (hx:Its w w.heap.size (.slice A n c) xs) (h:zN lvl n=true) :
  Calls Tryz.prog 117 #[Zv lvl A n c] w (Ret (.int .i64 (kl (qR lvl xs))) w):=by
 obtain⟨hn,hnc,hcm,hA⟩:=hx.at_
 have h':0≤lvl∧lvl<6∧n≤5∧(0<lvl→n≠0):=by unfold zN at h;exact of_decide_eq_true h
 have hM:qR lvl xs=Jo (decide (0<lvl)) xs xs.length:=by unfold qR;rw[←hn,h];rfl
 rw[hM]
 clear hM h
 subst hn
 have HX:=zH hx
 clear hx
 obtain⟨h1,h2,h3,h4⟩:=h'
 by_cases hab:0<lvl
 ·rw[decide_eq_true hab]
  go_enter Tryz.func117,Tryz.ntmps117
  go_wp2
  all_goals simp only[beq_iff_eq,beq_eq_false_iff_ne,ne_eq] at *
  all_goals first|(exfalso;omega)|skip
  generalize hw1:(World.alloc _ _)=w1
  have b1:Ext w w1:=by rw[←hw1];exact Ext.alloc _ _
  have r1:w1.heap[w.heap.size]?=some (.cells #[.int .i64 lvl,.slice A xs.length c] 118 (0,0)):=by rw[←hw1];exact World.alloc_heap_at _ _ _ rfl
  clear hw1
  go_loopw [36] (fun i wr=>∃ k:Nat,k≤xs.length∧i=.int .i64 (k:Int)∧Jo true xs k=true∧Ext w1 wr) (fun i _=>xs.length-(intOf i).toNat)
  case atStart=>exact⟨0,by omega,rfl,rfl,Ext.refl _⟩
  case round =>
   obtain⟨k,hk,rfl,hck,hE⟩:=hrel
   by_cases hlt:k<xs.length
   ·have hlt':=hlt
    obtain⟨b,off,rfl,hb⟩:=hA (by omega)
    have b2:Ext w wr:=b1.trans hE
    obtain⟨A',c',c0,c1,c2,c3,c4,hby⟩:=(HX.out.ext b2).item k hlt'
    have HCK:=zH (vh (above:=true) hlt')
    have HBAD:=zH (Vd (above:=true) hlt')
    have HBI:=zH (YD (above:=true) hlt')
    have HSU:=zH (vl true xs k)
    generalize hx:xs[k]=x at *
    go_wp2_with fail
    generalize hw3:(World.alloc _ _)=w3
    have b3:Ext wr w3:=by rw[←hw3];exact Ext.alloc _ _
    have r3:w3.heap[wr.heap.size]?=some (.cells #[.int .u8 x.k,.int .u32 x.i,.int .u32 x.o,.int .i64 x.r,.slice A' x.val.length c'] 38 (0,0)):=by rw[←hw3];exact World.alloc_heap_at _ _ _ rfl
    clear hw3
    refine(Vg x.k x.i x.o x.r A' x.val.length c' _).mono ?_
    rintro e w4 ⟨rfl,hB⟩
    have b4:Ext wr w4:=b3.trans hB
    have r4:=qc r3 hB
    clear hB r3 b3
    by_cases hok:itB x.r x.val.length=true
    ·rw[jw hok]
     go_wp2
     have b5:Ext w1 w4:=hE.trans b4
     have rn:=qc r1 b5
     have n1:∀ W,Ext w4 W→W.cell? ⟨w.heap.size,1,none⟩=some (.slice (some ⟨b,off,none⟩) xs.length c):=fun W h=>by rw[qa (qc rn h)];rfl
     have i0:∀ W,Ext w4 W→W.cell? ⟨wr.heap.size,0,none⟩=some (.int .u8 x.k):=fun W h=>by rw[qa (qc r4 h)];rfl
     have i1:∀ W,Ext w4 W→W.cell? ⟨wr.heap.size,1,none⟩=some (.int .u32 x.i):=fun W h=>by rw[qa (qc r4 h)];rfl
     have i2:∀ W,Ext w4 W→W.cell? ⟨wr.heap.size,2,none⟩=some (.int .u32 x.o):=fun W h=>by rw[qa (qc r4 h)];rfl
     have i3:∀ W,Ext w4 W→W.cell? ⟨wr.heap.size,3,none⟩=some (.int .i64 x.r):=fun W h=>by rw[qa (qc r4 h)];rfl
     have i4:∀ W,Ext w4 W→W.cell? ⟨wr.heap.size,4,none⟩=some (.slice A' x.val.length c'):=fun W h=>by rw[qa (qc r4 h)];rfl
     rcases k with _|j
     ·refine qG (qE [(12,one (.bool true))]) 29 (by kernel_rfl) (by kernel_rfl) (by kernel_rfl) (by decide) (by kernel_rfl) (by kernel_rfl) ?st ?walk
      case st=>exact qJ (by simp only[List.forall_mem_cons];exact⟨Qz _,fun _ h=>by cases h⟩)
      case walk =>
       intro K hK
       dsimp only[List.take]
       by_cases hr0:x.r=0
       ·have hr1:(x.r == 0)=true:=by simpa using hr0
        have hr2:decide (x.r=0)=true:=by simpa using hr0
        repeat ((first|(refine ql ?_ (by rfl) (by rfl) (fun W hW _=>⟨W,?_,Ext.refl W⟩) ?_;rotate_left;(first|(go_simp;with_reducible rfl)|(go_simp;done)))|(refine qt (by rfl) ?_));try simp only[Act.put,qi,qe,qb,qg,zA,zB,zC])
        refine qP (hK _ _ fun W hW hF=>?_)
        clear hF hK
        have b7:Ext wr W:=b4.trans hW
        dsimp only[List.drop]
        go_wp2
        all_goals first
         |(go_ret
           exact⟨by rw[HBAD.out (by rw[HCK.out,hok];simp[*])];rfl,Ext.trans b2 b7⟩)
         |(go_roundw
           case rel=>exact⟨0+1,by omega,by go_num,by rw[HSU.out,hck,HCK.out,hok];simp[*],hE.trans b7⟩
           case measure=>simp[intOf];omega)
       ·have hr1:(x.r == 0)=false:=by simpa using hr0
        have hr2:decide (x.r=0)=false:=by simpa using hr0
        repeat ((first|(refine ql ?_ (by rfl) (by rfl) (fun W hW _=>⟨W,?_,Ext.refl W⟩) ?_;rotate_left;(first|(go_simp;with_reducible rfl)|(go_simp;done)))|(refine qt (by rfl) ?_));try simp only[Act.put,qi,qe,qb,qg,zA,zB,zC])
        refine qP (hK _ _ fun W hW hF=>?_)
        clear hF hK
        have b7:Ext wr W:=b4.trans hW
        dsimp only[List.drop]
        go_wp2
        all_goals first
         |(go_ret
           exact⟨by rw[HBAD.out (by rw[HCK.out,hok];simp[*])];rfl,Ext.trans b2 b7⟩)
         |(go_roundw
           case rel=>exact⟨0+1,by omega,by go_num,by rw[HSU.out,hck,HCK.out,hok];simp[*],hE.trans b7⟩
           case measure=>simp[intOf];omega)
     ·have hjl:j<xs.length:=by omega
      obtain⟨A2,c2',d0,d1,d2,d3,d4,_⟩:=(HX.out.ext (b2.trans b4)).item j hjl
      have hprev:xs[j+1-1]?=some xs[j]:=by rw[Nat.add_sub_cancel,List.getElem?_eq_getElem hjl]
      have HP:=zH hprev
      clear hprev
      generalize xs[j]=y at *
      have p0:∀ W,Ext w4 W→W.cell? ⟨b,off+j*5,none⟩=some (.int .u8 y.k):=fun W h=>Ext.cell h d0
      have p1:∀ W,Ext w4 W→W.cell? ⟨b,off+j*5+1,none⟩=some (.int .u32 y.i):=fun W h=>Ext.cell h d1
      have p2:∀ W,Ext w4 W→W.cell? ⟨b,off+j*5+2,none⟩=some (.int .u32 y.o):=fun W h=>Ext.cell h d2
      clear d0 d1 d2 d3 d4
      have HL:=zH (fun W=>Tp y.k y.i y.o x.k x.i x.o W)
      have HLE:Hid (Xb y x=jk y.k y.i y.o x.k x.i x.o):=rfl
      generalize jk y.k y.i y.o x.k x.i x.o=L at *
      have hj1:((j+1:Nat):Int)-1=(j:Int):=by omega
      refine qG (qE [(12,one (.bool L))]) 29 (by kernel_rfl) (by kernel_rfl) (by kernel_rfl) (by decide) (by kernel_rfl) (by kernel_rfl) ?st ?walk
      case st=>exact qJ (by simp only[List.forall_mem_cons];exact⟨Qz _,fun _ h=>by cases h⟩)
      case walk =>
       intro K hK
       dsimp only[List.take]
       repeat ((first|(refine ql ?_ (by rfl) (by rfl) (fun W hW _=>⟨W,?_,Ext.refl W⟩) ?_;rotate_left;(first|(go_simp;with_reducible rfl)|(go_simp;done)))|(refine qt (by rfl) ?_));try simp only[Act.put,qi,qe,qb,qg,zA,zB,zC])
       refine ql (.pointer (some ⟨b,off+j*5,none⟩)) (by rfl) (by rfl) (fun W hW _=>⟨W,?_,Ext.refl W⟩) ?_
       ·go_simp
        rw[IntWalk.i64_in (j:Int) (by omega),if_pos (by omega)]
        simp
       simp only[Act.put,qi,qe,qb,qg,zA,zB,zC]
       repeat ((first|(refine ql ?_ (by rfl) (by rfl) (fun W hW _=>⟨W,?_,Ext.refl W⟩) ?_;rotate_left;(first|(go_simp;with_reducible rfl)|(go_simp;done)))|(refine qt (by rfl) ?_));try simp only[Act.put,qi,qe,qb,qg,zA,zB,zC])
       refine qZ (one (.bool L)) (by rfl) (by rfl) (fun W hW _=>?_) (fun p=>?_)
       ·refine Qb ?_ ((HL.out W).mono fun e w' h=>⟨(),h.1,trivial,h.2⟩)
        go_simp
       cases p
       simp only[Act.put,qi,qe,qb,qg,zA,zB,zC]
       cases L
       ·repeat ((first|(refine ql ?_ (by rfl) (by rfl) (fun W hW _=>⟨W,?_,Ext.refl W⟩) ?_;rotate_left;(first|(go_simp;with_reducible rfl)|(go_simp;done)))|(refine qt (by rfl) ?_));try simp only[Act.put,qi,qe,qb,qg,zA,zB,zC])
        refine qP (hK _ _ fun W hW hF=>?_)
        clear hF hK HL
        have b7:Ext wr W:=b4.trans hW
        dsimp only[List.drop]
        go_wp2
        all_goals first
         |(go_ret
           exact⟨by rw[HBAD.out (by rw[HCK.out,hok,HP.out];simp[HLE.out, *])];rfl,Ext.trans b2 b7⟩)
         |(go_roundw
           case rel=>exact⟨j+1+1,by omega,by go_num,by rw[HSU.out,hck,HCK.out,hok,HP.out];simp[HLE.out, *],hE.trans b7⟩
           case measure=>simp[intOf];omega)
       ·by_cases hr0:x.r=0
        ·have hr1:(x.r == 0)=true:=by simpa using hr0
         have hr2:decide (x.r=0)=true:=by simpa using hr0
         repeat ((first|(refine ql ?_ (by rfl) (by rfl) (fun W hW _=>⟨W,?_,Ext.refl W⟩) ?_;rotate_left;(first|(go_simp;with_reducible rfl)|(go_simp;done)))|(refine qt (by rfl) ?_));try simp only[Act.put,qi,qe,qb,qg,zA,zB,zC])
         refine qP (hK _ _ fun W hW hF=>?_)
         clear hF hK HL
         have b7:Ext wr W:=b4.trans hW
         dsimp only[List.drop]
         go_wp2
         all_goals first
          |(go_ret
            exact⟨by rw[HBAD.out (by rw[HCK.out,hok,HP.out];simp[HLE.out, *])];rfl,Ext.trans b2 b7⟩)
          |(go_roundw
            case rel=>exact⟨j+1+1,by omega,by go_num,by rw[HSU.out,hck,HCK.out,hok,HP.out];simp[HLE.out, *],hE.trans b7⟩
            case measure=>simp[intOf];omega)
        ·have hr1:(x.r == 0)=false:=by simpa using hr0
         have hr2:decide (x.r=0)=false:=by simpa using hr0
         repeat ((first|(refine ql ?_ (by rfl) (by rfl) (fun W hW _=>⟨W,?_,Ext.refl W⟩) ?_;rotate_left;(first|(go_simp;with_reducible rfl)|(go_simp;done)))|(refine qt (by rfl) ?_));try simp only[Act.put,qi,qe,qb,qg,zA,zB,zC])
         refine qP (hK _ _ fun W hW hF=>?_)
         clear hF hK HL
         have b7:Ext wr W:=b4.trans hW
         dsimp only[List.drop]
         go_wp2
         all_goals first
          |(go_ret
            exact⟨by rw[HBAD.out (by rw[HCK.out,hok,HP.out];simp[HLE.out, *])];rfl,Ext.trans b2 b7⟩)
          |(go_roundw
            case rel=>exact⟨j+1+1,by omega,by go_num,by rw[HSU.out,hck,HCK.out,hok,HP.out];simp[HLE.out, *],hE.trans b7⟩
            case measure=>simp[intOf];omega)
    ·have hok':itB x.r x.val.length=false:=by simpa using hok
     have hfin:=HBAD.out (HBI.out hok')
     rw[ju hok']
     clear HCK HBAD HBI HSU
     go_wp2
     go_ret
     exact⟨by rw[hfin];rfl,Ext.trans b2 b4⟩
   ·obtain rfl:k=xs.length:=by omega
    go_wp2
    go_ret
    exact⟨by rw[hck];rfl,b1.trans hE⟩
 ·rw[decide_eq_false hab]
  go_enter Tryz.func117,Tryz.ntmps117
  go_wp2
  all_goals simp only[beq_iff_eq,beq_eq_false_iff_ne,ne_eq] at *
  all_goals first|(exfalso;omega)|skip
  generalize hw1:(World.alloc _ _)=w1
  have b1:Ext w w1:=by rw[←hw1];exact Ext.alloc _ _
  have r1:w1.heap[w.heap.size]?=some (.cells #[.int .i64 lvl,.slice A xs.length c] 118 (0,0)):=by rw[←hw1];exact World.alloc_heap_at _ _ _ rfl
  clear hw1
  go_loopw [36] (fun i wr=>∃ k:Nat,k≤xs.length∧i=.int .i64 (k:Int)∧Jo false xs k=true∧Ext w1 wr) (fun i _=>xs.length-(intOf i).toNat)
  case atStart=>exact⟨0,by omega,rfl,rfl,Ext.refl _⟩
  case round =>
   obtain⟨k,hk,rfl,hck,hE⟩:=hrel
   by_cases hlt:k<xs.length
   ·have hlt':=hlt
    obtain⟨b,off,rfl,hb⟩:=hA (by omega)
    have b2:Ext w wr:=b1.trans hE
    obtain⟨A',c',c0,c1,c2,c3,c4,hby⟩:=(HX.out.ext b2).item k hlt'
    have HCK:=zH (vh (above:=false) hlt')
    have HBAD:=zH (Vd (above:=false) hlt')
    have HBI:=zH (YD (above:=false) hlt')
    have HSU:=zH (vl false xs k)
    generalize hx:xs[k]=x at *
    go_wp2_with fail
    generalize hw3:(World.alloc _ _)=w3
    have b3:Ext wr w3:=by rw[←hw3];exact Ext.alloc _ _
    have r3:w3.heap[wr.heap.size]?=some (.cells #[.int .u8 x.k,.int .u32 x.i,.int .u32 x.o,.int .i64 x.r,.slice A' x.val.length c'] 38 (0,0)):=by rw[←hw3];exact World.alloc_heap_at _ _ _ rfl
    clear hw3
    refine(Vg x.k x.i x.o x.r A' x.val.length c' _).mono ?_
    rintro e w4 ⟨rfl,hB⟩
    have b4:Ext wr w4:=b3.trans hB
    have r4:=qc r3 hB
    clear hB r3 b3
    by_cases hok:itB x.r x.val.length=true
    ·rw[jw hok]
     go_wp2
     have b5:Ext w1 w4:=hE.trans b4
     have rn:=qc r1 b5
     have n1:∀ W,Ext w4 W→W.cell? ⟨w.heap.size,1,none⟩=some (.slice (some ⟨b,off,none⟩) xs.length c):=fun W h=>by rw[qa (qc rn h)];rfl
     have i0:∀ W,Ext w4 W→W.cell? ⟨wr.heap.size,0,none⟩=some (.int .u8 x.k):=fun W h=>by rw[qa (qc r4 h)];rfl
     have i1:∀ W,Ext w4 W→W.cell? ⟨wr.heap.size,1,none⟩=some (.int .u32 x.i):=fun W h=>by rw[qa (qc r4 h)];rfl
     have i2:∀ W,Ext w4 W→W.cell? ⟨wr.heap.size,2,none⟩=some (.int .u32 x.o):=fun W h=>by rw[qa (qc r4 h)];rfl
     have i3:∀ W,Ext w4 W→W.cell? ⟨wr.heap.size,3,none⟩=some (.int .i64 x.r):=fun W h=>by rw[qa (qc r4 h)];rfl
     have i4:∀ W,Ext w4 W→W.cell? ⟨wr.heap.size,4,none⟩=some (.slice A' x.val.length c'):=fun W h=>by rw[qa (qc r4 h)];rfl
     rcases k with _|j
     ·refine qG (qE [(12,one (.bool true))]) 29 (by kernel_rfl) (by kernel_rfl) (by kernel_rfl) (by decide) (by kernel_rfl) (by kernel_rfl) ?st ?walk
      case st=>exact qJ (by simp only[List.forall_mem_cons];exact⟨Qz _,fun _ h=>by cases h⟩)
      case walk =>
       intro K hK
       dsimp only[List.take]
       by_cases hr0:x.r=0
       ·have hr1:(x.r == 0)=true:=by simpa using hr0
        have hr2:decide (x.r=0)=true:=by simpa using hr0
        repeat ((first|(refine ql ?_ (by rfl) (by rfl) (fun W hW _=>⟨W,?_,Ext.refl W⟩) ?_;rotate_left;(first|(go_simp;with_reducible rfl)|(go_simp;done)))|(refine qt (by rfl) ?_));try simp only[Act.put,qi,qe,qb,qg,zA,zB,zC])
        refine qP (hK _ _ fun W hW hF=>?_)
        clear hF hK
        have b7:Ext wr W:=b4.trans hW
        dsimp only[List.drop]
        go_wp2
        all_goals first
         |(go_ret
           exact⟨by rw[HBAD.out (by rw[HCK.out,hok];simp[*])];rfl,Ext.trans b2 b7⟩)
         |(go_roundw
           case rel=>exact⟨0+1,by omega,by go_num,by rw[HSU.out,hck,HCK.out,hok];simp[*],hE.trans b7⟩
           case measure=>simp[intOf];omega)
       ·have hr1:(x.r == 0)=false:=by simpa using hr0
        have hr2:decide (x.r=0)=false:=by simpa using hr0
        repeat ((first|(refine ql ?_ (by rfl) (by rfl) (fun W hW _=>⟨W,?_,Ext.refl W⟩) ?_;rotate_left;(first|(go_simp;with_reducible rfl)|(go_simp;done)))|(refine qt (by rfl) ?_));try simp only[Act.put,qi,qe,qb,qg,zA,zB,zC])
        refine qP (hK _ _ fun W hW hF=>?_)
        clear hF hK
        have b7:Ext wr W:=b4.trans hW
        dsimp only[List.drop]
        go_wp2
        all_goals first
         |(go_ret
           exact⟨by rw[HBAD.out (by rw[HCK.out,hok];simp[*])];rfl,Ext.trans b2 b7⟩)
         |(go_roundw
           case rel=>exact⟨0+1,by omega,by go_num,by rw[HSU.out,hck,HCK.out,hok];simp[*],hE.trans b7⟩
           case measure=>simp[intOf];omega)
     ·have hjl:j<xs.length:=by omega
      obtain⟨A2,c2',d0,d1,d2,d3,d4,_⟩:=(HX.out.ext (b2.trans b4)).item j hjl
      have hprev:xs[j+1-1]?=some xs[j]:=by rw[Nat.add_sub_cancel,List.getElem?_eq_getElem hjl]
      have HP:=zH hprev
      clear hprev
      generalize xs[j]=y at *
      have p0:∀ W,Ext w4 W→W.cell? ⟨b,off+j*5,none⟩=some (.int .u8 y.k):=fun W h=>Ext.cell h d0
      have p1:∀ W,Ext w4 W→W.cell? ⟨b,off+j*5+1,none⟩=some (.int .u32 y.i):=fun W h=>Ext.cell h d1
      have p2:∀ W,Ext w4 W→W.cell? ⟨b,off+j*5+2,none⟩=some (.int .u32 y.o):=fun W h=>Ext.cell h d2
      clear d0 d1 d2 d3 d4
      have HL:=zH (fun W=>Tp y.k y.i y.o x.k x.i x.o W)
      have HLE:Hid (Xb y x=jk y.k y.i y.o x.k x.i x.o):=rfl
      generalize jk y.k y.i y.o x.k x.i x.o=L at *
      have hj1:((j+1:Nat):Int)-1=(j:Int):=by omega
      refine qG (qE [(12,one (.bool L))]) 29 (by kernel_rfl) (by kernel_rfl) (by kernel_rfl) (by decide) (by kernel_rfl) (by kernel_rfl) ?st ?walk
      case st=>exact qJ (by simp only[List.forall_mem_cons];exact⟨Qz _,fun _ h=>by cases h⟩)
      case walk =>
       intro K hK
       dsimp only[List.take]
       repeat ((first|(refine ql ?_ (by rfl) (by rfl) (fun W hW _=>⟨W,?_,Ext.refl W⟩) ?_;rotate_left;(first|(go_simp;with_reducible rfl)|(go_simp;done)))|(refine qt (by rfl) ?_));try simp only[Act.put,qi,qe,qb,qg,zA,zB,zC])
       refine ql (.pointer (some ⟨b,off+j*5,none⟩)) (by rfl) (by rfl) (fun W hW _=>⟨W,?_,Ext.refl W⟩) ?_
       ·go_simp
        rw[IntWalk.i64_in (j:Int) (by omega),if_pos (by omega)]
        simp
       simp only[Act.put,qi,qe,qb,qg,zA,zB,zC]
       repeat ((first|(refine ql ?_ (by rfl) (by rfl) (fun W hW _=>⟨W,?_,Ext.refl W⟩) ?_;rotate_left;(first|(go_simp;with_reducible rfl)|(go_simp;done)))|(refine qt (by rfl) ?_));try simp only[Act.put,qi,qe,qb,qg,zA,zB,zC])
       refine qZ (one (.bool L)) (by rfl) (by rfl) (fun W hW _=>?_) (fun p=>?_)
       ·refine Qb ?_ ((HL.out W).mono fun e w' h=>⟨(),h.1,trivial,h.2⟩)
        go_simp
       cases p
       simp only[Act.put,qi,qe,qb,qg,zA,zB,zC]
       cases L
       ·repeat ((first|(refine ql ?_ (by rfl) (by rfl) (fun W hW _=>⟨W,?_,Ext.refl W⟩) ?_;rotate_left;(first|(go_simp;with_reducible rfl)|(go_simp;done)))|(refine qt (by rfl) ?_));try simp only[Act.put,qi,qe,qb,qg,zA,zB,zC])
        refine qP (hK _ _ fun W hW hF=>?_)
        clear hF hK HL
        have b7:Ext wr W:=b4.trans hW
        dsimp only[List.drop]
        go_wp2
        all_goals first
         |(go_ret
           exact⟨by rw[HBAD.out (by rw[HCK.out,hok,HP.out];simp[HLE.out, *])];rfl,Ext.trans b2 b7⟩)
         |(go_roundw
           case rel=>exact⟨j+1+1,by omega,by go_num,by rw[HSU.out,hck,HCK.out,hok,HP.out];simp[HLE.out, *],hE.trans b7⟩
           case measure=>simp[intOf];omega)
       ·by_cases hr0:x.r=0
        ·have hr1:(x.r == 0)=true:=by simpa using hr0
         have hr2:decide (x.r=0)=true:=by simpa using hr0
         repeat ((first|(refine ql ?_ (by rfl) (by rfl) (fun W hW _=>⟨W,?_,Ext.refl W⟩) ?_;rotate_left;(first|(go_simp;with_reducible rfl)|(go_simp;done)))|(refine qt (by rfl) ?_));try simp only[Act.put,qi,qe,qb,qg,zA,zB,zC])
         refine qP (hK _ _ fun W hW hF=>?_)
         clear hF hK HL
         have b7:Ext wr W:=b4.trans hW
         dsimp only[List.drop]
         go_wp2
         all_goals first
          |(go_ret
            exact⟨by rw[HBAD.out (by rw[HCK.out,hok,HP.out];simp[HLE.out, *])];rfl,Ext.trans b2 b7⟩)
          |(go_roundw
            case rel=>exact⟨j+1+1,by omega,by go_num,by rw[HSU.out,hck,HCK.out,hok,HP.out];simp[HLE.out, *],hE.trans b7⟩
            case measure=>simp[intOf];omega)
        ·have hr1:(x.r == 0)=false:=by simpa using hr0
         have hr2:decide (x.r=0)=false:=by simpa using hr0
         repeat ((first|(refine ql ?_ (by rfl) (by rfl) (fun W hW _=>⟨W,?_,Ext.refl W⟩) ?_;rotate_left;(first|(go_simp;with_reducible rfl)|(go_simp;done)))|(refine qt (by rfl) ?_));try simp only[Act.put,qi,qe,qb,qg,zA,zB,zC])
         refine qP (hK _ _ fun W hW hF=>?_)
         clear hF hK HL
         have b7:Ext wr W:=b4.trans hW
         dsimp only[List.drop]
         go_wp2
         all_goals first
          |(go_ret
            exact⟨by rw[HBAD.out (by rw[HCK.out,hok,HP.out];simp[HLE.out, *])];rfl,Ext.trans b2 b7⟩)
          |(go_roundw
            case rel=>exact⟨j+1+1,by omega,by go_num,by rw[HSU.out,hck,HCK.out,hok,HP.out];simp[HLE.out, *],hE.trans b7⟩
            case measure=>simp[intOf];omega)
    ·have hok':itB x.r x.val.length=false:=by simpa using hok
     have hfin:=HBAD.out (HBI.out hok')
     rw[ju hok']
     clear HCK HBAD HBI HSU
     go_wp2
     go_ret
     exact⟨by rw[hfin];rfl,Ext.trans b2 b4⟩
   ·obtain rfl:k=xs.length:=by omega
    go_wp2
    go_ret
    exact⟨by rw[hck];rfl,b1.trans hE⟩
set_option maxHeartbeats 1000000 in
theorem qee (lvl:Int) (A:Option Addr) (n c:Nat) (h:zN lvl n=false) (w:World) :
  Calls Tryz.prog 124 #[Zv lvl A n c] w (Ret (.bool false) w):=by
 have h':¬(0≤lvl∧lvl<6∧n≤5∧(0<lvl→n≠0)):=by simpa [zN] using h
 clear h
 go_enter Tryz.func124,Tryz.ntmps124
 go_wp2
 all_goals simp only[beq_iff_eq,beq_eq_false_iff_ne,ne_eq] at *
 all_goals first|(exfalso;omega)|skip
 all_goals go_ret
 all_goals exact⟨rfl,(by repeat' (first|with_reducible exact Below.refl _ _|with_reducible assumption|with_reducible apply Below.drew|with_reducible apply qp|with_reducible refine Below.alloc ?_ ?_ _|with_reducible refine Below.setCell ?_ ?_ _|(simp;done)|(simp;omega)|omega))⟩
set_option maxHeartbeats 4000000 in
set_option maxRecDepth 100000 in
theorem nmay_any (lvl:Int) (A:Option Addr) (n c:Nat) (xs:List It) (w:World) (hx:Its w w.heap.size (.slice A n c) xs) (h:zN lvl n=true) :
  Calls Tryz.prog 124 #[Zv lvl A n c] w (Ret (.bool (qR lvl xs)) w):=by
 obtain⟨hn,hnc,hcm,hA⟩:=hx.at_
 have h':0≤lvl∧lvl<6∧n≤5∧(0<lvl→n≠0):=by unfold zN at h;exact of_decide_eq_true h
 have hM:qR lvl xs=Jo (decide (0<lvl)) xs xs.length:=by unfold qR;rw[←hn,h];rfl
 rw[hM]
 clear hM h
 subst hn
 have HX:=zH hx
 clear hx
 obtain⟨h1,h2,h3,h4⟩:=h'
 by_cases hab:0<lvl
 ·rw[decide_eq_true hab]
  go_enter Tryz.func124,Tryz.ntmps124
  go_wp2
  all_goals simp only[beq_iff_eq,beq_eq_false_iff_ne,ne_eq] at *
  all_goals first|(exfalso;omega)|skip
  generalize hw1:(World.alloc _ _)=w1
  have b1:Ext w w1:=by rw[←hw1];exact Ext.alloc _ _
  have r1:w1.heap[w.heap.size]?=some (.cells #[.int .i64 lvl,.slice A xs.length c] 118 (0,0)):=by rw[←hw1];exact World.alloc_heap_at _ _ _ rfl
  clear hw1
  go_loopw [3] (fun i wr=>∃ k:Nat,k≤xs.length∧i=.int .i64 (k:Int)∧Jo true xs k=true∧Ext w1 wr) (fun i _=>xs.length-(intOf i).toNat)
  case atStart=>exact⟨0,by omega,rfl,rfl,Ext.refl _⟩
  case round =>
   obtain⟨k,hk,rfl,hck,hE⟩:=hrel
   by_cases hlt:k<xs.length
   ·have hlt':=hlt
    obtain⟨b,off,rfl,hb⟩:=hA (by omega)
    have b2:Ext w wr:=b1.trans hE
    obtain⟨A',c',c0,c1,c2,c3,c4,hby⟩:=(HX.out.ext b2).item k hlt'
    have HCK:=zH (vh (above:=true) hlt')
    have HBAD:=zH (Vd (above:=true) hlt')
    have HBI:=zH (YD (above:=true) hlt')
    have HSU:=zH (vl true xs k)
    generalize hx:xs[k]=x at *
    have rn0:=qc r1 hE
    have kn:=qa rn0
    go_wp2
    generalize hw4:(World.alloc _ _)=w4
    have b4:Ext wr w4:=by rw[←hw4];exact Ext.alloc _ _
    have r4:w4.heap[wr.heap.size]?=some (.cells #[.int .u8 x.k,.int .u32 x.i,.int .u32 x.o,.int .i64 x.r,.slice A' x.val.length c'] 38 (0,0)):=by rw[←hw4];exact World.alloc_heap_at _ _ _ rfl
    clear hw4 kn
    have rn:=qc rn0 b4
    have n0:∀ W,Ext w4 W→W.cell? ⟨w.heap.size,0,none⟩=some (.int .i64 lvl):=fun W h=>by rw[qa (qc rn h)];rfl
    have n1:∀ W,Ext w4 W→W.cell? ⟨w.heap.size,1,none⟩=some (.slice (some ⟨b,off,none⟩) xs.length c):=fun W h=>by rw[qa (qc rn h)];rfl
    have i0:∀ W,Ext w4 W→W.cell? ⟨wr.heap.size,0,none⟩=some (.int .u8 x.k):=fun W h=>by rw[qa (qc r4 h)];rfl
    have i1:∀ W,Ext w4 W→W.cell? ⟨wr.heap.size,1,none⟩=some (.int .u32 x.i):=fun W h=>by rw[qa (qc r4 h)];rfl
    have i2:∀ W,Ext w4 W→W.cell? ⟨wr.heap.size,2,none⟩=some (.int .u32 x.o):=fun W h=>by rw[qa (qc r4 h)];rfl
    have i3:∀ W,Ext w4 W→W.cell? ⟨wr.heap.size,3,none⟩=some (.int .i64 x.r):=fun W h=>by rw[qa (qc r4 h)];rfl
    have i4:∀ W,Ext w4 W→W.cell? ⟨wr.heap.size,4,none⟩=some (.slice A' x.val.length c'):=fun W h=>by rw[qa (qc r4 h)];rfl
    have HM:=zH (fun W=>Yf x.k x.i x.o x.r A' x.val.length c' W)
    have hdec:decide (0<lvl)=true:=by simp[hab]
    generalize hMM:itB x.r x.val.length=M at *
    rcases k with _|j
    ·refine qG (qE [(1,one (.bool M)),(16,one (.bool true))]) 36 (by kernel_rfl) (by kernel_rfl) (by kernel_rfl) (by decide) (by kernel_rfl) (by kernel_rfl) ?st ?walk
     case st=>exact qJ (by simp only[List.forall_mem_cons];exact⟨Qz _,Qz _,fun _ h=>by cases h⟩)
     case walk =>
      intro K hK
      dsimp only[List.take]
      repeat ((first|(refine ql ?_ (by rfl) (by rfl) (fun W hW _=>⟨W,?_,Ext.refl W⟩) ?_;rotate_left;(first|(go_simp;with_reducible rfl)|(go_simp;done)))|(refine qt (by rfl) ?_));try simp only[Act.put,qi,qe,qb,qg,zA,zB,zC])
      refine qZ (one (.bool M)) (by rfl) (by rfl) (fun W hW _=>?_) (fun p=>?_)
      ·refine Qb ?_ ((HM.out W).mono fun e w' h=>⟨(),h.1,trivial,h.2⟩)
       go_simp
      cases p
      simp only[Act.put,qi,qe,qb,qg,zA,zB,zC]
      clear HM
      cases M
      ·repeat ((first|(refine ql ?_ (by rfl) (by rfl) (fun W hW _=>⟨W,?_,Ext.refl W⟩) ?_;rotate_left;(first|(go_simp;with_reducible rfl)|(go_simp;done)))|(refine qt (by rfl) ?_));try simp only[Act.put,qi,qe,qb,qg,zA,zB,zC])
       refine qP (hK _ _ fun W hW hF=>?_)
       clear hF hK
       have b7:Ext wr W:=b4.trans hW
       dsimp only[List.drop]
       go_wp2
       all_goals first
        |(go_ret
          exact⟨by rw[HBAD.out (by rw[HCK.out,Bool.false_and];simp[*])];rfl,Ext.trans b2 b7⟩)
        |(go_roundw
          case rel=>exact⟨0+1,by omega,by go_num,by rw[HSU.out,hck,HCK.out,Bool.false_and];simp[*],hE.trans b7⟩
          case measure=>simp[intOf];omega)
      ·by_cases hr0:x.r=0
       ·have hr1:(x.r == 0)=true:=by simpa using hr0
        have hr2:decide (x.r=0)=true:=by simpa using hr0
        repeat ((first|(refine ql ?_ (by rfl) (by rfl) (fun W hW _=>⟨W,?_,Ext.refl W⟩) ?_;rotate_left;(first|(go_simp;with_reducible rfl)|(go_simp;done)))|(refine qt (by rfl) ?_));try simp only[Act.put,qi,qe,qb,qg,zA,zB,zC])
        refine qP (hK _ _ fun W hW hF=>?_)
        clear hF hK
        have b7:Ext wr W:=b4.trans hW
        dsimp only[List.drop]
        go_wp2
        all_goals first
         |(go_ret
           exact⟨by rw[HBAD.out (by rw[HCK.out,Bool.true_and];simp[*])];rfl,Ext.trans b2 b7⟩)
         |(go_roundw
           case rel=>exact⟨0+1,by omega,by go_num,by rw[HSU.out,hck,HCK.out,Bool.true_and];simp[*],hE.trans b7⟩
           case measure=>simp[intOf];omega)
       ·have hr1:(x.r == 0)=false:=by simpa using hr0
        have hr2:decide (x.r=0)=false:=by simpa using hr0
        repeat ((first|(refine ql ?_ (by rfl) (by rfl) (fun W hW _=>⟨W,?_,Ext.refl W⟩) ?_;rotate_left;(first|(go_simp;with_reducible rfl)|(go_simp;done)))|(refine qt (by rfl) ?_));try simp only[Act.put,qi,qe,qb,qg,zA,zB,zC])
        refine qP (hK _ _ fun W hW hF=>?_)
        clear hF hK
        have b7:Ext wr W:=b4.trans hW
        dsimp only[List.drop]
        go_wp2
        all_goals first
         |(go_ret
           exact⟨by rw[HBAD.out (by rw[HCK.out,Bool.true_and];simp[*])];rfl,Ext.trans b2 b7⟩)
         |(go_roundw
           case rel=>exact⟨0+1,by omega,by go_num,by rw[HSU.out,hck,HCK.out,Bool.true_and];simp[*],hE.trans b7⟩
           case measure=>simp[intOf];omega)
    ·have hjl:j<xs.length:=by omega
     obtain⟨A2,c2',d0,d1,d2,d3,d4,_⟩:=(HX.out.ext (b2.trans b4)).item j hjl
     have hprev:xs[j+1-1]?=some xs[j]:=by rw[Nat.add_sub_cancel,List.getElem?_eq_getElem hjl]
     have HP:=zH hprev
     clear hprev
     generalize xs[j]=y at *
     have p0:∀ W,Ext w4 W→W.cell? ⟨b,off+j*5,none⟩=some (.int .u8 y.k):=fun W h=>Ext.cell h d0
     have p1:∀ W,Ext w4 W→W.cell? ⟨b,off+j*5+1,none⟩=some (.int .u32 y.i):=fun W h=>Ext.cell h d1
     have p2:∀ W,Ext w4 W→W.cell? ⟨b,off+j*5+2,none⟩=some (.int .u32 y.o):=fun W h=>Ext.cell h d2
     clear d0 d1 d2 d3 d4
     have HL:=zH (fun W=>JO y.k y.i y.o x.k x.i x.o W)
     have HLE:Hid (Xb y x=jk y.k y.i y.o x.k x.i x.o):=rfl
     generalize jk y.k y.i y.o x.k x.i x.o=L at *
     refine qG (qE [(1,one (.bool M)),(16,one (.bool L))]) 36 (by kernel_rfl) (by kernel_rfl) (by kernel_rfl) (by decide) (by kernel_rfl) (by kernel_rfl) ?st ?walk
     case st=>exact qJ (by simp only[List.forall_mem_cons];exact⟨Qz _,Qz _,fun _ h=>by cases h⟩)
     case walk =>
      intro K hK
      dsimp only[List.take]
      repeat ((first|(refine ql ?_ (by rfl) (by rfl) (fun W hW _=>⟨W,?_,Ext.refl W⟩) ?_;rotate_left;(first|(go_simp;with_reducible rfl)|(go_simp;done)))|(refine qt (by rfl) ?_));try simp only[Act.put,qi,qe,qb,qg,zA,zB,zC])
      refine qZ (one (.bool M)) (by rfl) (by rfl) (fun W hW _=>?_) (fun p=>?_)
      ·refine Qb ?_ ((HM.out W).mono fun e w' h=>⟨(),h.1,trivial,h.2⟩)
       go_simp
      cases p
      simp only[Act.put,qi,qe,qb,qg,zA,zB,zC]
      clear HM
      cases M
      ·repeat ((first|(refine ql ?_ (by rfl) (by rfl) (fun W hW _=>⟨W,?_,Ext.refl W⟩) ?_;rotate_left;(first|(go_simp;with_reducible rfl)|(go_simp;done)))|(refine qt (by rfl) ?_));try simp only[Act.put,qi,qe,qb,qg,zA,zB,zC])
       refine qP (hK _ _ fun W hW hF=>?_)
       clear hF hK
       have b7:Ext wr W:=b4.trans hW
       dsimp only[List.drop]
       go_wp2
       all_goals first
        |(go_ret
          exact⟨by rw[HBAD.out (by rw[HCK.out,Bool.false_and];simp[*])];rfl,Ext.trans b2 b7⟩)
        |(go_roundw
          case rel=>exact⟨j+1+1,by omega,by go_num,by rw[HSU.out,hck,HCK.out,Bool.false_and];simp[*],hE.trans b7⟩
          case measure=>simp[intOf];omega)
      ·repeat ((first|(refine ql ?_ (by rfl) (by rfl) (fun W hW _=>⟨W,?_,Ext.refl W⟩) ?_;rotate_left;(first|(go_simp;with_reducible rfl)|(go_simp;done)))|(refine qt (by rfl) ?_));try simp only[Act.put,qi,qe,qb,qg,zA,zB,zC])
       refine ql (.pointer (some ⟨b,off+j*5,none⟩)) (by rfl) (by rfl) (fun W hW _=>⟨W,?_,Ext.refl W⟩) ?_
       ·go_simp
        rw[IntWalk.i64_in (j:Int) (by omega),if_pos (by omega)]
        simp
       simp only[Act.put,qi,qe,qb,qg,zA,zB,zC]
       repeat ((first|(refine ql ?_ (by rfl) (by rfl) (fun W hW _=>⟨W,?_,Ext.refl W⟩) ?_;rotate_left;(first|(go_simp;with_reducible rfl)|(go_simp;done)))|(refine qt (by rfl) ?_));try simp only[Act.put,qi,qe,qb,qg,zA,zB,zC])
       refine qZ (one (.bool L)) (by rfl) (by rfl) (fun W hW _=>?_) (fun p=>?_)
       ·refine Qb ?_ ((HL.out W).mono fun e w' h=>⟨(),h.1,trivial,h.2⟩)
        go_simp
       cases p
       simp only[Act.put,qi,qe,qb,qg,zA,zB,zC]
       clear HL
       cases L
       ·repeat ((first|(refine ql ?_ (by rfl) (by rfl) (fun W hW _=>⟨W,?_,Ext.refl W⟩) ?_;rotate_left;(first|(go_simp;with_reducible rfl)|(go_simp;done)))|(refine qt (by rfl) ?_));try simp only[Act.put,qi,qe,qb,qg,zA,zB,zC])
        refine qP (hK _ _ fun W hW hF=>?_)
        clear hF hK
        have b7:Ext wr W:=b4.trans hW
        dsimp only[List.drop]
        go_wp2
        all_goals first
         |(go_ret
           exact⟨by rw[HBAD.out (by rw[HCK.out,Bool.true_and,HP.out];simp[HLE.out, *])];rfl,Ext.trans b2 b7⟩)
         |(go_roundw
           case rel=>exact⟨j+1+1,by omega,by go_num,by rw[HSU.out,hck,HCK.out,Bool.true_and,HP.out];simp[HLE.out, *],hE.trans b7⟩
           case measure=>simp[intOf];omega)
       ·by_cases hr0:x.r=0
        ·have hr1:(x.r == 0)=true:=by simpa using hr0
         have hr2:decide (x.r=0)=true:=by simpa using hr0
         repeat ((first|(refine ql ?_ (by rfl) (by rfl) (fun W hW _=>⟨W,?_,Ext.refl W⟩) ?_;rotate_left;(first|(go_simp;with_reducible rfl)|(go_simp;done)))|(refine qt (by rfl) ?_));try simp only[Act.put,qi,qe,qb,qg,zA,zB,zC])
         refine qP (hK _ _ fun W hW hF=>?_)
         clear hF hK
         have b7:Ext wr W:=b4.trans hW
         dsimp only[List.drop]
         go_wp2
         all_goals first
          |(go_ret
            exact⟨by rw[HBAD.out (by rw[HCK.out,Bool.true_and,HP.out];simp[HLE.out, *])];rfl,Ext.trans b2 b7⟩)
          |(go_roundw
            case rel=>exact⟨j+1+1,by omega,by go_num,by rw[HSU.out,hck,HCK.out,Bool.true_and,HP.out];simp[HLE.out, *],hE.trans b7⟩
            case measure=>simp[intOf];omega)
        ·have hr1:(x.r == 0)=false:=by simpa using hr0
         have hr2:decide (x.r=0)=false:=by simpa using hr0
         repeat ((first|(refine ql ?_ (by rfl) (by rfl) (fun W hW _=>⟨W,?_,Ext.refl W⟩) ?_;rotate_left;(first|(go_simp;with_reducible rfl)|(go_simp;done)))|(refine qt (by rfl) ?_));try simp only[Act.put,qi,qe,qb,qg,zA,zB,zC])
         refine qP (hK _ _ fun W hW hF=>?_)
         clear hF hK
         have b7:Ext wr W:=b4.trans hW
         dsimp only[List.drop]
         go_wp2
         all_goals first
          |(go_ret
            exact⟨by rw[HBAD.out (by rw[HCK.out,Bool.true_and,HP.out];simp[HLE.out, *])];rfl,Ext.trans b2 b7⟩)
          |(go_roundw
            case rel=>exact⟨j+1+1,by omega,by go_num,by rw[HSU.out,hck,HCK.out,Bool.true_and,HP.out];simp[HLE.out, *],hE.trans b7⟩
            case measure=>simp[intOf];omega)
   ·obtain rfl:k=xs.length:=by omega
    have rn0:=qc r1 hE
    have kn:=qa rn0
    go_wp2
    go_ret
    exact⟨by rw[hck];rfl,b1.trans hE⟩
 ·rw[decide_eq_false hab]
  go_enter Tryz.func124,Tryz.ntmps124
  go_wp2
  all_goals simp only[beq_iff_eq,beq_eq_false_iff_ne,ne_eq] at *
  all_goals first|(exfalso;omega)|skip
  generalize hw1:(World.alloc _ _)=w1
  have b1:Ext w w1:=by rw[←hw1];exact Ext.alloc _ _
  have r1:w1.heap[w.heap.size]?=some (.cells #[.int .i64 lvl,.slice A xs.length c] 118 (0,0)):=by rw[←hw1];exact World.alloc_heap_at _ _ _ rfl
  clear hw1
  go_loopw [3] (fun i wr=>∃ k:Nat,k≤xs.length∧i=.int .i64 (k:Int)∧Jo false xs k=true∧Ext w1 wr) (fun i _=>xs.length-(intOf i).toNat)
  case atStart=>exact⟨0,by omega,rfl,rfl,Ext.refl _⟩
  case round =>
   obtain⟨k,hk,rfl,hck,hE⟩:=hrel
   by_cases hlt:k<xs.length
   ·have hlt':=hlt
    obtain⟨b,off,rfl,hb⟩:=hA (by omega)
    have b2:Ext w wr:=b1.trans hE
    obtain⟨A',c',c0,c1,c2,c3,c4,hby⟩:=(HX.out.ext b2).item k hlt'
    have HCK:=zH (vh (above:=false) hlt')
    have HBAD:=zH (Vd (above:=false) hlt')
    have HBI:=zH (YD (above:=false) hlt')
    have HSU:=zH (vl false xs k)
    generalize hx:xs[k]=x at *
    have rn0:=qc r1 hE
    have kn:=qa rn0
    go_wp2
    generalize hw4:(World.alloc _ _)=w4
    have b4:Ext wr w4:=by rw[←hw4];exact Ext.alloc _ _
    have r4:w4.heap[wr.heap.size]?=some (.cells #[.int .u8 x.k,.int .u32 x.i,.int .u32 x.o,.int .i64 x.r,.slice A' x.val.length c'] 38 (0,0)):=by rw[←hw4];exact World.alloc_heap_at _ _ _ rfl
    clear hw4 kn
    have rn:=qc rn0 b4
    have n0:∀ W,Ext w4 W→W.cell? ⟨w.heap.size,0,none⟩=some (.int .i64 lvl):=fun W h=>by rw[qa (qc rn h)];rfl
    have n1:∀ W,Ext w4 W→W.cell? ⟨w.heap.size,1,none⟩=some (.slice (some ⟨b,off,none⟩) xs.length c):=fun W h=>by rw[qa (qc rn h)];rfl
    have i0:∀ W,Ext w4 W→W.cell? ⟨wr.heap.size,0,none⟩=some (.int .u8 x.k):=fun W h=>by rw[qa (qc r4 h)];rfl
    have i1:∀ W,Ext w4 W→W.cell? ⟨wr.heap.size,1,none⟩=some (.int .u32 x.i):=fun W h=>by rw[qa (qc r4 h)];rfl
    have i2:∀ W,Ext w4 W→W.cell? ⟨wr.heap.size,2,none⟩=some (.int .u32 x.o):=fun W h=>by rw[qa (qc r4 h)];rfl
    have i3:∀ W,Ext w4 W→W.cell? ⟨wr.heap.size,3,none⟩=some (.int .i64 x.r):=fun W h=>by rw[qa (qc r4 h)];rfl
    have i4:∀ W,Ext w4 W→W.cell? ⟨wr.heap.size,4,none⟩=some (.slice A' x.val.length c'):=fun W h=>by rw[qa (qc r4 h)];rfl
    have HM:=zH (fun W=>Yf x.k x.i x.o x.r A' x.val.length c' W)
    have hdec:decide (0<lvl)=false:=by simp[hab]
    generalize hMM:itB x.r x.val.length=M at *
    rcases k with _|j
    ·refine qG (qE [(1,one (.bool M)),(16,one (.bool true))]) 36 (by kernel_rfl) (by kernel_rfl) (by kernel_rfl) (by decide) (by kernel_rfl) (by kernel_rfl) ?st ?walk
     case st=>exact qJ (by simp only[List.forall_mem_cons];exact⟨Qz _,Qz _,fun _ h=>by cases h⟩)
     case walk =>
      intro K hK
      dsimp only[List.take]
      repeat ((first|(refine ql ?_ (by rfl) (by rfl) (fun W hW _=>⟨W,?_,Ext.refl W⟩) ?_;rotate_left;(first|(go_simp;with_reducible rfl)|(go_simp;done)))|(refine qt (by rfl) ?_));try simp only[Act.put,qi,qe,qb,qg,zA,zB,zC])
      refine qZ (one (.bool M)) (by rfl) (by rfl) (fun W hW _=>?_) (fun p=>?_)
      ·refine Qb ?_ ((HM.out W).mono fun e w' h=>⟨(),h.1,trivial,h.2⟩)
       go_simp
      cases p
      simp only[Act.put,qi,qe,qb,qg,zA,zB,zC]
      clear HM
      cases M
      ·repeat ((first|(refine ql ?_ (by rfl) (by rfl) (fun W hW _=>⟨W,?_,Ext.refl W⟩) ?_;rotate_left;(first|(go_simp;with_reducible rfl)|(go_simp;done)))|(refine qt (by rfl) ?_));try simp only[Act.put,qi,qe,qb,qg,zA,zB,zC])
       refine qP (hK _ _ fun W hW hF=>?_)
       clear hF hK
       have b7:Ext wr W:=b4.trans hW
       dsimp only[List.drop]
       go_wp2
       all_goals first
        |(go_ret
          exact⟨by rw[HBAD.out (by rw[HCK.out,Bool.false_and];simp[*])];rfl,Ext.trans b2 b7⟩)
        |(go_roundw
          case rel=>exact⟨0+1,by omega,by go_num,by rw[HSU.out,hck,HCK.out,Bool.false_and];simp[*],hE.trans b7⟩
          case measure=>simp[intOf];omega)
      ·by_cases hr0:x.r=0
       ·have hr1:(x.r == 0)=true:=by simpa using hr0
        have hr2:decide (x.r=0)=true:=by simpa using hr0
        repeat ((first|(refine ql ?_ (by rfl) (by rfl) (fun W hW _=>⟨W,?_,Ext.refl W⟩) ?_;rotate_left;(first|(go_simp;with_reducible rfl)|(go_simp;done)))|(refine qt (by rfl) ?_));try simp only[Act.put,qi,qe,qb,qg,zA,zB,zC])
        refine qP (hK _ _ fun W hW hF=>?_)
        clear hF hK
        have b7:Ext wr W:=b4.trans hW
        dsimp only[List.drop]
        go_wp2
        all_goals first
         |(go_ret
           exact⟨by rw[HBAD.out (by rw[HCK.out,Bool.true_and];simp[*])];rfl,Ext.trans b2 b7⟩)
         |(go_roundw
           case rel=>exact⟨0+1,by omega,by go_num,by rw[HSU.out,hck,HCK.out,Bool.true_and];simp[*],hE.trans b7⟩
           case measure=>simp[intOf];omega)
       ·have hr1:(x.r == 0)=false:=by simpa using hr0
        have hr2:decide (x.r=0)=false:=by simpa using hr0
        repeat ((first|(refine ql ?_ (by rfl) (by rfl) (fun W hW _=>⟨W,?_,Ext.refl W⟩) ?_;rotate_left;(first|(go_simp;with_reducible rfl)|(go_simp;done)))|(refine qt (by rfl) ?_));try simp only[Act.put,qi,qe,qb,qg,zA,zB,zC])
        refine qP (hK _ _ fun W hW hF=>?_)
        clear hF hK
        have b7:Ext wr W:=b4.trans hW
        dsimp only[List.drop]
        go_wp2
        all_goals first
         |(go_ret
           exact⟨by rw[HBAD.out (by rw[HCK.out,Bool.true_and];simp[*])];rfl,Ext.trans b2 b7⟩)
         |(go_roundw
           case rel=>exact⟨0+1,by omega,by go_num,by rw[HSU.out,hck,HCK.out,Bool.true_and];simp[*],hE.trans b7⟩
           case measure=>simp[intOf];omega)
    ·have hjl:j<xs.length:=by omega
     obtain⟨A2,c2',d0,d1,d2,d3,d4,_⟩:=(HX.out.ext (b2.trans b4)).item j hjl
     have hprev:xs[j+1-1]?=some xs[j]:=by rw[Nat.add_sub_cancel,List.getElem?_eq_getElem hjl]
     have HP:=zH hprev
     clear hprev
     generalize xs[j]=y at *
     have p0:∀ W,Ext w4 W→W.cell? ⟨b,off+j*5,none⟩=some (.int .u8 y.k):=fun W h=>Ext.cell h d0
     have p1:∀ W,Ext w4 W→W.cell? ⟨b,off+j*5+1,none⟩=some (.int .u32 y.i):=fun W h=>Ext.cell h d1
     have p2:∀ W,Ext w4 W→W.cell? ⟨b,off+j*5+2,none⟩=some (.int .u32 y.o):=fun W h=>Ext.cell h d2
     clear d0 d1 d2 d3 d4
     have HL:=zH (fun W=>JO y.k y.i y.o x.k x.i x.o W)
     have HLE:Hid (Xb y x=jk y.k y.i y.o x.k x.i x.o):=rfl
     generalize jk y.k y.i y.o x.k x.i x.o=L at *
     refine qG (qE [(1,one (.bool M)),(16,one (.bool L))]) 36 (by kernel_rfl) (by kernel_rfl) (by kernel_rfl) (by decide) (by kernel_rfl) (by kernel_rfl) ?st ?walk
     case st=>exact qJ (by simp only[List.forall_mem_cons];exact⟨Qz _,Qz _,fun _ h=>by cases h⟩)
     case walk =>
      intro K hK
      dsimp only[List.take]
      repeat ((first|(refine ql ?_ (by rfl) (by rfl) (fun W hW _=>⟨W,?_,Ext.refl W⟩) ?_;rotate_left;(first|(go_simp;with_reducible rfl)|(go_simp;done)))|(refine qt (by rfl) ?_));try simp only[Act.put,qi,qe,qb,qg,zA,zB,zC])
      refine qZ (one (.bool M)) (by rfl) (by rfl) (fun W hW _=>?_) (fun p=>?_)
      ·refine Qb ?_ ((HM.out W).mono fun e w' h=>⟨(),h.1,trivial,h.2⟩)
       go_simp
      cases p
      simp only[Act.put,qi,qe,qb,qg,zA,zB,zC]
      clear HM
      cases M
      ·repeat ((first|(refine ql ?_ (by rfl) (by rfl) (fun W hW _=>⟨W,?_,Ext.refl W⟩) ?_;rotate_left;(first|(go_simp;with_reducible rfl)|(go_simp;done)))|(refine qt (by rfl) ?_));try simp only[Act.put,qi,qe,qb,qg,zA,zB,zC])
       refine qP (hK _ _ fun W hW hF=>?_)
       clear hF hK
       have b7:Ext wr W:=b4.trans hW
       dsimp only[List.drop]
       go_wp2
       all_goals first
        |(go_ret
          exact⟨by rw[HBAD.out (by rw[HCK.out,Bool.false_and];simp[*])];rfl,Ext.trans b2 b7⟩)
        |(go_roundw
          case rel=>exact⟨j+1+1,by omega,by go_num,by rw[HSU.out,hck,HCK.out,Bool.false_and];simp[*],hE.trans b7⟩
          case measure=>simp[intOf];omega)
      ·repeat ((first|(refine ql ?_ (by rfl) (by rfl) (fun W hW _=>⟨W,?_,Ext.refl W⟩) ?_;rotate_left;(first|(go_simp;with_reducible rfl)|(go_simp;done)))|(refine qt (by rfl) ?_));try simp only[Act.put,qi,qe,qb,qg,zA,zB,zC])
       refine ql (.pointer (some ⟨b,off+j*5,none⟩)) (by rfl) (by rfl) (fun W hW _=>⟨W,?_,Ext.refl W⟩) ?_
       ·go_simp
        rw[IntWalk.i64_in (j:Int) (by omega),if_pos (by omega)]
        simp
       simp only[Act.put,qi,qe,qb,qg,zA,zB,zC]
       repeat ((first|(refine ql ?_ (by rfl) (by rfl) (fun W hW _=>⟨W,?_,Ext.refl W⟩) ?_;rotate_left;(first|(go_simp;with_reducible rfl)|(go_simp;done)))|(refine qt (by rfl) ?_));try simp only[Act.put,qi,qe,qb,qg,zA,zB,zC])
       refine qZ (one (.bool L)) (by rfl) (by rfl) (fun W hW _=>?_) (fun p=>?_)
       ·refine Qb ?_ ((HL.out W).mono fun e w' h=>⟨(),h.1,trivial,h.2⟩)
        go_simp
       cases p
       simp only[Act.put,qi,qe,qb,qg,zA,zB,zC]
       clear HL
       cases L
       ·repeat ((first|(refine ql ?_ (by rfl) (by rfl) (fun W hW _=>⟨W,?_,Ext.refl W⟩) ?_;rotate_left;(first|(go_simp;with_reducible rfl)|(go_simp;done)))|(refine qt (by rfl) ?_));try simp only[Act.put,qi,qe,qb,qg,zA,zB,zC])
        refine qP (hK _ _ fun W hW hF=>?_)
        clear hF hK
        have b7:Ext wr W:=b4.trans hW
        dsimp only[List.drop]
        go_wp2
        all_goals first
         |(go_ret
           exact⟨by rw[HBAD.out (by rw[HCK.out,Bool.true_and,HP.out];simp[HLE.out, *])];rfl,Ext.trans b2 b7⟩)
         |(go_roundw
           case rel=>exact⟨j+1+1,by omega,by go_num,by rw[HSU.out,hck,HCK.out,Bool.true_and,HP.out];simp[HLE.out, *],hE.trans b7⟩
           case measure=>simp[intOf];omega)
       ·by_cases hr0:x.r=0
        ·have hr1:(x.r == 0)=true:=by simpa using hr0
         have hr2:decide (x.r=0)=true:=by simpa using hr0
         repeat ((first|(refine ql ?_ (by rfl) (by rfl) (fun W hW _=>⟨W,?_,Ext.refl W⟩) ?_;rotate_left;(first|(go_simp;with_reducible rfl)|(go_simp;done)))|(refine qt (by rfl) ?_));try simp only[Act.put,qi,qe,qb,qg,zA,zB,zC])
         refine qP (hK _ _ fun W hW hF=>?_)
         clear hF hK
         have b7:Ext wr W:=b4.trans hW
         dsimp only[List.drop]
         go_wp2
         all_goals first
          |(go_ret
            exact⟨by rw[HBAD.out (by rw[HCK.out,Bool.true_and,HP.out];simp[HLE.out, *])];rfl,Ext.trans b2 b7⟩)
          |(go_roundw
            case rel=>exact⟨j+1+1,by omega,by go_num,by rw[HSU.out,hck,HCK.out,Bool.true_and,HP.out];simp[HLE.out, *],hE.trans b7⟩
            case measure=>simp[intOf];omega)
        ·have hr1:(x.r == 0)=false:=by simpa using hr0
         have hr2:decide (x.r=0)=false:=by simpa using hr0
         repeat ((first|(refine ql ?_ (by rfl) (by rfl) (fun W hW _=>⟨W,?_,Ext.refl W⟩) ?_;rotate_left;(first|(go_simp;with_reducible rfl)|(go_simp;done)))|(refine qt (by rfl) ?_));try simp only[Act.put,qi,qe,qb,qg,zA,zB,zC])
         refine qP (hK _ _ fun W hW hF=>?_)
         clear hF hK
         have b7:Ext wr W:=b4.trans hW
         dsimp only[List.drop]
         go_wp2
         all_goals first
          |(go_ret
            exact⟨by rw[HBAD.out (by rw[HCK.out,Bool.true_and,HP.out];simp[HLE.out, *])];rfl,Ext.trans b2 b7⟩)
          |(go_roundw
            case rel=>exact⟨j+1+1,by omega,by go_num,by rw[HSU.out,hck,HCK.out,Bool.true_and,HP.out];simp[HLE.out, *],hE.trans b7⟩
            case measure=>simp[intOf];omega)
   ·obtain rfl:k=xs.length:=by omega
    have rn0:=qc r1 hE
    have kn:=qa rn0
    go_wp2
    go_ret
    exact⟨by rw[hck];rfl,b1.trans hE⟩
def QB (l:List UInt8):Nat→Option (List It×List UInt8)
 |0=>some ([],l)
 |k+1=>match QB l k with
  |none=>none
  |some (xs,r)=>match QA r with
   |none=>none
   |some (x,n)=>some (xs++[x],r.drop n)
def QC (l:List UInt8):Option (Int×List It):=
 if l.length=128∧Ks l=true∧(l[4]?.getD 0)=78∧(l[6]?.getD 0).toNat≤5 then
  match QB (l.drop 7) (l[6]?.getD 0).toNat with
  |none=>none
  |some (xs,r)=>if qR (l[5]?.getD 0).toNat xs=true∧ZE r=true then some (((l[5]?.getD 0).toNat:Int),xs) else none
 else none
theorem jl {l:List UInt8}:∀ {k:Nat} {xs:List It} {r:List UInt8},QB l k=some (xs,r)→xs.length=k:=by
 intro k
 induction k with
 |zero=>intro xs r h;simp[QB] at h;simp[←h.1]
 |succ k ih =>
  intro xs r h
  unfold QB at h
  split at h
  ·cases h
  ·rename_i ys q hq
   split at h
   ·cases h
   ·simp at h
    rw[←h.1]
    simp[ih hq]
def Yk (x:It):Prop:=(0≤x.k∧x.k<256)∧(0≤x.i∧x.i<4294967296)∧(0≤x.o∧x.o<4294967296)∧(0≤x.r∧x.r<256)∧x.val.length≤12
def jQ (x:It):List UInt8:=UInt8.ofNat x.k.toNat :: (qy x.i.toNat 4++(qy x.o.toNat 4++(qy x.r.toNat 2++(UInt8.ofNat x.val.length :: x.val))))
theorem XH (x:It):(jQ x).length=12+x.val.length:=by simp[jQ,zM];omega
theorem VY {l:List UInt8} {a k:Nat} (h:a+k≤l.length):qy (Qx l a k).toNat k=(l.drop a).take k:=by
 unfold Qx
 rw[if_pos h]
 have hl:((l.drop a).take k).length=k:=by simp;omega
 have:=UF ((l.drop a).take k)
 rw[hl] at this
 simpa using this
theorem Ja {l:List UInt8} {a k:Nat} (h:a+k≤l.length):0≤Qx l a k∧Qx l a k<256 ^ k:=by
 unfold Qx
 rw[if_pos h]
 have:=YO ((l.drop a).take k)
 have hl:((l.drop a).take k).length=k:=by simp;omega
 rw[hl] at this
 refine⟨Int.natCast_nonneg _,?_⟩
 have h2:((zX ((l.drop a).take k):Nat):Int)<((256 ^ k:Nat):Int):=Int.ofNat_lt.2 this
 rw[Int.natCast_pow] at h2
 exact h2
theorem JV (l:List UInt8) (a b:Nat):l.take (a+b)=l.take a++(l.drop a).take b:=by rw[List.take_add]
theorem vP {l:List UInt8} {x:It} {n:Nat} (h:QA l=some (x,n)):jQ x=l.take n∧n≤l.length∧n=12+x.val.length∧Yk x∧itB x.r x.val.length=true:=by
 unfold QA at h
 split at h
 ·cases h
 ·rename_i hl
  split at h
  ·rename_i hb
   simp only[Option.some.injEq,Prod.mk.injEq] at h
   obtain⟨rfl,rfl⟩:=h
   have hs:Zt l=12+(l[11]?.getD 0).toNat:=rfl
   have hv:(YU l).val.length=Zt l-12:=by simp[YU];omega
   have u0:=(l[0]?.getD 0).toNat_lt
   have u11:=(l[11]?.getD 0).toNat_lt
   have r1:=Ja (l:=l) (a:=1) (k:=4) (by omega)
   have r5:=Ja (l:=l) (a:=5) (k:=4) (by omega)
   have r9:=Ja (l:=l) (a:=9) (k:=2) (by omega)
   have hb':=hb
   simp only[itB,decide_eq_true_eq] at hb'
   refine⟨?_,by omega,by rw[hv];omega,⟨⟨by simp[YU],by simp[YU];omega⟩,⟨r1.1,r1.2⟩,⟨r5.1,r5.2⟩,⟨?_,?_⟩,by rw[hv];omega⟩,by rw[hv];exact hb⟩
   ·have e1:l.take 1=[l[0]?.getD 0]:=by
     rcases l with _|⟨a,l⟩
     ·simp at hl
     ·simp
    have e11:(l.drop 11).take 1=[l[11]?.getD 0]:=by
     rw[List.drop_eq_getElem_cons (by omega),List.getElem?_eq_getElem (by omega)]
     rfl
    have:l.take (Zt l)=l.take 1++((l.drop 1).take 4++((l.drop 5).take 4++((l.drop 9).take 2++((l.drop 11).take 1++(l.drop 12).take (Zt l-12))))):=by
     conv=>lhs;rw[show Zt l=1+(4+(4+(2+(1+(Zt l-12))))) by omega]
     rw[JV l 1,JV (l.drop 1) 4,List.drop_drop,JV (l.drop (1+4)) 4,List.drop_drop,JV (l.drop (1+4+4)) 2,List.drop_drop,JV (l.drop (1+4+4+2)) 1,List.drop_drop]
    rw[this,e1,e11]
    unfold jQ
    rw[hv]
    simp only[YU]
    rw[VY (by omega),VY (by omega),VY (by omega)]
    rw[hs,Nat.add_sub_cancel_left]
    simp
   ·exact r9.1
   ·rcases hb'.1 with h0|h0 <;> omega
  ·cases h
def zu (xs:List It):List UInt8:=xs.flatMap jQ
theorem Kq (xs:List It) (x:It):zu (xs++[x])=zu xs++jQ x:=by simp[zu]
theorem JG {l:List UInt8}:∀ {k:Nat} {xs:List It} {r:List UInt8},QB l k=some (xs,r)→l=zu xs++r∧∀ x∈xs,Yk x∧itB x.r x.val.length=true:=by
 intro k
 induction k with
 |zero=>intro xs r h;simp only[QB,Option.some.injEq,Prod.mk.injEq] at h;obtain⟨rfl,rfl⟩:=h;exact⟨rfl,fun _ h=>by cases h⟩
 |succ k ih =>
  intro xs r h
  unfold QB at h
  split at h
  ·cases h
  ·rename_i ys q hq
   split at h
   ·cases h
   ·rename_i x n hx
    simp only[Option.some.injEq,Prod.mk.injEq] at h
    obtain⟨rfl,rfl⟩:=h
    obtain⟨h1,h2⟩:=ih hq
    obtain⟨g1,g2,g3,g4,g5⟩:=vP hx
    refine⟨?_,?_⟩
    ·rw[Kq,g1,List.append_assoc,List.take_append_drop];exact h1
    ·intro y hy
     rcases List.mem_append.1 hy with hy|hy
     ·exact h2 y hy
     ·obtain rfl:y=x:=by simpa using hy
      exact⟨g4,g5⟩
theorem VA (xs:List It) (h:∀ x∈xs,Yk x):(zu xs).length≤24*xs.length:=by
 induction xs with
 |nil=>simp[zu]
 |cons x r ih =>
  have h1:=ih fun y hy=>h y (by simp[hy])
  have h2:=XH x
  have h3:=(h x (by simp)).2.2.2.2
  simp only[zu,List.flatMap_cons,List.length_append,List.length_cons] at h1 ⊢
  omega
def jJ (lvl:Int) (xs:List It):List UInt8:=78 :: UInt8.ofNat lvl.toNat :: UInt8.ofNat xs.length :: zu xs
def Vy (b t:List UInt8) (k:Nat):Bool:=(List.range k).all fun i=>if i<t.length then b[i]? == t[i]? else b[i]? == some 0
def jS (b t:List UInt8):Bool:=Vy b t b.length && decide (t.length≤b.length)
theorem qaP (b t:List UInt8) (k:Nat):Vy b t (k+1)=(Vy b t k && (if k<t.length then b[k]? == t[k]? else b[k]? == some 0)):=by simp[Vy,List.range_succ]
theorem qcM {b t:List UInt8} {k:Nat} (hk:k<b.length) (h:(if k<t.length then b[k]? == t[k]? else b[k]? == some 0)=false):jS b t=false:=by
 have:Vy b t b.length=false:=by
  unfold Vy
  rw[List.all_eq_false]
  exact⟨k,List.mem_range.2 hk,by simp only[h];simp⟩
 simp[jS,this]
theorem qbW (b t:List UInt8):jS b t=true↔∃ r,b=t++r∧ZE r=true:=by
 unfold jS Vy
 rw[Bool.and_eq_true,List.all_eq_true,decide_eq_true_eq]
 constructor
 ·rintro ⟨h1,h2⟩
  refine⟨b.drop t.length,?_,?_⟩
  ·conv=>lhs;rw[←List.take_append_drop t.length b]
   congr 1
   apply List.ext_getElem?
   intro i
   rw[List.getElem?_take]
   split
   ·rename_i hi
    have:=h1 i (List.mem_range.2 (by omega))
    rw[if_pos hi] at this
    exact eq_of_beq this
   ·rename_i hi
    rw[List.getElem?_eq_none (by omega)]
  ·unfold ZE
   rw[List.all_eq_true]
   intro x hx
   obtain⟨i,hi,rfl⟩:=List.getElem_of_mem hx
   rw[List.length_drop] at hi
   have:=h1 (t.length+i) (List.mem_range.2 (by omega))
   rw[if_neg (by omega)] at this
   rw[List.getElem_drop]
   have:=eq_of_beq this
   rw[List.getElem?_eq_getElem (by omega)] at this
   simp only[Option.some.injEq] at this
   simp[this]
 ·rintro ⟨r,rfl,hr⟩
  refine⟨fun i hi=>?_,by simp⟩
  split
  ·rename_i h;rw[List.getElem?_append_left h];simp
  ·rename_i h
   have hi':i<t.length+r.length:=by simpa using hi
   rw[List.getElem?_append_right (by omega),List.getElem?_eq_getElem (by omega)]
   have:=List.all_eq_true.1 hr _ (List.getElem_mem (l:=r) (n:=i-t.length) (by omega))
   simp only[beq_iff_eq] at this
   simp[this]
end Go.Proofs.YtckhnchnbeoogaaGreat
