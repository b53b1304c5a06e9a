/- Texts Spoil, BlocksW, Big, Big2, Twin14, joined. -/
import Derived.Test.YtckhnchnbeoogaaGreatV10
import Derived.Test.YtckhnchnbeoogaaGreatV16
import Derived.Test.YtckhnchnbeoogaaGreatV19
import Derived.Test.YtckhnchnbeoogaaGreatV21
import Derived.Test.YtckhnchnbeoogaaGreatV23
import Derived.Test.YtckhnchnbeoogaaGreatV28
import Derived.Test.YtckhnchnbeoogaaGreatV29
set_option linter.unusedSimpArgs false
set_option linter.unusedVariables false
namespace Go.Proofs.YtckhnchnbeoogaaGreat
open Go.RowKit
abbrev jD (A1:Option Addr) (n1 c1:Nat) (A2:Option Addr) (n2 c2:Nat) (A3:Option Addr) (n3 c3:Nat) (A4:Option Addr) (n4 c4:Nat) (gen root next:Int) (A5:Option Addr) (n5 c5:Nat):Array Value:=qC (.slice A1 n1 c1) (.slice A2 n2 c2) (.slice A3 n3 c3) (.slice A4 n4 c4) gen root next (.slice A5 n5 c5)
set_option maxHeartbeats 8000000 in
set_option maxRecDepth 100000 in
theorem YS (lo hi:Nat) (A1:Option Addr) (n1 c1:Nat) (A2:Option Addr) (n2 c2:Nat) (A3:Option Addr) (n3 c3:Nat) (A4:Option Addr) (n4 c4:Nat) (gen root next:Int) (A5:Option Addr) (n5 c5:Nat) (h34:n3≤n4) (hn1:n1<1099511627776) (hn2:n2<1099511627776) (hn3:n3<1099511627776) (hn5:n5<1099511627776) (w:World) (hh:hi≤w.heap.size)
  (h:Sp lo hi A1 n1 A2 n2 A3 n3 A4 A5 n5 w) :
  Calls Tryz.prog 22 #[.agg (jD A1 n1 c1 A2 n2 c2 A3 n3 c3 A4 n4 c4 gen root next A5 n5 c5)] w (fun e w'=>e=.returned (.tuple #[])∧jC lo hi w w'):=by
 replace h:=zH h
 replace h34:=zH h34
 go_enter Tryz.func22,Tryz.ntmps22
 go_wp2_with fail
 generalize hw1:World.alloc w _=w1
 have x1:Ext w w1:=by rw[←hw1];exact Ext.alloc _ _
 have r1:w1.heap[w.heap.size]?=some (.cells (jD A1 n1 c1 A2 n2 c2 A3 n3 c3 A4 n4 c4 gen root next A5 n5 c5) 32 (0,0)):=by rw[←hw1];exact World.alloc_heap_at _ _ _ rfl
 clear hw1
 have H0:=zH (h.out.keep (W':=w1) fun k h1 h2=>x1.block k (by omega))
 have C0:=zH (jC.of_ext (lo:=lo) (hi:=hi) x1)
 have HR:=zH (fun W (hc:jC lo hi w1 W)=>hc.row (by omega) r1)
 clear r1 x1 h
 go_wp2_with fail
 go_loopw [2] (fun iv wr=>∃ i:Nat,i≤n1∧iv=.int .i64 (i:Int)∧Sp lo hi A1 n1 A2 n2 A3 n3 A4 A5 n5 wr∧jC lo hi w1 wr) (fun iv _=>n1-(intOf iv).toNat)
 case atStart=>exact⟨0,Nat.zero_le _,rfl,H0.out,jC.of_ext (Ext.refl _)⟩
 case round =>
  obtain⟨i,hi1,rfl,hS,hC⟩:=hrel
  have rr:=HR.out wr hC
  have kr:=qa rr
  have zwr:hi≤wr.heap.size:=Nat.le_trans hh (Nat.le_trans C0.out.size hC.size)
  by_cases hlt:i<n1
  ·have hlt':=hlt
   obtain⟨b,o,A,n,c,rfl,hbl,hc,hnm,hy⟩:=hS.bs i hlt
   have hd1:decide (i<n1)=true:=decide_eq_true hlt
   have hiw:=zH (IntWalk.wrap64_in ((i:Int)+1) (by omega))
   replace hbl:=zH hbl
   replace hS:=zH hS
   replace hC:=zH hC
   replace hnm:=zH hnm
   by_cases h0:0<n
   ·obtain⟨b',o',x,rfl,hb',hc'⟩:=hy h0
    have hcx:=(Qd hc').1
    have hfx:=(Qd hc').2
    rw[Nat.add_zero] at hcx hfx hc'
    have hd2:decide (0<n)=true:=decide_eq_true h0
    have hd3:decide ((n:Int)>0)=true:=decide_eq_true (by omega)
    replace hb':=zH hb'
    replace hc':=zH hc'
    have hni:=zH (show 0<n from h0)
    clear hy
    go_wp2_with fail
    have gP:∀ W,Ext wr W→∀ i,W.cell? ⟨w.heap.size,i,none⟩=(jD (some ⟨b,o,none⟩) n1 c1 A2 n2 c2 A3 n3 c3 A4 n4 c4 gen root next A5 n5 c5)[i]?:=fun W h=>qa (qc rr h)
    have gH:∀ W,Ext wr W→W.cell? ⟨b,o+i,none⟩=some (.slice (some ⟨b',o',none⟩) n c):=fun W h=>Ext.cell h hc
    have gB:∀ W,Ext wr W→W.cell? ⟨b',o',none⟩=some (.int .u8 x):=fun W h=>Ext.cell h hcx
    clear hc hcx hfx
    refine qG (qE []) 18 (by kernel_rfl) (by kernel_rfl) (by kernel_rfl) (by decide) (by kernel_rfl) (by kernel_rfl) ?st ?walk
    case st=>exact qJ (fun _ h=>by cases h)
    case walk =>
     intro K hK
     dsimp only[List.take]
     repeat ((first|(refine ql ?_ (by rfl) (by rfl) (fun W hW _=>⟨W,?_,Ext.refl W⟩) ?_;rotate_left;(first|(go_simp;with_reducible rfl)|(go_simp;done)))|(refine qt (by rfl) ?_));try simp only[Act.put,qi,qe,qb,qg,zA,zB,zC])
     refine qP (hK _ _ fun W hW hF=>?_)
     clear hF hK gP gH gB
     dsimp only[List.drop]
     have zW:=Below.size hW
     have hcW:=(Below.thaw hW (show b'<wr.heap.size by have:=hb'.out;omega)).trans hc'.out
     have SW:=zH (fun y=>(hS.out.keep (W':=W) fun k h1 h2=>Below.block hW k (by omega)).set hcW y)
     have CW:=zH (fun y=>(hC.out.trans (jC.of_ext hW)).set (q:=⟨b',o',none⟩) hb'.out y)
     have kvW:=(Qd hcW).1
     have fvW:=(Qd hcW).2
     clear hW hcW
     go_wp2_with fail
     try rw[hiw.out]
     refine⟨⟨i+1,hlt',rfl,SW.out _,CW.out _⟩,?_⟩
     simp[intOf]
     omega
   ·have hd2:decide (0<n)=false:=decide_eq_false h0
    have hd3:decide ((n:Int)>0)=false:=decide_eq_false (by omega)
    replace hy:=zH hy
    go_wp2_with fail
    try rw[hiw.out]
    refine⟨⟨i+1,hlt',rfl,hS.out,hC.out⟩,?_⟩
    simp[intOf]
    omega
  ·have e:n1=i:=by omega
   subst e
   have hd1:decide (n1<n1)=false:=decide_eq_false hlt
   replace hS:=zH hS
   replace hC:=zH hC
   generalize hwm:wr=wm at *
   clear hwm hlt
   go_wp2_with fail
   go_loopw [3] (fun iv wr=>∃ i:Nat,i≤n2∧iv=.int .i64 (i:Int)∧Sp lo hi A1 n1 A2 n2 A3 n3 A4 A5 n5 wr∧jC lo hi w1 wr) (fun iv _=>n2-(intOf iv).toNat)
   case atStart=>exact⟨0,Nat.zero_le _,rfl,hS.out,hC.out⟩
   case round =>
    clear hS hC kr rr zwr hd1
    obtain⟨i,hi1,rfl,hS,hC⟩:=hrel
    have rr:=HR.out wr hC
    have kr:=qa rr
    have zwr:hi≤wr.heap.size:=Nat.le_trans hh (Nat.le_trans C0.out.size hC.size)
    by_cases hlt:i<n2
    ·have hlt':=hlt
     obtain⟨b,o,A,n,c,rfl,hbl,hc,hnm,hy⟩:=hS.ws i hlt
     have hd1:decide (i<n2)=true:=decide_eq_true hlt
     have hiw:=zH (IntWalk.wrap64_in ((i:Int)+1) (by omega))
     rw[←Nat.add_assoc] at hc
     replace hbl:=zH hbl
     replace hS:=zH hS
     replace hC:=zH hC
     replace hnm:=zH hnm
     by_cases h0:0<n
     ·obtain⟨b',o',x,rfl,hb',hc'⟩:=hy h0
      have hcx:=(Qd hc').1
      have hfx:=(Qd hc').2
      rw[Nat.add_zero] at hcx hfx hc'
      have hd2:decide (0<n)=true:=decide_eq_true h0
      have hd3:decide ((n:Int)>0)=true:=decide_eq_true (by omega)
      replace hb':=zH hb'
      replace hc':=zH hc'
      have hni:=zH (show 0<n from h0)
      clear hy
      go_wp2_with fail
      have gP:∀ W,Ext wr W→∀ i,W.cell? ⟨w.heap.size,i,none⟩=(jD A1 n1 c1 (some ⟨b,o,none⟩) n2 c2 A3 n3 c3 A4 n4 c4 gen root next A5 n5 c5)[i]?:=fun W h=>qa (qc rr h)
      have gH:∀ W,Ext wr W→W.cell? ⟨b,o+i*2+1,none⟩=some (.slice (some ⟨b',o',none⟩) n c):=fun W h=>Ext.cell h hc
      have gB:∀ W,Ext wr W→W.cell? ⟨b',o',none⟩=some (.int .u8 x):=fun W h=>Ext.cell h hcx
      clear hc hcx hfx
      refine qG (qE []) 20 (by kernel_rfl) (by kernel_rfl) (by kernel_rfl) (by decide) (by kernel_rfl) (by kernel_rfl) ?st ?walk
      case st=>exact qJ (fun _ h=>by cases h)
      case walk =>
       intro K hK
       dsimp only[List.take]
       repeat ((first|(refine ql ?_ (by rfl) (by rfl) (fun W hW _=>⟨W,?_,Ext.refl W⟩) ?_;rotate_left;(first|(go_simp;with_reducible rfl)|(go_simp;done)))|(refine qt (by rfl) ?_));try simp only[Act.put,qi,qe,qb,qg,zA,zB,zC])
       refine qP (hK _ _ fun W hW hF=>?_)
       clear hF hK gP gH gB
       dsimp only[List.drop]
       have zW:=Below.size hW
       have hcW:=(Below.thaw hW (show b'<wr.heap.size by have:=hb'.out;omega)).trans hc'.out
       have SW:=zH (fun y=>(hS.out.keep (W':=W) fun k h1 h2=>Below.block hW k (by omega)).set hcW y)
       have CW:=zH (fun y=>(hC.out.trans (jC.of_ext hW)).set (q:=⟨b',o',none⟩) hb'.out y)
       have kvW:=(Qd hcW).1
       have fvW:=(Qd hcW).2
       clear hW hcW
       go_wp2_with fail
       try rw[hiw.out]
       refine⟨⟨i+1,hlt',rfl,SW.out _,CW.out _⟩,?_⟩
       simp[intOf]
       omega
     ·have hd2:decide (0<n)=false:=decide_eq_false h0
      have hd3:decide ((n:Int)>0)=false:=decide_eq_false (by omega)
      replace hy:=zH hy
      go_wp2_with fail
      try rw[hiw.out]
      refine⟨⟨i+1,hlt',rfl,hS.out,hC.out⟩,?_⟩
      simp[intOf]
      omega
    ·have e:n2=i:=by omega
     subst e
     have hd1:decide (n2<n2)=false:=decide_eq_false hlt
     replace hS:=zH hS
     replace hC:=zH hC
     generalize hwm:wr=wm at *
     clear hwm hlt
     go_wp2_with fail
     go_loopw [4] (fun iv wr=>∃ i:Nat,i≤n3∧iv=.int .i64 (i:Int)∧Sp lo hi A1 n1 A2 n2 A3 n3 A4 A5 n5 wr∧jC lo hi w1 wr) (fun iv _=>n3-(intOf iv).toNat)
     case atStart=>exact⟨0,Nat.zero_le _,rfl,hS.out,hC.out⟩
     case round =>
      clear hS hC kr rr zwr hd1
      obtain⟨i,hi1,rfl,hS,hC⟩:=hrel
      have rr:=HR.out wr hC
      have kr:=qa rr
      have zwr:hi≤wr.heap.size:=Nat.le_trans hh (Nat.le_trans C0.out.size hC.size)
      by_cases hlt:i<n3
      ·have hlt':=hlt
       have hlt4:i<n4:=by have:=h34.out;omega
       have hd1:decide (i<n3)=true:=decide_eq_true hlt
       have hd4:decide (i<n4)=true:=decide_eq_true hlt4
       have hiw:=zH (IntWalk.wrap64_in ((i:Int)+1) (by omega))
       have hn4:(i:Int)<(n4:Int):=by omega
       have hl4:=zH (fun W (h:Sp lo hi A1 n1 A2 n2 A3 n3 A4 A5 n5 W)=>h.last i hlt)
       obtain⟨b',o',x,hA,hb',hc'⟩:=hS.now i hlt
       subst hA
       have hcx:=(Qd hc').1
       have hfx:=(Qd hc').2
       replace hb':=zH hb'
       replace hc':=zH hc'
       replace hS:=zH hS
       replace hC:=zH hC
       go_wp2_with fail
       have gP:∀ W,Ext wr W→∀ i,W.cell? ⟨w.heap.size,i,none⟩=(jD A1 n1 c1 A2 n2 c2 (some ⟨b',o',none⟩) n3 c3 A4 n4 c4 gen root next A5 n5 c5)[i]?:=fun W h=>qa (qc rr h)
       have gB:∀ W,Ext wr W→W.cell? ⟨b',o'+i,none⟩=some (.int .u8 x):=fun W h=>Ext.cell h hcx
       clear hcx hfx
       refine qG (qE []) 12 (by kernel_rfl) (by kernel_rfl) (by kernel_rfl) (by decide) (by kernel_rfl) (by kernel_rfl) ?st ?walk
       case st=>exact qJ (fun _ h=>by cases h)
       case walk =>
        intro K hK
        dsimp only[List.take]
        repeat ((first|(refine ql ?_ (by rfl) (by rfl) (fun W hW _=>⟨W,?_,Ext.refl W⟩) ?_;rotate_left;(first|(go_simp;with_reducible rfl)|(go_simp;done)))|(refine qt (by rfl) ?_));try simp only[Act.put,qi,qe,qb,qg,zA,zB,zC])
        refine qP (hK _ _ fun W hW hF=>?_)
        clear hF hK gP gB
        dsimp only[List.drop]
        have zW:=Below.size hW
        have hcW:=(Below.thaw hW (show b'<wr.heap.size by have:=hb'.out;omega)).trans hc'.out
        have SW:=zH (fun y=>(hS.out.keep (W':=W) fun k h1 h2=>Below.block hW k (by omega)).set hcW y)
        have CW:=zH (fun y=>(hC.out.trans (jC.of_ext hW)).set (q:=⟨b',o'+i,none⟩) hb'.out y)
        have kvW:=(Qd hcW).1
        have fvW:=(Qd hcW).2
        clear hW hcW hc'
        go_wp2_with fail
        clear kvW fvW kr rr zwr
        obtain⟨wn,hwn⟩:∃ wn,wn=W.setCell ⟨b',o'+i,none⟩ (.int .u8 ((x+1) % 256)):=⟨_,rfl⟩
        have S2:=SW.out ((x+1) % 256)
        have C2:=CW.out (.int .u8 ((x+1) % 256))
        rw[←hwn] at S2 C2 ⊢
        clear hwn SW CW hS hC hb'
        obtain⟨b2,o2,x2,hA4,hb2,hc2⟩:=hl4.out wn S2
        subst hA4
        have rr:=HR.out wn C2
        have kr:=qa rr
        have zwr:hi≤wn.heap.size:=Nat.le_trans hh (Nat.le_trans C0.out.size C2.size)
        have hcx:=(Qd hc2).1
        have hfx:=(Qd hc2).2
        replace hb2:=zH hb2
        replace hc2:=zH hc2
        replace S2:=zH S2
        replace C2:=zH C2
        clear hl4
        have gP:∀ W,Ext wn W→∀ i,W.cell? ⟨w.heap.size,i,none⟩=(jD A1 n1 c1 A2 n2 c2 (some ⟨b',o',none⟩) n3 c3 (some ⟨b2,o2,none⟩) n4 c4 gen root next A5 n5 c5)[i]?:=fun W h=>qa (qc rr h)
        have gB:∀ W,Ext wn W→W.cell? ⟨b2,o2+i,none⟩=some (.int .u8 x2):=fun W h=>Ext.cell h hcx
        clear hcx hfx
        refine qG (qE []) 12 (by kernel_rfl) (by kernel_rfl) (by kernel_rfl) (by decide) (by kernel_rfl) (by kernel_rfl) ?st2 ?walk2
        case st2=>exact qJ (fun _ h=>by cases h)
        case walk2 =>
         intro K hK
         dsimp only[List.take]
         repeat ((first|(refine ql ?_ (by rfl) (by rfl) (fun W hW _=>⟨W,?_,Ext.refl W⟩) ?_;rotate_left;(first|(go_simp;with_reducible rfl)|(go_simp;done)))|(refine qt (by rfl) ?_));try simp only[Act.put,qi,qe,qb,qg,zA,zB,zC])
         refine qP (hK _ _ fun W hW hF=>?_)
         clear hF hK gP gB
         dsimp only[List.drop]
         have zW:=Below.size hW
         have hcW:=(Below.thaw hW (show b2<wn.heap.size by have:=hb2.out;omega)).trans hc2.out
         have SW:=zH (fun y=>(S2.out.keep (W':=W) fun k h1 h2=>Below.block hW k (by omega)).set hcW y)
         have CW:=zH (fun y=>(C2.out.trans (jC.of_ext hW)).set (q:=⟨b2,o2+i,none⟩) hb2.out y)
         have kvW:=(Qd hcW).1
         have fvW:=(Qd hcW).2
         clear hW hcW hc2
         go_wp2_with fail
         try rw[hiw.out]
         refine⟨⟨i+1,hlt',rfl,SW.out _,CW.out _⟩,?_⟩
         simp[intOf]
         omega
      ·have e:n3=i:=by omega
       subst e
       have hd1:decide (n3<n3)=false:=decide_eq_false hlt
       replace hS:=zH hS
       replace hC:=zH hC
       generalize hwm:wr=wm at *
       clear hwm hlt
       go_wp2_with fail
       go_loopw [5] (fun iv wr=>∃ i:Nat,i≤n5∧iv=.int .i64 (i:Int)∧Sp lo hi A1 n1 A2 n2 A3 n3 A4 A5 n5 wr∧jC lo hi w1 wr) (fun iv _=>n5-(intOf iv).toNat)
       case atStart=>exact⟨0,Nat.zero_le _,rfl,hS.out,hC.out⟩
       case round =>
        clear hS hC kr rr zwr hd1
        obtain⟨i,hi1,rfl,hS,hC⟩:=hrel
        have rr:=HR.out wr hC
        have kr:=qa rr
        by_cases hlt:i<n5
        ·have hlt':=hlt
         have hd1:decide (i<n5)=true:=decide_eq_true hlt
         have hiw:=zH (IntWalk.wrap64_in ((i:Int)+1) (by omega))
         obtain⟨b',o',x,hA,hb',hc'⟩:=hS.dead i hlt
         subst hA
         have hcx:=(Qd hc').1
         have hfx:=(Qd hc').2
         have SW:=zH (hS.setI hc' 7)
         have CW:=zH (hC.set (q:=⟨b',o'+i,none⟩) hb' (.int .i64 7))
         clear hS hC hb' hc'
         go_wp2_with fail
         try rw[hiw.out]
         refine⟨⟨i+1,hlt',rfl,SW.out,CW.out⟩,?_⟩
         simp[intOf]
         omega
        ·have e:n5=i:=by omega
         subst e
         have hd1:decide (n5<n5)=false:=decide_eq_false hlt
         replace hS:=zH hS
         have CE:=zH (C0.out.trans hC)
         clear hC
         go_wp2_with fail
         go_end0
         exact⟨rfl,CE.out⟩
def vo (lo:Nat) (cs:Array Value) (W:World) (ds:Array Value) (V:World):Prop:=∃ (S:Sto) (dead:List Int) (gen root next:Int) (A1:Option Addr) (c1:Nat) (A2:Option Addr) (c2:Nat) (A3:Option Addr) (c3:Nat) (A4:Option Addr) (c4:Nat) (A5:Option Addr) (c5:Nat) (B1:Option Addr) (d1:Nat) (B2:Option Addr) (d2:Nat) (B3:Option Addr) (d3:Nat) (B4:Option Addr) (d4:Nat) (B5:Option Addr) (d5:Nat),
 cs=jD A1 S.bs.length c1 A2 S.ws.length c2 A3 S.now.length c3 A4 S.last.length c4 gen root next A5 dead.length c5∧ds=jD B1 S.bs.length d1 B2 S.ws.length d2 B3 S.now.length d3 B4 S.last.length d4 gen root next B5 dead.length d5 ∧
 (∀ C:World,UK lo W C→qH C W.heap.size (.slice A1 S.bs.length c1) (.slice A2 S.ws.length c2) (.slice A3 S.now.length c3) (.slice A4 S.last.length c4) S∧QF C W.heap.size (.slice A5 dead.length c5) dead) ∧
 qH V V.heap.size (.slice B1 S.bs.length d1) (.slice B2 S.ws.length d2) (.slice B3 S.now.length d3) (.slice B4 S.last.length d4) S∧QF V V.heap.size (.slice B5 dead.length d5) dead ∧
 (S.bs.length<1000000∧S.ws.length<1000000∧S.now.length<1000000∧S.now.length≤S.last.length∧dead.length<1000000)
theorem vo.out {lo:Nat} {W V:World} {A1 A2 A3 A4 A5 B1 B2 B3 B4 B5:Option Addr} {n1 c1 n2 c2 n3 c3 n4 c4 n5 c5 m1 d1 m2 d2 m3 d3 m4 d4 m5 d5:Nat} {gen root next gen' root' next':Int}
  (h:vo lo (jD A1 n1 c1 A2 n2 c2 A3 n3 c3 A4 n4 c4 gen root next A5 n5 c5) W (jD B1 m1 d1 B2 m2 d2 B3 m3 d3 B4 m4 d4 gen' root' next' B5 m5 d5) V) :
  (gen'=gen∧root'=root∧next'=next)∧∃ (S:Sto) (dead:List Int),(n5=dead.length∧m5=dead.length) ∧
   (∀ C:World,UK lo W C→qH C W.heap.size (.slice A1 n1 c1) (.slice A2 n2 c2) (.slice A3 n3 c3) (.slice A4 n4 c4) S∧QF C W.heap.size (.slice A5 n5 c5) dead) ∧
   qH V V.heap.size (.slice B1 m1 d1) (.slice B2 m2 d2) (.slice B3 m3 d3) (.slice B4 m4 d4) S∧QF V V.heap.size (.slice B5 m5 d5) dead ∧
   (S.bs.length<1000000∧S.ws.length<1000000∧dead.length<1000000)∧(n1<1000000∧n2<1000000∧n3<1000000∧n3≤n4∧n5<1000000):=by
 obtain⟨S,dead,g,r,x,a1,k1,a2,k2,a3,k3,a4,k4,a5,k5,b1,l1,b2,l2,b3,l3,b4,l4,b5,l5,e1,e2,h1,h2,h3,h4⟩:=h
 simp only[Array.mk.injEq,List.cons.injEq,Value.slice.injEq,Value.int.injEq,true_and,and_true] at e1 e2
 obtain⟨⟨rfl,rfl,rfl⟩,⟨rfl,rfl,rfl⟩,⟨rfl,rfl,rfl⟩,⟨rfl,rfl,rfl⟩,rfl,rfl,rfl,rfl,rfl,rfl⟩:=e1
 obtain⟨⟨rfl,rfl,rfl⟩,⟨rfl,rfl,rfl⟩,⟨rfl,rfl,rfl⟩,⟨rfl,rfl,rfl⟩,rfl,rfl,rfl,rfl,rfl,rfl⟩:=e2
 exact⟨⟨rfl,rfl,rfl⟩,S,dead,⟨rfl,rfl⟩,h1,h2,h3,⟨h4.1,h4.2.1,h4.2.2.2.2⟩,⟨h4.1,h4.2.1,h4.2.2.1,h4.2.2.2.1,h4.2.2.2.2⟩⟩
abbrev Ko:Array Value:=jD none 0 0 none 0 0 none 0 0 none 0 0 0 0 0 none 0 0
theorem qdC (W:World) (B:Nat):qH W B (.slice none 0 0) (.slice none 0 0) (.slice none 0 0) (.slice none 0 0) ⟨[],[],[],[]⟩:=
 ⟨⟨[],none,0,rfl,Nat.le_refl _,by simp[maxLen],Rd.none_,fun i u l h=>by simp at h⟩,⟨[],rfl,⟨none,0,rfl,Nat.le_refl _,by simp[maxLen],Rd.none_⟩,fun p h=>by cases h⟩,Bys.nil W B,Bys.nil W B⟩
theorem qbi (W:World) (B:Nat):QF W B (.slice none 0 0) []:=⟨none,0,rfl,Nat.le_refl _,by simp[maxLen],Rd.none_⟩
theorem vo.zero (lo:Nat) (W V:World):vo lo Ko W Ko V:=
 ⟨⟨[],[],[],[]⟩,[],0,0,0,none,0,none,0,none,0,none,0,none,0,none,0,none,0,none,0,none,0,none,0,rfl,rfl,fun C _=>⟨qdC C _,qbi C _⟩,qdC V _,qbi V _,by simp⟩
theorem vo.of {lo:Nat} {S:Sto} {gen root next:Int} {dead:List Int} {v:Value} {W V:World} (h:NewPl lo S gen root next dead v W) {B1:Option Addr} {d1:Nat} {B2:Option Addr} {d2:Nat} {B3:Option Addr} {d3:Nat} {B4:Option Addr} {d4:Nat} {B5:Option Addr} {d5:Nat}
  (h2:qH V V.heap.size (.slice B1 S.bs.length d1) (.slice B2 S.ws.length d2) (.slice B3 S.now.length d3) (.slice B4 S.last.length d4) S) (h3:QF V V.heap.size (.slice B5 dead.length d5) dead)
  (hb:S.bs.length<1000000∧S.ws.length<1000000∧S.now.length<1000000∧S.now.length≤S.last.length∧dead.length<1000000) :
  ∃ cs,v=.agg cs∧vo lo cs W (jD B1 S.bs.length d1 B2 S.ws.length d2 B3 S.now.length d3 B4 S.last.length d4 gen root next B5 dead.length d5) V:=by
 obtain⟨A1,c1,A2,c2,A3,c3,A4,c4,A5,c5,rfl,hc⟩:=h
 exact⟨_,rfl,S,dead,gen,root,next,A1,c1,A2,c2,A3,c3,A4,c4,A5,c5,B1,d1,B2,d2,B3,d3,B4,d4,B5,d5,rfl,rfl,hc,h2,h3,hb⟩
theorem Up {S:Sto} {refs nodes nodes':Nat→Nat} (h:zv nodes=zv nodes') (a:Int) (held:Bool):Qk S refs nodes a held=Qk S refs nodes' a held:=by
 have h1:∀ b,(0<nodes b)=(0<nodes' b):=fun b=>by
  have:=congrFun h b
  unfold zv at this
  exact propext (decide_eq_decide.1 this)
 unfold Qk
 simp only[h1]
theorem qcn {S:Sto} (hne:¬Qh S=[]):8≤qO S∧qO S<256:=by
 have hmem:qO S∈zP S 256:=by
  show qO S∈Qh S
  unfold qO
  rcases hf:Qh S with _|⟨x,r⟩
  ·exact absurd hf hne
  ·simp
 obtain⟨h1,h2⟩:=List.mem_filter.1 hmem
 unfold Je at h2
 simp only[Bool.and_eq_true,decide_eq_true_eq] at h2
 exact⟨h2.1,by simpa using h1⟩
theorem lay_same {S:Sto} (hS:qB S=true) (data:List UInt8):GQ S data=TO S data:=by
 have hw:=(qQ hS).2.1
 unfold GQ TO
 by_cases hl:128<data.length
 ·rw[if_pos hl,if_pos hl]
 ·rw[if_neg hl,if_neg hl]
  have hpl:(ZS 128 data).length=128:=TY (by omega)
  unfold jV
  rw[if_pos hS,if_pos hpl]
  by_cases hno:Qh S=[]∨4096≤S.ws.length
  ·have hno':Qh S=[]∨S.ws.length=4096:=hno.imp id fun h=>by omega
   rw[if_pos hno',if_pos hno]
   rfl
  ·have hno':¬(Qh S=[]∨S.ws.length=4096):=fun h=>hno (h.imp id fun h=>by omega)
   rw[if_neg hno',if_neg hno,if_neg (by simp)]
   have hff:=qcn fun h=>hno (.inl h)
   have hm:=qds hS hff.1 hff.2 hpl (fun h=>hno (.inr (by omega)))
   unfold Jv
   simp only[hm,true_and]
theorem GD {S:Sto} (hS:qB S=true) {m:Nat} (h8:8≤m) (h256:m<256) (hnz:zZ S m≠0):Jj S (m:Int)=0:=by
 unfold Jj
 rw[if_pos hS,if_pos ⟨by omega,by omega⟩,if_neg (by rw[Int.toNat_natCast];exact hnz)]
theorem qdf {S:Sto} (hS:qB S=true) {refs nodes met:Nat→Nat} (h:zv nodes=zv met) (a:Int):Tj S a refs nodes=Te S a refs met:=by
 unfold Tj Te
 rw[Up h]
 by_cases h0:Qk S refs met a false=0
 ·obtain⟨m,rfl,h8,h256,hnz⟩:=Ys h0
  rw[h0,if_neg (by simp),if_neg (by simp)]
  unfold Jq
  rw[GD hS h8 h256 hnz,if_neg (by simp)]
 ·rw[if_pos h0,if_pos h0]
theorem qdg {S:Sto} (hS:qB S=true) {refs nodes met:Nat→Nat} (h:zv nodes=zv met) (a:Int):Tg S a refs nodes=Qk S refs met a true:=by
 unfold Tg
 rw[Up h]
 by_cases h0:Qk S refs met a true=0
 ·obtain⟨m,rfl,h8,h256,hnz⟩:=Ys h0
  rw[h0,if_neg (by simp)]
  exact GD hS h8 h256 hnz
 ·rw[if_pos h0]
theorem qdZ {S:Sto} {gen root next:Int} {dead:List Int} {data:List UInt8} {w w' v v':World} {e e2:Ending} (h:VLayQ S gen root next dead data w e w') (h2:DLayQ S gen root next dead data v e2 v') :
  ∃ (cs ds:Array Value) (n er:Int),e=.returned (.tuple #[.agg cs,.int .i64 n,.int .i64 er])∧e2=.returned (.tuple #[.agg ds,.int .i64 n,.int .i64 er])∧vo w.heap.size cs w' ds v':=by
 rcases h.2 with ⟨rfl,hb⟩|⟨vs,refs,nodes,hp,hc,he,hr⟩
 ·rcases h2.2 with ⟨rfl,_⟩|⟨vs,refs,met,hp,hm,he,_⟩
  ·exact⟨Ko,Ko,0,8,rfl,rfl,vo.zero _ _ _⟩
  ·obtain⟨refs',nodes,hc,hn⟩:=hb vs hp
   obtain⟨_,e⟩:=Qr.same hc.mkd hm
   subst e
   exact(hn he).elim
 ·rcases h2.2 with ⟨rfl,hb⟩|⟨vs',refs',met,hp',hm,he',hr'⟩
  ·obtain⟨refs',met,hm,hn⟩:=hb vs hp
   obtain⟨_,e⟩:=Qr.same hc.mkd hm
   subst e
   exact(hn he).elim
  ·obtain rfl:=QM.same hp hp'
   rw[lay_same hp.may] at hr
   rcases hr with ⟨h0,rfl⟩|⟨h0,u,rfl,hn⟩
   ·rcases hr' with ⟨_,rfl⟩|⟨h1,_⟩
    ·exact⟨Ko,Ko,0,_,rfl,rfl,vo.zero _ _ _⟩
    ·exact absurd h1 h0
   ·rcases hr' with ⟨h1,_⟩|⟨_,B1,d1,B2,d2,B3,d3,B4,d4,B5,d5,rfl,hs,hd⟩
    ·exact absurd h0 h1
    ·obtain⟨l1,l2,l3,l4⟩:=qQ hp.may
     have hfw:=hp.few
     have ew:(ZR S (qO S) (ZS 128 data)).ws.length=S.ws.length+1:=by simp[ZR]
     have en:(ZR S (qO S) (ZS 128 data)).now.length=S.now.length:=by simp[ZR]
     obtain⟨cs,rfl,hA⟩:=vo.of (B1:=B1) (d1:=d1) (B2:=B2) (d2:=d2) (B3:=B3) (d3:=d3) (B4:=B4) (d4:=d4) (B5:=B5) (d5:=d5) hn (by rw[ew,en];exact hs) hd ⟨by show S.bs.length<_;omega,by rw[ew];omega,by rw[en];omega,by rw[en];show S.now.length≤S.last.length;omega,by omega⟩
     rw[ew,en] at hA
     exact⟨cs,_,_,_,rfl,rfl,hA⟩
theorem GG {S S':Sto} {gen root next:Int} {dead:List Int} {w w' v v':World} {e e2:Ending} {er er':(Nat→Nat)→(Nat→Nat)→Int} (h:qaH S gen root next dead er S' w e w') (h2:Ud S gen root next dead er' S' v e2 v')
  (hs:qB S=true→∀ refs nodes met,zv nodes=zv met→er refs nodes=er' refs met) (hl:S'.bs=S.bs∧S'.ws=S.ws∧S'.now.length=S.now.length∧S'.last=S.last) :
  ∃ (cs ds:Array Value) (n:Int),e=.returned (.tuple #[.agg cs,.int .i64 n])∧e2=.returned (.tuple #[.agg ds,.int .i64 n])∧vo w.heap.size cs w' ds v':=by
 rcases h.2 with ⟨rfl,hb⟩|⟨vs,refs,nodes,u,hp,hc,he,rfl,hr⟩
 ·rcases h2.2 with ⟨rfl,_⟩|⟨vs,refs,met,hp,hm,he,_⟩
  ·exact⟨Ko,Ko,8,rfl,rfl,vo.zero _ _ _⟩
  ·obtain⟨refs',nodes,hc,hn⟩:=hb vs hp
   obtain⟨_,e⟩:=Qr.same hc.mkd hm
   subst e
   exact(hn he).elim
 ·rcases h2.2 with ⟨rfl,hb⟩|⟨vs',refs',met,hp',hm,he',hr'⟩
  ·obtain⟨refs',met,hm,hn⟩:=hb vs hp
   obtain⟨_,e⟩:=Qr.same hc.mkd hm
   subst e
   exact(hn he).elim
  ·obtain rfl:=QM.same hp hp'
   obtain⟨em,e⟩:=Qr.same hc.mkd hm
   subst e
   rw[hs hp.may refs nodes met em] at hr
   rcases hr with ⟨h0,rfl⟩|⟨h0,u,rfl,hn⟩
   ·rcases hr' with ⟨_,rfl⟩|⟨h1,_⟩
    ·exact⟨Ko,Ko,_,rfl,rfl,vo.zero _ _ _⟩
    ·exact absurd h1 h0
   ·rcases hr' with ⟨h1,_⟩|⟨_,B1,d1,B2,d2,B3,d3,B4,d4,B5,d5,rfl,hst,hd⟩
    ·exact absurd h0 h1
    ·obtain⟨l1,l2,l3,l4⟩:=qQ hp.may
     obtain⟨q1,q2,q3,q4⟩:=hl
     have hfw:=hp.few
     obtain⟨cs,rfl,hA⟩:=vo.of hn hst hd ⟨by rw[q1];omega,by rw[q2];omega,by omega,by rw[q3,q4];omega,by omega⟩
     exact⟨cs,_,_,rfl,rfl,hA⟩
theorem qdX {S:Sto} {root next:Int} {dead:List Int} {a:Int} {w w' v v':World} {e e2:Ending} (h:VDatQ S root next dead a w e w') (h2:DDatQ S root next dead a v e2 v') :
  ∃ (A:Option Addr) (c:Nat) (A':Option Addr) (c':Nat) (l:List UInt8) (er:Int),e=.returned (.tuple #[.slice A l.length c,.int .i64 er])∧e2=.returned (.tuple #[.slice A' l.length c',.int .i64 er])∧w'.ownsRow w.heap.size 5 1 (.slice A l.length c) l.length (l.map bv)∧Bys v' v'.heap.size (.slice A' l.length c') l∧l.length<1000000:=by
 have key:∀ er:Int,∃ (A:Option Addr) (c:Nat) (A':Option Addr) (c':Nat) (l:List UInt8) (er':Int),Ending.returned (.tuple #[.slice none 0 0,.int .i64 er])=.returned (.tuple #[.slice A l.length c,.int .i64 er'])∧Ending.returned (.tuple #[.slice none 0 0,.int .i64 er])=.returned (.tuple #[.slice A' l.length c',.int .i64 er'])∧w'.ownsRow w.heap.size 5 1 (.slice A l.length c) l.length (l.map bv)∧Bys v' v'.heap.size (.slice A' l.length c') l∧l.length<1000000:=fun er =>
  ⟨none,0,none,0,[],er,rfl,rfl,World.ownsRow_nil _ _ _ _,Bys.nil _ _,by simp⟩
 rcases h.2 with ⟨rfl,hb⟩|⟨vs,refs,nodes,hp,hc,he,hr⟩
 ·rcases h2.2 with ⟨rfl,_⟩|⟨vs,refs,met,hp,hm,he,_⟩
  ·exact key 8
  ·obtain⟨refs',nodes,hc,hn⟩:=hb vs hp
   obtain⟨_,e⟩:=Qr.same hc.mkd hm
   subst e
   exact(hn he).elim
 ·rcases h2.2 with ⟨rfl,hb⟩|⟨vs',refs',met,hp',hm,he',hr'⟩
  ·obtain⟨refs',met,hm,hn⟩:=hb vs hp
   obtain⟨_,e⟩:=Qr.same hc.mkd hm
   subst e
   exact(hn he).elim
  ·obtain rfl:=QM.same hp hp'
   obtain⟨em,e⟩:=Qr.same hc.mkd hm
   subst e
   rw[Up em] at hr
   rcases hr with ⟨h0,rfl⟩|⟨h0,u,rfl,hn⟩
   ·rcases hr' with ⟨_,rfl⟩|⟨h1,_⟩
    ·exact key _
    ·exact absurd h1 h0
   ·rcases hr' with ⟨h1,_⟩|⟨_,u',rfl,hy⟩
    ·exact absurd h0 h1
    ·obtain⟨A',c',rfl,h1,h2',h3⟩:=hy
     obtain⟨A,c,rfl,_,_⟩:=qw hn
     exact⟨A,c,A',c',_,0,rfl,rfl,hn,⟨A',c',rfl,h1,h2',h3⟩,qbQ hp.may _⟩
theorem VLayQ.form {S:Sto} {gen root next:Int} {dead:List Int} {data:List UInt8} {w w':World} {e:Ending} (h:VLayQ S gen root next dead data w e w'):∃ A1 n1 c1 A2 n2 c2 A3 n3 c3 A4 n4 c4 gen' root' next' A5 n5 c5 n er,e=.returned (.tuple #[.agg (jD A1 n1 c1 A2 n2 c2 A3 n3 c3 A4 n4 c4 gen' root' next' A5 n5 c5),.int .i64 n,.int .i64 er]):=by
 rcases h.2 with ⟨rfl,_⟩|⟨_,_,_,_,_,_,⟨_,rfl⟩|⟨_,v,rfl,A1,c1,A2,c2,A3,c3,A4,c4,A5,c5,rfl,_⟩⟩ <;> exact⟨_,_,_,_,_,_,_,_,_,_,_,_,_,_,_,_,_,_,_,_,rfl⟩
theorem DLayQ.form {S:Sto} {gen root next:Int} {dead:List Int} {data:List UInt8} {w w':World} {e:Ending} (h:DLayQ S gen root next dead data w e w'):∃ A1 n1 c1 A2 n2 c2 A3 n3 c3 A4 n4 c4 gen' root' next' A5 n5 c5 n er,e=.returned (.tuple #[.agg (jD A1 n1 c1 A2 n2 c2 A3 n3 c3 A4 n4 c4 gen' root' next' A5 n5 c5),.int .i64 n,.int .i64 er]):=by
 rcases h.2 with ⟨rfl,_⟩|⟨_,_,_,_,_,_,⟨_,rfl⟩|⟨_,A1,c1,A2,c2,A3,c3,A4,c4,A5,c5,rfl,_⟩⟩ <;> exact⟨_,_,_,_,_,_,_,_,_,_,_,_,_,_,_,_,_,_,_,_,rfl⟩
theorem qaH.form {S S':Sto} {gen root next:Int} {dead:List Int} {er:(Nat→Nat)→(Nat→Nat)→Int} {w w':World} {e:Ending} (h:qaH S gen root next dead er S' w e w'):∃ A1 n1 c1 A2 n2 c2 A3 n3 c3 A4 n4 c4 gen' root' next' A5 n5 c5 n,e=.returned (.tuple #[.agg (jD A1 n1 c1 A2 n2 c2 A3 n3 c3 A4 n4 c4 gen' root' next' A5 n5 c5),.int .i64 n]):=by
 rcases h.2 with ⟨rfl,_⟩|⟨_,_,_,_,_,_,_,rfl,⟨_,rfl⟩|⟨_,v,rfl,A1,c1,A2,c2,A3,c3,A4,c4,A5,c5,rfl,_⟩⟩ <;> exact⟨_,_,_,_,_,_,_,_,_,_,_,_,_,_,_,_,_,_,_,rfl⟩
theorem Ud.form {S S':Sto} {gen root next:Int} {dead:List Int} {er:(Nat→Nat)→(Nat→Nat)→Int} {w w':World} {e:Ending} (h:Ud S gen root next dead er S' w e w'):∃ A1 n1 c1 A2 n2 c2 A3 n3 c3 A4 n4 c4 gen' root' next' A5 n5 c5 n,e=.returned (.tuple #[.agg (jD A1 n1 c1 A2 n2 c2 A3 n3 c3 A4 n4 c4 gen' root' next' A5 n5 c5),.int .i64 n]):=by
 rcases h.2 with ⟨rfl,_⟩|⟨_,_,_,_,_,_,⟨_,rfl⟩|⟨_,A1,c1,A2,c2,A3,c3,A4,c4,A5,c5,rfl,_⟩⟩ <;> exact⟨_,_,_,_,_,_,_,_,_,_,_,_,_,_,_,_,_,_,_,rfl⟩
theorem VDatQ.form {S:Sto} {root next:Int} {dead:List Int} {a:Int} {w w':World} {e:Ending} (h:VDatQ S root next dead a w e w'):∃ A n c er,e=.returned (.tuple #[.slice A n c,.int .i64 er]):=by
 rcases h.2 with ⟨rfl,_⟩|⟨_,_,_,_,_,_,⟨_,rfl⟩|⟨_,v,rfl,ho⟩⟩
 ·exact⟨_,_,_,_,rfl⟩
 ·exact⟨_,_,_,_,rfl⟩
 ·obtain⟨A,c,rfl,_⟩:=qw ho
  exact⟨_,_,_,_,rfl⟩
theorem DDatQ.form {S:Sto} {root next:Int} {dead:List Int} {a:Int} {w w':World} {e:Ending} (h:DDatQ S root next dead a w e w'):∃ A n c er,e=.returned (.tuple #[.slice A n c,.int .i64 er]):=by
 rcases h.2 with ⟨rfl,_⟩|⟨_,_,_,_,_,_,⟨_,rfl⟩|⟨_,v,rfl,ho⟩⟩
 ·exact⟨_,_,_,_,rfl⟩
 ·exact⟨_,_,_,_,rfl⟩
 ·obtain⟨A,c,rfl,_⟩:=ho
  exact⟨_,_,_,_,rfl⟩
def jq (ls:List (List UInt8)):Nat:=(ls.map fun l=>min l.length 1000000).sum
theorem Tk {ls:List (List UInt8)} {k:Nat} (h:k<ls.length):jq (ls.take (k+1))=jq (ls.take k)+min ls[k].length 1000000:=by
 unfold jq
 rw[List.take_succ_eq_append_getElem h,List.map_append,List.sum_append]
 simp
theorem sizeL_le (ls:List (List UInt8)):jq ls≤ls.length*1000000:=by
 induction ls with
 |nil=>simp[jq]
 |cons l r ih=>simp only[jq,List.map_cons,List.sum_cons,List.length_cons] at ih ⊢;omega
theorem Kk {ls:List (List UInt8)} {n:Nat} (h:ls.length≤n) (k:Nat):jq (ls.take k)≤n*1000000:=by
 have h1:=sizeL_le (ls.take k)
 have h2:(ls.take k).length≤n:=by rw[List.length_take];omega
 have h3:(ls.take k).length*1000000≤n*1000000:=Nat.mul_le_mul_right _ h2
 exact Nat.le_trans h1 h3
theorem UR {ls:List (List UInt8)} (h:jq ls≤800000):∀ l∈ls,l.length≤800000:=by
 induction ls with
 |nil=>intro l hl;cases hl
 |cons x r ih =>
  intro l hl
  simp only[jq,List.map_cons,List.sum_cons] at h ih
  rcases List.mem_cons.1 hl with rfl|hl
  ·omega
  ·exact ih (by omega) l hl
def Gy (n m:Nat):Bool:=decide (300<n∨5000<m∨(600<m∧m<4096))
def Vs (bs:List (List UInt8)) (ws:List (Int×List UInt8)):Bool:=Gy bs.length ws.length || decide (800000<jq bs+jq (ws.map (·.2)))
set_option maxHeartbeats 4000000 in
set_option maxRecDepth 100000 in
theorem qcA (A1:Option Addr) (n1 c1:Nat) (A2:Option Addr) (n2 c2:Nat) (bs:List (List UInt8)) (ws:List (Int×List UInt8)) (w:World) (hb:Bls w w.heap.size (.slice A1 n1 c1) bs) (hw:Wrs w w.heap.size (.slice A2 n2 c2) ws) :
  Calls Tryz.prog 49 #[Zw A1 n1 c1 A2 n2 c2] w (Ret (.bool (Vs bs ws)) w):=by
 obtain⟨e1,hc1,hm1,hA1⟩:=hb.at_
 obtain⟨e2,hc2,hm2,hA2⟩:=hw.at_
 subst e1
 subst e2
 by_cases hh:Gy bs.length ws.length=true
 case pos =>
  have hM:Vs bs ws=true:=by unfold Vs;rw[hh];rfl
  rw[hM]
  have hh':300<bs.length∨5000<ws.length∨(600<ws.length∧ws.length<4096):=by simpa [Gy] using hh
  clear hM hb hw hA1 hA2 hh
  generalize bs.length=n1 at *
  generalize ws.length=n2 at *
  go_enter Tryz.func49,Tryz.ntmps49
  go_wp2
  all_goals try simp only[beq_iff_eq,beq_eq_false_iff_ne,ne_eq,bne_iff_ne,bne_eq_false_iff_eq] at *
  all_goals first|(exfalso;omega)|skip
  all_goals go_ret
  all_goals exact⟨rfl,(by repeat' (first|with_reducible exact Below.refl _ _|with_reducible assumption|with_reducible apply Below.drew|with_reducible apply qp|with_reducible refine Below.alloc ?_ ?_ _|with_reducible refine Below.setCell ?_ ?_ _|(simp;done)|(simp;omega)|omega))⟩
 case neg =>
  have hM:Vs bs ws=decide (800000<jq bs+jq (ws.map (·.2))):=by unfold Vs;rw[show Gy bs.length ws.length=false by simpa using hh];rfl
  have hh':¬(300<bs.length∨5000<ws.length∨(600<ws.length∧ws.length<4096)):=by simpa [Gy] using hh
  have hn1:bs.length≤300:=by omega
  have hn2:ws.length≤5000:=by omega
  have hn3:¬(600<ws.length∧ws.length<4096):=fun h=>hh' (.inr (.inr h))
  rw[hM]
  clear hM hh hh'
  have HB:=zH hb
  have HW:=zH hw
  have HTB:=zH (fun k h=>@Tk bs k h)
  have HTW:=zH (fun k (h:k<(ws.map (·.2)).length)=>@Tk (ws.map (·.2)) k h)
  have HLB:=zH (fun k=>Kk hn1 k)
  have HLW:=zH (fun k=>Kk (ls:=ws.map (·.2)) (n:=5000) (by rw[List.length_map];exact hn2) k)
  have HE1:Hid (bs.take bs.length=bs):=zH (List.take_length)
  have HE2:Hid ((ws.map (·.2)).take ws.length=ws.map (·.2)):=zH (by rw[←List.length_map (f:=(·.2))];exact List.take_length)
  clear hb hw
  have hd1:decide ((bs.length:Int)>300)=false:=decide_eq_false (by omega)
  have hd2:decide ((ws.length:Int)>5000)=false:=decide_eq_false (by omega)
  go_enter Tryz.func49,Tryz.ntmps49
  go_wp2
  all_goals first|(exfalso;omega)|skip
  all_goals
   generalize hw1:(World.alloc _ _)=w1
   have x1:Ext w w1:=by rw[←hw1];exact Ext.alloc _ _
   have r1:w1.heap[w.heap.size]?=some (.cells #[.slice A1 bs.length c1,.slice A2 ws.length c2] 25 (0,0)):=by rw[←hw1];exact World.alloc_heap_at _ _ _ rfl
   clear hw1
   go_loopw [3,4] (fun t i wr=>∃ k:Nat,k≤bs.length∧i=.int .i64 (k:Int)∧t=.int .i64 (jq (bs.take k):Int)∧Ext w1 wr) (fun _ i _=>bs.length-(intOf i).toNat)
   case atStart=>exact⟨0,by omega,rfl,rfl,Ext.refl _⟩
   case round =>
    obtain⟨k,hk,rfl,rfl,hE⟩:=hrel
    have hEw:=x1.trans hE
    have rr:=qc r1 hE
    have kr:=qa rr
    have hlb:=HLB.out k
    by_cases hlt:k<bs.length
    ·have hlt':=hlt
     obtain⟨b1,o1,rfl,hb1⟩:=hA1 (by omega)
     obtain⟨A',c',hc,hby⟩:=((HB.out.below hEw).more hEw.size).get k hlt
     have hm64:=hby.at_.2.1
     have hm65:=hby.at_.2.2.1
     have ht:=HTB.out k hlt
     replace ht:=zH ht
     clear hby
     unfold maxLen at hm65
     generalize bs[k].length=m at *
     generalize jq (bs.take k)=q at *
     go_wp2
     go_roundw
     case rel=>exact⟨k+1,by omega,by go_num,by rw[ht.out];go_num,hE⟩
     case measure=>simp[intOf];omega
    ·obtain rfl:k=bs.length:=by omega
     rw[HE1.out] at hlb ⊢
     clear HB HTB HLB r1 hd1 hd2
     go_wp2
     clear kr
     go_loopw [3,5] (fun t i wq=>∃ j:Nat,j≤ws.length∧i=.int .i64 (j:Int)∧t=.int .i64 ((jq bs+jq ((ws.map (·.2)).take j):Nat):Int)∧Ext wr wq) (fun _ i _=>ws.length-(intOf i).toNat)
     case atStart=>exact⟨0,by omega,rfl,rfl,Ext.refl _⟩
     case round =>
      obtain⟨j,hj,rfl,rfl,hE2⟩:=hrel
      have hEq:=hEw.trans hE2
      have kr:=qa (qc rr hE2)
      have hlw:=HLW.out j
      by_cases hlt2:j<ws.length
      ·have hlt2':=hlt2
       obtain⟨b2,o2,rfl,hb2⟩:=hA2 (by omega)
       obtain⟨A',c',hca,hcb,hby⟩:=((HW.out.below hEq).more hEq.size).get j hlt2
       have hm64:=hby.at_.2.1
       have hm65:=hby.at_.2.2.1
       have ht:=HTW.out j (by rw[List.length_map];exact hlt2)
       rw[List.getElem_map] at ht
       replace ht:=zH ht
       clear hby
       unfold maxLen at hm65
       generalize ws[j].2.length=m at *
       generalize ws[j].1=a at *
       generalize jq ((ws.map (·.2)).take j)=q at *
       generalize jq bs=s0 at *
       go_wp2
       go_roundw
       case rel=>exact⟨j+1,by omega,by go_num,by rw[ht.out];go_num,hE2⟩
       case measure=>simp[intOf];omega
      ·obtain rfl:j=ws.length:=by omega
       rw[HE2.out] at hlw ⊢
       go_wp2
       go_ret
       refine⟨Zm ?_,hEq⟩
       rw[Bool.eq_iff_iff]
       simp
       omega
def KJ (S:Sto):Bool:=Vs S.bs S.ws || (decide (10000<S.now.length) || decide (10000<S.last.length))
abbrev poolV (A1:Option Addr) (n1 c1:Nat) (A2:Option Addr) (n2 c2:Nat) (A3:Option Addr) (n3 c3:Nat) (A4:Option Addr) (n4 c4:Nat) (g r x:Int) (A5:Option Addr) (n5 c5:Nat):Value:=
 .agg #[.slice A1 n1 c1,.slice A2 n2 c2,.slice A3 n3 c3,.slice A4 n4 c4,.int .u32 g,.int .i64 r,.int .u32 x,.slice A5 n5 c5]
set_option maxHeartbeats 2000000 in
set_option maxRecDepth 100000 in
theorem qcD (A1:Option Addr) (n1 c1:Nat) (A2:Option Addr) (n2 c2:Nat) (A3:Option Addr) (n3 c3:Nat) (A4:Option Addr) (n4 c4:Nat) (S:Sto) (w:World) (h:qH w w.heap.size (.slice A1 n1 c1) (.slice A2 n2 c2) (.slice A3 n3 c3) (.slice A4 n4 c4) S) :
  Calls Tryz.prog 23 #[Qy A1 n1 c1 A2 n2 c2 A3 n3 c3 A4 n4 c4] w (Ret (.bool (KJ S)) w):=by
 have HD:=zH (fun W (hW:Ext w W)=>qcA A1 n1 c1 A2 n2 c2 S.bs S.ws W (h.ext hW).bs (h.ext hW).ws)
 have e3:S.now.length=n3:=h.now.at_.1.symm
 have e4:S.last.length=n4:=h.last.at_.1.symm
 have hS:KJ S=(Vs S.bs S.ws || (decide (10000<n3) || decide (10000<n4))):=by unfold KJ;rw[e3,e4]
 rw[hS]
 clear hS h e3 e4
 generalize Vs S.bs S.ws=d at *
 go_enter Tryz.func23,Tryz.ntmps23
 go_wp2_with fail
 generalize hw1:(World.alloc _ _)=w1
 have x1:Ext w w1:=by rw[←hw1];exact Ext.alloc _ _
 have r1:w1.heap[w.heap.size]?=some (.cells #[.slice A1 n1 c1,.slice A2 n2 c2,.slice A3 n3 c3,.slice A4 n4 c4] 28 (0,0)):=by rw[←hw1];exact World.alloc_heap_at _ _ _ rfl
 clear hw1
 refine(HD.out _ x1).mono ?_
 rintro e w2 ⟨rfl,hB⟩
 have x2:=x1.trans hB
 have r2:=qc r1 hB
 have k2:=qa r2
 clear hB r1 x1 HD
 cases d
 all_goals
  go_wp2
  all_goals
   go_ret
   refine⟨Zm ?_,x2⟩
   rw[Bool.eq_iff_iff]
   simp
   try omega
def Us (S:Sto) (dead:Nat):Bool:=KJ S || decide (1000<dead)
set_option maxHeartbeats 2000000 in
set_option maxRecDepth 100000 in
theorem qaM (A1:Option Addr) (n1 c1:Nat) (A2:Option Addr) (n2 c2:Nat) (A3:Option Addr) (n3 c3:Nat) (A4:Option Addr) (n4 c4:Nat) (g r x:Int) (A5:Option Addr) (n5 c5:Nat) (S:Sto) (w:World) (h:qH w w.heap.size (.slice A1 n1 c1) (.slice A2 n2 c2) (.slice A3 n3 c3) (.slice A4 n4 c4) S) :
  Calls Tryz.prog 5 #[poolV A1 n1 c1 A2 n2 c2 A3 n3 c3 A4 n4 c4 g r x A5 n5 c5] w (Ret (.bool (Us S n5)) w):=by
 have HD:=zH (fun W (hW:Ext w W)=>qcD A1 n1 c1 A2 n2 c2 A3 n3 c3 A4 n4 c4 S W (h.ext hW))
 have hS:Us S n5=(KJ S || decide (1000<n5)):=rfl
 rw[hS]
 clear hS h
 generalize KJ S=d at *
 go_enter Tryz.func5,Tryz.ntmps5
 go_wp2_with fail
 generalize hw1:(World.alloc _ _)=w1
 have x1:Ext w w1:=by rw[←hw1];exact Ext.alloc _ _
 have r1:w1.heap[w.heap.size]?=some (.cells #[.slice A1 n1 c1,.slice A2 n2 c2,.slice A3 n3 c3,.slice A4 n4 c4,.int .u32 g,.int .i64 r,.int .u32 x,.slice A5 n5 c5] 32 (0,0)):=by rw[←hw1];exact World.alloc_heap_at _ _ _ rfl
 clear hw1
 refine(HD.out _ x1).mono ?_
 rintro e w2 ⟨rfl,hB⟩
 have x2:=x1.trans hB
 have r2:=qc r1 hB
 have k2:=qa r2
 clear hB r1 x1 HD
 cases d
 all_goals
  go_wp2
  all_goals
   go_ret
   refine⟨Zm ?_,x2⟩
   rw[Bool.eq_iff_iff]
   simp
   try omega
def TwinP (lo:Nat) (S:Sto) (gen root next:Int) (dead:List Int) (u:Value) (W:World):Prop:=∃ A1 c1 A2 c2 A3 c3 A4 c4 A5 c5,u=.agg (qC (.slice A1 S.bs.length c1) (.slice A2 S.ws.length c2) (.slice A3 S.now.length c3) (.slice A4 S.last.length c4) gen root next (.slice A5 dead.length c5)) ∧
 ∀ W2:World,(∀ q:Addr,lo≤q.block→q.block<W.heap.size→W2.cell? q=W.cell? q)→qH W2 W.heap.size (.slice A1 S.bs.length c1) (.slice A2 S.ws.length c2) (.slice A3 S.now.length c3) (.slice A4 S.last.length c4) S∧QF W2 W.heap.size (.slice A5 dead.length c5) dead
set_option maxHeartbeats 2000000 in
set_option maxRecDepth 100000 in
theorem qcS (A1:Option Addr) (n1 c1:Nat) (A2:Option Addr) (n2 c2:Nat) (A3:Option Addr) (c3:Nat) (A4:Option Addr) (c4:Nat) (gen root next:Int) (A5:Option Addr) (c5:Nat) (S:Sto) (dead:List Int) (hS:kK S) (hdl:dead.length<1000000) (w:World)
  (h:qH w w.heap.size (.slice A1 n1 c1) (.slice A2 n2 c2) (.slice A3 S.now.length c3) (.slice A4 S.last.length c4) S) (hd:QF w w.heap.size (.slice A5 dead.length c5) dead) :
  Calls Tryz.prog 6 #[.agg (qC (.slice A1 n1 c1) (.slice A2 n2 c2) (.slice A3 S.now.length c3) (.slice A4 S.last.length c4) gen root next (.slice A5 dead.length c5))] w (zE (TwinP w.heap.size S gen root next dead) w):=by
 have HT:=zH (fun W (hW:Ext w W)=>qeP A1 n1 c1 A2 n2 c2 A3 c3 A4 c4 S hS W (h.ext hW))
 obtain⟨A,c,e,_,_,hr⟩:=hd
 simp only[Value.slice.injEq,true_and] at e
 obtain⟨rfl,rfl⟩:=e
 have HR:=zH (fun W (hW:Below w.heap.size w W)=>hr.below hW)
 clear h hS hr
 obtain⟨i0,hi,hz0,hz1,hz2⟩:=info_parts Tryz.info_int
 go_enter Tryz.func6,Tryz.ntmps6
 go_wp2_with fail
 generalize hw1:(World.alloc (World.alloc _ _) _)=w1
 have x1:Ext w w1:=by rw[←hw1];exact(Ext.alloc _ _).trans (Ext.alloc _ _)
 have r1:w1.heap[w.heap.size]?=some (.cells (qC (.slice A1 n1 c1) (.slice A2 n2 c2) (.slice A3 S.now.length c3) (.slice A4 S.last.length c4) gen root next (.slice A5 dead.length c5)) 32 (0,0)):=by rw[←hw1];exact(Below.heap_alloc _ _ _ (by simp)).trans (World.alloc_heap_at _ _ _ rfl)
 have q1:w1.heap[w.heap.size+1]?=some (.cells (qC (.slice none 0 0) (.slice none 0 0) (.slice none 0 0) (.slice none 0 0) 0 0 0 (.slice none 0 0)) 32 (0,0)):=by rw[←hw1];exact World.alloc_heap_at _ _ _ (by simp)
 have z1:w1.heap.size=w.heap.size+2:=by rw[←hw1];simp
 clear hw1
 refine(HT.out _ x1).mono ?_
 rintro e w2 ⟨u,rfl,⟨B1,d1,B2,d2,B3,d3,B4,d4,rfl,hT⟩,hB⟩
 have hB:Ext w1 w2:=hB
 have r2:=qc r1 hB
 have q2:=qc q1 hB
 have k2:=qa r2
 have f2:=qd r2
 have z2:w1.heap.size≤w2.heap.size:=hB.size
 have zz:w.heap.size<w2.heap.size:=by omega
 replace hT:=zH hT
 go_wp2_with (at_builtin;refine qI ?_)
 have P3:∀ wx:World,wx=(((w2.setCell ⟨w.heap.size,0,none⟩ (.slice B1 S.bs.length d1)).setCell ⟨w.heap.size,1,none⟩ (.slice B2 S.ws.length d2)).setCell ⟨w.heap.size,2,none⟩ (.slice B3 S.now.length d3)).setCell ⟨w.heap.size,3,none⟩ (.slice B4 S.last.length d4) →
   wx.heap[w.heap.size]?=some (.cells (qC (.slice B1 S.bs.length d1) (.slice B2 S.ws.length d2) (.slice B3 S.now.length d3) (.slice B4 S.last.length d4) gen root next (.slice A5 dead.length c5)) 32 (0,0))∧wx.heap.size=w2.heap.size∧Below w.heap.size w wx∧(∀ b,b≠w.heap.size→wx.heap[b]?=w2.heap[b]?):=fun wx e=>by
  subst e
  refine⟨qh (qh (qh (qh r2 0 _) 1 _) 2 _) 3 _,by simp,?_,fun b hb=>?_⟩
  ·exact Below.setCell (Below.setCell (Below.setCell (Below.setCell (x1.trans hB) (p:=⟨w.heap.size,0,none⟩) (Nat.le_refl _) _) (p:=⟨w.heap.size,1,none⟩) (Nat.le_refl _) _) (p:=⟨w.heap.size,2,none⟩) (Nat.le_refl _) _) (p:=⟨w.heap.size,3,none⟩) (Nat.le_refl _) _
  ·exact(Below.heap_setCell _ _ _ _ hb).trans ((Below.heap_setCell _ _ _ _ hb).trans ((Below.heap_setCell _ _ _ _ hb).trans (Below.heap_setCell _ _ _ _ hb)))
 generalize hw3:World.setCell (World.setCell (World.setCell (World.setCell w2 _ _) _ _) _ _) _ _=w3
 obtain⟨r3,z3,x3,b3⟩:=P3 w3 hw3.symm
 have q3:=(b3 (w.heap.size+1) (by omega)).trans q2
 clear P3 hw3 k2 f2 r2 q2 r1 q1 hB
 refine Qc.go (qM _ rfl (.const (.slice none 0 0)) (.tmp 8) 30 rfl w3.heap.size 3 i0 (.int .i64 0) 1 8 Tryz.underlying30 hi hz0 hz1 hz2 rfl (by decide) _ 0 [] rfl (World.ownsRow_nil _ _ _ _) w3.heap.size A5 dead.length c5 (dead.map fun (a:Int)=>Value.int .i64 a) rfl ((HR.out w3 x3).more (by omega)) (by
  intro u hu
  obtain⟨a,_,rfl⟩:=List.mem_map.1 hu
  rfl) (by omega) (by decide) (Nat.le_refl _) ?_)
 intro v4 w4 own4 _ hB4 _
 have hB4:Ext w3 w4:=hB4
 have r4:=qc r3 hB4
 have q4:=qc q3 hB4
 have k4:=qa r4
 have f4:=qd r4
 have kq4:=qa q4
 have fq4:=qd q4
 have z4:=hB4.size
 simp only[Nat.zero_add,List.nil_append] at own4
 obtain⟨A6,c6,rfl,_,_⟩:=qw own4
 clear r3 q3
 replace own4:=zH own4
 go_wp2_with fail
 have P5:∀ wx:World,wx=kJ (w4.setCell ⟨w.heap.size,7,none⟩ (.slice A6 dead.length c6)) (w.heap.size+1) 0 [.slice B1 S.bs.length d1,.slice B2 S.ws.length d2,.slice B3 S.now.length d3,.slice B4 S.last.length d4,.int .u32 gen,.int .i64 root,.int .u32 next,.slice A6 dead.length c6] →
   wx.heap[w.heap.size+1]?=some (.cells (qC (.slice B1 S.bs.length d1) (.slice B2 S.ws.length d2) (.slice B3 S.now.length d3) (.slice B4 S.last.length d4) gen root next (.slice A6 dead.length c6)) 32 (0,0))∧wx.heap.size=w4.heap.size∧Below w.heap.size w wx∧(∀ b,b≠w.heap.size→b≠w.heap.size+1→wx.heap[b]?=w4.heap[b]?):=fun wx e=>by
  subst e
  refine⟨?_,(vy _ _ _).trans (by simp),JJ (Nat.le_succ _) _ _ _ (Below.setCell (Below.trans x3 (Below.mono hB4 (by omega))) (p:=⟨w.heap.size,7,none⟩) (Nat.le_refl _) _),fun b h1 h2=>(JI h2 _ _ _).trans (Below.heap_setCell _ _ _ _ h1)⟩
  refine(VB _ _ _ _ ((Below.heap_setCell _ _ _ _ (by show _≠w.heap.size;omega)).trans q4)).trans ?_
  simp[TQ,qC]
 generalize hw5:World.setCell (World.setCell (World.setCell (World.setCell (World.setCell (World.setCell (World.setCell (World.setCell (World.setCell w4 _ _) _ _) _ _) _ _) _ _) _ _) _ _) _ _) _ _=w5
 obtain⟨r5,z5,x5,b5⟩:=P5 w5 hw5.symm
 clear P5 hw5
 have k5:=qa r5
 refine bodyPost_ret (v:=.agg (qC (.slice B1 S.bs.length d1) (.slice B2 S.ws.length d2) (.slice B3 S.now.length d3) (.slice B4 S.last.length d4) gen root next (.slice A6 dead.length c6))) (by simp[results,Tryz.results6,go_sem,k5]) rfl ⟨_,rfl,⟨B1,d1,B2,d2,B3,d3,B4,d4,A6,c6,rfl,fun W2 hk=>⟨?_,?_⟩⟩,x5⟩
 ·rw[z5] at hk ⊢
  refine((hT.out W2 fun q h1 h2=>(hk q (by omega) (by omega)).trans ?_).more (by omega))
  refine(World.cell?_of_block (b5 q.block (by omega) (by omega))).trans ((World.cell?_of_block (hB4.block q.block (by omega))).trans (World.cell?_of_block (b3 q.block (by omega))))
 ·rw[z5] at hk ⊢
  have hR:=(Rd.of_own own4.out).keepN ((QD.of_own own4.out).mono (lo':=w3.heap.size) (Nat.le_refl _)) (W:=W2) (fun q h1 h2=>(hk q (by omega) (by omega)).trans (World.cell?_of_block (b5 q.block (by omega) (by omega))))
  obtain⟨A,c,e,q1,q2⟩:=qw own4.out
  cases e
  exact⟨A6,c6,rfl,q1,q2,hR⟩
end Go.Proofs.YtckhnchnbeoogaaGreat
