/- Texts SameD, SameN, Same8, Same14, GreatS, joined. -/
import Derived.Test.YtckhnchnbeoogaaGreatV10
import Derived.Test.YtckhnchnbeoogaaGreatV13
import Derived.Test.YtckhnchnbeoogaaGreatV15
import Derived.Test.YtckhnchnbeoogaaGreatV21
import Derived.Test.YtckhnchnbeoogaaGreatV30
set_option linter.unusedSimpArgs false
set_option linter.unusedVariables false
namespace Go.Proofs.YtckhnchnbeoogaaGreat
open Go.RowKit
theorem YH {α:Type} {l m:List α} {k:Nat} (h:l.take k=m.take k) (hl:k<l.length) (hm:k<m.length) (hx:l[k]=m[k]):l.take (k+1)=m.take (k+1):=by
 rw[List.take_succ_eq_append_getElem hl,List.take_succ_eq_append_getElem hm,h,hx]
theorem Kz {α:Type} {l m:List α} {k:Nat} (hl:k<l.length) (hm:k<m.length) (hx:l[k]≠m[k]):l≠m:=fun e=>by subst e;exact hx rfl
set_option maxHeartbeats 4000000 in
set_option maxRecDepth 100000 in
theorem qev (A1:Option Addr) (n1 c1:Nat) (A2:Option Addr) (n2 c2:Nat) (B1:Option Addr) (m1 d1:Nat) (B2:Option Addr) (m2 d2:Nat) (bs bs':List (List UInt8)) (ws ws':List (Int×List UInt8)) (hbl:bs.length<1000000) (hwl:ws.length<1000000) (w:World)
  (hb:Bls w w.heap.size (.slice A1 n1 c1) bs) (hw:Wrs w w.heap.size (.slice A2 n2 c2) ws) (hb':Bls w w.heap.size (.slice B1 m1 d1) bs') (hw':Wrs w w.heap.size (.slice B2 m2 d2) ws') :
  Calls Tryz.prog 64 #[Zw A1 n1 c1 A2 n2 c2,Zw B1 m1 d1 B2 m2 d2] w (Ret (.bool (decide (bs=bs'∧ws=ws'))) w):=by
 obtain⟨e1,hc1,hm1,hA1⟩:=hb.at_
 obtain⟨e2,hc2,hm2,hA2⟩:=hw.at_
 obtain⟨e3,hc3,hm3,hA3⟩:=hb'.at_
 obtain⟨e4,hc4,hm4,hA4⟩:=hw'.at_
 subst e1
 subst e2
 subst e3
 subst e4
 by_cases hh:bs.length=bs'.length∧ws.length=ws'.length
 case neg =>
  have hM:decide (bs=bs'∧ws=ws')=false:=decide_eq_false (fun h=>hh ⟨by rw[h.1],by rw[h.2]⟩)
  rw[hM]
  clear hM hb hw hb' hw' hA1 hA2 hA3 hA4
  generalize bs.length=n1 at *
  generalize ws.length=n2 at *
  generalize bs'.length=n3 at *
  generalize ws'.length=n4 at *
  go_enter Tryz.func64,Tryz.ntmps64
  go_wp2
  all_goals try simp only[beq_iff_eq,beq_eq_false_iff_ne,ne_eq,bne_iff_ne,bne_eq_false_iff_eq] at *
  all_goals first|(exfalso;omega)|skip
  all_goals go_ret
  all_goals exact⟨rfl,(by repeat' (first|with_reducible exact Below.refl _ _|with_reducible assumption|with_reducible apply Below.drew|with_reducible apply qp|with_reducible refine Below.alloc ?_ ?_ _|with_reducible refine Below.setCell ?_ ?_ _|(simp;done)|(simp;omega)|omega))⟩
 case pos =>
  obtain⟨hl1,hl2⟩:=hh
  have HB:=zH hb
  have HW:=zH hw
  have HB':=zH hb'
  have HW':=zH hw'
  clear hb hw hb' hw'
  have hd1:((bs.length:Int) != (bs'.length:Int))=false:=by rw[bne_eq_false_iff_eq];omega
  have hd2:((ws.length:Int) != (ws'.length:Int))=false:=by rw[bne_eq_false_iff_eq];omega
  have hd3:decide (bs.length=bs'.length)=true:=decide_eq_true hl1
  replace hl1:=zH hl1
  replace hl2:=zH hl2
  go_enter Tryz.func64,Tryz.ntmps64
  go_wp2
  generalize hw1:(World.alloc (World.alloc _ _) _)=w1
  have x1:Ext w w1:=by rw[←hw1];exact(Ext.alloc _ _).trans (Ext.alloc _ _)
  have r1:w1.heap[w.heap.size]?=some (.cells #[.slice A1 bs.length c1,.slice A2 ws.length c2] 25 (0,0)):=by rw[←hw1];exact(Below.heap_alloc _ _ _ (by simp)).trans (World.alloc_heap_at _ _ _ rfl)
  have q1:w1.heap[w.heap.size+1]?=some (.cells #[.slice B1 bs'.length d1,.slice B2 ws'.length d2] 25 (0,0)):=by rw[←hw1];exact World.alloc_heap_at _ _ _ (by simp)
  clear hw1
  go_loopw [5] (fun i wr=>∃ k:Nat,k≤bs.length∧i=.int .i64 (k:Int)∧bs.take k=bs'.take k∧Ext w1 wr) (fun i _=>bs.length-(intOf i).toNat)
  case atStart=>exact⟨0,by omega,rfl,rfl,Ext.refl _⟩
  case round =>
   obtain⟨k,hk,rfl,hok,hE⟩:=hrel
   have hEw:=x1.trans hE
   have rr:=qc r1 hE
   have qr:=qc q1 hE
   have kr:=qa rr
   replace hok:=zH hok
   by_cases hlt:k<bs.length
   ·have hlt':=hlt
    have hlt3:k<bs'.length:=by rw[←hl1.out];exact hlt
    obtain⟨b1,o1,rfl,hb1⟩:=hA1 (by omega)
    obtain⟨b3,o3,rfl,hb3⟩:=hA3 (by omega)
    obtain⟨A',c',hc,hby⟩:=((HB.out.below hEw).more hEw.size).get k hlt
    obtain⟨B',d',hd,hby'⟩:=((HB'.out.below hEw).more hEw.size).get k hlt3
    have HT:=zH (fun h=>YH hok.out hlt hlt3 h)
    have HN:=zH (fun h=>@Kz _ _ _ k hlt hlt3 h)
    generalize bs[k]=l at *
    generalize bs'[k]=l' at *
    have g1:∀ W,qu.r wr W→∀ i,W.cell? ⟨w.heap.size,i,none⟩=#[.slice (some ⟨b1,o1,none⟩) bs.length c1,.slice A2 ws.length c2][i]?:=fun W h=>qa (qc rr h)
    have g2:∀ W,qu.r wr W→∀ i,W.cell? ⟨w.heap.size+1,i,none⟩=#[.slice (some ⟨b3,o3,none⟩) bs'.length d1,.slice B2 ws'.length d2][i]?:=fun W h=>qa (qc qr h)
    have g3:∀ W,qu.r wr W→W.cell? ⟨b1,o1+k,none⟩=some (.slice A' l.length c'):=fun W h=>Ext.cell h hc
    have g4:∀ W,qu.r wr W→W.cell? ⟨b3,o3+k,none⟩=some (.slice B' l'.length d'):=fun W h=>Ext.cell h hd
    have v1:∀ W,qu.r wr W→(convert 26 9 (.slice A' l.length c')).run Tryz.prog W=.ok (.string (jm l)) W:=fun W h=>qU (hby.below h) _ _ _ Tryz.underlying26 Tryz.underlying5 Tryz.underlying9
    have v2:∀ W,qu.r wr W→(convert 26 9 (.slice B' l'.length d')).run Tryz.prog W=.ok (.string (jm l')) W:=fun W h=>qU (hby'.below h) _ _ _ Tryz.underlying26 Tryz.underlying5 Tryz.underlying9
    have i1:decide (k<bs.length)=true:=decide_eq_true hlt
    have i2:decide (k<bs'.length)=true:=decide_eq_true hlt3
    go_wp2_with fail
    clear kr hc hd hby hby'
    by_cases hxy:l=l'
    ·have he:=HT.out hxy
     subst hxy
     replace he:=zH he
     refine qv (by kernel_rfl) ?_
     refine QH (w:=wr) qu (qE []) [true,true,true,true,true,true,true,true,true,true,true,true,true] 0 (by kernel_rfl) (by kernel_rfl) (by kernel_rfl) (by kernel_rfl) (by kernel_rfl) (by kernel_rfl) ?st (Rel.drew _ _) ?walk
     case st=>exact qm (fun _ h=>by cases h)
     case walk =>
      intro K hK
      dsimp only[qz]
      repeat ((first|(refine qf ?_ (by rfl) (by rfl) (fun W hW _=>⟨W,?_,Rel.refl _ W⟩) ?_;rotate_left;(first|(go_simp;with_reducible rfl)|(go_simp;done)))|(refine qj (by rfl) ?_));try simp only[Act.put,qi,qe,qb,qg,zA,zB,zC])
      first
       |(refine qf (.pointer (some ⟨b1,o1+k,none⟩)) (by rfl) (by rfl) (fun W hW _=>⟨W,?_,Rel.refl _ W⟩) ?_
         ·go_simp
          rw[IntWalk.i64_in (k:Int) (by omega),if_pos (by omega)]
          simp
         simp only[Act.put,qi,qe,qb,qg,zA,zB,zC])
       |skip
      repeat ((first|(refine qf ?_ (by rfl) (by rfl) (fun W hW _=>⟨W,?_,Rel.refl _ W⟩) ?_;rotate_left;(first|(go_simp;with_reducible rfl)|(go_simp;done)))|(refine qj (by rfl) ?_));try simp only[Act.put,qi,qe,qb,qg,zA,zB,zC])
      first
       |(refine qf (.pointer (some ⟨b3,o3+k,none⟩)) (by rfl) (by rfl) (fun W hW _=>⟨W,?_,Rel.refl _ W⟩) ?_
         ·go_simp
          rw[IntWalk.i64_in (k:Int) (by omega),if_pos (by omega)]
          simp
         simp only[Act.put,qi,qe,qb,qg,zA,zB,zC])
       |skip
      repeat ((first|(refine qf ?_ (by rfl) (by rfl) (fun W hW _=>⟨W,?_,Rel.refl _ W⟩) ?_;rotate_left;(first|(go_simp;with_reducible rfl)|(go_simp;done)))|(refine qj (by rfl) ?_));try simp only[Act.put,qi,qe,qb,qg,zA,zB,zC])
      refine qD (hK _ _ fun W hW hF=>?_)
      clear hF hK g1 g2 g3 g4 v1 v2
      have hW':Ext wr W:=hW
      dsimp only[List.drop,List.length_cons,List.length_nil]
      go_wp2
      refine Qw ?_
      go_wp2
      go_roundw
      case rel=>exact⟨k+1,by omega,by go_num,he.out,hE.trans hW'⟩
      case measure=>simp[intOf];omega
    ·have hs:jm l≠jm l':=fun h=>hxy (bstr_inj h)
     have hr1:(!((jm l).toList == (jm l').toList))=true:=by rw[ji,ji,Bool.not_eq_true',beq_eq_false_iff_ne];exact hxy
     have hf:decide (bs=bs'∧ws=ws')=false:=decide_eq_false (fun h=>HN.out hxy h.1)
     replace hf:=zH hf
     refine qv (by kernel_rfl) ?_
     refine QH (w:=wr) qu (qE []) [true,true,true,true,true,true,true,true,true,true,true,true,true] 0 (by kernel_rfl) (by kernel_rfl) (by kernel_rfl) (by kernel_rfl) (by kernel_rfl) (by kernel_rfl) ?st (Rel.drew _ _) ?walk
     case st=>exact qm (fun _ h=>by cases h)
     case walk =>
      intro K hK
      dsimp only[qz]
      repeat ((first|(refine qf ?_ (by rfl) (by rfl) (fun W hW _=>⟨W,?_,Rel.refl _ W⟩) ?_;rotate_left;(first|(go_simp;with_reducible rfl)|(go_simp;done)))|(refine qj (by rfl) ?_));try simp only[Act.put,qi,qe,qb,qg,zA,zB,zC])
      first
       |(refine qf (.pointer (some ⟨b1,o1+k,none⟩)) (by rfl) (by rfl) (fun W hW _=>⟨W,?_,Rel.refl _ W⟩) ?_
         ·go_simp
          rw[IntWalk.i64_in (k:Int) (by omega),if_pos (by omega)]
          simp
         simp only[Act.put,qi,qe,qb,qg,zA,zB,zC])
       |skip
      repeat ((first|(refine qf ?_ (by rfl) (by rfl) (fun W hW _=>⟨W,?_,Rel.refl _ W⟩) ?_;rotate_left;(first|(go_simp;with_reducible rfl)|(go_simp;done)))|(refine qj (by rfl) ?_));try simp only[Act.put,qi,qe,qb,qg,zA,zB,zC])
      first
       |(refine qf (.pointer (some ⟨b3,o3+k,none⟩)) (by rfl) (by rfl) (fun W hW _=>⟨W,?_,Rel.refl _ W⟩) ?_
         ·go_simp
          rw[IntWalk.i64_in (k:Int) (by omega),if_pos (by omega)]
          simp
         simp only[Act.put,qi,qe,qb,qg,zA,zB,zC])
       |skip
      repeat ((first|(refine qf ?_ (by rfl) (by rfl) (fun W hW _=>⟨W,?_,Rel.refl _ W⟩) ?_;rotate_left;(first|(go_simp;with_reducible rfl)|(go_simp;done)))|(refine qj (by rfl) ?_));try simp only[Act.put,qi,qe,qb,qg,zA,zB,zC])
      refine qD (hK _ _ fun W hW hF=>?_)
      clear hF hK g1 g2 g3 g4 v1 v2
      have hW':Ext wr W:=hW
      dsimp only[List.drop,List.length_cons,List.length_nil]
      go_wp2
      refine Qw ?_
      go_wp2
      go_ret
      exact⟨by rw[hf.out];rfl,hEw.trans hW'⟩
   ·obtain rfl:k=bs.length:=by omega
    have hbb:bs=bs':=by
     have h:=hok.out
     rw[List.take_length,List.take_of_length_le (by rw[hl1.out];exact Nat.le_refl _)] at h
     exact h
    replace hbb:=zH hbb
    clear HB HB' hok hd1 hd3
    go_wp2
    clear kr
    go_loopw [6] (fun i wq=>∃ k:Nat,k≤ws.length∧i=.int .i64 (k:Int)∧ws.take k=ws'.take k∧Ext wr wq) (fun i _=>ws.length-(intOf i).toNat)
    case atStart=>exact⟨0,by omega,rfl,rfl,Ext.refl _⟩
    case round =>
     obtain⟨j,hj,rfl,hok2,hE2⟩:=hrel
     have hEq:=hEw.trans hE2
     have rq:=qc rr hE2
     have qq:=qc qr hE2
     have kr:=qa rq
     replace hok2:=zH hok2
     by_cases hlt2:j<ws.length
     ·have hlt2':=hlt2
      have hlt4:j<ws'.length:=by rw[←hl2.out];exact hlt2
      obtain⟨b2,o2,rfl,hb2⟩:=hA2 (by omega)
      obtain⟨b4,o4,rfl,hb4⟩:=hA4 (by omega)
      obtain⟨A',c',ha,hc,hby⟩:=((HW.out.below hEq).more hEq.size).get j hlt2
      obtain⟨B',d',hp,hd,hby'⟩:=((HW'.out.below hEq).more hEq.size).get j hlt4
      have HT:=zH (fun h1 h2=>YH hok2.out hlt2 hlt4 (Prod.ext h1 h2))
      have HN:=zH (fun (h:¬(ws[j].1=ws'[j].1∧ws[j].2=ws'[j].2))=>@Kz _ _ _ j hlt2 hlt4 (fun e=>h ⟨by rw[e],by rw[e]⟩))
      generalize ws[j].1=a at *
      generalize ws'[j].1=a' at *
      generalize ws[j].2=l at *
      generalize ws'[j].2=l' at *
      have g1:∀ W,qu.r wr W→∀ i,W.cell? ⟨w.heap.size,i,none⟩=#[.slice A1 bs.length c1,.slice (some ⟨b2,o2,none⟩) ws.length c2][i]?:=fun W h=>qa (qc rq h)
      have g2:∀ W,qu.r wr W→∀ i,W.cell? ⟨w.heap.size+1,i,none⟩=#[.slice B1 bs'.length d1,.slice (some ⟨b4,o4,none⟩) ws'.length d2][i]?:=fun W h=>qa (qc qq h)
      have g3:∀ W,qu.r wr W→W.cell? ⟨b2,o2+j*2,none⟩=some (.int .i64 a):=fun W h=>Ext.cell h ha
      have g4:∀ W,qu.r wr W→W.cell? ⟨b2,o2+j*2+1,none⟩=some (.slice A' l.length c'):=fun W h=>Ext.cell h hc
      have g5:∀ W,qu.r wr W→W.cell? ⟨b4,o4+j*2,none⟩=some (.int .i64 a'):=fun W h=>Ext.cell h hp
      have g6:∀ W,qu.r wr W→W.cell? ⟨b4,o4+j*2+1,none⟩=some (.slice B' l'.length d'):=fun W h=>Ext.cell h hd
      have v1:∀ W,qu.r wr W→(convert 26 9 (.slice A' l.length c')).run Tryz.prog W=.ok (.string (jm l)) W:=fun W h=>qU (hby.below h) _ _ _ Tryz.underlying26 Tryz.underlying5 Tryz.underlying9
      have v2:∀ W,qu.r wr W→(convert 26 9 (.slice B' l'.length d')).run Tryz.prog W=.ok (.string (jm l')) W:=fun W h=>qU (hby'.below h) _ _ _ Tryz.underlying26 Tryz.underlying5 Tryz.underlying9
      have i1:decide (j<ws.length)=true:=decide_eq_true hlt2
      have i2:decide (j<ws'.length)=true:=decide_eq_true hlt4
      go_wp2_with fail
      clear kr ha hc hp hd hby hby'
      by_cases haa:a=a'
      case neg =>
       have hr1:(a != a')=true:=by rw[bne_iff_ne];exact haa
       have hr2:(a == a')=false:=by rw[beq_eq_false_iff_ne];exact haa
       have hr3:decide (a=a')=false:=decide_eq_false haa
       have hf:decide (bs=bs'∧ws=ws')=false:=decide_eq_false (fun h=>HN.out (fun e=>haa e.1) h.2)
       replace hf:=zH hf
       refine qv (by kernel_rfl) ?_
       refine QH (w:=wr) qu (qE []) [true,true,true,true,true,true,true,true,true,true,true,true,true,true,true,true,true,true,true,true,true,true,true,true,true,true,true,true,true,true] 0 (by kernel_rfl) (by kernel_rfl) (by kernel_rfl) (by kernel_rfl) (by kernel_rfl) (by kernel_rfl) ?st (Rel.drew _ _) ?walk
       case st=>exact qm (fun _ h=>by cases h)
       case walk =>
        intro K hK
        dsimp only[qz]
        repeat ((first|(refine qf ?_ (by rfl) (by rfl) (fun W hW _=>⟨W,?_,Rel.refl _ W⟩) ?_;rotate_left;(first|(go_simp;with_reducible rfl)|(go_simp;done)))|(refine qj (by rfl) ?_));try simp only[Act.put,qi,qe,qb,qg,zA,zB,zC])
        first
         |(refine qf (.pointer (some ⟨b2,o2+j*2,none⟩)) (by rfl) (by rfl) (fun W hW _=>⟨W,?_,Rel.refl _ W⟩) ?_
           ·go_simp
            rw[IntWalk.i64_in (j:Int) (by omega),if_pos (by omega)]
            simp
           simp only[Act.put,qi,qe,qb,qg,zA,zB,zC])
         |skip
        repeat ((first|(refine qf ?_ (by rfl) (by rfl) (fun W hW _=>⟨W,?_,Rel.refl _ W⟩) ?_;rotate_left;(first|(go_simp;with_reducible rfl)|(go_simp;done)))|(refine qj (by rfl) ?_));try simp only[Act.put,qi,qe,qb,qg,zA,zB,zC])
        first
         |(refine qf (.pointer (some ⟨b4,o4+j*2,none⟩)) (by rfl) (by rfl) (fun W hW _=>⟨W,?_,Rel.refl _ W⟩) ?_
           ·go_simp
            rw[IntWalk.i64_in (j:Int) (by omega),if_pos (by omega)]
            simp
           simp only[Act.put,qi,qe,qb,qg,zA,zB,zC])
         |skip
        repeat ((first|(refine qf ?_ (by rfl) (by rfl) (fun W hW _=>⟨W,?_,Rel.refl _ W⟩) ?_;rotate_left;(first|(go_simp;with_reducible rfl)|(go_simp;done)))|(refine qj (by rfl) ?_));try simp only[Act.put,qi,qe,qb,qg,zA,zB,zC])
        first
         |(refine qf (.pointer (some ⟨b2,o2+j*2,none⟩)) (by rfl) (by rfl) (fun W hW _=>⟨W,?_,Rel.refl _ W⟩) ?_
           ·go_simp
            rw[IntWalk.i64_in (j:Int) (by omega),if_pos (by omega)]
            simp
           simp only[Act.put,qi,qe,qb,qg,zA,zB,zC])
         |skip
        repeat ((first|(refine qf ?_ (by rfl) (by rfl) (fun W hW _=>⟨W,?_,Rel.refl _ W⟩) ?_;rotate_left;(first|(go_simp;with_reducible rfl)|(go_simp;done)))|(refine qj (by rfl) ?_));try simp only[Act.put,qi,qe,qb,qg,zA,zB,zC])
        first
         |(refine qf (.pointer (some ⟨b4,o4+j*2,none⟩)) (by rfl) (by rfl) (fun W hW _=>⟨W,?_,Rel.refl _ W⟩) ?_
           ·go_simp
            rw[IntWalk.i64_in (j:Int) (by omega),if_pos (by omega)]
            simp
           simp only[Act.put,qi,qe,qb,qg,zA,zB,zC])
         |skip
        repeat ((first|(refine qf ?_ (by rfl) (by rfl) (fun W hW _=>⟨W,?_,Rel.refl _ W⟩) ?_;rotate_left;(first|(go_simp;with_reducible rfl)|(go_simp;done)))|(refine qj (by rfl) ?_));try simp only[Act.put,qi,qe,qb,qg,zA,zB,zC])
        refine qD (hK _ _ fun W hW hF=>?_)
        clear hF hK g1 g2 g3 g4 g5 g6 v1 v2
        have hW':Ext wr W:=hW
        dsimp only[List.drop,List.length_cons,List.length_nil]
        go_wp2
        refine Qw ?_
        go_wp2
        go_ret
        exact⟨by rw[hf.out];rfl,hEq.trans hW'⟩
      case pos =>
       by_cases hxy:l=l'
       case pos =>
        have he:=HT.out haa hxy
        subst haa
        subst hxy
        replace he:=zH he
        refine qv (by kernel_rfl) ?_
        refine QH (w:=wr) qu (qE []) [true,true,true,true,true,true,true,true,true,true,true,true,true,true,true,true,true,true,true,true,true,true,true,true,true,true,true,true,true,true] 0 (by kernel_rfl) (by kernel_rfl) (by kernel_rfl) (by kernel_rfl) (by kernel_rfl) (by kernel_rfl) ?st (Rel.drew _ _) ?walk
        case st=>exact qm (fun _ h=>by cases h)
        case walk =>
         intro K hK
         dsimp only[qz]
         repeat ((first|(refine qf ?_ (by rfl) (by rfl) (fun W hW _=>⟨W,?_,Rel.refl _ W⟩) ?_;rotate_left;(first|(go_simp;with_reducible rfl)|(go_simp;done)))|(refine qj (by rfl) ?_));try simp only[Act.put,qi,qe,qb,qg,zA,zB,zC])
         first
          |(refine qf (.pointer (some ⟨b2,o2+j*2,none⟩)) (by rfl) (by rfl) (fun W hW _=>⟨W,?_,Rel.refl _ W⟩) ?_
            ·go_simp
             rw[IntWalk.i64_in (j:Int) (by omega),if_pos (by omega)]
             simp
            simp only[Act.put,qi,qe,qb,qg,zA,zB,zC])
          |skip
         repeat ((first|(refine qf ?_ (by rfl) (by rfl) (fun W hW _=>⟨W,?_,Rel.refl _ W⟩) ?_;rotate_left;(first|(go_simp;with_reducible rfl)|(go_simp;done)))|(refine qj (by rfl) ?_));try simp only[Act.put,qi,qe,qb,qg,zA,zB,zC])
         first
          |(refine qf (.pointer (some ⟨b4,o4+j*2,none⟩)) (by rfl) (by rfl) (fun W hW _=>⟨W,?_,Rel.refl _ W⟩) ?_
            ·go_simp
             rw[IntWalk.i64_in (j:Int) (by omega),if_pos (by omega)]
             simp
            simp only[Act.put,qi,qe,qb,qg,zA,zB,zC])
          |skip
         repeat ((first|(refine qf ?_ (by rfl) (by rfl) (fun W hW _=>⟨W,?_,Rel.refl _ W⟩) ?_;rotate_left;(first|(go_simp;with_reducible rfl)|(go_simp;done)))|(refine qj (by rfl) ?_));try simp only[Act.put,qi,qe,qb,qg,zA,zB,zC])
         first
          |(refine qf (.pointer (some ⟨b2,o2+j*2,none⟩)) (by rfl) (by rfl) (fun W hW _=>⟨W,?_,Rel.refl _ W⟩) ?_
            ·go_simp
             rw[IntWalk.i64_in (j:Int) (by omega),if_pos (by omega)]
             simp
            simp only[Act.put,qi,qe,qb,qg,zA,zB,zC])
          |skip
         repeat ((first|(refine qf ?_ (by rfl) (by rfl) (fun W hW _=>⟨W,?_,Rel.refl _ W⟩) ?_;rotate_left;(first|(go_simp;with_reducible rfl)|(go_simp;done)))|(refine qj (by rfl) ?_));try simp only[Act.put,qi,qe,qb,qg,zA,zB,zC])
         first
          |(refine qf (.pointer (some ⟨b4,o4+j*2,none⟩)) (by rfl) (by rfl) (fun W hW _=>⟨W,?_,Rel.refl _ W⟩) ?_
            ·go_simp
             rw[IntWalk.i64_in (j:Int) (by omega),if_pos (by omega)]
             simp
            simp only[Act.put,qi,qe,qb,qg,zA,zB,zC])
          |skip
         repeat ((first|(refine qf ?_ (by rfl) (by rfl) (fun W hW _=>⟨W,?_,Rel.refl _ W⟩) ?_;rotate_left;(first|(go_simp;with_reducible rfl)|(go_simp;done)))|(refine qj (by rfl) ?_));try simp only[Act.put,qi,qe,qb,qg,zA,zB,zC])
         refine qD (hK _ _ fun W hW hF=>?_)
         clear hF hK g1 g2 g3 g4 g5 g6 v1 v2
         have hW':Ext wr W:=hW
         dsimp only[List.drop,List.length_cons,List.length_nil]
         go_wp2
         refine Qw ?_
         go_wp2
         go_roundw
         case rel=>exact⟨j+1,by omega,by go_num,he.out,hE2.trans hW'⟩
         case measure=>simp[intOf];omega
       case neg =>
        have hf:decide (bs=bs'∧ws=ws')=false:=decide_eq_false (fun h=>HN.out (fun e=>hxy e.2) h.2)
        have hr1:(!((jm l).toList == (jm l').toList))=true:=by rw[ji,ji,Bool.not_eq_true',beq_eq_false_iff_ne];exact hxy
        subst haa
        replace hf:=zH hf
        refine qv (by kernel_rfl) ?_
        refine QH (w:=wr) qu (qE []) [true,true,true,true,true,true,true,true,true,true,true,true,true,true,true,true,true,true,true,true,true,true,true,true,true,true,true,true,true,true] 0 (by kernel_rfl) (by kernel_rfl) (by kernel_rfl) (by kernel_rfl) (by kernel_rfl) (by kernel_rfl) ?st (Rel.drew _ _) ?walk
        case st=>exact qm (fun _ h=>by cases h)
        case walk =>
         intro K hK
         dsimp only[qz]
         repeat ((first|(refine qf ?_ (by rfl) (by rfl) (fun W hW _=>⟨W,?_,Rel.refl _ W⟩) ?_;rotate_left;(first|(go_simp;with_reducible rfl)|(go_simp;done)))|(refine qj (by rfl) ?_));try simp only[Act.put,qi,qe,qb,qg,zA,zB,zC])
         first
          |(refine qf (.pointer (some ⟨b2,o2+j*2,none⟩)) (by rfl) (by rfl) (fun W hW _=>⟨W,?_,Rel.refl _ W⟩) ?_
            ·go_simp
             rw[IntWalk.i64_in (j:Int) (by omega),if_pos (by omega)]
             simp
            simp only[Act.put,qi,qe,qb,qg,zA,zB,zC])
          |skip
         repeat ((first|(refine qf ?_ (by rfl) (by rfl) (fun W hW _=>⟨W,?_,Rel.refl _ W⟩) ?_;rotate_left;(first|(go_simp;with_reducible rfl)|(go_simp;done)))|(refine qj (by rfl) ?_));try simp only[Act.put,qi,qe,qb,qg,zA,zB,zC])
         first
          |(refine qf (.pointer (some ⟨b4,o4+j*2,none⟩)) (by rfl) (by rfl) (fun W hW _=>⟨W,?_,Rel.refl _ W⟩) ?_
            ·go_simp
             rw[IntWalk.i64_in (j:Int) (by omega),if_pos (by omega)]
             simp
            simp only[Act.put,qi,qe,qb,qg,zA,zB,zC])
          |skip
         repeat ((first|(refine qf ?_ (by rfl) (by rfl) (fun W hW _=>⟨W,?_,Rel.refl _ W⟩) ?_;rotate_left;(first|(go_simp;with_reducible rfl)|(go_simp;done)))|(refine qj (by rfl) ?_));try simp only[Act.put,qi,qe,qb,qg,zA,zB,zC])
         first
          |(refine qf (.pointer (some ⟨b2,o2+j*2,none⟩)) (by rfl) (by rfl) (fun W hW _=>⟨W,?_,Rel.refl _ W⟩) ?_
            ·go_simp
             rw[IntWalk.i64_in (j:Int) (by omega),if_pos (by omega)]
             simp
            simp only[Act.put,qi,qe,qb,qg,zA,zB,zC])
          |skip
         repeat ((first|(refine qf ?_ (by rfl) (by rfl) (fun W hW _=>⟨W,?_,Rel.refl _ W⟩) ?_;rotate_left;(first|(go_simp;with_reducible rfl)|(go_simp;done)))|(refine qj (by rfl) ?_));try simp only[Act.put,qi,qe,qb,qg,zA,zB,zC])
         first
          |(refine qf (.pointer (some ⟨b4,o4+j*2,none⟩)) (by rfl) (by rfl) (fun W hW _=>⟨W,?_,Rel.refl _ W⟩) ?_
            ·go_simp
             rw[IntWalk.i64_in (j:Int) (by omega),if_pos (by omega)]
             simp
            simp only[Act.put,qi,qe,qb,qg,zA,zB,zC])
          |skip
         repeat ((first|(refine qf ?_ (by rfl) (by rfl) (fun W hW _=>⟨W,?_,Rel.refl _ W⟩) ?_;rotate_left;(first|(go_simp;with_reducible rfl)|(go_simp;done)))|(refine qj (by rfl) ?_));try simp only[Act.put,qi,qe,qb,qg,zA,zB,zC])
         refine qD (hK _ _ fun W hW hF=>?_)
         clear hF hK g1 g2 g3 g4 g5 g6 v1 v2
         have hW':Ext wr W:=hW
         dsimp only[List.drop,List.length_cons,List.length_nil]
         go_wp2
         refine Qw ?_
         go_wp2
         go_ret
         exact⟨by rw[hf.out];rfl,hEq.trans hW'⟩
     ·obtain rfl:j=ws.length:=by omega
      have hww:ws=ws':=by
       have h:=hok2.out
       rw[List.take_length,List.take_of_length_le (by rw[hl2.out];exact Nat.le_refl _)] at h
       exact h
      have ht:decide (bs=bs'∧ws=ws')=true:=decide_eq_true ⟨hbb.out,hww⟩
      replace ht:=zH ht
      clear hww
      go_wp2
      go_ret
      exact⟨by rw[ht.out];rfl,hEq⟩
set_option maxHeartbeats 2000000 in
set_option maxRecDepth 100000 in
theorem qeE (A:Option Addr) (c:Nat) (B:Option Addr) (d:Nat) (l:List Int) (hl:l.length<1000000) (w:World)
  (ha:QF w w.heap.size (.slice A l.length c) l) (hb:QF w w.heap.size (.slice B l.length d) l) :
  Calls Tryz.prog 32 #[.slice A l.length c,.slice B l.length d] w (Ret (.bool true) w):=by
 have HA:=zH ha
 have HB:=zH hb
 clear ha hb
 have hd1:((l.length:Int) != (l.length:Int))=false:=by rw[bne_eq_false_iff_eq]
 go_enter Tryz.func32,Tryz.ntmps32
 go_wp2_with fail
 go_loopw [5] (fun i wr=>∃ k:Nat,k≤l.length∧i=.int .i64 (k:Int)∧Ext w wr) (fun i _=>l.length-(intOf i).toNat)
 case atStart=>exact⟨0,by omega,rfl,Ext.refl _⟩
 case round =>
  obtain⟨k,hk,rfl,hE⟩:=hrel
  by_cases hlt:k<l.length
  ·have hlt':=hlt
   obtain⟨A',c',e1,_,_,hra⟩:=HA.out
   obtain⟨B',d',e2,_,_,hrb⟩:=HB.out
   simp only[Value.slice.injEq,true_and] at e1 e2
   obtain⟨rfl,rfl⟩:=e1
   obtain⟨rfl,rfl⟩:=e2
   obtain⟨ba,oa,rfl,_,hca⟩:=(hra.below hE).2 (by omega)
   obtain⟨bb,ob,rfl,_,hcb⟩:=(hrb.below hE).2 (by omega)
   have da:=hca k _ (by rw[List.getElem?_map,List.getElem?_eq_getElem hlt];rfl)
   have db:=hcb k _ (by rw[List.getElem?_map,List.getElem?_eq_getElem hlt];rfl)
   generalize l[k]=r at *
   clear hca hcb hra hrb
   have hne:(r != r)=false:=by rw[bne_eq_false_iff_eq]
   have g1:∀ W,qu.r wr W→W.cell? ⟨ba,oa+k,none⟩=some (.int .i64 r):=fun W h=>Ext.cell h da
   have g2:∀ W,qu.r wr W→W.cell? ⟨bb,ob+k,none⟩=some (.int .i64 r):=fun W h=>Ext.cell h db
   have hwk:=zH (IntWalk.wrap64_in ((k:Int)+1) (by omega))
   go_wp2_with fail
   refine qv (by kernel_rfl) ?_
   refine Qu (w:=wr) qu (qE []) [true,true,true,true,true,true,true,true] 1 (by kernel_rfl) (by kernel_rfl) (by kernel_rfl) (by kernel_rfl) (by kernel_rfl) (by kernel_rfl) (by kernel_rfl) ?st (Rel.drew _ _) ?walk
   case st=>exact qm (fun _ h=>by cases h)
   case walk =>
    intro K hK
    dsimp only[qz]
    repeat ((first|(refine qf ?_ (by rfl) (by rfl) (fun W hW _=>⟨W,?_,Rel.refl _ W⟩) ?_;rotate_left;(first|(go_simp;with_reducible rfl)|(go_simp;done)))|(refine qj (by rfl) ?_));try simp only[Act.put,qi,qe,qb,qg,qb,zA,zB,zC])
    first
     |(refine qf (.pointer (some ⟨ba,oa+k,none⟩)) (by rfl) (by rfl) (fun W hW _=>⟨W,?_,Rel.refl _ W⟩) ?_
       ·go_simp
        rw[IntWalk.i64_in (k:Int) (by omega),if_pos (by omega)]
        simp
       simp only[Act.put,qi,qe,qb,qg,qb,zA,zB,zC])
     |skip
    repeat ((first|(refine qf ?_ (by rfl) (by rfl) (fun W hW _=>⟨W,?_,Rel.refl _ W⟩) ?_;rotate_left;(first|(go_simp;with_reducible rfl)|(go_simp;done)))|(refine qj (by rfl) ?_));try simp only[Act.put,qi,qe,qb,qg,qb,zA,zB,zC])
    first
     |(refine qf (.pointer (some ⟨bb,ob+k,none⟩)) (by rfl) (by rfl) (fun W hW _=>⟨W,?_,Rel.refl _ W⟩) ?_
       ·go_simp
        rw[IntWalk.i64_in (k:Int) (by omega),if_pos (by omega)]
        simp
       simp only[Act.put,qi,qe,qb,qg,qb,zA,zB,zC])
     |skip
    repeat ((first|(refine qf ?_ (by rfl) (by rfl) (fun W hW _=>⟨W,?_,Rel.refl _ W⟩) ?_;rotate_left;(first|(go_simp;with_reducible rfl)|(go_simp;done)))|(refine qj (by rfl) ?_));try simp only[Act.put,qi,qe,qb,qg,qb,zA,zB,zC])
    refine qD (hK _ _ fun W hW hF=>?_)
    clear hF hK g1 g2
    have hW':Ext wr W:=hW
    dsimp only[List.drop,List.length_cons,List.length_nil]
    go_wp2
    refine Qw ?_
    go_wp2_with fail
    try rw[hwk.out]
    refine⟨⟨k+1,by omega,rfl,hE.trans hW'⟩,?_⟩
    simp[intOf]
    omega
  ·obtain rfl:k=l.length:=by omega
   go_wp2_with fail
   go_ret
   exact⟨rfl,hE⟩
set_option maxHeartbeats 1000000 in
set_option maxRecDepth 100000 in
theorem qeK (A1:Option Addr) (n1 c1:Nat) (A2:Option Addr) (n2 c2:Nat) (A3:Option Addr) (n3 c3:Nat) (A4:Option Addr) (n4 c4:Nat) (B1:Option Addr) (m1 d1:Nat) (B2:Option Addr) (m2 d2:Nat) (B3:Option Addr) (m3 d3:Nat) (B4:Option Addr) (m4 d4:Nat) (S:Sto) (hbl:S.bs.length<1000000) (hwl:S.ws.length<1000000) (w:World)
  (h:qH w w.heap.size (.slice A1 n1 c1) (.slice A2 n2 c2) (.slice A3 n3 c3) (.slice A4 n4 c4) S) (h':qH w w.heap.size (.slice B1 m1 d1) (.slice B2 m2 d2) (.slice B3 m3 d3) (.slice B4 m4 d4) S) :
  Calls Tryz.prog 31 #[Qy A1 n1 c1 A2 n2 c2 A3 n3 c3 A4 n4 c4,Qy B1 m1 d1 B2 m2 d2 B3 m3 d3 B4 m4 d4] w (Ret (.bool true) w):=by
 have HD:=zH (fun W (hW:Ext w W)=>by
  have:=qev A1 n1 c1 A2 n2 c2 B1 m1 d1 B2 m2 d2 S.bs S.bs S.ws S.ws hbl hwl W (h.ext hW).bs (h.ext hW).ws (h'.ext hW).bs (h'.ext hW).ws
  rw[show decide (S.bs=S.bs∧S.ws=S.ws)=true from decide_eq_true ⟨rfl,rfl⟩] at this
  exact this)
 have v3:Hid (∀ W,Ext w W→(convert 26 9 (.slice A3 n3 c3)).run Tryz.prog W=.ok (.string (jm S.now)) W):=zH fun W h1=>qU (h.ext h1).now _ _ _ Tryz.underlying26 Tryz.underlying5 Tryz.underlying9
 have v4:Hid (∀ W,Ext w W→(convert 26 9 (.slice A4 n4 c4)).run Tryz.prog W=.ok (.string (jm S.last)) W):=zH fun W h1=>qU (h.ext h1).last _ _ _ Tryz.underlying26 Tryz.underlying5 Tryz.underlying9
 have u3:Hid (∀ W,Ext w W→(convert 26 9 (.slice B3 m3 d3)).run Tryz.prog W=.ok (.string (jm S.now)) W):=zH fun W h1=>qU (h'.ext h1).now _ _ _ Tryz.underlying26 Tryz.underlying5 Tryz.underlying9
 have u4:Hid (∀ W,Ext w W→(convert 26 9 (.slice B4 m4 d4)).run Tryz.prog W=.ok (.string (jm S.last)) W):=zH fun W h1=>qU (h'.ext h1).last _ _ _ Tryz.underlying26 Tryz.underlying5 Tryz.underlying9
 clear h h' hbl hwl
 go_enter Tryz.func31,Tryz.ntmps31
 go_wp2_with fail
 generalize hw1:(World.alloc (World.alloc _ _) _)=w1
 have x1:Ext w w1:=by rw[←hw1];exact(Ext.alloc _ _).trans (Ext.alloc _ _)
 have r1:w1.heap[w.heap.size]?=some (.cells #[.slice A1 n1 c1,.slice A2 n2 c2,.slice A3 n3 c3,.slice A4 n4 c4] 28 (0,0)):=by rw[←hw1];exact(Below.heap_alloc _ _ _ (by simp)).trans (World.alloc_heap_at _ _ _ rfl)
 have q1:w1.heap[w.heap.size+1]?=some (.cells #[.slice B1 m1 d1,.slice B2 m2 d2,.slice B3 m3 d3,.slice B4 m4 d4] 28 (0,0)):=by rw[←hw1];exact World.alloc_heap_at _ _ _ (by simp)
 clear hw1
 refine(HD.out _ x1).mono ?_
 rintro e w2 ⟨rfl,hB⟩
 have x2:=x1.trans hB
 have k2:=qa (qc r1 hB)
 have j2:=qa (qc q1 hB)
 have a3:=v3.out _ x2
 have a4:=v4.out _ x2
 have b3:=u3.out _ x2
 have b4:=u4.out _ x2
 clear hB r1 q1 x1 HD v3 v4 u3 u4
 generalize jm S.now=s3 at *
 generalize jm S.last=s4 at *
 go_wp2
 go_ret
 exact⟨Zm (by simp),x2⟩
set_option maxHeartbeats 1000000 in
set_option maxRecDepth 100000 in
theorem Vf (A1:Option Addr) (n1 c1:Nat) (A2:Option Addr) (n2 c2:Nat) (A3:Option Addr) (n3 c3:Nat) (A4:Option Addr) (n4 c4:Nat) (B1:Option Addr) (m1 d1:Nat) (B2:Option Addr) (m2 d2:Nat) (B3:Option Addr) (m3 d3:Nat) (B4:Option Addr) (m4 d4:Nat) (gen root next:Int) (A5:Option Addr) (c5:Nat) (B5:Option Addr) (d5:Nat) (S:Sto) (dead:List Int) (hbl:S.bs.length<1000000) (hwl:S.ws.length<1000000) (hdl:dead.length<1000000) (w:World)
  (h:qH w w.heap.size (.slice A1 n1 c1) (.slice A2 n2 c2) (.slice A3 n3 c3) (.slice A4 n4 c4) S) (h':qH w w.heap.size (.slice B1 m1 d1) (.slice B2 m2 d2) (.slice B3 m3 d3) (.slice B4 m4 d4) S)
  (hd:QF w w.heap.size (.slice A5 dead.length c5) dead) (hd':QF w w.heap.size (.slice B5 dead.length d5) dead) :
  Calls Tryz.prog 13 #[.agg (qC (.slice A1 n1 c1) (.slice A2 n2 c2) (.slice A3 n3 c3) (.slice A4 n4 c4) gen root next (.slice A5 dead.length c5)),.agg (qC (.slice B1 m1 d1) (.slice B2 m2 d2) (.slice B3 m3 d3) (.slice B4 m4 d4) gen root next (.slice B5 dead.length d5))] w (Ret (.bool true) w):=by
 have HD:=zH (fun W (hW:Ext w W)=>qeK A1 n1 c1 A2 n2 c2 A3 n3 c3 A4 n4 c4 B1 m1 d1 B2 m2 d2 B3 m3 d3 B4 m4 d4 S hbl hwl W (h.ext hW) (h'.ext hW))
 have HN:=zH (fun W (hW:Ext w W)=>qeE A5 c5 B5 d5 dead hdl W (by
  obtain⟨A,c,e,q1,q2,q3⟩:=hd
  exact⟨A,c,e,q1,q2,(q3.below hW).more hW.size⟩) (by
  obtain⟨A,c,e,q1,q2,q3⟩:=hd'
  exact⟨A,c,e,q1,q2,(q3.below hW).more hW.size⟩))
 clear h h' hbl hwl hd hd' hdl
 generalize dead.length=n5 at *
 have e1:(gen == gen)=true:=beq_self_eq_true _
 have e2:(root == root)=true:=beq_self_eq_true _
 have e3:(next == next)=true:=beq_self_eq_true _
 go_enter Tryz.func13,Tryz.ntmps13
 go_wp2_with fail
 generalize hw1:(World.alloc (World.alloc _ _) _)=w1
 have x1:Ext w w1:=by rw[←hw1];exact(Ext.alloc _ _).trans (Ext.alloc _ _)
 have r1:w1.heap[w.heap.size]?=some (.cells #[.slice A1 n1 c1,.slice A2 n2 c2,.slice A3 n3 c3,.slice A4 n4 c4,.int .u32 gen,.int .i64 root,.int .u32 next,.slice A5 n5 c5] 32 (0,0)):=by rw[←hw1];exact(Below.heap_alloc _ _ _ (by simp)).trans (World.alloc_heap_at _ _ _ rfl)
 have q1:w1.heap[w.heap.size+1]?=some (.cells #[.slice B1 m1 d1,.slice B2 m2 d2,.slice B3 m3 d3,.slice B4 m4 d4,.int .u32 gen,.int .i64 root,.int .u32 next,.slice B5 n5 d5] 32 (0,0)):=by rw[←hw1];exact World.alloc_heap_at _ _ _ (by simp)
 clear hw1
 refine(HD.out _ x1).mono ?_
 rintro e w2 ⟨rfl,hB⟩
 have x2:=x1.trans hB
 have k2:=qa (qc r1 hB)
 have j2:=qa (qc q1 hB)
 clear hB r1 q1 x1 HD
 go_wp2_with fail
 refine(HN.out _ x2).mono ?_
 rintro e w3 ⟨rfl,hB⟩
 have x3:=x2.trans hB
 clear hB k2 j2 HN x2
 go_wp2
 go_ret
 exact⟨rfl,x3⟩
theorem TP {S:Sto} {n:Nat} (h:Us S n=false):kK S∧n<1000000:=by
 unfold Us KJ Vs Gy at h
 simp only[Bool.or_eq_false_iff,decide_eq_false_iff_not] at h
 obtain⟨⟨⟨h1,h2⟩,h3,h4⟩,h5⟩:=h
 have hb:=UR (ls:=S.bs) (by omega)
 have hw:=UR (ls:=S.ws.map (·.2)) (by omega)
 exact⟨⟨by omega,by omega,fun l hl=>by have:=hb l hl;omega,fun p hp=>by have:=hw p.2 (List.mem_map.2 ⟨p,hp,rfl⟩);omega,by omega,by omega⟩,by omega⟩
end Go.Proofs.YtckhnchnbeoogaaGreat
