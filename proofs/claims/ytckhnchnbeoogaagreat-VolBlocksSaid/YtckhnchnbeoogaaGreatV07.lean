/- Texts Told3, Told4, NReadR, Concat, joined. -/
import Derived.Lib.AppendZerosOnto
import Derived.Lib.Walk
import Derived.Test.YtckhnchnbeoogaaGreatV02
import Derived.Test.YtckhnchnbeoogaaGreatV06
set_option linter.unusedSimpArgs false
set_option linter.unusedVariables false
namespace Go.Proofs.YtckhnchnbeoogaaGreat
open Go.RowKit
set_option maxHeartbeats 1000000 in
theorem Ua (vb vt:Value) (b t:List UInt8) (w:World) (hb:Bys w w.heap.size vb b) (ht:Bys w w.heap.size vt t) (hbl:b.length<1073741824) (htl:t.length<1073741824) :
  Calls Tryz.prog 125 #[vb,vt] w (Ret (.bool (jS b t)) w):=by
 have HS:=zH (qaP b t)
 have HBAD:Hid _:=zH (fun k=>@qcM b t k)
 have HALL:Hid (jS b t=(Vy b t b.length && decide (t.length≤b.length))):=rfl
 obtain⟨A,m,c,rfl⟩:∃ A m c,vb=.slice A m c:=by obtain⟨A,c,e,_⟩:=hb;exact⟨_,_,_,e⟩
 obtain⟨A2,m2,c2,rfl⟩:∃ A m c,vt=.slice A m c:=by obtain⟨A,c,e,_⟩:=ht;exact⟨_,_,_,e⟩
 obtain⟨e1,hc,hm,hA⟩:=hb.at_
 obtain⟨e2,hc2,hm2,hA2⟩:=ht.at_
 have hcb:∀ k,(hk:k<b.length)→∃ B off,A=some ⟨B,off,none⟩∧B<w.heap.size∧w.cell? ⟨B,off+k,none⟩=some (.int .u8 (b[k].toNat:Int)):=by
  intro k hk
  obtain⟨A',c',e,_,_,hr⟩:=hb
  cases e
  obtain⟨B,off,e,hB,hcell⟩:=hr.2 (by omega)
  exact⟨B,off,e,hB,hcell k _ (by rw[List.getElem?_map,List.getElem?_eq_getElem hk];rfl)⟩
 have hct:∀ k,(hk:k<t.length)→∃ B off,A2=some ⟨B,off,none⟩∧B<w.heap.size∧w.cell? ⟨B,off+k,none⟩=some (.int .u8 (t[k].toNat:Int)):=by
  intro k hk
  obtain⟨A',c',e,_,_,hr⟩:=ht
  cases e
  obtain⟨B,off,e,hB,hcell⟩:=hr.2 (by omega)
  exact⟨B,off,e,hB,hcell k _ (by rw[List.getElem?_map,List.getElem?_eq_getElem hk];rfl)⟩
 clear hb ht hA hA2
 subst e1
 subst e2
 go_enter Tryz.func125,Tryz.ntmps125
 go_wp2
 go_loopw [5] (fun i wr=>∃ k:Nat,k≤b.length∧i=.int .i64 (k:Int)∧Vy b t k=true∧Ext w wr) (fun i _=>b.length-(intOf i).toNat)
 case atStart=>exact⟨0,by omega,rfl,rfl,Ext.refl _⟩
 case round =>
  obtain⟨k,hk,rfl,hsk,hE⟩:=hrel
  by_cases hlt:k<b.length
  ·have hlt':=hlt
   have hx:=List.getElem?_eq_getElem hlt
   obtain⟨B,off,rfl,hB,hcell⟩:=hcb k hlt
   have hd:decide ((k:Int)<(b.length:Int))=true:=decide_eq_true (by omega)
   by_cases hkt:k<t.length
   ·have hkt':=hkt
    have hy:=List.getElem?_eq_getElem hkt
    obtain⟨B2,off2,rfl,hB2,hcell2⟩:=hct k hkt
    have hK1:Hid ((if k<t.length then b[k]? == t[k]? else b[k]? == some 0)=decide (b[k].toNat=t[k].toNat)):=by
     refine zH ?_
     rw[if_pos hkt,hx,hy,Bool.eq_iff_iff]
     simp[UInt8.toNat_inj]
    clear hx hy hcb hct
    generalize b[k].toNat=x at *
    generalize t[k].toNat=y at *
    generalize hlb:b.length=lb at *
    generalize hlt:t.length=lt at *
    have hk':=hlt'
    have hdt:decide ((k:Int)<(lt:Int))=true:=decide_eq_true (by omega)
    have hdt2:decide (k<lt)=true:=decide_eq_true (by omega)
    have hdg3:decide (lt≤k)=false:=decide_eq_false (by omega)
    go_wp2
    have p0:∀ W,Ext wr W→W.cell? ⟨B,off+k,none⟩=some (.int .u8 (x:Int)):=fun W h=>Ext.cell (hE.trans h) hcell
    have p1:∀ W,Ext wr W→W.cell? ⟨B2,off2+k,none⟩=some (.int .u8 (y:Int)):=fun W h=>Ext.cell (hE.trans h) hcell2
    by_cases hxy:x=y
    ·have hr1:((x:Int) == (y:Int))=true:=by simp;omega
     have hr2:decide ((x:Int)=(y:Int))=true:=by simp;omega
     have hr3:((x:Int) != (y:Int))=false:=by simp;omega
     refine qG (qE []) 28 (by kernel_rfl) (by kernel_rfl) (by kernel_rfl) (by decide) (by kernel_rfl) (by kernel_rfl) ?st ?walk
     case st=>exact qJ (fun _ h=>by cases h)
     case walk =>
      intro K hK
      dsimp only[List.take]
      repeat ((first|(refine ql ?_ (by rfl) (by rfl) (fun W hW _=>⟨W,?_,Ext.refl W⟩) ?_;rotate_left;(first|(go_simp;with_reducible rfl)|(go_simp;done)))|(refine qt (by rfl) ?_));try simp only[Act.put,qi,qe,qb,qg,zA,zB,zC])
      first
       |(refine ql (.pointer (some ⟨B,off+k,none⟩)) (by rfl) (by rfl) (fun W hW _=>⟨W,?_,Ext.refl W⟩) ?_
         ·go_simp
          rw[IntWalk.i64_in (k:Int) (by omega),if_pos (by omega)]
          simp
         simp only[Act.put,qi,qe,qb,qg,zA,zB,zC])
       |skip
      repeat ((first|(refine ql ?_ (by rfl) (by rfl) (fun W hW _=>⟨W,?_,Ext.refl W⟩) ?_;rotate_left;(first|(go_simp;with_reducible rfl)|(go_simp;done)))|(refine qt (by rfl) ?_));try simp only[Act.put,qi,qe,qb,qg,zA,zB,zC])
      first
       |(refine ql (.pointer (some ⟨B2,off2+k,none⟩)) (by rfl) (by rfl) (fun W hW _=>⟨W,?_,Ext.refl W⟩) ?_
         ·go_simp
          rw[IntWalk.i64_in (k:Int) (by omega),if_pos (by omega)]
          simp
         simp only[Act.put,qi,qe,qb,qg,zA,zB,zC])
       |skip
      repeat ((first|(refine ql ?_ (by rfl) (by rfl) (fun W hW _=>⟨W,?_,Ext.refl W⟩) ?_;rotate_left;(first|(go_simp;with_reducible rfl)|(go_simp;done)))|(refine qt (by rfl) ?_));try simp only[Act.put,qi,qe,qb,qg,zA,zB,zC])
      refine qP (hK _ _ fun W hW hF=>?_)
      clear hF hK
      have b7:Ext w W:=hE.trans hW
      dsimp only[List.drop]
      go_wp2
      go_roundw
      case rel=>exact⟨k+1,by omega,by go_num,by rw[HS.out,hsk,hK1.out,decide_eq_true hxy];rfl,b7⟩
      case measure=>simp[intOf];omega
    ·have hr1:((x:Int) == (y:Int))=false:=by simp;omega
     have hr2:decide ((x:Int)=(y:Int))=false:=by simp;omega
     have hr3:((x:Int) != (y:Int))=true:=by simp;omega
     refine qG (qE []) 28 (by kernel_rfl) (by kernel_rfl) (by kernel_rfl) (by decide) (by kernel_rfl) (by kernel_rfl) ?st ?walk
     case st=>exact qJ (fun _ h=>by cases h)
     case walk =>
      intro K hK
      dsimp only[List.take]
      repeat ((first|(refine ql ?_ (by rfl) (by rfl) (fun W hW _=>⟨W,?_,Ext.refl W⟩) ?_;rotate_left;(first|(go_simp;with_reducible rfl)|(go_simp;done)))|(refine qt (by rfl) ?_));try simp only[Act.put,qi,qe,qb,qg,zA,zB,zC])
      first
       |(refine ql (.pointer (some ⟨B,off+k,none⟩)) (by rfl) (by rfl) (fun W hW _=>⟨W,?_,Ext.refl W⟩) ?_
         ·go_simp
          rw[IntWalk.i64_in (k:Int) (by omega),if_pos (by omega)]
          simp
         simp only[Act.put,qi,qe,qb,qg,zA,zB,zC])
       |skip
      repeat ((first|(refine ql ?_ (by rfl) (by rfl) (fun W hW _=>⟨W,?_,Ext.refl W⟩) ?_;rotate_left;(first|(go_simp;with_reducible rfl)|(go_simp;done)))|(refine qt (by rfl) ?_));try simp only[Act.put,qi,qe,qb,qg,zA,zB,zC])
      first
       |(refine ql (.pointer (some ⟨B2,off2+k,none⟩)) (by rfl) (by rfl) (fun W hW _=>⟨W,?_,Ext.refl W⟩) ?_
         ·go_simp
          rw[IntWalk.i64_in (k:Int) (by omega),if_pos (by omega)]
          simp
         simp only[Act.put,qi,qe,qb,qg,zA,zB,zC])
       |skip
      repeat ((first|(refine ql ?_ (by rfl) (by rfl) (fun W hW _=>⟨W,?_,Ext.refl W⟩) ?_;rotate_left;(first|(go_simp;with_reducible rfl)|(go_simp;done)))|(refine qt (by rfl) ?_));try simp only[Act.put,qi,qe,qb,qg,zA,zB,zC])
      refine qP (hK _ _ fun W hW hF=>?_)
      clear hF hK
      have b7:Ext w W:=hE.trans hW
      dsimp only[List.drop]
      go_wp2
      go_ret
      exact⟨by rw[HBAD.out k hk' (hK1.out.trans (decide_eq_false hxy))];rfl,b7⟩
   ·have hK1:Hid ((if k<t.length then b[k]? == t[k]? else b[k]? == some 0)=decide (b[k].toNat=0)):=by
     refine zH ?_
     rw[if_neg hkt,hx,Bool.eq_iff_iff]
     simp[←UInt8.toNat_inj]
    clear hx hcb hct
    generalize b[k].toNat=x at *
    generalize hlb:b.length=lb at *
    generalize hlt:t.length=lt at *
    have hk':=hlt'
    have hdt:decide ((k:Int)<(lt:Int))=false:=decide_eq_false (by omega)
    have hdg:decide ((k:Int)≥(lt:Int))=true:=decide_eq_true (by omega)
    have hdt2:decide (k<lt)=false:=decide_eq_false (by omega)
    have hdg3:decide (lt≤k)=true:=decide_eq_true (by omega)
    have hdg2:decide ((lt:Int)≤(k:Int))=true:=decide_eq_true (by omega)
    go_wp2
    have p0:∀ W,Ext wr W→W.cell? ⟨B,off+k,none⟩=some (.int .u8 (x:Int)):=fun W h=>Ext.cell (hE.trans h) hcell
    by_cases hxy:x=0
    ·have hr1:((x:Int) == 0)=true:=by simp;omega
     have hr2:decide ((x:Int)=0)=true:=by simp;omega
     have hr3:((x:Int) != 0)=false:=by simp;omega
     refine qG (qE []) 28 (by kernel_rfl) (by kernel_rfl) (by kernel_rfl) (by decide) (by kernel_rfl) (by kernel_rfl) ?st ?walk
     case st=>exact qJ (fun _ h=>by cases h)
     case walk =>
      intro K hK
      dsimp only[List.take]
      repeat ((first|(refine ql ?_ (by rfl) (by rfl) (fun W hW _=>⟨W,?_,Ext.refl W⟩) ?_;rotate_left;(first|(go_simp;with_reducible rfl)|(go_simp;done)))|(refine qt (by rfl) ?_));try simp only[Act.put,qi,qe,qb,qg,zA,zB,zC])
      first
       |(refine ql (.pointer (some ⟨B,off+k,none⟩)) (by rfl) (by rfl) (fun W hW _=>⟨W,?_,Ext.refl W⟩) ?_
         ·go_simp
          rw[IntWalk.i64_in (k:Int) (by omega),if_pos (by omega)]
          simp
         simp only[Act.put,qi,qe,qb,qg,zA,zB,zC])
       |skip
      repeat ((first|(refine ql ?_ (by rfl) (by rfl) (fun W hW _=>⟨W,?_,Ext.refl W⟩) ?_;rotate_left;(first|(go_simp;with_reducible rfl)|(go_simp;done)))|(refine qt (by rfl) ?_));try simp only[Act.put,qi,qe,qb,qg,zA,zB,zC])
      refine qP (hK _ _ fun W hW hF=>?_)
      clear hF hK
      have b7:Ext w W:=hE.trans hW
      dsimp only[List.drop]
      go_wp2
      go_roundw
      case rel=>exact⟨k+1,by omega,by go_num,by rw[HS.out,hsk,hK1.out,decide_eq_true hxy];rfl,b7⟩
      case measure=>simp[intOf];omega
    ·have hr1:((x:Int) == 0)=false:=by simp;omega
     have hr2:decide ((x:Int)=0)=false:=by simp;omega
     have hr3:((x:Int) != 0)=true:=by simp;omega
     refine qG (qE []) 28 (by kernel_rfl) (by kernel_rfl) (by kernel_rfl) (by decide) (by kernel_rfl) (by kernel_rfl) ?st ?walk
     case st=>exact qJ (fun _ h=>by cases h)
     case walk =>
      intro K hK
      dsimp only[List.take]
      repeat ((first|(refine ql ?_ (by rfl) (by rfl) (fun W hW _=>⟨W,?_,Ext.refl W⟩) ?_;rotate_left;(first|(go_simp;with_reducible rfl)|(go_simp;done)))|(refine qt (by rfl) ?_));try simp only[Act.put,qi,qe,qb,qg,zA,zB,zC])
      first
       |(refine ql (.pointer (some ⟨B,off+k,none⟩)) (by rfl) (by rfl) (fun W hW _=>⟨W,?_,Ext.refl W⟩) ?_
         ·go_simp
          rw[IntWalk.i64_in (k:Int) (by omega),if_pos (by omega)]
          simp
         simp only[Act.put,qi,qe,qb,qg,zA,zB,zC])
       |skip
      repeat ((first|(refine ql ?_ (by rfl) (by rfl) (fun W hW _=>⟨W,?_,Ext.refl W⟩) ?_;rotate_left;(first|(go_simp;with_reducible rfl)|(go_simp;done)))|(refine qt (by rfl) ?_));try simp only[Act.put,qi,qe,qb,qg,zA,zB,zC])
      refine qP (hK _ _ fun W hW hF=>?_)
      clear hF hK
      have b7:Ext w W:=hE.trans hW
      dsimp only[List.drop]
      go_wp2
      go_ret
      exact⟨by rw[HBAD.out k hk' (hK1.out.trans (decide_eq_false hxy))];rfl,b7⟩
  ·obtain rfl:k=b.length:=by omega
   go_wp2
   go_ret
   exact⟨by rw[HALL.out,hsk,Bool.true_and];rfl,hE⟩
theorem UL {xs:List It} {k:Nat} (h:k<xs.length):zu (xs.take (k+1))=zu (xs.take k)++jQ xs[k]:=by
 rw[List.take_succ_eq_append_getElem h,Kq]
set_option maxHeartbeats 2000000 in
theorem told_any (lvl:Nat) (hlv:lvl<256) (A:Option Addr) (n c:Nat) (xs:List It) (w:World) (hx:Its w w.heap.size (.slice A n c) xs) (hok:∀ x∈xs,Yk x) (hl:xs.length≤5) :
  Calls Tryz.prog 126 #[Zv lvl A n c] w (zE (fun v w'=>w'.ownsRow w.heap.size 5 1 v (jJ lvl xs).length ((jJ lvl xs).map bv)) w):=by
 obtain⟨i0,hi,hz0,hz1,hz2⟩:=info_parts Tryz.info_u8
 obtain⟨hn,hnc,hcm,hA⟩:=hx.at_
 subst hn
 have HX:=zH hx
 clear hx
 have HT:Hid (jJ lvl xs=[78,UInt8.ofNat lvl,UInt8.ofNat xs.length]++zu (xs.take xs.length)):=by
  refine zH ?_
  rw[List.take_length]
  simp[jJ]
 have HTK:=zH (fun k h=>@UL xs k h)
 have hb1:bv (UInt8.ofNat lvl)=.int .u8 (lvl:Int):=by simp[bv];omega
 have hb2:bv (UInt8.ofNat xs.length)=.int .u8 (xs.length:Int):=by simp[bv];omega
 have hb0:bv 78=.int .u8 78:=rfl
 have HB:=zH (show ([78,UInt8.ofNat lvl,UInt8.ofNat xs.length]:List UInt8).map bv=[.int .u8 78,.int .u8 (lvl:Int),.int .u8 (xs.length:Int)] by simp[hb0,hb1,hb2])
 have HIL:=zH (fun k=>VA (xs.take k) (fun x hx=>hok x (List.mem_of_mem_take hx)))
 replace hok:=zH hok
 clear hb0 hb1 hb2
 go_enter Tryz.func126,Tryz.ntmps126
 go_wp2
 generalize hw1:(World.alloc (World.alloc _ _) _)=w1
 have b1:Ext w w1:=by rw[←hw1];exact(Ext.alloc _ _).trans (Ext.alloc _ _)
 have r1:w1.heap[w.heap.size]?=some (.cells #[.int .i64 lvl,.slice A xs.length c] 118 (0,0)):=by rw[←hw1];exact(Below.heap_alloc _ _ _ (by simp)).trans (World.alloc_heap_at _ _ _ rfl)
 have o1:w1.ownsRow (w.heap.size+1) 5 1 (.slice (some ⟨w.heap.size+1,0,none⟩) 3 3) (3+(zu (xs.take 0)).length) (([78,UInt8.ofNat lvl,UInt8.ofNat xs.length]++zu (xs.take 0)).map bv):=by
  have:=World.ownsRow_lit (base:=w.heap.size+1) (e:=5) (size:=1) (World.alloc w (Obj.cells #[.int .i64 lvl,.slice A xs.length c] 118)) #[.int .u8 78,.int .u8 (lvl:Int),.int .u8 (xs.length:Int)] 3 (by simp) (by unfold maxLen;omega) (by simp)
  rw[←hw1]
  simp only[List.take_zero,zu,List.flatMap_nil,List.append_nil,List.length_nil,Nat.add_zero,HB.out]
  simpa using this
 clear hw1
 go_loopw [3,4] (fun v i wr=>∃ k:Nat,k≤xs.length∧i=.int .i64 (k:Int)∧wr.ownsRow (w.heap.size+1) 5 1 v (3+(zu (xs.take k)).length) (([78,UInt8.ofNat lvl,UInt8.ofNat xs.length]++zu (xs.take k)).map bv)∧Below (w.heap.size+1) w1 wr)
  (fun _ i _=>xs.length-(intOf i).toNat)
 case atStart=>exact⟨0,Nat.zero_le _,rfl,o1,Below.refl _ _⟩
 case round =>
  clear o1
  obtain⟨k,hk,rfl,hown,hB⟩:=hrel
  have rr:=zO r1 (Nat.lt_succ_self _) hB
  have kr:=qa rr
  have bw:Ext w wr:=Below.trans b1 (Below.mono hB (Nat.le_succ _))
  have hsz:w.heap.size+1≤wr.heap.size:=(zG.1 rr).1
  by_cases hlt:k<xs.length
  ·obtain⟨b,off,rfl,hb⟩:=hA (by omega)
   obtain⟨A',c',c0,c1,c2,c3,c4,hby⟩:=(HX.out.ext bw).item k hlt
   have hoki:=hok.out _ (List.getElem_mem hlt)
   have hil:=HIL.out k
   have htk:=HTK.out k hlt
   rw[List.length_take] at hil
   have hlen:=XH xs[k]
   generalize xs[k]=x at *
   have HC:=zH (qbb x hoki A' c' wr hby)
   have hxv:=hoki.2.2.2.2
   clear hby hoki
   replace htk:=zH htk
   go_wp2_with fail
   refine HC.out.mono ?_
   clear HC
   rintro e w3 ⟨u,rfl,hu,hB3⟩
   obtain⟨A3,c3',rfl,hr3⟩:=GK hu
   have o3:=QK hown hB3
   have rr3:=qc rr hB3
   have bb3:Below (w.heap.size+1) w1 w3:=Below.trans hB (Below.mono hB3 hsz)
   have s3:w.heap.size+1≤w3.heap.size:=(zG.1 rr3).1
   clear kr hu hown
   go_wp2_with (at_builtin;refine qI ?_)
   refine Qc.go (qM _ rfl (.tmp 20) (.tmp 26) 26 rfl (w.heap.size+1) 5 i0 (.int .u8 0) 1 1 Tryz.underlying26 hi hz0 hz1 hz2 rfl (by decide) _ _ _ rfl o3 w3.heap.size A3 (12+x.val.length) c3' _ rfl hr3 (zT _) (by omega) (by decide) s3 ?_)
   intro v4 w4 o4 _hg hb4 _hx
   clear _hg _hx
   go_wp2
   go_roundw
   case rel =>
    refine⟨k+1,by omega,by go_num,?_,Below.trans bb3 hb4⟩
    rw[htk.out,List.length_append,←List.append_assoc,List.map_append,hlen,←Nat.add_assoc]
    exact o4
   case measure=>simp[intOf];omega
  ·obtain rfl:k=xs.length:=by omega
   go_wp2
   go_ret
   refine⟨_,rfl,?_,bw⟩
   rw[HT.out]
   refine QT ?_ (Nat.le_succ _)
   rw[List.length_append]
   exact hown
theorem qeg {l r:List UInt8} {xs:List It} (hl:l.length=128) (h:QB (l.drop 7) (l[6]?.getD 0).toNat=some (xs,r)) :
  jS (l.drop 4) (jJ (l[5]?.getD 0).toNat xs)=decide ((l[4]?.getD 0).toNat=78∧ZE r=true):=by
 obtain⟨e,_⟩:=JG h
 have hxl:=jl h
 have h4:l.drop 4=l[4]?.getD 0 :: l[5]?.getD 0 :: l[6]?.getD 0 :: l.drop 7:=by
  rw[List.drop_eq_getElem_cons (by omega),List.drop_eq_getElem_cons (by omega),List.drop_eq_getElem_cons (by omega),List.getElem?_eq_getElem (by omega),List.getElem?_eq_getElem (by omega),List.getElem?_eq_getElem (by omega)]
  rfl
 rw[Bool.eq_iff_iff,qbW,decide_eq_true_eq,h4,e]
 unfold jJ
 rw[hxl]
 simp only[List.cons_append,List.cons.injEq,Int.toNat_natCast,UInt8.ofNat_toNat,true_and,List.append_cancel_left_eq]
 have h78:l[4]?.getD 0=78↔(l[4]?.getD 0).toNat=78:=⟨fun h=>by rw[h];rfl,fun h=>UInt8.toNat.inj h⟩
 rw[h78]
 constructor
 ·rintro ⟨r',⟨h1,rfl⟩,h2⟩;exact⟨h1,h2⟩
 ·rintro ⟨h1,h2⟩;exact⟨r,⟨h1,rfl⟩,h2⟩
theorem qaI {p0 p1 p2 k:Nat} {l7:List UInt8} (hk:k≤p2) (h:QB l7 k=none):Jk p0 p1 p2 l7=none:=by
 by_cases hh:p0=78∧p2≤5
 ·obtain⟨rfl,_⟩:=hh
  exact Xx (YI h p2 hk)
 ·exact vC hh
theorem qdi {p0 p1 p2 k:Nat} {l7 r:List UInt8} {xs:List It} (hk:k=p2∨(k=6∧k≤p2)) (h:QB l7 k=some (xs,r)):Jk p0 p1 p2 l7=if qR p1 xs=true∧p0=78∧ZE r=true then some ((p1:Int),xs) else none:=by
 have hxl:=jl h
 by_cases hm:qR p1 xs=true
 ·have h5:xs.length≤5:=by
   unfold qR zN at hm
   simp at hm
   omega
  obtain rfl:k=p2:=by omega
  by_cases h0:p0=78
  ·subst h0
   rw[VX (by omega) h]
   simp
  ·rw[vC (fun x=>h0 x.1),if_neg (fun x=>h0 x.2.1)]
 ·rw[if_neg (fun x=>hm x.1)]
  by_cases hh:p0=78∧p2≤5
  ·obtain⟨rfl,h5⟩:=hh
   obtain rfl:k=p2:=by omega
   rw[VX h5 h,if_neg (fun x=>hm x.1)]
  ·exact vC hh
theorem VL {lvl:Int} {xs:List It} (hm:qR lvl xs=true):xs.length≤5:=by
 unfold qR zN at hm
 simp at hm
 omega
set_option maxHeartbeats 4000000 in
set_option maxRecDepth 100000 in
theorem qcP (v:Value) (l:List UInt8) (w:World) (h:Bys w w.heap.size v l) :
  Calls Tryz.prog 94 #[v] w (zE (NodeP w.heap.size (QC l)) w):=by
 by_cases hl:l.length=128
 case neg =>
  have hq:QC l=none:=by unfold QC;rw[if_neg (fun x=>hl x.1)]
  rw[hq]
  have HO:=zH (fun W hW=>qex v l hl W hW)
  go_enter Tryz.func94,Tryz.ntmps94
  go_wp2_with fail
  generalize hw1:(World.alloc _ _)=w1
  have b1:Ext w w1:=by rw[←hw1];exact Ext.alloc _ _
  have r1:w1.heap[w.heap.size]?=some (.cells #[.int .i64 0,.slice none 0 0] 118 (0,0)):=by rw[←hw1];exact World.alloc_heap_at _ _ _ rfl
  clear hw1
  refine(HO.out _ ((h.below b1).more b1.size)).mono ?_
  rintro e w2 ⟨rfl,hB⟩
  have b2:Below w.heap.size w w2:=Ext.trans b1 hB
  have r2:=qc r1 hB
  have k2:=qa r2
  have f2:=qd r2
  go_wp2
  refine bodyPost_ret (v:=Zj 3) (by simp[results,Tryz.results94,go_sem,k2]) rfl ⟨_,rfl,⟨3,by decide,rfl⟩,(by repeat' (first|with_reducible exact Below.refl _ _|with_reducible assumption|with_reducible apply Below.drew|with_reducible apply qp|with_reducible refine Below.alloc ?_ ?_ _|with_reducible refine Below.setCell ?_ ?_ _|(simp;done)|(simp;omega)|omega))⟩
 case pos =>
  have HO:=zH (fun W hW=>qed v l hl W hW)
  generalize hR:QC l=R
  replace hR:=zH hR.symm
  go_enter Tryz.func94,Tryz.ntmps94
  go_wp2_with fail
  generalize hw1:(World.alloc _ _)=w1
  have b1:Ext w w1:=by rw[←hw1];exact Ext.alloc _ _
  have r1:w1.heap[w.heap.size]?=some (.cells #[.int .i64 0,.slice none 0 0] 118 (0,0)):=by rw[←hw1];exact World.alloc_heap_at _ _ _ rfl
  clear hw1
  refine(HO.out _ ((h.below b1).more b1.size)).mono ?_
  clear HO h
  rintro e w2 ⟨u,rfl,hu,hB⟩
  have b2:Ext w w2:=Ext.trans b1 hB
  have r2:=qc r1 hB
  have s1:w.heap.size<w1.heap.size:=(zG.1 r1).1
  by_cases hs:Ks l=true
  case neg =>
   have hs':Ks l=false:=by simpa using hs
   obtain rfl:R=none:=by rw[hR.out];unfold QC;rw[if_neg (fun x=>hs x.2.1)]
   rw[hs'] at hu
   simp only[Bool.false_eq_true,if_false] at hu
   subst hu
   clear b1 r1 hB hR hs hs'
   have b2':Below w.heap.size w w2:=b2
   have k2:=qa r2
   have f2:=qd r2
   go_wp2
   refine bodyPost_ret (v:=Zj 8) (by simp[results,Tryz.results94,go_sem,k2]) rfl ⟨_,rfl,⟨8,by decide,rfl⟩,(by repeat' (first|with_reducible exact Below.refl _ _|with_reducible assumption|with_reducible apply Below.drew|with_reducible apply qp|with_reducible refine Below.alloc ?_ ?_ _|with_reducible refine Below.setCell ?_ ?_ _|(simp;done)|(simp;omega)|omega))⟩
  case pos =>
   rw[hs,if_pos rfl] at hu
   obtain⟨u',rfl,A,c,rfl,hb,hf⟩:=hu
   have hb3:(l.drop 4).length=124:=by simp;omega
   obtain⟨-,hc,hm,hA⟩:=hb.at_
   obtain⟨b,off,rfl,hbl⟩:=hA (by omega)
   have hbw:w.heap.size<b:=Nat.lt_of_lt_of_le s1 (hf _ _ _ rfl)
   have hcell:∀ j,j<124→w2.cell? ⟨b,off+j,none⟩=some (.int .u8 ((l[4+j]?.getD 0).toNat:Int)):=by
    intro j hj
    obtain⟨A,c',e,_,_,hr⟩:=hb
    simp only[Value.slice.injEq] at e
    obtain⟨rfl,_,rfl⟩:=e
    obtain⟨b',off',e,_,hcell⟩:=hr.2 (by omega)
    simp only[Option.some.injEq,Addr.mk.injEq,and_true] at e
    obtain⟨rfl,rfl⟩:=e
    refine hcell j _ ?_
    rw[List.getElem?_map,List.getElem?_drop,List.getElem?_eq_getElem (by omega)]
    rfl
   have c0:=hcell 0 (by omega)
   have c1:=hcell 1 (by omega)
   have c2:=hcell 2 (by omega)
   have hrest:Bys w2 w2.heap.size (.slice (some ⟨b,off+3,none⟩) 121 (c-3)) (l.drop 7):=by
    have:=hb.sub (a:=3) (k:=121) (by omega)
    rwa [List.drop_drop,List.take_of_length_le (by simp;omega)] at this
   have hN:R=Jk (l[4]?.getD 0).toNat (l[5]?.getD 0).toNat (l[6]?.getD 0).toNat (l.drop 7):=by rw[hR.out];exact XD hl hs
   have hl7:(l.drop 7).length=121:=by simp;omega
   have HST:=zH (fun xs r=>@qeg l r xs hl)
   have u1:=(l[5]?.getD 0).toNat_lt
   have u2:=(l[6]?.getD 0).toNat_lt
   have hb4:Bys w2 w2.heap.size (.slice (some ⟨b,off,none⟩) 124 c) (l.drop 4):=hb
   clear hcell hb hA hB r1 b1 hf
   rw[Nat.add_zero] at c0
   clear hR
   generalize l.drop 4=l4 at *
   generalize (l[4]?.getD 0).toNat=p0 at *
   generalize (l[5]?.getD 0).toNat=p1 at *
   generalize (l[6]?.getD 0).toNat=p2 at *
   generalize l.drop 7=l7 at *
   have HST0:=zH (fun k (hk:k≤p2) h=>hN.trans (@qaI p0 p1 p2 k l7 hk h))
   have HEND:=zH (fun k r xs hk h=>hN.trans (@qdi p0 p1 p2 k l7 r xs hk h))
   clear hN
   unfold maxLen at hm
   have s2:w.heap.size<w2.heap.size:=(zG.1 r2).1
   have b2':Below w.heap.size w w2:=b2
   go_wp2
   generalize hw3:(World.alloc _ _)=w3
   have b3:Ext w2 w3:=by rw[←hw3];exact Ext.alloc _ _
   have r3:w3.heap[w2.heap.size]?=some (.cells #[.int .i64 p1,.slice none 0 0] 118 (0,0)):=by rw[←hw3];exact World.alloc_heap_at _ _ _ rfl
   have hre:Bys w3 w2.heap.size (.slice (some ⟨b,off+3,none⟩) 121 (c-3)) l7:=hrest.below b3
   have hb43:=hb4.below b3
   have rr3:=qc r2 b3
   have b23:Below w2.heap.size w2 w3:=b3
   have c23:w3.cell? ⟨b,off+2,none⟩=some (.int .u8 (p2:Int)):=Ext.cell b3 c2
   clear hw3 hrest r2 c0 c1 c2 hb4
   generalize hnb:w2.heap.size=nb at *
   go_loopw [7,8] (fun rs i wr=>∃ (k:Nat) (xs:List It) (r:List UInt8) (o cc:Nat) (v:Value) (ps:List (It×Value)),k≤p2∧k≤6∧i=.int .i64 (k:Int)∧QB l7 k=some (xs,r)∧rs=.slice (some ⟨b,o,none⟩) r.length cc∧Bys w3 nb rs r ∧
     wr.heap[nb]?=some (.cells #[.int .i64 p1,v] 118 (0,0))∧Jm (nb+1) (nb+1) wr v ps∧ps.map (·.1)=xs∧Below nb w3 wr) (fun _ i _=>p2-(intOf i).toNat)
   case atStart=>exact⟨0,[],l7,off+3,c-3,.slice none 0 0,[],by omega,by omega,rfl,rfl,by rw[hl7],hre,r3,Jm.nil _ _ _,rfl,Below.refl _ _⟩
   case round =>
    obtain⟨k,xs,r,o,cc,v1,ps,hk,hk6,rfl,hits,rfl,hbr,rn,hrow,hps,hB⟩:=hrel
    have c2r:wr.cell? ⟨b,off+2,none⟩=some (.int .u8 (p2:Int)):=(Below.cell hB (p:=⟨b,off+2,none⟩) hbl).trans c23
    by_cases hlt:k<p2∧k<6
    ·obtain⟨hlt,hlt6⟩:=hlt
     have hlt':=hlt
     have hsn:nb<wr.heap.size:=(zG.1 rn).1
     have hrl:=JL hits (by omega) hl7
     have hbr':Bys wr wr.heap.size (.slice (some ⟨b,o,none⟩) r.length cc) r:=(hbr.below hB).more (by omega)
     have hat:=hbr.at_
     have HR:=zH (qeI _ r (by omega) wr hbr')
     have HBAD:=zH (fun h=>HST0.out (k+1) (by omega) (XM hits h (k+1) (by omega)))
     have HNX:=zH (fun x n h=>@YG _ _ _ n _ x hits h)
     have HSM:=zH (fun x n=>@vP r x n)
     have HSUB:=zH (fun n (h:n+(r.length-n)≤r.length)=>hbr.sub h)
     have hkn:=jl hits
     have hpl:ps.length=k:=by rw[←hkn,←hps,List.length_map]
     generalize hq:QA r=q at *
     clear hbr hbr'
     have rr:=zO rr3 s2 hB
     have hd1:decide ((k:Int)<(p2:Int))=true:=decide_eq_true (by omega)
     have hd2:decide ((k:Int)≤5)=true:=decide_eq_true (by omega)
     have hd3:decide (k<p2)=true:=decide_eq_true (by omega)
     have hd4:decide (k≤5)=true:=decide_eq_true (by omega)
     go_wp2_with fail
     refine HR.out.mono ?_
     rintro e w4 ⟨u,rfl,hu,hB4⟩
     have rr4:=qc rr hB4
     rcases q with _|⟨x,n⟩
     ·obtain rfl:u=XZ:=hu
      obtain rfl:R=none:=HBAD.out rfl
      clear HR HBAD HNX HSM HSUB HST HST0 HEND rr
      have kk4:=qa rr4
      have ff4:=qd rr4
      have s4:w.heap.size<w4.heap.size:=(zG.1 rr4).1
      have bw4:Below w.heap.size w w4:=Below.trans b2' (Below.trans (Below.mono b23 (by omega)) (Below.trans (Below.mono hB (by omega)) (Below.mono hB4 (by omega))))
      go_wp2
      generalize hwf:(World.alloc _ _)=wf
      have rf:wf.heap[w.heap.size]?=some (.cells #[.int .i64 0,.slice none 0 0] 118 (0,0)):=by rw[←hwf];exact(Below.heap_alloc _ _ _ (by simpa using s4)).trans (qh (qh rr4 0 _) 1 _)
      have bf:Below w.heap.size w wf:=by rw[←hwf];exact(by repeat' (first|with_reducible exact Below.refl _ _|with_reducible assumption|with_reducible apply Below.drew|with_reducible apply qp|with_reducible refine Below.alloc ?_ ?_ _|with_reducible refine Below.setCell ?_ ?_ _|(simp;done)|(simp;omega)|omega))
      have kf:=qa rf
      exact bodyPost_ret (v:=Zj 8) (by simp[results,Tryz.results94,go_sem,kf]) rfl ⟨_,rfl,⟨8,by decide,rfl⟩,bf⟩
     ·obtain⟨i,rfl,A',c',rfl,hby,hfr⟩:=hu
      obtain⟨g1,g2,g3,g4,g5⟩:=HSM.out x n rfl
      have hsb:=HSUB.out n (by omega)
      rw[List.take_of_length_le (by simp)] at hsb
      have hn12:0<n:=by omega
      clear HR HSM HSUB HBAD g1 g3 g4 g5
      have hrow4:=hrow.ext hB4
      have hvl:=zY hrow.1
      have s4:=hB4.size
      have rn4:=qc rn hB4
      have kn4:=qa rn4
      have fn4:=qd rn4
      have hs4:nb<w4.heap.size:=by omega
      go_wp2_with (at_builtin;refine qI ?_)
      generalize hw5:(World.alloc w4 _)=w5
      have b5:Ext w4 w5:=by rw[←hw5];exact Ext.alloc _ _
      have e5:w4.heap.size+1=w5.heap.size:=by rw[←hw5];simp
      clear hw5
      rw[e5]
      clear e5
      have hrow5:=hrow4.ext b5
      have rn5:=qc rn4 b5
      have hby5:=(hby.below b5).more b5.size
      have hB5:Below nb w3 w5:=Below.trans hB (Below.trans (Below.mono hB4 (by omega)) (Below.mono b5 (by omega)))
      have hs5:=b5.size
      obtain⟨i0,hi,hz0,hz1,hz2⟩:=info_parts Tryz.info_item
      refine Qc.go (QP _ rfl (.tmp 50) (.tmp 52) 44 rfl (nb+1) 38 i0 _ 5 48 Tryz.underlying44 hi hz0 hz1 hz2 rfl (by decide) _ _ _ rfl hrow5.1 #[.int .u8 x.k,.int .u32 x.i,.int .u32 x.o,.int .i64 x.r,.slice A' x.val.length c'] rfl rfl (by simp[Value.oneCell']) (by omega) (by decide) (by omega) ?_)
      intro v2 W hown hgr hBW hat2
      have rnW:W.heap[nb]?=_:=(hBW.block nb (by omega)).trans rn5
      have kW:=qa rnW
      have fW:=qd rnW
      obtain⟨A2,c2',rfl,_,_⟩:=qw hown
      have hrW:=hrow5.push x A' c' hby5 (hfr.mono (by omega)) (zV.of_from hfr (fun g hg=>(hvl g hg).2)) rfl ⟨hown,hat2⟩ hgr
      rw[hpl] at hrW
      have hBW':Below nb w3 W:=Below.trans hB5 (Below.mono hBW (Nat.le_succ _))
      have hcc:=hat.2.1
      clear kn4 fn4
      by_cases hcn:cc=n
      ·have hsb':Bys w3 nb (.slice (some ⟨b,o,none⟩) (r.length-n) (0)) (r.drop n):=by
        first
         |exact hsb
         |(have hr0:r.length-n=0:=by omega
           have hd0:r.drop n=[]:=List.eq_nil_of_length_eq_zero (by rw[List.length_drop];exact hr0)
           rw[hr0,hd0]
           exact⟨_,_,rfl,Nat.zero_le _,by simp[maxLen],rfl,fun h=>absurd h (by simp)⟩)
       go_wp2
       go_roundw
       case rel =>
        refine⟨k+1,xs++[x],r.drop n,o,0,_,ps++[(x,.slice A' x.val.length c')],by omega,by omega,by go_num,HNX.out x n rfl,by rw[List.length_drop],hsb',qh rnW 1 _,?_,by simp[hps],?_⟩
        ·exact hrW.setCell (p:=⟨nb,1,none⟩) (Nat.lt_succ_self _) (Nat.lt_succ_self _) _
        ·exact Below.setCell hBW' (p:=⟨nb,1,none⟩) (Nat.le_refl _) _
       case measure=>simp[intOf];omega
      ·have hsb':Bys w3 nb (.slice (some ⟨b,o+n,none⟩) (r.length-n) (cc-n)) (r.drop n):=by
        first
         |exact hsb
         |(have hr0:r.length-n=0:=by omega
           have hd0:r.drop n=[]:=List.eq_nil_of_length_eq_zero (by rw[List.length_drop];exact hr0)
           rw[hr0,hd0]
           exact⟨_,_,rfl,Nat.zero_le _,by simp[maxLen],rfl,fun h=>absurd h (by simp)⟩)
       go_wp2
       go_roundw
       case rel =>
        refine⟨k+1,xs++[x],r.drop n,o+n,cc-n,_,ps++[(x,.slice A' x.val.length c')],by omega,by omega,by go_num,HNX.out x n rfl,by rw[List.length_drop],hsb',qh rnW 1 _,?_,by simp[hps],?_⟩
        ·exact hrW.setCell (p:=⟨nb,1,none⟩) (Nat.lt_succ_self _) (Nat.lt_succ_self _) _
        ·exact Below.setCell hBW' (p:=⟨nb,1,none⟩) (Nat.le_refl _) _
       case measure=>simp[intOf];omega
    ·have hke:k=p2∨(k=6∧k≤p2):=by omega
     have hsn:nb<wr.heap.size:=(zG.1 rn).1
     have hR:=HEND.out k r xs hke hits
     have hb4r:=(hb43.below hB).more (Nat.le_of_lt hsn)
     obtain⟨hits',A2,c2',rfl⟩:=hrow.its (Nat.le_refl _)
     rw[hps] at hits'
     have hxl:ps.length=xs.length:=by rw[←hps,List.length_map]
     rw[hxl] at hits' rn
     have rr:=zO rr3 s2 hB
     have bw:Below w.heap.size w wr:=Below.trans b2' (Below.trans (Below.mono b23 (by omega)) (Below.mono hB (by omega)))
     have hxk:=jl hits
     have HOK:=(JG hits).2
     have HSA:qR (p1:Int) xs=true→jS l4 (jJ (p1:Int) xs)=decide (p0=78∧ZE r=true):=fun hm=>by
      have:=VL hm
      obtain rfl:k=p2:=by omega
      exact HST.out xs r hits
     have HC:=zH (fun W (hW:Ext wr W)=>nmay_all p1 A2 xs.length c2' xs W (hits'.its.ext hW))
     have HT:=zH (fun W (hW:Ext wr W) (hl5:xs.length≤5)=>told_any p1 (by omega) A2 xs.length c2' xs W (hits'.its.ext hW) (fun x hx=>(HOK x hx).1) hl5)
     have hxb:=VA xs (fun x hx=>(HOK x hx).1)
     replace hR:=zH hR
     replace HSA:=zH HSA
     clear HST HST0 HEND hbr hrow hits HOK hb43
     have kn:=qa rn
     replace hxk:=zH hxk
     have hke':k=p2∨(k=6∧k<p2):=by omega
     clear hke
     rcases hke' with hk2|⟨hk2,hk3⟩
     ·have hd1:decide ((k:Int)<(p2:Int))=false:=decide_eq_false (by omega)
      have hd2:decide (k<p2)=false:=decide_eq_false (by omega)
      have hd3:k=6→decide ((k:Int)≤5)=false:=fun h=>decide_eq_false (by omega)
      have hd4:k=6→decide (k≤5)=false:=fun h=>decide_eq_false (by omega)
      first
       |(have hd3':=hd3 hk2
         have hd4':=hd4 hk2
         clear hk3)
       |skip
      clear hk2 hd3 hd4
      go_wp2_with fail
      refine(HC.out _ (Ext.refl _)).mono ?_
      rintro e w4 ⟨rfl,hB4⟩
      have rr4:=qc rr hB4
      have bw4:Below w.heap.size w w4:=Below.trans bw (Below.mono hB4 (by omega))
      have s4:w.heap.size<w4.heap.size:=(zG.1 rr4).1
      have rn4:=qc rn hB4
      clear HC kn rr
      by_cases hmay:qR (p1:Int) xs=true
      case neg =>
       obtain rfl:R=none:=by rw[hR.out,if_neg (fun h=>hmay h.1)]
       have hmay':qR (p1:Int) xs=false:=by simpa using hmay
       rw[hmay']
       clear hR hmay hmay' HT HSA
       have k4:=qa rr4
       have f4:=qd rr4
       go_wp2
       generalize hwf:(World.setCell _ _ _)=wf
       have rf:wf.heap[w.heap.size]?=some (.cells #[.int .i64 0,.slice none 0 0] 118 (0,0)):=by rw[←hwf];exact qh (qh rr4 0 _) 1 _
       have bf:Below w.heap.size w wf:=by rw[←hwf];exact Below.setCell (Below.setCell bw4 (p:=⟨w.heap.size,0,none⟩) (Nat.le_refl _) _) (p:=⟨w.heap.size,1,none⟩) (Nat.le_refl _) _
       have kf:=qa rf
       exact bodyPost_ret (v:=Zj 8) (by simp[results,Tryz.results94,go_sem,kf]) rfl ⟨_,rfl,⟨8,by decide,rfl⟩,bf⟩
      case pos =>
       rw[hmay]
       have hl5:=VL hmay
       have k4:=qa rn4
       have hs4:=HSA.out hmay
       replace hs4:=zH hs4
       clear HSA
       go_wp2_with fail
       refine(HT.out _ hB4 hl5).mono ?_
       clear HT
       rintro e w5 ⟨u,rfl,hu,hB5⟩
       have hty:=Bys.of_own hu
       have rr5:=qc rr4 hB5
       have bw5:Below w.heap.size w w5:=Below.trans bw4 (Below.mono hB5 (by omega))
       have rn5:=qc rn4 hB5
       have hx5:Ext wr w5:=Ext.trans hB4 hB5
       have hb45:=(hb4r.below hx5).more hx5.size
       have htl:(jJ (p1:Int) xs).length<1073741824:=by simp[jJ];omega
       have HM:=zH (Ua _ _ _ _ w5 hb45 hty (by omega) htl)
       clear k4 hu hty hb45 hb4r htl
       generalize hsv:jS l4 (jJ (p1:Int) xs)=sv at *
       go_wp2_with fail
       refine HM.out.mono ?_
       clear HM
       rintro e w6 ⟨rfl,hB6⟩
       have rr6:=qc rr5 hB6
       have bw6:Below w.heap.size w w6:=Below.trans bw5 (Below.mono hB6 bw5.size)
       have s6:w.heap.size<w6.heap.size:=(zG.1 rr6).1
       have rn6:=qc rn5 hB6
       have hx6:Ext wr w6:=Ext.trans hx5 hB6
       have k6:=qa rr6
       have f6:=qd rr6
       have kn6:=qa rn6
       have fn6:=qd rn6
       by_cases hz:p0=78∧ZE r=true
       case neg =>
        obtain rfl:R=none:=by rw[hR.out,if_neg (fun h=>hz h.2)]
        obtain rfl:sv=false:=by rw[hs4.out,decide_eq_false hz]
        clear hR hz hs4
        go_wp2
        generalize hwf:(World.setCell _ _ _)=wf
        have rf:wf.heap[w.heap.size]?=some (.cells #[.int .i64 0,.slice none 0 0] 118 (0,0)):=by rw[←hwf];exact qh (qh rr6 0 _) 1 _
        have bf:Below w.heap.size w wf:=by rw[←hwf];exact Below.setCell (Below.setCell bw6 (p:=⟨w.heap.size,0,none⟩) (Nat.le_refl _) _) (p:=⟨w.heap.size,1,none⟩) (Nat.le_refl _) _
        have kf:=qa rf
        exact bodyPost_ret (v:=Zj 8) (by simp[results,Tryz.results94,go_sem,kf]) rfl ⟨_,rfl,⟨8,by decide,rfl⟩,bf⟩
       case pos =>
        obtain rfl:R=some ((p1:Int),xs):=by rw[hR.out,if_pos ⟨hmay,hz⟩]
        obtain rfl:sv=true:=by rw[hs4.out,decide_eq_true hz]
        clear hR hz hs4
        go_wp2
        generalize hwf:(World.setCell _ _ _)=wf
        have rf:wf.heap[w.heap.size]?=some (.cells #[.int .i64 p1,.slice A2 xs.length c2'] 118 (0,0)):=by rw[←hwf];exact qh (qh rr6 0 _) 1 _
        have bf:Below w.heap.size w wf:=by rw[←hwf];exact Below.setCell (Below.setCell bw6 (p:=⟨w.heap.size,0,none⟩) (Nat.le_refl _) _) (p:=⟨w.heap.size,1,none⟩) (Nat.le_refl _) _
        have kf:=qa rf
        have hfi:zU (nb+1) wf (.slice A2 xs.length c2') xs:=by
         refine(hits'.ext hx6).keep (by rw[←hwf];simp) (fun p h1 h2=>?_)
         rw[←hwf,World.cell?_setCell_other _ _ _ _ (fun e=>by subst e;simp at h1;omega),World.cell?_setCell_other _ _ _ _ (fun e=>by subst e;simp at h1;omega)]
        exact bodyPost_ret (v:=.tuple #[Zv p1 A2 xs.length c2',.int .i64 0]) (by simp[results,Tryz.results94,go_sem,kf]) rfl ⟨_,rfl,⟨A2,c2',rfl,hfi.mono (by omega)⟩,bf⟩
     ·have hd1:decide ((k:Int)<(p2:Int))=true:=decide_eq_true (by omega)
      have hd2:decide (k<p2)=true:=decide_eq_true (by omega)
      have hd3:k=6→decide ((k:Int)≤5)=false:=fun h=>decide_eq_false (by omega)
      have hd4:k=6→decide (k≤5)=false:=fun h=>decide_eq_false (by omega)
      first
       |(have hd3':=hd3 hk2
         have hd4':=hd4 hk2
         clear hk3)
       |skip
      clear hk2 hd3 hd4
      go_wp2_with fail
      refine(HC.out _ (Ext.refl _)).mono ?_
      rintro e w4 ⟨rfl,hB4⟩
      have rr4:=qc rr hB4
      have bw4:Below w.heap.size w w4:=Below.trans bw (Below.mono hB4 (by omega))
      have s4:w.heap.size<w4.heap.size:=(zG.1 rr4).1
      have rn4:=qc rn hB4
      clear HC kn rr
      by_cases hmay:qR (p1:Int) xs=true
      case neg =>
       obtain rfl:R=none:=by rw[hR.out,if_neg (fun h=>hmay h.1)]
       have hmay':qR (p1:Int) xs=false:=by simpa using hmay
       rw[hmay']
       clear hR hmay hmay' HT HSA
       have k4:=qa rr4
       have f4:=qd rr4
       go_wp2
       generalize hwf:(World.setCell _ _ _)=wf
       have rf:wf.heap[w.heap.size]?=some (.cells #[.int .i64 0,.slice none 0 0] 118 (0,0)):=by rw[←hwf];exact qh (qh rr4 0 _) 1 _
       have bf:Below w.heap.size w wf:=by rw[←hwf];exact Below.setCell (Below.setCell bw4 (p:=⟨w.heap.size,0,none⟩) (Nat.le_refl _) _) (p:=⟨w.heap.size,1,none⟩) (Nat.le_refl _) _
       have kf:=qa rf
       exact bodyPost_ret (v:=Zj 8) (by simp[results,Tryz.results94,go_sem,kf]) rfl ⟨_,rfl,⟨8,by decide,rfl⟩,bf⟩
      case pos =>
       rw[hmay]
       have hl5:=VL hmay
       have k4:=qa rn4
       have hs4:=HSA.out hmay
       replace hs4:=zH hs4
       clear HSA
       go_wp2_with fail
       refine(HT.out _ hB4 hl5).mono ?_
       clear HT
       rintro e w5 ⟨u,rfl,hu,hB5⟩
       have hty:=Bys.of_own hu
       have rr5:=qc rr4 hB5
       have bw5:Below w.heap.size w w5:=Below.trans bw4 (Below.mono hB5 (by omega))
       have rn5:=qc rn4 hB5
       have hx5:Ext wr w5:=Ext.trans hB4 hB5
       have hb45:=(hb4r.below hx5).more hx5.size
       have htl:(jJ (p1:Int) xs).length<1073741824:=by simp[jJ];omega
       have HM:=zH (Ua _ _ _ _ w5 hb45 hty (by omega) htl)
       clear k4 hu hty hb45 hb4r htl
       generalize hsv:jS l4 (jJ (p1:Int) xs)=sv at *
       go_wp2_with fail
       refine HM.out.mono ?_
       clear HM
       rintro e w6 ⟨rfl,hB6⟩
       have rr6:=qc rr5 hB6
       have bw6:Below w.heap.size w w6:=Below.trans bw5 (Below.mono hB6 bw5.size)
       have s6:w.heap.size<w6.heap.size:=(zG.1 rr6).1
       have rn6:=qc rn5 hB6
       have hx6:Ext wr w6:=Ext.trans hx5 hB6
       have k6:=qa rr6
       have f6:=qd rr6
       have kn6:=qa rn6
       have fn6:=qd rn6
       by_cases hz:p0=78∧ZE r=true
       case neg =>
        obtain rfl:R=none:=by rw[hR.out,if_neg (fun h=>hz h.2)]
        obtain rfl:sv=false:=by rw[hs4.out,decide_eq_false hz]
        clear hR hz hs4
        go_wp2
        generalize hwf:(World.setCell _ _ _)=wf
        have rf:wf.heap[w.heap.size]?=some (.cells #[.int .i64 0,.slice none 0 0] 118 (0,0)):=by rw[←hwf];exact qh (qh rr6 0 _) 1 _
        have bf:Below w.heap.size w wf:=by rw[←hwf];exact Below.setCell (Below.setCell bw6 (p:=⟨w.heap.size,0,none⟩) (Nat.le_refl _) _) (p:=⟨w.heap.size,1,none⟩) (Nat.le_refl _) _
        have kf:=qa rf
        exact bodyPost_ret (v:=Zj 8) (by simp[results,Tryz.results94,go_sem,kf]) rfl ⟨_,rfl,⟨8,by decide,rfl⟩,bf⟩
       case pos =>
        obtain rfl:R=some ((p1:Int),xs):=by rw[hR.out,if_pos ⟨hmay,hz⟩]
        obtain rfl:sv=true:=by rw[hs4.out,decide_eq_true hz]
        clear hR hz hs4
        go_wp2
        generalize hwf:(World.setCell _ _ _)=wf
        have rf:wf.heap[w.heap.size]?=some (.cells #[.int .i64 p1,.slice A2 xs.length c2'] 118 (0,0)):=by rw[←hwf];exact qh (qh rr6 0 _) 1 _
        have bf:Below w.heap.size w wf:=by rw[←hwf];exact Below.setCell (Below.setCell bw6 (p:=⟨w.heap.size,0,none⟩) (Nat.le_refl _) _) (p:=⟨w.heap.size,1,none⟩) (Nat.le_refl _) _
        have kf:=qa rf
        have hfi:zU (nb+1) wf (.slice A2 xs.length c2') xs:=by
         refine(hits'.ext hx6).keep (by rw[←hwf];simp) (fun p h1 h2=>?_)
         rw[←hwf,World.cell?_setCell_other _ _ _ _ (fun e=>by subst e;simp at h1;omega),World.cell?_setCell_other _ _ _ _ (fun e=>by subst e;simp at h1;omega)]
        exact bodyPost_ret (v:=.tuple #[Zv p1 A2 xs.length c2',.int .i64 0]) (by simp[results,Tryz.results94,go_sem,kf]) rfl ⟨_,rfl,⟨A2,c2',rfl,hfi.mono (by omega)⟩,bf⟩
set_option maxRecDepth 100000 in
set_option maxHeartbeats 1000000 in
theorem qeh (n:Nat) (hn:n<1073741824) (w:World) :
  Calls Tryz.prog 157 #[.slice none 0 0,.int .i64 (n:Int)] w (zE (fun v w'=>w'.ownsRow w.heap.size 5 1 v 0 []) w):=by
 obtain⟨i0,hi,hz0,hz1,hz2⟩:=info_parts Tryz.info_u8
 by_cases h0:n=0
 ·subst h0
  go_enter Tryz.func157,Tryz.ntmps157
  go_wp2
  go_ret
  exact⟨_,rfl,World.ownsRow_nil _ _ _ _,Below.refl _ _⟩
 ·have hG:=grownCap_ge w n 0 5
  have hGm:=grownCap_le_maxLen w n 0 5 (by unfold maxLen;omega)
  have hrz:∀ ty,(Builtin.append_ #[26,3] ty #[.slice none 0 0,.int .i64 (n:Int)]).run Tryz.prog w =
    .ok (.slice (some ⟨w.heap.size,0,none⟩) n (grownCap w n 0 5)) (w.drew.alloc (.cells (([]:List Value).toArray++Builtin.zeroCells (Value.int .u8 0).cells n++Builtin.zeroCells (Value.int .u8 0).cells (grownCap w n 0 5-n)) 5)):=fun ty=>by
   have h:=Lib.run_append_grow_zeros (P:=Tryz.prog) w 26 3 ty 5 i0 (.int .u8 0) .i64 .i64 Tryz.underlying26 Tryz.underlying3 hi hz0 none 0 0 [] (run_firstCells_none w.drew i0.size 0 0 0) n (by omega) (by omega) (by omega) (by omega) (by rw[hz2];omega) (growslice_fits (by omega) (by rw[hz2];omega))
   simpa using h
  obtain⟨G,hGe⟩:∃ G,grownCap w n 0 5=G:=⟨_,rfl⟩
  rw[hGe] at hG hGm hrz
  unfold maxLen at hGm
  have hpos:0<n:=by omega
  clear hGe
  go_enter Tryz.func157,Tryz.ntmps157
  go_wp2_with (at_builtin;refine Lib.wpList_append_run _ rfl _ _ _ _ rfl _ _ rfl rfl _ _ (hrz _) ?_)
  go_ret
  refine⟨_,rfl,?_,(by repeat' (first|with_reducible exact Below.refl _ _|with_reducible assumption|with_reducible apply Below.drew|with_reducible apply qp|with_reducible refine Below.alloc ?_ ?_ _|with_reducible refine Below.setCell ?_ ?_ _|(simp;done)|(simp;omega)|omega))⟩
  refine(World.ownsRow_made w _ G (Nat.le_refl _) (by unfold maxLen;omega) ?_).drew
  simp only[Array.size_append,size_zeroCells,List.size_toArray,List.length_cons,List.length_nil]
  omega
def Va (ls:List (List UInt8)) (k:Nat):List UInt8:=(ls.take k).flatten
set_option maxRecDepth 100000 in
set_option maxHeartbeats 1000000 in
theorem Xm (A:Option Addr) (c m:Nat) (vs:List Value) (ls:List (List UInt8)) (hv:vs.length=m) (hl:ls.length=m) (w:World) (hr:Rd w w.heap.size 1 A m vs)
  (hb:∀ (i:Nat) (v:Value) (l:List UInt8),vs[i]?=some v→ls[i]?=some l→Bys w w.heap.size v l) (hn:m<1024) (hs:ls.flatten.length<1048576) :
  Calls Tryz.prog 152 #[.slice A m c] w (zE (fun v w'=>w'.ownsRow w.heap.size 5 1 v ls.flatten.length (ls.flatten.map bv)) w):=by
 obtain⟨i0,hi,hz0,hz1,hz2⟩:=info_parts Tryz.info_u8
 have hstep:∀ k,k<m→∃ A c l,vs[k]?=some (.slice A l.length c)∧ls[k]?=some l∧Rd w w.heap.size 1 A l.length (l.map bv):=fun k hk=>by
  obtain⟨v,hv⟩:∃ v,vs[k]?=some v:=⟨_,List.getElem?_eq_getElem (by omega)⟩
  obtain⟨l,hl'⟩:∃ l,ls[k]?=some l:=⟨_,List.getElem?_eq_getElem (by omega)⟩
  obtain⟨A,c,rfl,_,_,h⟩:=hb k v l hv hl'
  exact⟨A,c,l,hv,hl',h⟩
 have hsum:∀ k,(Va ls k).length≤ls.flatten.length:=fun k=>by
  unfold Va;conv=>rhs;rw[←List.take_append_drop k ls]
  rw[List.flatten_append,List.length_append];omega
 have htk:∀ (k:Nat) (l:List UInt8),ls[k]?=some l→Va ls (k+1)=Va ls k++l:=fun k l h=>by
  unfold Va;rw[List.take_add_one,h];simp
 have HT:=zH htk
 clear htk
 have hall:ls.flatten=Va ls m:=by unfold Va;rw[List.take_of_length_le (by omega)]
 have h00:Hid ([]=Va ls 0):=by unfold Va;exact rfl
 rw[hall] at hs hsum ⊢
 clear hall hl hv hb
 go_enter Tryz.func152,Tryz.ntmps152
 go_wp2
 go_loop [3,11] (fun t i=>∃ k:Nat,k≤m∧i=.int .i64 (k:Int)∧t=.int .i64 ((Va ls k).length:Int))
  (fun _ i=>m-(intOf i).toNat)
 case atStart=>exact⟨0,Nat.zero_le _,rfl,by rw[←h00.out];rfl⟩
 case round =>
  obtain⟨k,hk,rfl,rfl⟩:=hrel
  have h1:=hsum k
  by_cases hlt:k<m
  ·obtain⟨A',c',l,hv,hl,hrl⟩:=hstep k hlt
   obtain⟨b,off,rfl,hbl,hc⟩:=hr.2 (by omega)
   have hcell:=hc k _ hv
   have h2:=hsum (k+1)
   rw[HT.out k l hl,List.length_append] at h2
   go_wp2
   go_round
   case rel=>exact⟨k+1,by omega,by go_num,by rw[HT.out k l hl,List.length_append];go_num⟩
   case measure=>simp[intOf];omega
  ·obtain rfl:k=m:=by omega
   clear h1
   go_wp2_with fail
   refine(qeh (Va ls k).length (by omega) _).mono ?_
   rintro e w1 ⟨v,rfl,hown,hB⟩
   go_wp2
   go_loopw [6,27] (fun v i wr=>∃ j:Nat,j≤k∧i=.int .i64 (j:Int)∧wr.ownsRow w.heap.size 5 1 v (Va ls j).length ((Va ls j).map bv)∧Below w.heap.size w wr)
    (fun _ i _=>k-(intOf i).toNat)
   case atStart=>exact⟨0,Nat.zero_le _,rfl,by rw[←h00.out];exact hown,hB⟩
   case round =>
    clear hown hB
    obtain⟨j,hj,rfl,hown,hB⟩:=hrel
    by_cases hlt:j<k
    ·obtain⟨A',c',l,hv,hl,hrl⟩:=hstep j hlt
     obtain⟨b,off,rfl,hbl,hc⟩:=hr.2 (by omega)
     have hcell:=(hB.cell (p:=⟨b,off+j,none⟩) hbl).trans (hc j _ hv)
     have h1:=hsum j
     have h2:=hsum (j+1)
     rw[HT.out j l hl,List.length_append] at h2
     have HE:=zH (HT.out j l hl)
     go_wp2_with (at_builtin;refine qI ?_)
     refine Qc.go (qM _ rfl (.tmp 31) (.tmp 32) 26 rfl w.heap.size 5 i0 (.int .u8 0) 1 1 Tryz.underlying26 hi hz0 hz1 hz2 rfl (by decide) _ _ _ rfl hown w.heap.size A' l.length c' (l.map bv) rfl (hrl.below hB) (zT l) (by omega) (by decide) hB.size ?_)
     intro v' w2 hown1 _ hb1 _
     go_wp2
     go_roundw
     case rel=>exact⟨j+1,by omega,by go_num,by rw[HE.out,List.length_append,List.map_append];exact hown1,hB.trans hb1⟩
     case measure=>simp[intOf];omega
    ·obtain rfl:j=k:=by omega
     go_wp2
     go_ret
     exact⟨_,rfl,hown,hB⟩
end Go.Proofs.YtckhnchnbeoogaaGreat
