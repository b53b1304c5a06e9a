/- Texts Blocks, Read, Frame, joined. -/
import Derived.Test.YtckhnchnbeoogaaGreatV01
import Derived.Test.YtckhnchnbeoogaaGreatV30
import Derived.Test.YtckhnchnbeoogaaGreatV31
set_option linter.unusedSimpArgs false
set_option linter.unusedVariables false
namespace Go.Proofs.YtckhnchnbeoogaaGreat
open Go.RowKit
theorem byt_own {lo n c:Nat} {A:Option Addr} {l:List UInt8} {W:World} (h:W.ownsRow lo 5 1 (.slice A n c) n (l.map bv)):∀ i,i<n→Byt lo W.heap.size A i W:=fun i hi=>by
 have hb:=(ZP.of_own h).thaw
 have hf:=(ZP.of_own h).from
 obtain⟨A',c',e,_,_,hr⟩:=hb
 simp only[Value.slice.injEq] at e
 obtain⟨rfl,rfl,rfl⟩:=e
 obtain⟨b,off,rfl,hbl,hc⟩:=hr.2 (by omega)
 exact⟨b,off,_,rfl,⟨hf ⟨b,off,none⟩ _ _ rfl,hbl⟩,hc i (bv l[i]) (by rw[List.getElem?_map,List.getElem?_eq_getElem hi];rfl)⟩
theorem vY {lo:Nat} {W W':World} (h:Ext W W'):UK lo W W':=qbV fun k _ hk=>h.block k hk
set_option maxHeartbeats 16000000 in
set_option maxRecDepth 100000 in
theorem qcj (A1:Option Addr) (c1:Nat) (A2:Option Addr) (c2:Nat) (A3:Option Addr) (c3:Nat) (A4:Option Addr) (c4:Nat) (gen root next:Int) (A5:Option Addr) (c5:Nat) (S:Sto) (dead:List Int) (A:Option Addr) (c:Nat) (data:List UInt8) (a:Int) (w:World)
  (h:qH w w.heap.size (.slice A1 S.bs.length c1) (.slice A2 S.ws.length c2) (.slice A3 S.now.length c3) (.slice A4 S.last.length c4) S) (hd:QF w w.heap.size (.slice A5 dead.length c5) dead) (hb:Bys w w.heap.size (.slice A data.length c) data) :
  Calls Tryz.prog 4 #[.agg (qC (.slice A1 S.bs.length c1) (.slice A2 S.ws.length c2) (.slice A3 S.now.length c3) (.slice A4 S.last.length c4) gen root next (.slice A5 dead.length c5)),.slice A data.length c,.int .i64 a] w (Ret (.bool true) w):=by
 obtain⟨i0,hi,hz0,hz1,hz2⟩:=info_parts Tryz.info_u8
 have hp:Hid (∀ W,Below w.heap.size w W→qH W W.heap.size (.slice A1 S.bs.length c1) (.slice A2 S.ws.length c2) (.slice A3 S.now.length c3) (.slice A4 S.last.length c4) S):=zH fun W hW=>(h.below hW).more hW.size
 have hpd:Hid (∀ W,Below w.heap.size w W→QF W W.heap.size (.slice A5 dead.length c5) dead):=zH fun W hW=>by
  obtain⟨A,c,e,q1,q2,q3⟩:=hd
  exact⟨A,c,e,q1,q2,(q3.below hW).more hW.size⟩
 have hpb:Hid (∀ W,Below w.heap.size w W→Bys W W.heap.size (.slice A data.length c) data):=zH fun W hW=>(hb.below hW).more hW.size
 have hdm:data.length≤maxLen:=by
  obtain⟨_,_,_,h1,h2,_⟩:=hb
  omega
 clear h hd hb
 go_enter Tryz.func4,Tryz.ntmps4
 go_wp2_with fail
 generalize hw1:World.alloc w _=w1
 have y0:Hid (Ext w w1):=zH (by rw[←hw1];exact Ext.alloc _ _)
 have rp1:w1.heap[w.heap.size]?=some (.cells (qC (.slice A1 S.bs.length c1) (.slice A2 S.ws.length c2) (.slice A3 S.now.length c3) (.slice A4 S.last.length c4) gen root next (.slice A5 dead.length c5)) 32 (0,0)):=by rw[←hw1];exact World.alloc_heap_at _ _ _ rfl
 clear hw1
 have HP:Hid (∀ W,Ext w1 W→W.heap[w.heap.size]?=some (.cells (qC (.slice A1 S.bs.length c1) (.slice A2 S.ws.length c2) (.slice A3 S.now.length c3) (.slice A4 S.last.length c4) gen root next (.slice A5 dead.length c5)) 32 (0,0))):=zH fun W hW=>qc rp1 hW
 have zp:Hid (w.heap.size<w1.heap.size):=zH (zG.1 rp1).1
 clear rp1
 refine(qaM _ _ _ _ _ _ _ _ _ _ _ _ _ _ _ _ _ _ S w1 (hp.out w1 y0.out)).mono ?_
 rintro e w2 ⟨rfl,hB⟩
 have hB:Ext w1 w2:=hB
 replace y0:=zH (y0.out.trans hB)
 have y1:Hid (Ext w1 w2):=zH hB
 clear hB
 have kp:=qa (HP.out _ y1.out)
 cases hgr:Us S dead.length
 case true =>
  go_wp2_with fail
  go_ret
  exact⟨rfl,y0.out⟩
 case false =>
  by_cases hl:10000<data.length
  ·have hl1:decide ((data.length:Int)>10000)=true:=decide_eq_true (by omega)
   have hl2:decide (10000<data.length)=true:=decide_eq_true hl
   replace hl:=zH hl
   replace hdm:=zH hdm
   go_wp2_with fail
   go_ret
   exact⟨rfl,y0.out⟩
  ·have hl1:decide ((data.length:Int)>10000)=false:=decide_eq_false (by omega)
   have hl2:decide (10000<data.length)=false:=decide_eq_false hl
   obtain⟨hS,hdl⟩:=TP hgr
   clear hgr
   have hSh:=zH hS
   clear hS
   replace hl:=zH hl
   replace hdm:=zH hdm
   replace hdl:=zH hdl
   go_wp2_with fail
   refine(qcS _ _ _ _ _ _ _ _ _ _ _ _ _ _ _ S dead hSh.out hdl.out w2 (hp.out w2 y0.out) (hpd.out w2 y0.out)).mono ?_
   rintro e w3 ⟨u,rfl,⟨B1,d1,B2,d2,B3,d3,B4,d4,B5,d5,rfl,hT⟩,hB⟩
   have hB:Ext w2 w3:=hB
   replace y0:=zH (y0.out.trans hB)
   replace y1:=zH (y1.out.trans hB)
   have ho:Hid (∀ W,Below w3.heap.size w3 W→qH W W.heap.size (.slice B1 S.bs.length d1) (.slice B2 S.ws.length d2) (.slice B3 S.now.length d3) (.slice B4 S.last.length d4) S):=zH fun W hW=>((hT W fun q _ hq=>hW.cell hq).1).more hW.size
   have hod:Hid (∀ W,Below w3.heap.size w3 W→QF W W.heap.size (.slice B5 dead.length d5) dead):=zH fun W hW=>by
    obtain⟨A,c,e,q1,q2,q3⟩:=(hT W fun q _ hq=>hW.cell hq).2
    exact⟨A,c,e,q1,q2,q3.more hW.size⟩
   clear hT hB kp
   go_wp2_with (at_builtin;refine qI ?_)
   generalize hw4:World.alloc w3 _=w4
   have hB:Ext w3 w4:=by rw[←hw4];exact Ext.alloc _ _
   have q4:w4.heap[w3.heap.size]?=some (.cells (qC (.slice B1 S.bs.length d1) (.slice B2 S.ws.length d2) (.slice B3 S.now.length d3) (.slice B4 S.last.length d4) gen root next (.slice B5 dead.length d5)) 32 (0,0)):=by rw[←hw4];exact World.alloc_heap_at _ _ _ rfl
   clear hw4
   replace y0:=zH (y0.out.trans hB)
   replace y1:=zH (y1.out.trans hB)
   have y3:Hid (Ext w3 w4):=zH hB
   clear hB
   have HO:Hid (∀ W,Ext w4 W→W.heap[w3.heap.size]?=some (.cells (qC (.slice B1 S.bs.length d1) (.slice B2 S.ws.length d2) (.slice B3 S.now.length d3) (.slice B4 S.last.length d4) gen root next (.slice B5 dead.length d5)) 32 (0,0))):=zH fun W hW=>qc q4 hW
   have zo:Hid (w3.heap.size<w4.heap.size):=zH (zG.1 q4).1
   clear q4
   obtain⟨_,_,e5,_,_,hrd⟩:=hpb.out w4 y0.out
   cases e5
   refine Qc.go (qM w4 rfl (.const (.slice none 0 0)) (.tmp 37) 26 rfl w4.heap.size 5 i0 (.int .u8 0) 1 1 Tryz.underlying26 hi hz0 hz1 hz2 rfl (by decide) (.slice none 0 0) 0 [] (by exact rfl) (World.ownsRow_nil _ _ _ _) w4.heap.size A data.length c (data.map bv) (by exact rfl) hrd (zT data) (by have:=hl.out;omega) (by decide) (Nat.le_refl _) ?_)
   intro v w5 own _ hB _
   simp only[Nat.zero_add,List.nil_append] at own
   obtain⟨A8,c8,rfl,-,-⟩:=qw own
   have hB:Ext w4 w5:=hB
   replace y0:=zH (y0.out.trans hB)
   replace y1:=zH (y1.out.trans hB)
   replace y3:=zH (y3.out.trans hB)
   have y4:Hid (Ext w4 w5):=zH hB
   have hby:Hid (∀ W,Below w5.heap.size w5 W→Bys W W.heap.size (.slice A8 data.length c8) data):=zH fun W hW=>((Bys.of_own own).below hW).more hW.size
   clear hB own hrd
   have kp:=qa (HP.out _ y1.out)
   have ko:=qa (HO.out _ y4.out)
   have zpc:w.heap.size<w5.heap.size:=(zG.1 (HP.out _ y1.out)).1
   have zoc:w3.heap.size<w5.heap.size:=(zG.1 (HO.out _ y4.out)).1
   have q05:Hid (w.heap.size≤w5.heap.size∧w1.heap.size≤w5.heap.size∧w3.heap.size≤w5.heap.size∧w4.heap.size≤w5.heap.size):=zH ⟨y0.out.size,y1.out.size,y3.out.size,y4.out.size⟩
   have y5:Hid (Ext w5 w5):=zH (Ext.refl _)
   go_wp2_with fail
   refine(vlay_any _ _ _ _ _ _ _ _ _ _ _ _ gen root next _ _ S dead _ _ data w5 (ho.out w5 y3.out) (hod.out w5 y3.out) (hby.out w5 y5.out)).mono ?_
   intro e w6 hL
   have hB:Ext w5 w6:=hL.1
   obtain⟨a1,na1,ca1,a2,na2,ca2,a3,na3,ca3,a4,na4,ca4,ga,ra,xa,a5,na5,ca5,na,ea,rfl⟩:=hL.form
   replace y0:=zH (y0.out.trans hB)
   replace y1:=zH (y1.out.trans hB)
   replace y3:=zH (y3.out.trans hB)
   replace y4:=zH (y4.out.trans hB)
   replace y5:=zH (y5.out.trans hB)
   have sw6:Hid (w5.heap.size≤w6.heap.size):=zH (Below.size hB)
   have y6:Hid (Ext w6 w6):=zH (Ext.refl _)
   replace hL:=zH hL
   clear hB
   clear kp ko zpc zoc
   have zpc:w.heap.size<w6.heap.size:=(zG.1 (HP.out _ y1.out)).1
   have zoc:w3.heap.size<w6.heap.size:=(zG.1 (HO.out _ y4.out)).1
   have kp:=qa (HP.out _ y1.out)
   have ko:=qa (HO.out _ y4.out)
   go_wp2_with fail
   generalize hw9:World.alloc w6 _=w7
   have hB:Ext w6 w7:=by rw[←hw9];exact Ext.alloc _ _
   have q9:w7.heap[w6.heap.size]?=some (.cells (jD a1 na1 ca1 a2 na2 ca2 a3 na3 ca3 a4 na4 ca4 ga ra xa a5 na5 ca5) 32 (0,0)):=by rw[←hw9];exact World.alloc_heap_at _ _ _ rfl
   clear hw9
   have Ba:Hid (∀ W,Ext w7 W→W.heap[w6.heap.size]?=some (.cells (jD a1 na1 ca1 a2 na2 ca2 a3 na3 ca3 a4 na4 ca4 ga ra xa a5 na5 ca5) 32 (0,0))):=zH fun W hW=>qc q9 hW
   have zBa:Hid (w6.heap.size<w7.heap.size):=zH (zG.1 q9).1
   clear q9
   replace y0:=zH (y0.out.trans hB)
   replace y1:=zH (y1.out.trans hB)
   replace y3:=zH (y3.out.trans hB)
   replace y4:=zH (y4.out.trans hB)
   replace y5:=zH (y5.out.trans hB)
   replace y6:=zH (y6.out.trans hB)
   have sw7:Hid (w6.heap.size≤w7.heap.size):=zH (Below.size hB)
   have yba:Hid (Ext w7 w7):=zH (Ext.refl _)
   clear hB
   clear kp ko zpc zoc
   have zpc:w.heap.size<w7.heap.size:=(zG.1 (HP.out _ y1.out)).1
   have zoc:w3.heap.size<w7.heap.size:=(zG.1 (HO.out _ y4.out)).1
   have kp:=qa (HP.out _ y1.out)
   have ko:=qa (HO.out _ y4.out)
   refine(dlay_any _ _ _ _ _ _ _ _ gen root next _ _ S dead _ _ data w7 (hp.out w7 y0.out) (hpd.out w7 y0.out) (hpb.out w7 y0.out)).mono ?_
   intro e w8 hM
   have hB:Ext w7 w8:=hM.1
   obtain⟨b1,nb1,cb1,b2,nb2,cb2,b3,nb3,cb3,b4,nb4,cb4,gb,rb,xb,b5,nb5,cb5,nb,eb,rfl⟩:=hM.form
   replace y0:=zH (y0.out.trans hB)
   replace y1:=zH (y1.out.trans hB)
   replace y3:=zH (y3.out.trans hB)
   replace y4:=zH (y4.out.trans hB)
   replace y5:=zH (y5.out.trans hB)
   replace y6:=zH (y6.out.trans hB)
   replace yba:=zH (yba.out.trans hB)
   have sw8:Hid (w7.heap.size≤w8.heap.size):=zH (Below.size hB)
   have y8:Hid (Ext w8 w8):=zH (Ext.refl _)
   replace hM:=zH hM
   clear hB
   clear kp ko zpc zoc
   have zpc:w.heap.size<w8.heap.size:=(zG.1 (HP.out _ y1.out)).1
   have zoc:w3.heap.size<w8.heap.size:=(zG.1 (HO.out _ y4.out)).1
   have kp:=qa (HP.out _ y1.out)
   have ko:=qa (HO.out _ y4.out)
   go_wp2_with fail
   generalize hw9:World.alloc w8 _=w9
   have hB:Ext w8 w9:=by rw[←hw9];exact Ext.alloc _ _
   have q9:w9.heap[w8.heap.size]?=some (.cells (jD b1 nb1 cb1 b2 nb2 cb2 b3 nb3 cb3 b4 nb4 cb4 gb rb xb b5 nb5 cb5) 32 (0,0)):=by rw[←hw9];exact World.alloc_heap_at _ _ _ rfl
   clear hw9
   have Bb:Hid (∀ W,Ext w9 W→W.heap[w8.heap.size]?=some (.cells (jD b1 nb1 cb1 b2 nb2 cb2 b3 nb3 cb3 b4 nb4 cb4 gb rb xb b5 nb5 cb5) 32 (0,0))):=zH fun W hW=>qc q9 hW
   have zBb:Hid (w8.heap.size<w9.heap.size):=zH (zG.1 q9).1
   clear q9
   replace y0:=zH (y0.out.trans hB)
   replace y1:=zH (y1.out.trans hB)
   replace y3:=zH (y3.out.trans hB)
   replace y4:=zH (y4.out.trans hB)
   replace y5:=zH (y5.out.trans hB)
   replace y6:=zH (y6.out.trans hB)
   replace yba:=zH (yba.out.trans hB)
   replace y8:=zH (y8.out.trans hB)
   have sw9:Hid (w8.heap.size≤w9.heap.size):=zH (Below.size hB)
   have ybb:Hid (Ext w9 w9):=zH (Ext.refl _)
   clear hB
   clear kp ko zpc zoc
   have zpc:w.heap.size<w9.heap.size:=(zG.1 (HP.out _ y1.out)).1
   have zoc:w3.heap.size<w9.heap.size:=(zG.1 (HO.out _ y4.out)).1
   have kp:=qa (HP.out _ y1.out)
   have ko:=qa (HO.out _ y4.out)
   refine(qch _ _ _ _ _ _ _ _ _ _ _ _ gen root next _ _ S dead a w9 (ho.out w9 y3.out) (hod.out w9 y3.out)).mono ?_
   intro e wa hC
   have hB:Ext w9 wa:=hC.1
   obtain⟨c1,nc1,cc1,c2,nc2,cc2,c3,nc3,cc3,c4,nc4,cc4,gc,rc,xc,c5,nc5,cc5,ec,rfl⟩:=hC.form
   replace y0:=zH (y0.out.trans hB)
   replace y1:=zH (y1.out.trans hB)
   replace y3:=zH (y3.out.trans hB)
   replace y4:=zH (y4.out.trans hB)
   replace y5:=zH (y5.out.trans hB)
   replace y6:=zH (y6.out.trans hB)
   replace yba:=zH (yba.out.trans hB)
   replace y8:=zH (y8.out.trans hB)
   replace ybb:=zH (ybb.out.trans hB)
   have swa:Hid (w9.heap.size≤wa.heap.size):=zH (Below.size hB)
   have ya:Hid (Ext wa wa):=zH (Ext.refl _)
   replace hC:=zH hC
   clear hB
   clear kp ko zpc zoc
   have zpc:w.heap.size<wa.heap.size:=(zG.1 (HP.out _ y1.out)).1
   have zoc:w3.heap.size<wa.heap.size:=(zG.1 (HO.out _ y4.out)).1
   have kp:=qa (HP.out _ y1.out)
   have ko:=qa (HO.out _ y4.out)
   go_wp2_with fail
   generalize hw9:World.alloc wa _=wb
   have hB:Ext wa wb:=by rw[←hw9];exact Ext.alloc _ _
   have q9:wb.heap[wa.heap.size]?=some (.cells (jD c1 nc1 cc1 c2 nc2 cc2 c3 nc3 cc3 c4 nc4 cc4 gc rc xc c5 nc5 cc5) 32 (0,0)):=by rw[←hw9];exact World.alloc_heap_at _ _ _ rfl
   clear hw9
   have Bc:Hid (∀ W,Ext wb W→W.heap[wa.heap.size]?=some (.cells (jD c1 nc1 cc1 c2 nc2 cc2 c3 nc3 cc3 c4 nc4 cc4 gc rc xc c5 nc5 cc5) 32 (0,0))):=zH fun W hW=>qc q9 hW
   have zBc:Hid (wa.heap.size<wb.heap.size):=zH (zG.1 q9).1
   clear q9
   replace y0:=zH (y0.out.trans hB)
   replace y1:=zH (y1.out.trans hB)
   replace y3:=zH (y3.out.trans hB)
   replace y4:=zH (y4.out.trans hB)
   replace y5:=zH (y5.out.trans hB)
   replace y6:=zH (y6.out.trans hB)
   replace yba:=zH (yba.out.trans hB)
   replace y8:=zH (y8.out.trans hB)
   replace ybb:=zH (ybb.out.trans hB)
   replace ya:=zH (ya.out.trans hB)
   have swb:Hid (wa.heap.size≤wb.heap.size):=zH (Below.size hB)
   have ybc:Hid (Ext wb wb):=zH (Ext.refl _)
   clear hB
   clear kp ko zpc zoc
   have zpc:w.heap.size<wb.heap.size:=(zG.1 (HP.out _ y1.out)).1
   have zoc:w3.heap.size<wb.heap.size:=(zG.1 (HO.out _ y4.out)).1
   have kp:=qa (HP.out _ y1.out)
   have ko:=qa (HO.out _ y4.out)
   refine(qdc _ _ _ _ _ _ _ _ gen root next _ _ S dead a wb (hp.out wb y0.out) (hpd.out wb y0.out)).mono ?_
   intro e wc hD
   have hB:Ext wb wc:=hD.1
   obtain⟨d1,nd1,cd1,d2,nd2,cd2,d3,nd3,cd3,d4,nd4,cd4,gd,rd,xd,d5,nd5,cd5,ed,rfl⟩:=hD.form
   replace y0:=zH (y0.out.trans hB)
   replace y1:=zH (y1.out.trans hB)
   replace y3:=zH (y3.out.trans hB)
   replace y4:=zH (y4.out.trans hB)
   replace y5:=zH (y5.out.trans hB)
   replace y6:=zH (y6.out.trans hB)
   replace yba:=zH (yba.out.trans hB)
   replace y8:=zH (y8.out.trans hB)
   replace ybb:=zH (ybb.out.trans hB)
   replace ya:=zH (ya.out.trans hB)
   replace ybc:=zH (ybc.out.trans hB)
   have swc:Hid (wb.heap.size≤wc.heap.size):=zH (Below.size hB)
   have yc:Hid (Ext wc wc):=zH (Ext.refl _)
   replace hD:=zH hD
   clear hB
   clear kp ko zpc zoc
   have zpc:w.heap.size<wc.heap.size:=(zG.1 (HP.out _ y1.out)).1
   have zoc:w3.heap.size<wc.heap.size:=(zG.1 (HO.out _ y4.out)).1
   have kp:=qa (HP.out _ y1.out)
   have ko:=qa (HO.out _ y4.out)
   go_wp2_with fail
   generalize hw9:World.alloc wc _=wd
   have hB:Ext wc wd:=by rw[←hw9];exact Ext.alloc _ _
   have q9:wd.heap[wc.heap.size]?=some (.cells (jD d1 nd1 cd1 d2 nd2 cd2 d3 nd3 cd3 d4 nd4 cd4 gd rd xd d5 nd5 cd5) 32 (0,0)):=by rw[←hw9];exact World.alloc_heap_at _ _ _ rfl
   clear hw9
   have Bd:Hid (∀ W,Ext wd W→W.heap[wc.heap.size]?=some (.cells (jD d1 nd1 cd1 d2 nd2 cd2 d3 nd3 cd3 d4 nd4 cd4 gd rd xd d5 nd5 cd5) 32 (0,0))):=zH fun W hW=>qc q9 hW
   have zBd:Hid (wc.heap.size<wd.heap.size):=zH (zG.1 q9).1
   clear q9
   replace y0:=zH (y0.out.trans hB)
   replace y1:=zH (y1.out.trans hB)
   replace y3:=zH (y3.out.trans hB)
   replace y4:=zH (y4.out.trans hB)
   replace y5:=zH (y5.out.trans hB)
   replace y6:=zH (y6.out.trans hB)
   replace yba:=zH (yba.out.trans hB)
   replace y8:=zH (y8.out.trans hB)
   replace ybb:=zH (ybb.out.trans hB)
   replace ya:=zH (ya.out.trans hB)
   replace ybc:=zH (ybc.out.trans hB)
   replace yc:=zH (yc.out.trans hB)
   have swd:Hid (wc.heap.size≤wd.heap.size):=zH (Below.size hB)
   have ybd:Hid (Ext wd wd):=zH (Ext.refl _)
   clear hB
   clear kp ko zpc zoc
   have zpc:w.heap.size<wd.heap.size:=(zG.1 (HP.out _ y1.out)).1
   have zoc:w3.heap.size<wd.heap.size:=(zG.1 (HO.out _ y4.out)).1
   have kp:=qa (HP.out _ y1.out)
   have ko:=qa (HO.out _ y4.out)
   refine(qcc _ _ _ _ _ _ _ _ _ _ _ _ gen root next _ _ S dead a wd (ho.out wd y3.out) (hod.out wd y3.out)).mono ?_
   intro e we hU
   have hB:Ext wd we:=hU.1
   obtain⟨u1,nu1,cu1,u2,nu2,cu2,u3,nu3,cu3,u4,nu4,cu4,gu,ru,xu,u5,nu5,cu5,eu,rfl⟩:=hU.form
   replace y0:=zH (y0.out.trans hB)
   replace y1:=zH (y1.out.trans hB)
   replace y3:=zH (y3.out.trans hB)
   replace y4:=zH (y4.out.trans hB)
   replace y5:=zH (y5.out.trans hB)
   replace y6:=zH (y6.out.trans hB)
   replace yba:=zH (yba.out.trans hB)
   replace y8:=zH (y8.out.trans hB)
   replace ybb:=zH (ybb.out.trans hB)
   replace ya:=zH (ya.out.trans hB)
   replace ybc:=zH (ybc.out.trans hB)
   replace yc:=zH (yc.out.trans hB)
   replace ybd:=zH (ybd.out.trans hB)
   have swe:Hid (wd.heap.size≤we.heap.size):=zH (Below.size hB)
   have ye:Hid (Ext we we):=zH (Ext.refl _)
   replace hU:=zH hU
   clear hB
   clear kp ko zpc zoc
   have zpc:w.heap.size<we.heap.size:=(zG.1 (HP.out _ y1.out)).1
   have zoc:w3.heap.size<we.heap.size:=(zG.1 (HO.out _ y4.out)).1
   have kp:=qa (HP.out _ y1.out)
   have ko:=qa (HO.out _ y4.out)
   go_wp2_with fail
   generalize hw9:World.alloc we _=wf
   have hB:Ext we wf:=by rw[←hw9];exact Ext.alloc _ _
   have q9:wf.heap[we.heap.size]?=some (.cells (jD u1 nu1 cu1 u2 nu2 cu2 u3 nu3 cu3 u4 nu4 cu4 gu ru xu u5 nu5 cu5) 32 (0,0)):=by rw[←hw9];exact World.alloc_heap_at _ _ _ rfl
   clear hw9
   have Bu:Hid (∀ W,Ext wf W→W.heap[we.heap.size]?=some (.cells (jD u1 nu1 cu1 u2 nu2 cu2 u3 nu3 cu3 u4 nu4 cu4 gu ru xu u5 nu5 cu5) 32 (0,0))):=zH fun W hW=>qc q9 hW
   have zBu:Hid (we.heap.size<wf.heap.size):=zH (zG.1 q9).1
   clear q9
   replace y0:=zH (y0.out.trans hB)
   replace y1:=zH (y1.out.trans hB)
   replace y3:=zH (y3.out.trans hB)
   replace y4:=zH (y4.out.trans hB)
   replace y5:=zH (y5.out.trans hB)
   replace y6:=zH (y6.out.trans hB)
   replace yba:=zH (yba.out.trans hB)
   replace y8:=zH (y8.out.trans hB)
   replace ybb:=zH (ybb.out.trans hB)
   replace ya:=zH (ya.out.trans hB)
   replace ybc:=zH (ybc.out.trans hB)
   replace yc:=zH (yc.out.trans hB)
   replace ybd:=zH (ybd.out.trans hB)
   replace ye:=zH (ye.out.trans hB)
   have swf:Hid (we.heap.size≤wf.heap.size):=zH (Below.size hB)
   have ybu:Hid (Ext wf wf):=zH (Ext.refl _)
   clear hB
   clear kp ko zpc zoc
   have zpc:w.heap.size<wf.heap.size:=(zG.1 (HP.out _ y1.out)).1
   have zoc:w3.heap.size<wf.heap.size:=(zG.1 (HO.out _ y4.out)).1
   have kp:=qa (HP.out _ y1.out)
   have ko:=qa (HO.out _ y4.out)
   refine(qaF _ _ _ _ _ _ _ _ gen root next _ _ S dead a wf (hp.out wf y0.out) (hpd.out wf y0.out)).mono ?_
   intro e wg hW
   have hB:Ext wf wg:=hW.1
   obtain⟨t1,nt1,ct1,t2,nt2,ct2,t3,nt3,ct3,t4,nt4,ct4,gt,rt,xt,t5,nt5,ct5,et,rfl⟩:=hW.form
   replace y0:=zH (y0.out.trans hB)
   replace y1:=zH (y1.out.trans hB)
   replace y3:=zH (y3.out.trans hB)
   replace y4:=zH (y4.out.trans hB)
   replace y5:=zH (y5.out.trans hB)
   replace y6:=zH (y6.out.trans hB)
   replace yba:=zH (yba.out.trans hB)
   replace y8:=zH (y8.out.trans hB)
   replace ybb:=zH (ybb.out.trans hB)
   replace ya:=zH (ya.out.trans hB)
   replace ybc:=zH (ybc.out.trans hB)
   replace yc:=zH (yc.out.trans hB)
   replace ybd:=zH (ybd.out.trans hB)
   replace ye:=zH (ye.out.trans hB)
   replace ybu:=zH (ybu.out.trans hB)
   have swg:Hid (wf.heap.size≤wg.heap.size):=zH (Below.size hB)
   have yg:Hid (Ext wg wg):=zH (Ext.refl _)
   replace hW:=zH hW
   clear hB
   clear kp ko zpc zoc
   have zpc:w.heap.size<wg.heap.size:=(zG.1 (HP.out _ y1.out)).1
   have zoc:w3.heap.size<wg.heap.size:=(zG.1 (HO.out _ y4.out)).1
   have kp:=qa (HP.out _ y1.out)
   have ko:=qa (HO.out _ y4.out)
   go_wp2_with fail
   generalize hw9:World.alloc wg _=wh
   have hB:Ext wg wh:=by rw[←hw9];exact Ext.alloc _ _
   have q9:wh.heap[wg.heap.size]?=some (.cells (jD t1 nt1 ct1 t2 nt2 ct2 t3 nt3 ct3 t4 nt4 ct4 gt rt xt t5 nt5 ct5) 32 (0,0)):=by rw[←hw9];exact World.alloc_heap_at _ _ _ rfl
   clear hw9
   have Bt:Hid (∀ W,Ext wh W→W.heap[wg.heap.size]?=some (.cells (jD t1 nt1 ct1 t2 nt2 ct2 t3 nt3 ct3 t4 nt4 ct4 gt rt xt t5 nt5 ct5) 32 (0,0))):=zH fun W hW=>qc q9 hW
   have zBt:Hid (wg.heap.size<wh.heap.size):=zH (zG.1 q9).1
   clear q9
   replace y0:=zH (y0.out.trans hB)
   replace y1:=zH (y1.out.trans hB)
   replace y3:=zH (y3.out.trans hB)
   replace y4:=zH (y4.out.trans hB)
   replace y5:=zH (y5.out.trans hB)
   replace y6:=zH (y6.out.trans hB)
   replace yba:=zH (yba.out.trans hB)
   replace y8:=zH (y8.out.trans hB)
   replace ybb:=zH (ybb.out.trans hB)
   replace ya:=zH (ya.out.trans hB)
   replace ybc:=zH (ybc.out.trans hB)
   replace yc:=zH (yc.out.trans hB)
   replace ybd:=zH (ybd.out.trans hB)
   replace ye:=zH (ye.out.trans hB)
   replace ybu:=zH (ybu.out.trans hB)
   replace yg:=zH (yg.out.trans hB)
   have swh:Hid (wg.heap.size≤wh.heap.size):=zH (Below.size hB)
   have ybt:Hid (Ext wh wh):=zH (Ext.refl _)
   clear hB
   clear kp ko zpc zoc
   have zpc:w.heap.size<wh.heap.size:=(zG.1 (HP.out _ y1.out)).1
   have zoc:w3.heap.size<wh.heap.size:=(zG.1 (HO.out _ y4.out)).1
   have kp:=qa (HP.out _ y1.out)
   have ko:=qa (HO.out _ y4.out)
   refine(vdat_any _ _ _ _ _ _ _ _ _ _ _ _ gen root next _ _ S dead a wh (ho.out wh y3.out) (hod.out wh y3.out)).mono ?_
   intro e wi hX
   have hB:Ext wh wi:=hX.1
   obtain⟨Ax,nx,cx,ex,rfl⟩:=hX.form
   replace y0:=zH (y0.out.trans hB)
   replace y1:=zH (y1.out.trans hB)
   replace y3:=zH (y3.out.trans hB)
   replace y4:=zH (y4.out.trans hB)
   replace y5:=zH (y5.out.trans hB)
   replace y6:=zH (y6.out.trans hB)
   replace yba:=zH (yba.out.trans hB)
   replace y8:=zH (y8.out.trans hB)
   replace ybb:=zH (ybb.out.trans hB)
   replace ya:=zH (ya.out.trans hB)
   replace ybc:=zH (ybc.out.trans hB)
   replace yc:=zH (yc.out.trans hB)
   replace ybd:=zH (ybd.out.trans hB)
   replace ye:=zH (ye.out.trans hB)
   replace ybu:=zH (ybu.out.trans hB)
   replace yg:=zH (yg.out.trans hB)
   replace ybt:=zH (ybt.out.trans hB)
   have swi:Hid (wh.heap.size≤wi.heap.size):=zH (Below.size hB)
   have yi:Hid (Ext wi wi):=zH (Ext.refl _)
   replace hX:=zH hX
   clear hB
   clear kp ko zpc zoc
   have zpc:w.heap.size<wi.heap.size:=(zG.1 (HP.out _ y1.out)).1
   have zoc:w3.heap.size<wi.heap.size:=(zG.1 (HO.out _ y4.out)).1
   have kp:=qa (HP.out _ y1.out)
   have ko:=qa (HO.out _ y4.out)
   go_wp2_with fail
   refine(ddat_any _ _ _ _ _ _ _ _ _ _ _ _ gen root next _ _ S dead a wi (hp.out wi y0.out) (hpd.out wi y0.out)).mono ?_
   intro e wj hY
   have hB:Ext wi wj:=hY.1
   obtain⟨Ay,ny,cy,ey,rfl⟩:=hY.form
   replace y0:=zH (y0.out.trans hB)
   replace y1:=zH (y1.out.trans hB)
   replace y3:=zH (y3.out.trans hB)
   replace y4:=zH (y4.out.trans hB)
   replace y5:=zH (y5.out.trans hB)
   replace y6:=zH (y6.out.trans hB)
   replace yba:=zH (yba.out.trans hB)
   replace y8:=zH (y8.out.trans hB)
   replace ybb:=zH (ybb.out.trans hB)
   replace ya:=zH (ya.out.trans hB)
   replace ybc:=zH (ybc.out.trans hB)
   replace yc:=zH (yc.out.trans hB)
   replace ybd:=zH (ybd.out.trans hB)
   replace ye:=zH (ye.out.trans hB)
   replace ybu:=zH (ybu.out.trans hB)
   replace yg:=zH (yg.out.trans hB)
   replace ybt:=zH (ybt.out.trans hB)
   replace yi:=zH (yi.out.trans hB)
   have swj:Hid (wi.heap.size≤wj.heap.size):=zH (Below.size hB)
   have yj:Hid (Ext wj wj):=zH (Ext.refl _)
   replace hY:=zH hY
   clear hB
   clear kp ko zpc zoc
   obtain⟨cs,ds,n9,e9,E1,E2,hA⟩:=qdZ hL.out hM.out
   simp only[Ending.returned.injEq,Value.tuple.injEq,Array.mk.injEq,List.cons.injEq,Value.agg.injEq,Value.int.injEq,true_and,and_true] at E1 E2
   obtain⟨rfl,rfl,rfl⟩:=E1
   obtain⟨rfl,rfl,rfl⟩:=E2
   clear hL hM
   obtain⟨⟨rfl,rfl,rfl⟩,Sa,da,⟨rfl,rfl⟩,hcA,hsA,hdA,hba,hna⟩:=hA.out
   have Ha:Hid (∀ W,Ext w6 W→qH W W.heap.size (.slice a1 na1 ca1) (.slice a2 na2 ca2) (.slice a3 na3 ca3) (.slice a4 na4 ca4) Sa∧QF W W.heap.size (.slice a5 da.length ca5) da):=zH fun W hW=>⟨(hcA W (vY hW)).1.more hW.size,(hcA W (vY hW)).2.more hW.size⟩
   have Hb:Hid (∀ W,Ext w8 W→qH W W.heap.size (.slice b1 nb1 cb1) (.slice b2 nb2 cb2) (.slice b3 nb3 cb3) (.slice b4 nb4 cb4) Sa∧QF W W.heap.size (.slice b5 da.length cb5) da):=zH fun W hW=>⟨hsA.ext hW,hdA.ext_ hW⟩
   have Pa:Hid (Sp w5.heap.size w6.heap.size a1 na1 a2 na2 a3 na3 a4 a5 da.length w6):=zH (sp_of hcA hna.2.2.2.1)
   replace hba:=zH hba
   replace hna:=zH hna
   clear hA hcA hsA hdA
   obtain⟨cs,ds,e9,E1,E2,hA⟩:=GG hC.out hD.out (fun hS refs nodes met hm=>qdf hS hm a) ⟨rfl,rfl,by simp[Zb],rfl⟩
   simp only[Ending.returned.injEq,Value.tuple.injEq,Array.mk.injEq,List.cons.injEq,Value.agg.injEq,Value.int.injEq,true_and,and_true] at E1 E2
   obtain⟨rfl,rfl⟩:=E1
   obtain⟨rfl,rfl⟩:=E2
   clear hC hD
   obtain⟨⟨rfl,rfl,rfl⟩,Sc,dc,⟨rfl,rfl⟩,hcA,hsA,hdA,hbc,hnc⟩:=hA.out
   have Hc:Hid (∀ W,Ext wa W→qH W W.heap.size (.slice c1 nc1 cc1) (.slice c2 nc2 cc2) (.slice c3 nc3 cc3) (.slice c4 nc4 cc4) Sc∧QF W W.heap.size (.slice c5 dc.length cc5) dc):=zH fun W hW=>⟨(hcA W (vY hW)).1.more hW.size,(hcA W (vY hW)).2.more hW.size⟩
   have Hd:Hid (∀ W,Ext wc W→qH W W.heap.size (.slice d1 nd1 cd1) (.slice d2 nd2 cd2) (.slice d3 nd3 cd3) (.slice d4 nd4 cd4) Sc∧QF W W.heap.size (.slice d5 dc.length cd5) dc):=zH fun W hW=>⟨hsA.ext hW,hdA.ext_ hW⟩
   have Pc:Hid (Sp w9.heap.size wa.heap.size c1 nc1 c2 nc2 c3 nc3 c4 c5 dc.length wa):=zH (sp_of hcA hnc.2.2.2.1)
   replace hbc:=zH hbc
   replace hnc:=zH hnc
   clear hA hcA hsA hdA
   obtain⟨cs,ds,e9,E1,E2,hA⟩:=GG hU.out hW.out (fun hS refs nodes met hm=>qdg hS hm a) ⟨rfl,rfl,by simp[Ve],rfl⟩
   simp only[Ending.returned.injEq,Value.tuple.injEq,Array.mk.injEq,List.cons.injEq,Value.agg.injEq,Value.int.injEq,true_and,and_true] at E1 E2
   obtain⟨rfl,rfl⟩:=E1
   obtain⟨rfl,rfl⟩:=E2
   clear hU hW
   obtain⟨⟨rfl,rfl,rfl⟩,Su,du,⟨rfl,rfl⟩,hcA,hsA,hdA,hbu,hnu⟩:=hA.out
   have Hu:Hid (∀ W,Ext we W→qH W W.heap.size (.slice u1 nu1 cu1) (.slice u2 nu2 cu2) (.slice u3 nu3 cu3) (.slice u4 nu4 cu4) Su∧QF W W.heap.size (.slice u5 du.length cu5) du):=zH fun W hW=>⟨(hcA W (vY hW)).1.more hW.size,(hcA W (vY hW)).2.more hW.size⟩
   have Ht:Hid (∀ W,Ext wg W→qH W W.heap.size (.slice t1 nt1 ct1) (.slice t2 nt2 ct2) (.slice t3 nt3 ct3) (.slice t4 nt4 ct4) Su∧QF W W.heap.size (.slice t5 du.length ct5) du):=zH fun W hW=>⟨hsA.ext hW,hdA.ext_ hW⟩
   have Pu:Hid (Sp wd.heap.size we.heap.size u1 nu1 u2 nu2 u3 nu3 u4 u5 du.length we):=zH (sp_of hcA hnu.2.2.2.1)
   replace hbu:=zH hbu
   replace hnu:=zH hnu
   clear hA hcA hsA hdA
   obtain⟨ax',cx',ay',cy',lx,e9,E1,E2,hox,hyy,hlx⟩:=qdX hX.out hY.out
   simp only[Ending.returned.injEq,Value.tuple.injEq,Array.mk.injEq,List.cons.injEq,Value.slice.injEq,Value.int.injEq,true_and,and_true] at E1 E2
   obtain⟨⟨rfl,rfl,rfl⟩,rfl⟩:=E1
   obtain⟨⟨rfl,rfl,rfl⟩,rfl⟩:=E2
   clear hX hY
   have hxx:Hid (∀ W,Ext wi W→Bys W W.heap.size (.slice Ax lx.length cx) lx):=zH fun W hW=>((Bys.of_own hox).below hW).more hW.size
   have hyx:Hid (∀ W,Ext wj W→Bys W W.heap.size (.slice Ay lx.length cy) lx):=zH fun W hW=>(hyy.below hW).more hW.size
   have hbx:Hid (∀ i,i<lx.length→Byt wh.heap.size wi.heap.size Ax i wi):=zH (byt_own hox)
   clear hox hyy
   have hnn:∀ z:Int,(z != z)=false:=fun z=>bne_self_eq_false z
   have kx:=qa (Ba.out _ yba.out)
   have ky:=qa (Bb.out _ ybb.out)
   go_wp2_with fail
   refine(Vf _ _ _ _ _ _ _ _ _ _ _ _ _ _ _ _ _ _ _ _ _ _ _ _  _ _ _ _ _ _ _ Sa da hba.out.1 hba.out.2.1 hba.out.2.2 wj (Ha.out wj y6.out).1 (Hb.out wj y8.out).1 (Ha.out wj y6.out).2 (Hb.out wj y8.out).2).mono ?_
   rintro e wk ⟨rfl,hB⟩
   have hB:Ext wj wk:=hB
   replace y0:=zH (y0.out.trans hB)
   replace y1:=zH (y1.out.trans hB)
   replace y3:=zH (y3.out.trans hB)
   replace y4:=zH (y4.out.trans hB)
   replace y5:=zH (y5.out.trans hB)
   replace y6:=zH (y6.out.trans hB)
   replace yba:=zH (yba.out.trans hB)
   replace y8:=zH (y8.out.trans hB)
   replace ybb:=zH (ybb.out.trans hB)
   replace ya:=zH (ya.out.trans hB)
   replace ybc:=zH (ybc.out.trans hB)
   replace yc:=zH (yc.out.trans hB)
   replace ybd:=zH (ybd.out.trans hB)
   replace ye:=zH (ye.out.trans hB)
   replace ybu:=zH (ybu.out.trans hB)
   replace yg:=zH (yg.out.trans hB)
   replace ybt:=zH (ybt.out.trans hB)
   replace yi:=zH (yi.out.trans hB)
   replace yj:=zH (yj.out.trans hB)
   have swk:Hid (wj.heap.size≤wk.heap.size):=zH (Below.size hB)
   clear hB kx ky
   have kx:=qa (Bc.out _ ybc.out)
   have ky:=qa (Bd.out _ ybd.out)
   go_wp2_with fail
   refine(Vf _ _ _ _ _ _ _ _ _ _ _ _ _ _ _ _ _ _ _ _ _ _ _ _  _ _ _ _ _ _ _ Sc dc hbc.out.1 hbc.out.2.1 hbc.out.2.2 wk (Hc.out wk ya.out).1 (Hd.out wk yc.out).1 (Hc.out wk ya.out).2 (Hd.out wk yc.out).2).mono ?_
   rintro e wl ⟨rfl,hB⟩
   have hB:Ext wk wl:=hB
   replace y0:=zH (y0.out.trans hB)
   replace y1:=zH (y1.out.trans hB)
   replace y3:=zH (y3.out.trans hB)
   replace y4:=zH (y4.out.trans hB)
   replace y5:=zH (y5.out.trans hB)
   replace y6:=zH (y6.out.trans hB)
   replace yba:=zH (yba.out.trans hB)
   replace y8:=zH (y8.out.trans hB)
   replace ybb:=zH (ybb.out.trans hB)
   replace ya:=zH (ya.out.trans hB)
   replace ybc:=zH (ybc.out.trans hB)
   replace yc:=zH (yc.out.trans hB)
   replace ybd:=zH (ybd.out.trans hB)
   replace ye:=zH (ye.out.trans hB)
   replace ybu:=zH (ybu.out.trans hB)
   replace yg:=zH (yg.out.trans hB)
   replace ybt:=zH (ybt.out.trans hB)
   replace yi:=zH (yi.out.trans hB)
   replace yj:=zH (yj.out.trans hB)
   have swl:Hid (wk.heap.size≤wl.heap.size):=zH (Below.size hB)
   clear hB kx ky
   have kx:=qa (Bu.out _ ybu.out)
   have ky:=qa (Bt.out _ ybt.out)
   go_wp2_with fail
   refine(Vf _ _ _ _ _ _ _ _ _ _ _ _ _ _ _ _ _ _ _ _ _ _ _ _  _ _ _ _ _ _ _ Su du hbu.out.1 hbu.out.2.1 hbu.out.2.2 wl (Hu.out wl ye.out).1 (Ht.out wl yg.out).1 (Hu.out wl ye.out).2 (Ht.out wl yg.out).2).mono ?_
   rintro e wm ⟨rfl,hB⟩
   have hB:Ext wl wm:=hB
   replace y0:=zH (y0.out.trans hB)
   replace y1:=zH (y1.out.trans hB)
   replace y3:=zH (y3.out.trans hB)
   replace y4:=zH (y4.out.trans hB)
   replace y5:=zH (y5.out.trans hB)
   replace y6:=zH (y6.out.trans hB)
   replace yba:=zH (yba.out.trans hB)
   replace y8:=zH (y8.out.trans hB)
   replace ybb:=zH (ybb.out.trans hB)
   replace ya:=zH (ya.out.trans hB)
   replace ybc:=zH (ybc.out.trans hB)
   replace yc:=zH (yc.out.trans hB)
   replace ybd:=zH (ybd.out.trans hB)
   replace ye:=zH (ye.out.trans hB)
   replace ybu:=zH (ybu.out.trans hB)
   replace yg:=zH (yg.out.trans hB)
   replace ybt:=zH (ybt.out.trans hB)
   replace yi:=zH (yi.out.trans hB)
   replace yj:=zH (yj.out.trans hB)
   have swm:Hid (wl.heap.size≤wm.heap.size):=zH (Below.size hB)
   clear hB kx ky
   have hvx:(convert 26 9 (.slice Ax lx.length cx)).run Tryz.prog wm=.ok (.string (jm lx)) wm:=qU (hxx.out wm yi.out) _ _ _ Tryz.underlying26 Tryz.underlying5 Tryz.underlying9
   have hvy:(convert 26 9 (.slice Ay lx.length cy)).run Tryz.prog wm=.ok (.string (jm lx)) wm:=qU (hyx.out wm yj.out) _ _ _ Tryz.underlying26 Tryz.underlying5 Tryz.underlying9
   have lc:Hid (wa.heap.size=wa.heap.size):=zH rfl
   have lu:Hid (we.heap.size=we.heap.size):=zH rfl
   clear Ha Hb Hc Hd Hu Ht hxx hyx Bb Bd Bt ybb ybd ybt y8 yc yg yj hba hbc hbu zBa zBb zBd zBt zBc zBu
   have kx:=qa (Ba.out _ yba.out)
   go_wp2_with fail
   have zz:Hid ((w5.heap.size≤w6.heap.size∧w6.heap.size≤w9.heap.size∧w9.heap.size≤wa.heap.size∧wa.heap.size≤wd.heap.size∧wd.heap.size≤we.heap.size∧we.heap.size≤wh.heap.size∧wh.heap.size≤wi.heap.size∧wi.heap.size≤wm.heap.size)∧(w.heap.size≤w5.heap.size∧w1.heap.size≤w5.heap.size∧w3.heap.size≤w5.heap.size∧w4.heap.size≤w5.heap.size)):=zH (by
    have:=sw6.out;have:=sw7.out;have:=sw8.out;have:=sw9.out;have:=swa.out;have:=swb.out;have:=swc.out;have:=swd.out;have:=swe.out;have:=swf.out;have:=swg.out;have:=swh.out;have:=swi.out;have:=swj.out;have:=swk.out;have:=swl.out;have:=swm.out;have:=q05.out
    omega)
   clear sw6 sw7 sw8 sw9 swa swb swc swd swe swf swg swh swi swj swk swl swm q05
   have szwm:Hid (wm.heap.size≤wm.heap.size):=zH (Nat.le_refl _)
   have hPx:Sp w5.heap.size w6.heap.size a1 na1 a2 na2 a3 na3 a4 a5 da.length wm:=Pa.out.keep fun k h1 h2=>(y6.out.block k h2)
   refine(YS w5.heap.size w6.heap.size a1 na1 ca1 a2 na2 ca2 a3 na3 ca3 a4 na4 ca4 _ _ _ a5 da.length ca5 hna.out.2.2.2.1 (by have:=hna.out;omega) (by have:=hna.out;omega) (by have:=hna.out;omega) (by have:=hna.out;omega) wm (by have:=zz.out;have:=szwm.out;omega) hPx).mono ?_
   rintro e wn ⟨rfl,hR⟩
   have szwn:Hid (wm.heap.size≤wn.heap.size):=zH (Nat.le_trans szwm.out hR.size)
   replace y0:Hid (Ext w wn):=zH (hR.below y0.out (by have:=zz.out;omega) (by have:=zz.out;have:=szwm.out;omega))
   replace y1:Hid (Ext w1 wn):=zH (hR.below y1.out (by have:=zz.out;omega) (by have:=zz.out;have:=szwm.out;omega))
   replace y3:Hid (Ext w3 wn):=zH (hR.below y3.out (by have:=zz.out;omega) (by have:=zz.out;have:=szwm.out;omega))
   replace y4:Hid (Ext w4 wn):=zH (hR.below y4.out (by have:=zz.out;omega) (by have:=zz.out;have:=szwm.out;omega))
   replace y5:Hid (Ext w5 wn):=zH (hR.below y5.out (by have:=zz.out;omega) (by have:=zz.out;have:=szwm.out;omega))
   have Kwn:Hid (∀ k,k<wm.heap.size→(¬(w5.heap.size≤k∧k<w6.heap.size))→wn.heap[k]?=wm.heap[k]?):=zH fun k h1 h2=>(hR.same k (by have:=szwm.out;omega) h2)
   clear hR hPx kx Pa hna
   have kx:=qa ((Kwn.out _ (by have:=(zG.1 (Bc.out wm ybc.out)).1;omega) (by have:=zz.out;have:=lc.out;omega)).trans (Bc.out wm ybc.out))
   go_wp2_with fail
   have hPx:Sp w9.heap.size wa.heap.size c1 nc1 c2 nc2 c3 nc3 c4 c5 dc.length wn:=Pc.out.keep fun k h1 h2=>(Kwn.out k (by have:=zz.out;omega) (by have:=zz.out;omega)).trans (ya.out.block k h2)
   refine(YS w9.heap.size wa.heap.size c1 nc1 cc1 c2 nc2 cc2 c3 nc3 cc3 c4 nc4 cc4 _ _ _ c5 dc.length cc5 hnc.out.2.2.2.1 (by have:=hnc.out;omega) (by have:=hnc.out;omega) (by have:=hnc.out;omega) (by have:=hnc.out;omega) wn (by have:=zz.out;have:=szwn.out;omega) hPx).mono ?_
   rintro e wo ⟨rfl,hR⟩
   have szwo:Hid (wm.heap.size≤wo.heap.size):=zH (Nat.le_trans szwn.out hR.size)
   replace y0:Hid (Ext w wo):=zH (hR.below y0.out (by have:=zz.out;omega) (by have:=zz.out;have:=szwn.out;omega))
   replace y1:Hid (Ext w1 wo):=zH (hR.below y1.out (by have:=zz.out;omega) (by have:=zz.out;have:=szwn.out;omega))
   replace y3:Hid (Ext w3 wo):=zH (hR.below y3.out (by have:=zz.out;omega) (by have:=zz.out;have:=szwn.out;omega))
   replace y4:Hid (Ext w4 wo):=zH (hR.below y4.out (by have:=zz.out;omega) (by have:=zz.out;have:=szwn.out;omega))
   replace y5:Hid (Ext w5 wo):=zH (hR.below y5.out (by have:=zz.out;omega) (by have:=zz.out;have:=szwn.out;omega))
   have Kwo:Hid (∀ k,k<wm.heap.size→(¬(w5.heap.size≤k∧k<w6.heap.size)∧¬(w9.heap.size≤k∧k<wa.heap.size))→wo.heap[k]?=wm.heap[k]?):=zH fun k h1 h2=>(hR.same k (by have:=szwn.out;omega) h2.2).trans (Kwn.out k h1 h2.1)
   clear hR hPx kx Pc hnc
   have kx:=qa ((Kwo.out _ (by have:=(zG.1 (Bu.out wm ybu.out)).1;omega) (by have:=zz.out;have:=lu.out;omega)).trans (Bu.out wm ybu.out))
   go_wp2_with fail
   have hPx:Sp wd.heap.size we.heap.size u1 nu1 u2 nu2 u3 nu3 u4 u5 du.length wo:=Pu.out.keep fun k h1 h2=>(Kwo.out k (by have:=zz.out;omega) (by have:=zz.out;omega)).trans (ye.out.block k h2)
   refine(YS wd.heap.size we.heap.size u1 nu1 cu1 u2 nu2 cu2 u3 nu3 cu3 u4 nu4 cu4 _ _ _ u5 du.length cu5 hnu.out.2.2.2.1 (by have:=hnu.out;omega) (by have:=hnu.out;omega) (by have:=hnu.out;omega) (by have:=hnu.out;omega) wo (by have:=zz.out;have:=szwo.out;omega) hPx).mono ?_
   rintro e wp ⟨rfl,hR⟩
   have szwp:Hid (wm.heap.size≤wp.heap.size):=zH (Nat.le_trans szwo.out hR.size)
   replace y0:Hid (Ext w wp):=zH (hR.below y0.out (by have:=zz.out;omega) (by have:=zz.out;have:=szwo.out;omega))
   replace y1:Hid (Ext w1 wp):=zH (hR.below y1.out (by have:=zz.out;omega) (by have:=zz.out;have:=szwo.out;omega))
   replace y3:Hid (Ext w3 wp):=zH (hR.below y3.out (by have:=zz.out;omega) (by have:=zz.out;have:=szwo.out;omega))
   replace y4:Hid (Ext w4 wp):=zH (hR.below y4.out (by have:=zz.out;omega) (by have:=zz.out;have:=szwo.out;omega))
   replace y5:Hid (Ext w5 wp):=zH (hR.below y5.out (by have:=zz.out;omega) (by have:=zz.out;have:=szwo.out;omega))
   have Kwp:Hid (∀ k,k<wm.heap.size→(¬(w5.heap.size≤k∧k<w6.heap.size)∧¬(w9.heap.size≤k∧k<wa.heap.size)∧¬(wd.heap.size≤k∧k<we.heap.size))→wp.heap[k]?=wm.heap[k]?):=zH fun k h1 h2=>(hR.same k (by have:=szwo.out;omega) h2.2.2).trans (Kwo.out k h1 ⟨h2.1,h2.2.1⟩)
   clear hR hPx kx Pu hnu
   have B0:Hid (∀ i,i<lx.length→Byt wh.heap.size wi.heap.size Ax i wp):=zH fun i hi=>(hbx.out i hi).keep fun k h1 h2=>(Kwp.out k (by have:=zz.out;omega) (by have:=zz.out;omega)).trans (yi.out.block k h2)
   have C0:Hid (jC wh.heap.size wi.heap.size wp wp):=zH (jC.of_ext (Ext.refl _))
   clear hbx Kwn Kwo Kwp y6 ya ye yi Ba Bc Bu yba ybc ybu lc lu
   go_wp2_with fail
   go_loopw [27] (fun iv wr=>∃ i:Nat,i≤lx.length∧iv=.int .i64 (i:Int)∧(∀ j,j<lx.length→Byt wh.heap.size wi.heap.size Ax j wr)∧jC wh.heap.size wi.heap.size wp wr) (fun iv _=>lx.length-(intOf iv).toNat)
   case atStart=>exact⟨0,Nat.zero_le _,rfl,B0.out,C0.out⟩
   case round =>
    clear B0 C0
    obtain⟨i,hi1,rfl,hBy,hC⟩:=hrel
    by_cases hlt:i<lx.length
    ·have hlt':=hlt
     have hd1:decide (i<lx.length)=true:=decide_eq_true hlt
     have hiw:=zH (IntWalk.wrap64_in ((i:Int)+1) (by omega))
     obtain⟨b',o',x,hA,hb',hc'⟩:=hBy i hlt
     subst hA
     have kcx:=(Qd hc').1
     have kfx:=(Qd hc').2
     have SW:=zH (fun y j (hj:j<lx.length)=>(hBy j hj).set (y:=y) hc')
     have CW:=zH (fun y=>hC.set (q:=⟨b',o'+i,none⟩) hb' y)
     clear hBy hC hb' hc'
     replace hlx:=zH hlx
     go_wp2_with fail
     try rw[hiw.out]
     refine⟨⟨i+1,hlt',rfl,SW.out _,CW.out _⟩,?_⟩
     simp[intOf]
     omega
    ·have e:lx.length=i:=by omega
     subst e
     have hd1:decide (lx.length<lx.length)=false:=decide_eq_false hlt
     replace y0:Hid (Ext w wr):=zH (hC.below y0.out (by have:=zz.out;omega) (by have:=zz.out;have:=szwp.out;omega))
     replace y1:Hid (Ext w1 wr):=zH (hC.below y1.out (by have:=zz.out;omega) (by have:=zz.out;have:=szwp.out;omega))
     replace y3:Hid (Ext w3 wr):=zH (hC.below y3.out (by have:=zz.out;omega) (by have:=zz.out;have:=szwp.out;omega))
     replace y4:Hid (Ext w4 wr):=zH (hC.below y4.out (by have:=zz.out;omega) (by have:=zz.out;have:=szwp.out;omega))
     replace y5:Hid (Ext w5 wr):=zH (hC.below y5.out (by have:=zz.out;omega) (by have:=zz.out;have:=szwp.out;omega))
     have kp:=qa (HP.out _ y1.out)
     have ko:=qa (HO.out _ y4.out)
     clear hBy hC
     replace hlx:=zH hlx
     go_wp2_with fail
     refine(Vf _ _ _ _ _ _ _ _ _ _ _ _ _ _ _ _ _ _ _ _ _ _ _ _ gen root next _ _ _ _ S dead hSh.out.bs hSh.out.ws hdl.out wr (ho.out wr y3.out) (hp.out wr y0.out) (hod.out wr y3.out) (hpd.out wr y0.out)).mono ?_
     rintro e wz ⟨rfl,hB9⟩
     have hB9:Ext wr wz:=hB9
     replace y0:Hid (Ext w wz):=zH (y0.out.trans hB9)
     replace y1:Hid (Ext w1 wz):=zH (y1.out.trans hB9)
     replace y3:Hid (Ext w3 wz):=zH (y3.out.trans hB9)
     replace y4:Hid (Ext w4 wz):=zH (y4.out.trans hB9)
     replace y5:Hid (Ext w5 wz):=zH (y5.out.trans hB9)
     have hvx:(convert 26 9 (.slice A8 data.length c8)).run Tryz.prog wz=.ok (.string (jm data)) wz:=qU (hby.out wz y5.out) _ _ _ Tryz.underlying26 Tryz.underlying5 Tryz.underlying9
     have hvy:(convert 26 9 (.slice A data.length c)).run Tryz.prog wz=.ok (.string (jm data)) wz:=qU (hpb.out wz y0.out) _ _ _ Tryz.underlying26 Tryz.underlying5 Tryz.underlying9
     clear kp ko hB9
     go_wp2_with fail
     go_ret
     exact⟨rfl,y0.out⟩
end Go.Proofs.YtckhnchnbeoogaaGreat
namespace Go.Proofs.YtckhnchnbeoogaaGreat
open Go.RowKit Go.ChangeShapes Go.WideShapes Go.ChangeAt
section
variable {H:Type} {enc:TypeId×Value→H} {P:Program} {W:World}
theorem qaz (zs:List Int) (h:∀ n∈zs,(Lit.int .u8 n).wf=true):∃ l:List UInt8,zs.map (Value.int .u8)=l.map bv:=by
 induction zs with
 |nil=>exact⟨[],rfl⟩
 |cons z r ih =>
  obtain⟨l,hl⟩:=ih (fun n hn=>h n (List.mem_cons_of_mem _ hn))
  have hz:=h z (List.mem_cons_self)
  have hb:0≤z∧z≤255:=by simpa [Lit.wf,IntKind.min,IntKind.max,IntKind.signed,IntKind.bits] using hz
  refine⟨UInt8.ofNat z.toNat :: l,?_⟩
  simp only[List.map_cons,hl]
  congr 1
  simp only[bv]
  congr 1
  have:(UInt8.ofNat z.toNat).toNat=z.toNat % 256:=by simp
  rw[this]
  omega
theorem kO {a:Addr} {n c:Nat} {xs:List Value} (hn:n≤c) (hlen:xs.length=n) (hb:∀ x∈MemPlace.row a c,x.block<W.heap.size) (hc:∀ i u,xs[i]?=some u→W.cell? (a.add i)=some u):Rd W W.heap.size 1 (some a) n xs:=by
 refine⟨by omega,fun h0=>?_⟩
 obtain⟨u,hu⟩:∃ u,xs[0]?=some u:=⟨_,List.getElem?_eq_getElem (by omega)⟩
 have h1:=hc 0 u hu
 have hsp:a.spot=none:=by
  have:(a.add 0)=a:=by simp[Addr.add]
  rw[this] at h1
  unfold World.cell? at h1
  split at h1
  ·cases hs:a.spot with
   |none=>rfl
   |some s=>rw[hs] at h1;simp at h1
  ·cases h1
 obtain⟨b,off,sp⟩:=a
 simp only at hsp
 subst hsp
 have hbl:b<W.heap.size:=by
  have:W.cell? ((⟨b,off,none⟩:Addr).add 0)=some u:=h1
  have h2:=World.block_lt_of_cell? W _ this
  simpa [Addr.add] using h2
 refine⟨b,off,rfl,hbl,fun j v hv=>?_⟩
 rw[←hc j v hv]
 unfold Addr.add
 split
 ·subst_vars;rfl
 ·rfl
theorem kM {t e:TypeId} {fuel:Nat} {cs:List Value} {d:DataW H} {p:List MemPlace} (ht:P.underlying t=some (.slice e)) (he:P.underlying e=some (.int .u8)) (hc:P.cellsOf e=1)
  (h:DataW.trod enc P W 0 (fun _=>true) true fuel t cs=some (d,p)) (hlt:∀ x∈p,x.block<W.heap.size):∃ A n c,cs=[.slice A n c]∧n≤c∧∃ l:List UInt8,Bys W W.heap.size (.slice A n c) l∧l.length=n:=by
 rcases open_ints ht he hc h with ⟨rfl,_⟩|⟨a,len,cap,zs,rfl,_,hl,hm,hz,hx,hcell,hwf⟩
 ·exact⟨none,0,0,rfl,Nat.le_refl _,[],Bys.nil W _,rfl⟩
 ·simp only[if_true] at hz
  obtain⟨l,hl'⟩:=qaz (zs.take len) (fun n hn=>hwf n (List.mem_of_mem_take hn))
  have hll:l.length=len:=by
   have:=congrArg List.length hl'
   simp only[List.length_map,List.length_take] at this
   omega
  refine⟨some a,len,cap,rfl,hl,l,⟨some a,cap,by rw[hll],by omega,hm,?_⟩,hll⟩
  rw[hll]
  refine kO (c:=cap) hl (by simp[hll]) (fun x hx'=>hlt x ?_) (fun i u hu=>?_)
  ·have e2:p=MemPlace.row a zs.length:=by injection hx
   rw[e2,hz];exact hx'
  ·rw[←hl'] at hu
   rw[List.getElem?_map,List.getElem?_take] at hu
   split at hu
   ·rename_i hi
    rw[hcell i (by omega)]
    rw[←hu]
    simp[List.getElem?_eq_getElem (show i<zs.length by omega)]
   ·cases hu
theorem vD {t:TypeId} {fs:Array Field} {fuel:Nat} {cs:List Value} {x:DataW H×List MemPlace} (ht:P.underlying t=some (.struct fs)) (h:DataW.trod enc P W 0 (fun _=>true) true fuel t cs=some x) :
  ∃ (xs:List (DataW H×List MemPlace)) (n:Nat),cs.length=P.cellsOf t∧xs.length=fs.size∧x.2=xs.flatMap (·.2) ∧
   ∀ (i:Nat) (T:TypeId) (off m:Nat),(fs[i]?).map (fun f=>(f.type,f.offset))=some (T,off)→P.cellsOf T=m→DataW.trod enc P W 0 (fun _=>true) true n T ((cs.drop off).take m)=xs[i]?:=by
 obtain⟨xs,n,_,hx,hl,hxl,hf⟩:=DataW.trod_struct ht h
 refine⟨xs,n,hl,hxl,by rw[hx],fun i T off m hi hm=>?_⟩
 obtain⟨f,hfi,he⟩:=Option.map_eq_some_iff.1 hi
 have:=hf i f hfi
 simp only[Prod.mk.injEq] at he
 rw[he.1,he.2,hm] at this
 exact this
end
section
variable {H:Type} {enc:TypeId×Value→H} {P:Program}
theorem KF (hl:laidOutB P=true) {W W':World} {sp:Nat→Bool}:∀ (ts:List TypeId) (vs:List Value) (ds:List (DataW H)) (p:List MemPlace),DataW.TrodAll enc P W 0 (fun _=>true) true ts vs ds p →
  (∀ t∈ts,P.readableRec t=true∧t<P.types.size)→(∀ x∈p,W.sameAt W' x)→(∀ x∈p,sp x.block=true)→DataW.TrodAll enc P W' 0 sp true ts vs ds p
 | [],vs,ds,p,h,_,_,_=>by
  obtain⟨rfl,rfl,rfl⟩:=trodAll_nil h
  exact trodAll_mk0
 |t :: ts,vs,ds,p,h,ht,hs,hsp=>by
  obtain⟨v,vs',d,ds',p0,q0,rfl,rfl,rfl,h0,h1⟩:=trodAll_cons h
  have e:=ht t (List.mem_cons_self)
  exact trodAll_cons_mk (WideElems.Trod_stays hl e.1 e.2 h0 (fun x hx=>hs x (List.mem_append_left _ hx)) (fun x hx=>hsp x (List.mem_append_left _ hx)))
   (KF hl ts vs' ds' q0 h1 (fun t' h'=>ht t' (List.mem_cons_of_mem _ h')) (fun x hx=>hs x (List.mem_append_right _ hx)) (fun x hx=>hsp x (List.mem_append_right _ hx)))
theorem law_post {f:Func} {s:ChangeSpec} {W W':World} {args:Array Value} {ds gs:List (DataW H)} {before:List MemPlace} {b:TypeId} (hv:s.vars=[]) (hl:laidOutB P=true)
  (hr:f.resultTypes=#[b]) (hb:P.underlying b=some .bool) (ht:∀ t∈f.params.toList,P.readableRec t=true∧t<P.types.size)
  (hW:DataW.Whole enc P f.params.toList s.vars false W args.toList ds gs before) (hs:s.fn H (ds++gs)={ results:=[.lit (.bool true)],args:=ds,vars:=[] }) (hB:Below W.heap.size W W') :
  s.post enc P f false true false false W args (.bool true) W':=by
 have hlt:∀ x∈before,x.block<W.heap.size:=fun x hx=>hW.lt x hx
 have hW0:=hW
 obtain⟨p,q,hA,hV,rfl,_,_⟩:=hW
 have hq:q=[]:=by
  rw[hv] at hV
  cases gs with
  |nil=>exact hV
  |cons g gs=>cases hV
 subst hq
 refine⟨ds,gs,p++[],[],p,[],hW0,?_,?_,?_,?_,fun h=>by cases h⟩
 ·rw[hs,hr]
  exact trodAll_cons_mk (shut_bool hb true) trodAll_mk0
 ·rw[hs]
  exact KF hl _ _ _ _ hA ht (fun x hx=>hB.same (hlt x (by simpa using hx))) (fun x hx=>by simpa using hlt x (by simpa using hx))
 ·rw[hs,hv]
  exact rfl
 ·exact World.keptBut_mono (fun x hx=>⟨by simpa using hx,Or.inr (Or.inl hx)⟩) (hB.frame (· ∈ p))
end
end Go.Proofs.YtckhnchnbeoogaaGreat
