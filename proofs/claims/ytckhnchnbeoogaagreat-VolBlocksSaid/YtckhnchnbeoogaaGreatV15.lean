/- Texts Tree, CenB, TakeW, Mono, FreeI, joined. -/
import Derived.OrdersIn
import Derived.TacticsIn
import Derived.CallsIn
import Derived.Test.YtckhnchnbeoogaaGreatV08
import Derived.Test.YtckhnchnbeoogaaGreatV10
import Derived.Test.YtckhnchnbeoogaaGreatV13
import Derived.Test.YtckhnchnbeoogaaGreatV14
set_option linter.unusedSimpArgs false
set_option linter.unusedVariables false
namespace Go.Proofs.YtckhnchnbeoogaaGreat
open Go.RowKit
def TreeQ (p:CP) (R:List Nat) (r:Int) (vv:Value) (w:World) (f:Int→Option Value) (e:Ending) (w':World):Prop:=
 e=.returned (.int .i64 (if okL p.S (-1) r=true then 0 else 8))∧w'.os=w.os∧w'.tape=w.tape∧w'.output=w.output∧w.heap.size≤w'.heap.size∧(∀ k,k<w.heap.size→k≠p.cb→k≠p.mb→w'.heap[k]?=w.heap[k]?) ∧
  (okL p.S (-1) r=true→∃ ca g refs nodes,Cen (p.put ca) w' g∧Zf f g∧Ar ca refs nodes vv∧Qj p.S (R++[r.toNat]) refs nodes∧Xi p.S g (R++[r.toNat]))
theorem Tryz.info_int:(Tryz.prog.info? 3).map (fun i=>(i.zero,i.size,i.bytes))=some (some (.int .i64 0),1,8):=by kernel_rfl
structure TRel (p:CP) (w1:World) (vv:Value) (R:List Nat) (v:Value) (wr:World):Prop where
 ex:∃ (s:List Nat) (rf nd:Nat→Nat) (ca:Array Value),lenV v=s.length∧wr.ownsRow w1.heap.size 3 1 v s.length (ZD s)∧TrI p w1.heap.size w1 wr vv ca rf nd∧Wk p.S R rf nd s
structure IRel (p:CP) (w1:World) (vv:Value) (s':List Nat) (lv9:Nat) (xs:List It) (rf nd':Nat→Nat) (nb:Nat) (A9:Option Addr) (c9:Nat) (v i:Value) (wq:World):Prop where
 ex:∃ (k:Nat) (rf':Nat→Nat) (ca':Array Value),k≤xs.length∧i=.int .i64 (k:Int)∧(∀ x,rf' x=rf x+(Jb xs k).count x)∧lenV v=(s'++zI lv9 xs k).length ∧
  wq.ownsRow w1.heap.size 3 1 v (s'++zI lv9 xs k).length (ZD (s'++zI lv9 xs k))∧(∀ q,v.ownBlock=some q→q≠nb)∧TrI p w1.heap.size w1 wq vv ca' rf' nd' ∧
  wq.heap[nb]?=some (.cells #[.int .i64 lv9,.slice A9 xs.length c9] 118 (0,0))
set_option maxHeartbeats 4000000 in
set_option maxRecDepth 100000 in
theorem tree_any (p:CP) (R:List Nat) (hRl:R.length≤100) (r:Int) (w:World) (f:Int→Option Value) (refs nodes:Nat→Nat) (vv:Value) (hC:Cen p w f) (hA:Ar p.ca refs nodes vv) (hN:Qj p.S R refs nodes) (hR:Xi p.S f R) :
  Calls Tryz.prog 89 #[.pointer (some ⟨p.cb,0,none⟩),.int .i64 r] w (TreeQ p R r vv w f):=by
 replace hC:=zH hC
 replace hA:=zH hA
 replace hN:=zH hN
 replace hR:=zH hR
 have hfi:=field_is
 have hfn:=qdJ
 go_enter Tryz.func89,Tryz.ntmps89
 go_wp2_with fail
 refine(Tw p r w f hC.out).mono ?_
 rintro e w1 ⟨v,g,rfl,⟨lvl,A,n,c,fk,lk,rfl,hknown⟩,hgr,hm,hg,hn⟩
 have C1:=hC.out.after hgr hm hg hn
 rcases hok:okL p.S (-1) r with _|_
 ·have HQ:TreeQ p R r vv w f (.returned (.int .i64 8)) w1:=⟨by rw[hok];rfl,hg.os,hg.tape,hg.output,hg.size,fun k h1 _ h2=>hg.block k h1 (by simp;omega),fun h=>by rw[hok] at h;cases h⟩
  replace HQ:=zH HQ
  replace C1:=zH C1
  clear hknown hgr hm hg hn
  go_wp2
  go_ret
  exact HQ.out
 ·obtain⟨a,rfl,htree⟩:=kS hok
  have hga:=hknown hok
  have ha2:a<256:=htree.2.1
  have kc:=qa C1.row
  have fc:=qd C1.row
  have kr:=hA.out.ref a ha2
  replace C1:=zH C1
  replace htree:=zH htree
  replace hga:=zH hga
  clear hknown
  have hw1:wrap64 ((refs a:Int)+1)=(refs a:Int)+1:=IntWalk.wrap64_in _ (by have:=qbt (Qr.walk.1 hN.out.mkd) a;omega)
  have T1:TrI p w1.heap.size w1 w1 vv p.ca refs nodes:=⟨Off.refl (Nat.le_refl _),C1.out.row,hA.out,fun _ _=>rfl,(zG.1 C1.out.row).1⟩
  have Rk:Xi p.S g (R++[a]):=fun b hb=>by
   rcases List.mem_append.1 hb with hb|hb
   ·exact⟨(hR.out b hb).1,hgr.some_ _ (hR.out b hb).2⟩
   ·rw[List.mem_singleton.1 hb]
    exact⟨htree.out,by rw[hga.out];rfl⟩
  replace Rk:=zH Rk
  go_wp2_with fail
  have gR:∀ W,qu.r w1 W→W.cell? ⟨p.cb,6+a,none⟩=some (.int .i64 (refs a:Int)):=fun W h=>by rw[qa (qc C1.out.row h)];exact kr
  refine qv (by kernel_rfl) ?_
  refine Zd 0 10 (.pointer (some ⟨p.cb,0,none⟩)) (by kernel_rfl) (by simp only[List.getElem?_toArray,List.getElem?_cons_succ,List.getElem?_cons_zero];exact rfl) (by kernel_rfl) (by kernel_rfl) (by kernel_rfl) (by rfl) (fun W=>?_) ?_
  ·go_simp
  simp only[Act.put,qi,qe,qb,qg,qb,zA,zB,zC]
  refine Zd 7 9 (.pointer (some ⟨p.cb,0,none⟩)) (by kernel_rfl) (by simp only[List.getElem?_toArray,List.getElem?_cons_succ,List.getElem?_cons_zero];exact rfl) (by kernel_rfl) (by kernel_rfl) (by kernel_rfl) (by rfl) (fun W=>?_) ?_
  ·go_simp
  simp only[Act.put,qi,qe,qb,qg,qb,zA,zB,zC]
  refine Zd 8 8 (.pointer (some ⟨p.cb,6,none⟩)) (by kernel_rfl) (by simp only[List.getElem?_toArray,List.getElem?_cons_succ,List.getElem?_cons_zero];exact rfl) (by kernel_rfl) (by kernel_rfl) (by kernel_rfl) (by rfl) (fun W=>?_) ?_
  ·go_simp
  simp only[Act.put,qi,qe,qb,qg,qb,zA,zB,zC]
  refine QH (w:=w1) qu (qE []) [false,true,true,true,true,true,true,false,false,true] 1 (by kernel_rfl) (by kernel_rfl) (by kernel_rfl) (by kernel_rfl) (by kernel_rfl) (by kernel_rfl) ?st (Rel.drew _ _) ?walk
  case st=>exact qm (fun _ h=>by cases h)
  case walk =>
   intro K hK
   dsimp only[qz]
   repeat ((first|(refine qf ?_ (by rfl) (by rfl) (fun W hW _=>⟨W,?_,Rel.refl _ W⟩) ?_;rotate_left;(first|(go_simp;with_reducible rfl)|(go_simp;done)))|(refine qj (by rfl) ?_));try simp only[Act.put,qi,qe,qb,qg,qb,zA,zB,zC])
   refine qf (.pointer (some ⟨p.cb,6+a,none⟩)) (by rfl) (by rfl) (fun W hW _=>⟨W,?_,Rel.refl _ W⟩) ?_
   ·go_simp
    intro hge
    exfalso
    omega
   simp only[Act.put,qi,qe,qb,qg,qb,zA,zB,zC]
   repeat ((first|(refine qf ?_ (by rfl) (by rfl) (fun W hW _=>⟨W,?_,Rel.refl _ W⟩) ?_;rotate_left;(first|(go_simp;with_reducible rfl)|(go_simp;done)))|(refine qj (by rfl) ?_));try simp only[Act.put,qi,qe,qb,qg,qb,zA,zB,zC])
   refine qf (.pointer (some ⟨p.cb,6+a,none⟩)) (by rfl) (by rfl) (fun W hW _=>⟨W,?_,Rel.refl _ W⟩) ?_
   ·go_simp
    intro hge
    exfalso
    omega
   simp only[Act.put,qi,qe,qb,qg,qb,zA,zB,zC]
   repeat ((first|(refine qf ?_ (by rfl) (by rfl) (fun W hW _=>⟨W,?_,Rel.refl _ W⟩) ?_;rotate_left;(first|(go_simp;with_reducible rfl)|(go_simp;done)))|(refine qj (by rfl) ?_));try simp only[Act.put,qi,qe,qb,qg,qb,zA,zB,zC])
   refine qD (hK _ _ fun W hW hF=>?_)
   have hW':Ext w1 W:=hW
   clear hF hK gR kc fc kr
   dsimp only[List.drop,List.length_cons,List.length_nil]
   have T2:=(T1.ext hW').addRef ha2
   have rc:=qc C1.out.row hW'
   have kc:=qa rc
   have fc:=qd rc
   have kr:=hA.out.ref a ha2
   go_wp2
   refine Qw ?_
   go_wp2_with fail
   generalize hw3:World.alloc _ _=w3
   have T3:TrI p w1.heap.size w1 w3 vv _ (bump refs a) nodes:=T2.ext (by rw[←hw3];exact Ext.alloc _ _)
   have o3:w3.ownsRow w1.heap.size 3 1 (.slice (some ⟨W.heap.size,0,none⟩) 1 1) 1 (ZD [a]):=by
    have h:=World.ownsRow_lit (base:=w1.heap.size) (e:=3) (size:=1) (W.setCell ⟨p.cb,6+a,none⟩ (.int .i64 ((refs a:Int)+1))) #[.int .i64 (a:Int)] 1 (by simpa using hW'.size) (by unfold maxLen;omega) rfl
    rw[←hw3]
    have hz:(W.setCell ⟨p.cb,6+a,none⟩ (.int .i64 ((refs a:Int)+1))).heap.size=W.heap.size:=by simp
    rw[hz] at h
    exact h
   have K3:=hN.out.start a
   generalize (p.ca.setIfInBounds (6+a) _)=ca3 at T3
   clear hw3 kc fc kr rc T2 hW' T1 hN hA hw1
   generalize W.heap.size=g3 at *
   replace T3:=zH T3
   replace o3:=zH o3
   replace K3:=zH K3
   go_loopw [5] (fun v wr=>TRel p w1 vv (R++[a]) v wr) (fun v wr=>6*leftW wr p.cb+lenV v)
   case atStart=>exact⟨[a],_,_,_,rfl,o3.out,T3.out,K3.out⟩
   case round =>
    obtain⟨s,rf,nd,ca,hsl,hown,T,K⟩:=hrel.ex
    clear T3 o3 K3
    rcases List.eq_nil_or_concat s with rfl|⟨s',b,rfl⟩
    ·obtain⟨A,c',rfl,-,-⟩:=qw hown
     have hd:Qj p.S (R++[a]) rf nd:=K.done
     have HQ:TreeQ p R (a:Int) vv w f (.returned (.int .i64 0)) wr:=by
      refine⟨by rw[hok];rfl,?_,?_,?_,?_,?_,fun _=>⟨ca,g,rf,nd,T.cen C1.out,hgr,T.ar,?_,?_⟩⟩
      ·exact T.off.os.trans hg.os
      ·exact T.off.tape.trans hg.tape
      ·exact T.off.output.trans hg.output
      ·exact Nat.le_trans hg.size T.off.size
      ·intro k h1 h2 h3
       exact(T.off.block k (Nat.lt_of_lt_of_le h1 hg.size) h2).trans (hg.block k h1 (by simp;omega))
      ·simpa using hd
      ·simpa using Rk.out
     replace HQ:=zH HQ
     replace T:=zH T
     replace K:=zH K
     replace hd:=zH hd
     clear hown hsl hgr hm hg hn
     go_wp2
     go_ret
     exact HQ.out
    ·rw[List.concat_eq_append] at *
     obtain⟨m,hm0⟩:∃ m,m=s'.length:=⟨_,rfl⟩
     rw[List.length_append,List.length_singleton,←hm0] at hown
     rw[ve] at hown
     rcases hown.2 with ⟨h0,-⟩|⟨gb,cap,cur,rfl,hgb,hrow,hnc,hcm,hcs,htk⟩
     ·exfalso
      have:=hown.1
      simp[kX] at this
      rw[h0] at hsl
      simp[lenV] at hsl
     ·obtain⟨gb',off',e0,hgb',hcel⟩:=(Rd.of_own hown).2 (by omega)
      simp only[Option.some.injEq,Addr.mk.injEq,and_true] at e0
      obtain⟨rfl,rfl⟩:=e0
      have kb:=hcel m (.int .i64 (b:Int)) (by rw[List.getElem?_append_right (by rw[kX];omega),kX,←hm0];simp)
      rw[Nat.zero_add] at kb
      clear hcel
      have hown2:=KY (xs:=ZD s') (news:=[.int .i64 (b:Int)]) (n:=m) (m:=1) hown (by rw[kX,hm0];omega)
      obtain⟨hbt,hbk⟩:=Rk.out.reach C1.out.known (K.wk.stk b (List.mem_append_right _ (List.mem_singleton.2 rfl)))
      have hb2:=hbt.2.1
      have hw2:wrap64 ((m:Int)+1-1)=(m:Int):=by rw[IntWalk.wrap64_in _ (by unfold maxLen at hcm;omega)];omega
      have hw22:wrap64 (m:Int)=(m:Int):=IntWalk.wrap64_in _ (by unfold maxLen at hcm;omega)
      replace hown:=zH hown
      replace hown2:=zH hown2
      replace T:=zH T
      replace K:=zH K
      replace hbt:=zH hbt
      replace hbk:=zH hbk
      replace hm0:=zH hm0
      replace hsl:=zH hsl
      have hmc:m≤cap:=Nat.le_of_succ_le hnc
      have hcap:¬cap=0:=fun e=>by rw[e] at hnc;exact absurd hnc (Nat.not_succ_le_zero _)
      clear hrow
      clear htk hcs hgr hm hg hn hgb hcm hnc
      have kn0:=T.out.ar.node b hb2
      have hw3:wrap64 ((nd b:Int)+1)=(nd b:Int)+1:=IntWalk.wrap64_in _ (by have:=K.out.few b;simp at this;omega)
      go_wp2_with fail
      have gN:∀ W,qu.r wr W→W.cell? ⟨p.cb,262+b,none⟩=some (.int .i64 (nd b:Int)):=fun W h=>by rw[qa (qc T.out.row h)];exact kn0
      refine qv (by kernel_rfl) ?_
      refine Zd 0 10 (.pointer (some ⟨p.cb,0,none⟩)) (by kernel_rfl) (by simp only[List.getElem?_toArray,List.getElem?_cons_succ,List.getElem?_cons_zero];exact rfl) (by kernel_rfl) (by kernel_rfl) (by kernel_rfl) (by rfl) (fun W=>?_) ?_
      ·go_simp
      simp only[Act.put,qi,qe,qb,qg,qb,zA,zB,zC]
      refine Zd 2 9 (.pointer (some ⟨p.cb,0,none⟩)) (by kernel_rfl) (by simp only[List.getElem?_toArray,List.getElem?_cons_succ,List.getElem?_cons_zero];exact rfl) (by kernel_rfl) (by kernel_rfl) (by kernel_rfl) (by rfl) (fun W=>?_) ?_
      ·go_simp
      simp only[Act.put,qi,qe,qb,qg,qb,zA,zB,zC]
      refine Zd 7 8 (.pointer (some ⟨p.cb,0,none⟩)) (by kernel_rfl) (by simp only[List.getElem?_toArray,List.getElem?_cons_succ,List.getElem?_cons_zero];exact rfl) (by kernel_rfl) (by kernel_rfl) (by kernel_rfl) (by rfl) (fun W=>?_) ?_
      ·go_simp
      simp only[Act.put,qi,qe,qb,qg,qb,zA,zB,zC]
      refine Zd 8 7 (.pointer (some ⟨p.cb,262,none⟩)) (by kernel_rfl) (by simp only[List.getElem?_toArray,List.getElem?_cons_succ,List.getElem?_cons_zero];exact rfl) (by kernel_rfl) (by kernel_rfl) (by kernel_rfl) (by rfl) (fun W=>?_) ?_
      ·go_simp
      simp only[Act.put,qi,qe,qb,qg,qb,zA,zB,zC]
      refine QH (w:=wr) qu (qE []) [false,true,false,true,true,true,true,false,false,true] 1 (by kernel_rfl) (by kernel_rfl) (by kernel_rfl) (by kernel_rfl) (by kernel_rfl) (by kernel_rfl) ?st (Rel.drew _ _) ?walk
      case st=>exact qm (fun _ h=>by cases h)
      case walk =>
       intro K' hK'
       dsimp only[qz]
       repeat ((first|(refine qf ?_ (by rfl) (by rfl) (fun W hW _=>⟨W,?_,Rel.refl _ W⟩) ?_;rotate_left;(first|(go_simp;with_reducible rfl)|(go_simp;done)))|(refine qj (by rfl) ?_));try simp only[Act.put,qi,qe,qb,qg,qb,zA,zB,zC])
       refine qf (.pointer (some ⟨p.cb,262+b,none⟩)) (by rfl) (by rfl) (fun W hW _=>⟨W,?_,Rel.refl _ W⟩) ?_
       ·go_simp
        intro hge
        exfalso
        omega
       simp only[Act.put,qi,qe,qb,qg,qb,zA,zB,zC]
       repeat ((first|(refine qf ?_ (by rfl) (by rfl) (fun W hW _=>⟨W,?_,Rel.refl _ W⟩) ?_;rotate_left;(first|(go_simp;with_reducible rfl)|(go_simp;done)))|(refine qj (by rfl) ?_));try simp only[Act.put,qi,qe,qb,qg,qb,zA,zB,zC])
       refine qf (.pointer (some ⟨p.cb,262+b,none⟩)) (by rfl) (by rfl) (fun W hW _=>⟨W,?_,Rel.refl _ W⟩) ?_
       ·go_simp
        intro hge
        exfalso
        omega
       simp only[Act.put,qi,qe,qb,qg,qb,zA,zB,zC]
       repeat ((first|(refine qf ?_ (by rfl) (by rfl) (fun W hW _=>⟨W,?_,Rel.refl _ W⟩) ?_;rotate_left;(first|(go_simp;with_reducible rfl)|(go_simp;done)))|(refine qj (by rfl) ?_));try simp only[Act.put,qi,qe,qb,qg,qb,zA,zB,zC])
       refine qD (hK' _ _ fun W hW hF=>?_)
       have hWx:Ext wr W:=hW
       clear hF hK' gN
       dsimp only[List.drop,List.length_cons,List.length_nil]
       have T2:=(T.out.ext hWx).addNode hb2
       have rc:=qc T.out.row hWx
       have kc:=qa rc
       have fc:=qd rc
       have o2:(W.setCell ⟨p.cb,262+b,none⟩ (.int .i64 ((nd b:Int)+1))).ownsRow w1.heap.size 3 1 (.slice (some ⟨gb,0,none⟩) m cap) m (ZD s'):=QR (QK hown2.out hWx) (p:=⟨p.cb,262+b,none⟩) T.out.lt _
       generalize (ca.setIfInBounds (262+b) _)=ca4 at T2
       replace rc:=zH rc
       go_wp2
       refine Qw ?_
       rw[hw3]
       generalize hw4:W.setCell ⟨p.cb,262+b,none⟩ (.int .i64 ((nd b:Int)+1))=w4 at *
       clear hw4 kc fc rc hWx
       replace T2:=zH T2
       replace o2:=zH o2
       have kc:=qa T2.out.row
       have kn2:=T2.out.ar.node b hb2
       have hbb:bump nd b b=nd b+1:=by unfold bump;rw[if_pos rfl]
       rw[hbb] at kn2
       have kq:w4.cell? ⟨p.cb,262+b,none⟩=some (.int .i64 ((nd b:Int)+1)):=(kc _).trans kn2
       have kq5:w4.cell? ⟨p.cb,5,none⟩=some (.map (some p.mb)):=(kc _).trans ((T2.out.low 5 (by omega)).trans C1.out.c5)
       clear kc kn2
       rcases Nat.eq_zero_or_pos (nd b) with hz|hz
       ·have hc1:decide (((nd b+1:Nat):Int)>1)=false:=decide_eq_false (by omega)
        have hc2:decide ((nd b:Int)+1>1)=false:=decide_eq_false (by omega)
        replace hz:=zH hz
        go_wp2_with (at_lookup;refine qI ?_)
        obtain⟨v9,hv9⟩:=Option.isSome_iff_exists.1 hbk.out
        obtain⟨n9,lv9,xs,A9,c9,f9,l9,b9,e9,-,-,hnode,rfl,hits,-,-⟩:=C1.out.known _ _ hv9
        obtain rfl:b=n9:=by omega
        have hMap:=(T2.out.cen C1.out).map
        refine Qc.go (Yx _ rfl (.tmp 61) (.tmp 62) 109 rfl Tryz.underlying109 Tryz.underlying3 rfl rfl hMap hv9 ?_)
        have hmay:=(Qn hnode).1
        have hxs:=(Qn hnode).2.1
        have hlen:xs.length≤5:=by unfold qR zN at hmay;simp at hmay;omega
        clear hMap hv9 hmay kq kq5
        replace hnode:=zH hnode
        replace hits:=zH hits
        replace hxs:=zH hxs
        go_wp2_with fail
        generalize hw5:World.alloc w4 _=w5
        have T5:=T2.out.ext (by rw[←hw5];exact Ext.alloc _ _:Ext w4 w5)
        have o5:=QK o2.out (by rw[←hw5];exact Ext.alloc _ _:Ext w4 w5)
        have n5:w5.heap[w4.heap.size]?=some (.cells #[.int .i64 lv9,.slice A9 xs.length c9] 118 (0,0)):=by rw[←hw5];exact World.alloc_heap_at _ _ _ rfl
        have z5:gb<w4.heap.size:=(zY o2.out gb rfl).2
        clear hw5
        have hlt9:=T2.out.lt
        have hB4:=T2.out.off.size
        generalize w4.heap.size=nb at *
        have I0:IRel p w1 vv s' lv9 xs rf (bump nd b) nb A9 c9 (.slice (some ⟨gb,0,none⟩) m cap) (.int .i64 0) w5:=by
         refine⟨0,rf,ca4,Nat.zero_le _,rfl,fun x=>by rw[Gm];rfl,?_,?_,fun q hq=>?_,T5,n5⟩
         ·rw[kF,List.append_nil];exact hm0.out
         ·rw[kF,List.append_nil,←hm0.out];exact o5
         ·simp[Value.ownBlock] at hq
          omega
        replace I0:=zH I0
        clear o5 T5 n5
        go_loopw [5,68] (fun v i wq=>IRel p w1 vv s' lv9 xs rf (bump nd b) nb A9 c9 v i wq) (fun _ i _=>xs.length-(intOf i).toNat)
        case atStart=>exact I0.out
        case round =>
         obtain⟨k,rf',ca',hk,rfl,hrf,hvl,hown',hnb,TI,nI⟩:=hrel.ex
         clear I0
         by_cases hlt:k<xs.length
         ·have hlt':=hlt
          obtain⟨b9',off9,rfl,hb9⟩:=hits.out.its.at_.2.2.2 (by omega)
          obtain⟨A',c',d0,d1,d2,d3,d4,-⟩:=(TI.its C1.out hits.out).its.item k hlt'
          obtain⟨⟨-,-,-,⟨hr1,hr2⟩,-⟩,-⟩:=hxs.out xs[k] (List.getElem_mem hlt')
          have HSK:=zH (fun h=>Xr (lvl:=lv9) hlt' h)
          have HPU:=zH (fun h h'=>XI (lvl:=lv9) hlt' h h')
          have HRS:=zH (fun h=>Gh hlt' h hrf)
          have HRB:=zH (fun h=>Gj hlt' h hrf)
          generalize xs[k]=x at *
          obtain⟨r,hr⟩:=Int.eq_ofNat_of_zero_le hr1
          rw[hr] at d3 hr2
          have hr3:r<256:=by omega
          rw[hr,Int.toNat_natCast] at HSK HPU HRS HRB
          clear hr1 hr2
          replace hr:=zH hr
          replace hrf:=zH hrf
          replace TI:=zH TI
          replace hown':=zH hown'
          replace hvl:=zH hvl
          replace hnb:=zH hnb
          rcases Nat.eq_zero_or_pos r with hr0|hr0
          ·have hq1:((r:Int) == 0)=true:=by rw[beq_iff_eq];omega
           have hq2:decide (r=0)=true:=decide_eq_true hr0
           have hrf1:=HRS.out hr0
           have hpt:=HSK.out (.inl hr0)
           replace hr0:=zH hr0
           replace hrf1:=zH hrf1
           replace hpt:=zH hpt
           go_wp2_with fail
           refine⟨⟨k+1,rf',ca',hlt',rfl,hrf1.out,?_,?_,hnb.out,TI.out.ext (Ext.alloc _ _),qc nI (Ext.alloc _ _)⟩,by simp[intOf];omega⟩
           ·rw[hpt.out];exact hvl.out
           ·rw[hpt.out];exact QK hown'.out (Ext.alloc _ _)
          ·have hq1:((r:Int) == 0)=false:=by rw[beq_eq_false_iff_ne];omega
           have hq2:decide (r=0)=false:=decide_eq_false (by omega)
           have hr00:¬r=0:=by omega
           have hrf1:=HRB.out hr00
           replace hrf1:=zH hrf1
           replace hr00:=zH hr00
           clear hr0
           go_wp2_with fail
           generalize hw6:World.alloc wr _=w6
           have x6:Ext wr w6:=by rw[←hw6];exact Ext.alloc _ _
           have r6:w6.heap[wr.heap.size]?=some (.cells #[.int .u8 x.k,.int .u32 x.i,.int .u32 x.o,.int .i64 r,.slice A' x.val.length c'] 38 (0,0)):=by rw[←hw6];exact World.alloc_heap_at _ _ _ rfl
           clear hw6 d0 d1 d2 d3 d4
           have T6:=TI.out.ext x6
           have o6:=QK hown'.out x6
           have n6:=qc nI x6
           have kr0:=T6.ar.ref r hr3
           have hw6:wrap64 ((rf' r:Int)+1)=(rf' r:Int)+1:=IntWalk.wrap64_in _ (by
            have h1:=hrf.out r
            have h2:=List.count_le_length (a:=r) (l:=Jb xs k)
            have h3:=TN (xs:=xs) (k:=k)
            have h4:=qbt K.out.wk r
            simp at h4
            omega)
           have gR:∀ W,qu.r w6 W→W.cell? ⟨p.cb,6+r,none⟩=some (.int .i64 (rf' r:Int)):=fun W h=>by rw[qa (qc T6.row h)];exact kr0
           have gI:∀ W,qu.r w6 W→∀ i,W.cell? ⟨wr.heap.size,i,none⟩=#[.int .u8 x.k,.int .u32 x.i,.int .u32 x.o,.int .i64 r,.slice A' x.val.length c'][i]?:=fun W h=>qa (qc r6 h)
           refine qv (by kernel_rfl) ?_
           refine Zd 0 11 (.pointer (some ⟨p.cb,0,none⟩)) (by kernel_rfl) (by simp only[List.getElem?_toArray,List.getElem?_cons_succ,List.getElem?_cons_zero];exact rfl) (by kernel_rfl) (by kernel_rfl) (by kernel_rfl) (by rfl) (fun W=>?_) ?_
           ·go_simp
           simp only[Act.put,qi,qe,qb,qg,qb,zA,zB,zC]
           refine Zd 3 10 (.pointer (some ⟨p.cb,0,none⟩)) (by kernel_rfl) (by simp only[List.getElem?_toArray,List.getElem?_cons_succ,List.getElem?_cons_zero];exact rfl) (by kernel_rfl) (by kernel_rfl) (by kernel_rfl) (by rfl) (fun W=>?_) ?_
           ·go_simp
           simp only[Act.put,qi,qe,qb,qg,qb,zA,zB,zC]
           refine Zd 8 9 (.pointer (some ⟨p.cb,0,none⟩)) (by kernel_rfl) (by simp only[List.getElem?_toArray,List.getElem?_cons_succ,List.getElem?_cons_zero];exact rfl) (by kernel_rfl) (by kernel_rfl) (by kernel_rfl) (by rfl) (fun W=>?_) ?_
           ·go_simp
           simp only[Act.put,qi,qe,qb,qg,qb,zA,zB,zC]
           refine Zd 9 8 (.pointer (some ⟨p.cb,6,none⟩)) (by kernel_rfl) (by simp only[List.getElem?_toArray,List.getElem?_cons_succ,List.getElem?_cons_zero];exact rfl) (by kernel_rfl) (by kernel_rfl) (by kernel_rfl) (by rfl) (fun W=>?_) ?_
           ·go_simp
           simp only[Act.put,qi,qe,qb,qg,qb,zA,zB,zC]
           refine QH (w:=w6) qu (qE []) [false,true,true,false,true,true,true,true,false,false,true] 1 (by kernel_rfl) (by kernel_rfl) (by kernel_rfl) (by kernel_rfl) (by kernel_rfl) (by kernel_rfl) ?st (Rel.drew _ _) ?walk
           case st=>exact qm (fun _ h=>by cases h)
           case walk =>
            intro K2 hK2
            dsimp only[qz]
            repeat ((first|(refine qf ?_ (by rfl) (by rfl) (fun W hW _=>⟨W,?_,Rel.refl _ W⟩) ?_;rotate_left;(first|(go_simp;with_reducible rfl)|(go_simp;done)))|(refine qj (by rfl) ?_));try simp only[Act.put,qi,qe,qb,qg,qb,zA,zB,zC])
            refine qf (.pointer (some ⟨p.cb,6+r,none⟩)) (by rfl) (by rfl) (fun W hW _=>⟨W,?_,Rel.refl _ W⟩) ?_
            ·go_simp
             intro hge
             exfalso
             omega
            simp only[Act.put,qi,qe,qb,qg,qb,zA,zB,zC]
            repeat ((first|(refine qf ?_ (by rfl) (by rfl) (fun W hW _=>⟨W,?_,Rel.refl _ W⟩) ?_;rotate_left;(first|(go_simp;with_reducible rfl)|(go_simp;done)))|(refine qj (by rfl) ?_));try simp only[Act.put,qi,qe,qb,qg,qb,zA,zB,zC])
            refine qf (.pointer (some ⟨p.cb,6+r,none⟩)) (by rfl) (by rfl) (fun W hW _=>⟨W,?_,Rel.refl _ W⟩) ?_
            ·go_simp
             intro hge
             exfalso
             omega
            simp only[Act.put,qi,qe,qb,qg,qb,zA,zB,zC]
            repeat ((first|(refine qf ?_ (by rfl) (by rfl) (fun W hW _=>⟨W,?_,Rel.refl _ W⟩) ?_;rotate_left;(first|(go_simp;with_reducible rfl)|(go_simp;done)))|(refine qj (by rfl) ?_));try simp only[Act.put,qi,qe,qb,qg,qb,zA,zB,zC])
            refine qD (hK2 _ _ fun W hW hF=>?_)
            have hWx:Ext w6 W:=hW
            clear hF hK2 gR gI
            dsimp only[List.drop,List.length_cons,List.length_nil]
            have T7:=(T6.ext hWx).addRef hr3
            have rc:=qc T6.row hWx
            have kc:=qa rc
            have fc:=qd rc
            have hlp:=T6.lt
            have o7:(W.setCell ⟨p.cb,6+r,none⟩ (.int .i64 ((rf' r:Int)+1))).ownsRow w1.heap.size 3 1 _ _ _:=QR (QK o6 hWx) (p:=⟨p.cb,6+r,none⟩) hlp _
            have n7:(W.setCell ⟨p.cb,6+r,none⟩ (.int .i64 ((rf' r:Int)+1))).heap[nb]?=_:=(Below.heap_setCell _ _ _ _ (by show nb≠p.cb;omega)).trans (qc n6 hWx)
            have r7:(W.setCell ⟨p.cb,6+r,none⟩ (.int .i64 ((rf' r:Int)+1))).heap[wr.heap.size]?=_:=(Below.heap_setCell _ _ _ _ (by show wr.heap.size≠p.cb;have:=TI.out.off.size;omega)).trans (qc r6 hWx)
            generalize (ca'.setIfInBounds (6+r) _)=ca7 at T7
            replace rc:=zH rc
            go_wp2
            refine Qw ?_
            rw[hw6]
            generalize hw7:W.setCell ⟨p.cb,6+r,none⟩ (.int .i64 ((rf' r:Int)+1))=w7 at *
            clear hw7 kc fc rc hWx T6 o6 n6 x6 r6 kr0 hw6
            have kn7:=qa n7
            have kr7:=qa r7
            replace T7:=zH T7
            replace o7:=zH o7
            rcases Nat.eq_zero_or_pos lv9 with hv0|hv0
            ·have hq3:decide ((lv9:Int)>0)=false:=decide_eq_false (by omega)
             have hq4:decide (0<lv9)=false:=decide_eq_false (by omega)
             have hpt:=HSK.out (.inr hv0)
             replace hpt:=zH hpt
             replace hv0:=zH hv0
             go_wp2_with fail
             refine⟨⟨k+1,bump rf' r,ca7,hlt',rfl,hrf1.out,?_,?_,hnb.out,T7.out,n7⟩,by simp[intOf];omega⟩
             ·rw[hpt.out];exact hvl.out
             ·rw[hpt.out];exact o7.out
            ·have hq3:decide ((lv9:Int)>0)=true:=decide_eq_true (by omega)
             have hq4:decide (0<lv9)=true:=decide_eq_true hv0
             have hpt:=HPU.out hr00.out hv0
             replace hpt:=zH hpt
             replace hv0:=zH hv0
             have hlv7:=hvl.out
             have hnb7:=hnb.out
             have hz7:nb<w7.heap.size:=(zG.1 n7).1
             have hfew:(s'++zI lv9 xs k).length<1073741824:=by
              have h1:=K.out.few b
              have h2:(zI lv9 xs k).length≤k:=by
               unfold zI
               split
               ·exact TN
               ·simp
              simp at h1
              rw[List.length_append]
              omega
             replace hlv7:=zH hlv7
             replace hnb7:=zH hnb7
             replace hfew:=zH hfew
             obtain⟨i0,hi,hz0,hz1,hz2⟩:=info_parts Tryz.info_int
             go_wp2_with (at_builtin;refine qI ?_)
             refine Qc.go (QP _ rfl (.tmp 89) (.tmp 92) 30 rfl w1.heap.size 3 i0 (.int .i64 0) 1 8 Tryz.underlying30 hi hz0 hz1 hz2 rfl (by decide) _ _ _ rfl o7.out #[.int .i64 (r:Int)] rfl rfl (by simp[Value.oneCell']) hfew.out (by decide) T7.out.off.size ?_)
             intro v8 w8 own8 g8 _ hown8
             have T8:=T7.out.grown g8 fun q hq=>(zY o7.out q hq).1
             have n8:=(g8.block nb hz7 (fun e=>hnb7.out nb e.symm rfl)).trans n7
             have hnb8:∀ q,v8.ownBlock=some q→q≠nb:=by
              intro q hq
              rcases hown8 with e|⟨q',e,e2⟩
              ·exact hnb7.out q (e.symm.trans hq)
              ·rw[e] at hq
               cases hq
               omega
             obtain⟨A8,c8,hv8,-,-⟩:=qw own8
             have hlen8:lenV v8=(s'++zI lv9 xs (k+1)).length:=by
              rw[hv8,hpt.out]
              simp only[lenV,List.length_append,List.length_cons,List.length_nil]
              omega
             have own9:w8.ownsRow w1.heap.size 3 1 v8 (s'++zI lv9 xs (k+1)).length (ZD (s'++zI lv9 xs (k+1))):=by
              have hcat:(s'++zI lv9 xs (k+1)).length=(s'++zI lv9 xs k).length+1:=by rw[hpt.out,←List.append_assoc,List.length_append,List.length_singleton]
              rw[hcat,hpt.out,←List.append_assoc,ve]
              exact own8
             have IR:IRel p w1 vv s' lv9 xs rf (bump nd b) nb (some ⟨b9',off9,none⟩) c9 v8 (.int .i64 ((k:Int)+1)) w8:=⟨k+1,bump rf' r,ca7,hlt',rfl,hrf1.out,hlen8,own9,hnb8,T8,n8⟩
             replace IR:=zH IR
             clear own8 g8 hown8 hv8 hlen8 own9 hnb8 T8 n8 hi hz0 hz1 hz2
             go_wp2_with fail
             refine⟨IR.out,?_⟩
             simp[intOf]
             omega
         ·have hke:k=xs.length:=by omega
          subst hke
          have KN:=K.out.new hz.out hb2 hnode.out hrf
          have hlen2:lenV _=_:=hvl
          have e1:=YL T.out.row T.out.ar
          have e2:=YL TI.row TI.ar
          have e3:=Yd (M:=zv nd) (a:=b) (decide_eq_false (by have:=hz.out;omega)) 256
          rw[←vM,if_pos hb2] at e3
          have hpl:(zI lv9 xs xs.length).length≤5:=by
           unfold zI
           split
           ·exact Nat.le_trans TN hlen
           ·simp
          replace e3:=zH e3
          clear hw2 hw22 hw3
          go_wp2_with fail
          go_roundw
          case rel =>
           exact⟨s'++zI lv9 xs xs.length,rf',bump nd b,ca',hvl,hown',TI,KN⟩
          case measure =>
           rw[e1,e2,hvl,List.length_append,←hm0.out]
           have e3':=e3.out
           simp only[lenV]
           omega
       ·have hc1:decide (((nd b+1:Nat):Int)>1)=true:=decide_eq_true (by omega)
        have hc2:decide ((nd b:Int)+1>1)=true:=decide_eq_true (by omega)
        replace hz:=zH hz
        go_wp2_with fail
        go_roundw
        case rel =>
         exact⟨s',rf,bump nd b,ca4,hm0.out,by rw[←hm0.out];exact o2.out,T2.out,K.out.again hz.out⟩
        case measure =>
         have e1:=YL T.out.row T.out.ar
         have e2:=YL T2.out.row T2.out.ar
         rw[vH hz.out] at e2
         rw[e1,e2]
         simp[lenV]
def ca0 (s1 s2 s3 s4:Value) (bb mb:Nat):Array Value:=(#[s1,s2,s3,s4,.pointer (some ⟨bb,0,none⟩),.map (some mb)]++Array.replicate 512 (.int .i64 0))++#[.slice none 0 0]
theorem ca_eq (s1 s2 s3 s4:Value) (bb mb:Nat):(((((Tryz.zeroCells112.setIfInBounds 0 s1).setIfInBounds 1 s2).setIfInBounds 2 s3).setIfInBounds 3 s4).setIfInBounds 4 (.pointer (some ⟨bb,0,none⟩))).setIfInBounds 5 (.map (some mb))=ca0 s1 s2 s3 s4 bb mb:=by kernel_rfl
theorem qaY (p:CP) (w1:World) (f:Int→Option Value) (refs nodes:Nat→Nat) (s1 s2 s3 s4:Value) (gen root next:Int) (dead:Value) (hC:Cen p w1 f):∀ h:Nat,VolsC p w1 f refs nodes s1 s2 s3 s4 gen root next dead h
 |0=>qbj p w1 f refs nodes s1 s2 s3 s4 gen root next dead hC 0 fun _ e=>by omega
 |h+1=>qbj p w1 f refs nodes s1 s2 s3 s4 gen root next dead hC (h+1) fun h' e=>by
  obtain rfl:h=h':=by omega
  exact qaY p w1 f refs nodes s1 s2 s3 s4 gen root next dead hC h
theorem ca0_ar (s1 s2 s3 s4:Value) (bb mb:Nat):Ar (ca0 s1 s2 s3 s4 bb mb) (fun _=>0) (fun _=>0) (.slice none 0 0):=by
 unfold ca0
 refine⟨by simp,fun a ha=>?_,fun a ha=>?_,?_⟩
 ·rw[Array.getElem?_append_left (by simp;omega),Array.getElem?_append_right (by simp)]
  simp[Array.getElem?_replicate]
  omega
 ·rw[Array.getElem?_append_left (by simp;omega),Array.getElem?_append_right (by simp;omega)]
  simp[Array.getElem?_replicate]
  omega
 ·rw[Array.getElem?_append_right (by simp)]
  simp
theorem ca0_low (s1 s2 s3 s4:Value) (bb mb:Nat) {i:Nat} (hi:i<6):(ca0 s1 s2 s3 s4 bb mb)[i]?=(#[s1,s2,s3,s4,.pointer (some ⟨bb,0,none⟩),.map (some mb)]:Array Value)[i]?:=by
 unfold ca0
 rw[Array.getElem?_append_left (by simp;omega),Array.getElem?_append_left (by simp;omega)]
theorem zm.empty (w:World):zm (w.alloc (.map #[] 0)) w.heap.size fun _=>none:=⟨#[],0,World.alloc_heap_at _ _ _ rfl,fun _ h=>absurd h (List.not_mem_nil),fun _=>rfl⟩
def Vj (S:Sto) (root next:Int):Option (List Vol):=match qV S root.toNat with
 |none=>none
 |some (lvl,xs)=>zR next [] (qS S lvl.toNat xs)
def Qs (root:Int) (dead:List Int) (vs:List Vol):List Int:=(root :: dead)++vs.map (·.root)
structure QM (S:Sto) (root next:Int) (dead:List Int) (vs:List Vol):Prop where
 may:qB S=true
 few:dead.length≤40
 top:okL S (-1) root=true
 vols:Vj S root next=some vs
 ok:∀ r∈Qs root dead vs,okL S (-1) r=true
def QY (S:Sto) (refs:Nat→Nat):Prop:=∀ a,a<256→refs a≤(S.now[a]?.getD 0).toNat
def QF (w:World) (B:Nat) (v:Value) (l:List Int):Prop:=∃ A c,v=.slice A l.length c∧l.length≤c∧c≤maxLen∧Rd w B 1 A l.length (l.map fun (a:Int)=>Value.int .i64 a)
def zl (root:Int) (dead:List Int) (vs:List Vol):List Nat:=(Qs root dead vs).map Int.toNat
structure Taken (S:Sto) (root next:Int) (dead:List Int) (vs:List Vol) (refs nodes:Nat→Nat) (lo cb:Nat) (ca:Array Value) (vv:Value) (w:World):Prop where
 pool:QM S root next dead vs
 cnt:Qj S (zl root dead vs) refs nodes
 enough:QY S refs
 low:lo≤cb
 row:w.heap[cb]?=some (.cells ca 112 (0,0))
 ar:Ar ca refs nodes vv
 own:w.ownsRow lo 70 4 vv vs.length (Zu vs)
def Kt (S:Sto) (root next:Int) (dead:List Int) (w:World) (e:Ending) (w':World):Prop:=Below w.heap.size w w' ∧
 ((e=.returned (.tuple #[.pointer none,.int .i64 8])∧∀ vs,QM S root next dead vs→∃ refs nodes,Qj S (zl root dead vs) refs nodes∧¬QY S refs) ∨
  ∃ vs refs nodes cb ca vv,e=.returned (.tuple #[.pointer (some ⟨cb,0,none⟩),.int .i64 0])∧Taken S root next dead vs refs nodes w.heap.size cb ca vv w')
theorem Kt.bad {S:Sto} {root next:Int} {dead:List Int} {w w':World} (hB:Below w.heap.size w w') (h:∀ vs,¬QM S root next dead vs):Kt S root next dead w (.returned (.tuple #[.pointer none,.int .i64 8])) w':=
 ⟨hB,.inl ⟨rfl,fun vs hp=>absurd hp (h vs)⟩⟩
def Ki (l:List Int):List Value:=l.map fun (a:Int)=>Value.int .i64 a
theorem Gu (l:List Int) (a:Int):Ki (l++[a])=Ki l++[Value.int .i64 a]:=by simp[Ki]
theorem Uq (l:List Int) (k:Nat) (h:k<l.length):(Ki l)[k]?=some (.int .i64 l[k]):=by unfold Ki;rw[List.getElem?_map,List.getElem?_eq_getElem h];rfl
def ZB (root:Int) (dead:List Int) (vs:List Vol) (k:Nat):List Int:=(root :: dead)++(vs.take k).map (·.root)
theorem XE (root:Int) (dead:List Int) (vs:List Vol) {k:Nat} (h:k≤vs.length):(ZB root dead vs k).length=1+dead.length+k:=by unfold ZB;simp;omega
theorem YC (root:Int) (dead:List Int) (vs:List Vol) {k:Nat} (h:k<vs.length):ZB root dead vs (k+1)=ZB root dead vs k++[vs[k].root]:=by
 unfold ZB
 rw[List.take_succ_eq_append_getElem h,List.map_append,←List.append_assoc]
 rfl
theorem kP (root:Int) (dead:List Int) (vs:List Vol):ZB root dead vs vs.length=Qs root dead vs:=by unfold ZB Qs;rw[List.take_length]
theorem GE (vs:List Vol):∀ k (h:k<vs.length),(Zu vs)[k*4]?=some (.int .u32 vs[k].id)∧(Zu vs)[k*4+1]?=some (.int .i64 vs[k].root)∧(Zu vs)[k*4+2]?=some (.bool vs[k].fz)∧(Zu vs)[k*4+3]?=some (.int .u32 vs[k].frm):=by
 induction vs with
 |nil=>intro k h;exact absurd h (Nat.not_lt_zero _)
 |cons v r ih =>
  intro k h
  cases k with
  |zero=>exact⟨rfl,rfl,rfl,rfl⟩
  |succ k =>
   have:=ih k (by simpa using h)
   have e:Zu (v :: r)=[.int .u32 v.id,.int .i64 v.root,.bool v.fz,.int .u32 v.frm]++Zu r:=rfl
   rw[e]
   have hg:∀ j,([.int .u32 v.id,.int .i64 v.root,.bool v.fz,.int .u32 v.frm]++Zu r:List Value)[(k+1)*4+j]?=(Zu r)[k*4+j]?:=fun j=>by
    rw[List.getElem?_append_right (by simp only[List.length_cons,List.length_nil];omega)]
    congr 1
    simp only[List.length_cons,List.length_nil]
    omega
   exact⟨(hg 0).trans this.1,(hg 1).trans this.2.1,(hg 2).trans this.2.2.1,(hg 3).trans this.2.2.2⟩
theorem Qj.zero (S:Sto):Qj S [] (fun _=>0) (fun _=>0):=
 ⟨Qr.walk.2 (VU.nil (fun _=>rfl) fun _=>rfl),fun a=>by have:=qbg (zv fun _=>0) 256;simp only[List.length_nil];omega⟩
structure jZ (cb mb:Nat) (w w':World):Prop where
 os:w'.os=w.os
 tape:w'.tape=w.tape
 output:w'.output=w.output
 size:w.heap.size≤w'.heap.size
 block:∀ k,k<w.heap.size→k≠cb→k≠mb→w'.heap[k]?=w.heap[k]?
theorem jZ.refl (cb mb:Nat) (w:World):jZ cb mb w w:=⟨rfl,rfl,rfl,Nat.le_refl _,fun _ _ _ _=>rfl⟩
theorem jZ.trans {cb mb:Nat} {w w' w'':World} (h:jZ cb mb w w') (h':jZ cb mb w' w''):jZ cb mb w w'':=
 ⟨h'.os.trans h.os,h'.tape.trans h.tape,h'.output.trans h.output,Nat.le_trans h.size h'.size,fun k h1 h2 h3=>(h'.block k (Nat.lt_of_lt_of_le h1 h.size) h2 h3).trans (h.block k h1 h2 h3)⟩
theorem jZ.below {cb mb B:Nat} {w0 w w':World} (h:jZ cb mb w w') (hb:Below B w0 w) (hB:B≤w.heap.size) (h1:B≤cb) (h2:B≤mb):Below B w0 w':=
 ⟨h.os.trans hb.os,h.tape.trans hb.tape,h.output.trans hb.output,Nat.le_trans hb.size h.size,fun k hk=>(h.block k (by omega) (by omega) (by omega)).trans (hb.block k hk)⟩
structure R2 (p:CP) (w8:World) (vv:Value) (roots:List Int) (i:Value) (wr:World):Prop where
 ex:∃ (k:Nat) (g:Int→Option Value) (ca:Array Value) (refs nodes:Nat→Nat),k≤roots.length∧i=.int .i64 (k:Int)∧Cen (p.put ca) wr g∧Ar ca refs nodes vv∧Qj p.S ((roots.take k).map Int.toNat) refs nodes∧Xi p.S g ((roots.take k).map Int.toNat) ∧
  (∀ r∈roots.take k,okL p.S (-1) r=true)∧jZ p.cb p.mb w8 wr
section
variable {P:Program} {ops:Array Oper} {rest:List Oper} {o:Oper} {a:Act} {w:World} {Q:Exit→Act→World→Prop}
theorem Uu (g off:Nat) (ty:TypeId) (cs:List Value) (d:TypeDesc) (hc:∀ j v,cs[j]?=some v→w.cell? ⟨g,off+j,none⟩=some v)
  (hu:P.underlying ty=some d) (hd:(match d with | .struct _ | .array _ _=>true|_=>false)=true) (hi:(P.info? ty).map (·.size)=some cs.length) :
  (loadVar ty ⟨g,off,none⟩).run P w=.ok (.agg cs.toArray) w:=by
 have hl:(loadCells ⟨g,off,none⟩ cs.length).run P w=.ok cs.toArray w:=
  run_loadCells_list (P:=P) w ⟨g,off,none⟩ cs (fun j v hv=>by
   have hadd:(⟨g,off,none⟩:Addr).add j=⟨g,off+j,none⟩:=by unfold Addr.add;split <;> simp_all
   rw[hadd]
   exact hc j v hv)
 cases hq:P.info? ty with
 |none=>simp[hq] at hi
 |some i =>
  have hs:i.size=cs.length:=by simpa [hq] using hi
  have hagg:(isAgg ty).run P w=.ok true w:=by
   unfold isAgg
   rw[Sem.run_bind,run_underlying hu w]
   cases d <;> simp_all
  simp[loadVar,Sem.run_bind,hagg,sizeOf,typeInfo,hq,hs,hl]
theorem vX (hgd:o.guard=none) (ty:TypeId) (x:Operand) (ho:o.op=.load ty x) (g off:Nat) (hx:a.eval x=.pointer (some ⟨g,off,none⟩)) (cs:List Value) (d:TypeDesc) (hc:∀ j v,cs[j]?=some v→w.cell? ⟨g,off+j,none⟩=some v)
  (hu:P.underlying ty=some d) (hd:(match d with | .struct _ | .array _ _=>true|_=>false)=true) (hi:(P.info? ty).map (·.size)=some cs.length)
  (h:wpList P ops Q rest (a.put o.dst (.agg cs.toArray)) w):wpList P ops Q (o :: rest) a w:=by
 refine wpList_plain hgd fun K hK=>?_
 unfold Oper.wp execOp
 simp only[ho,hx,Instr.loadAt,Instr.sureAddr,Sem.run_bind,Sem.run_pure,Result.andThen_ok,Uu g off ty cs d hc hu hd hi]
 exact hK _ _ h
end
def zk (f:Nat→Nat):List Value:=(List.range 256).map fun a=>Value.int .i64 ((f a:Nat):Int)
theorem Zn (f:Nat→Nat) {k:Nat} (h:k<256):(zk f)[k]?=some (.int .i64 ((f k:Nat):Int)):=by
 unfold zk
 rw[List.getElem?_map,List.getElem?_range h]
 rfl
theorem qaj {f:Nat→Nat} {j:Nat} {v:Value} (h:(zk f)[j]?=some v):j<256∧v=.int .i64 ((f j:Nat):Int):=by
 have hj:j<256:=by
  have:=(List.getElem?_eq_some_iff.1 h).1
  simpa [zk] using this
 rw[Zn f hj] at h
 cases h
 exact⟨hj,rfl⟩
structure R3 (S:Sto) (refs:Nat→Nat) (w9:World) (i:Value) (wr:World):Prop where
 ex:∃ k:Nat,k≤256∧i=.int .i64 (k:Int)∧(∀ a,a<k→refs a≤(S.now[a]?.getD 0).toNat)∧wr=w9
theorem own_kept {cb mb:Nat} {w w':World} {base n size:Nat} {e:TypeId} {v:Value} {xs:List Value} (h:w.ownsRow base e size v n xs) (hk:jZ cb mb w w') (h1:cb<base) (h2:mb<base):w'.ownsRow base e size v n xs:=by
 refine⟨h.1,?_⟩
 rcases h.2 with h0|⟨g,cap,cur,hv,hb,hg,hr⟩
 ·exact .inl h0
 ·exact .inr ⟨g,cap,cur,hv,hb,(hk.block g (zG.1 hg).1 (by omega) (by omega)).trans hg,hr⟩
structure R1 (w6:World) (root:Int) (dead:List Int) (vs:List Vol) (v i:Value) (wr:World):Prop where
 ex:∃ k:Nat,k≤vs.length∧i=.int .i64 (k:Int)∧wr.ownsRow w6.heap.size 3 1 v (1+dead.length+k) (Ki (ZB root dead vs k))∧Ext w6 wr
structure SM (S S':Sto):Prop where
 node:∀ r nd,qV S r=some nd→qV S' r=some nd
 pos:∀ r:Nat,0<(S.now[r]?.getD 0).toNat→0<(S'.now[r]?.getD 0).toNat
theorem KX {one one':It→Option (K3×K3)} (h:∀ y p,one y=some p→one' y=some p):∀ (xs:List It) (a:Option (Option (K3×K3))) (q:Option (K3×K3)),xs.foldl (JW one) a=some q→xs.foldl (JW one') a=some q
 | [],_,_,e=>e
 |x :: r,a,q,e=>by
  simp only[List.foldl_cons] at e ⊢
  have hs:=(YW one r (JW one a x) (by rw[e];rfl)).1
  have e2:JW one' a x=JW one a x:=by
   unfold JW at hs ⊢
   rcases a with _|a
   ·rfl
   ·rcases hx:one x with _|p
    ·rw[hx] at hs;cases hs
    ·rw[h x p hx]
  rw[e2]
  exact KX h r _ q e
section
variable {S S':Sto}
theorem SM.one (hm:SM S S'):∀ (h:Nat) (y:It) (p:K3×K3),Yi S h y=some p→Yi S' h y=some p
 |0,y,p,e=>by
  unfold Yi at e ⊢
  split at e
  ·rename_i hc
   rw[if_pos (hc.imp id (hm.pos _))]
   exact e
  ·cases e
 |h+1,y,p,e=>by
  rw[Kg] at e ⊢
  unfold JP at e ⊢
  split at e
  ·rename_i hr
   rw[if_pos hr]
   rcases hn:qV S y.r.toNat with _|⟨lvl,xs⟩
   ·rw[hn] at e;cases e
   ·rw[hn] at e
    rw[hm.node _ _ hn]
    simp only at e ⊢
    split at e
    ·rename_i hl
     rw[if_pos hl]
     rcases hs:QL S h xs with _|q
     ·rw[hs] at e;cases e
     ·rw[hs] at e
      have h2:QL S' h xs=some q:=KX (SM.one hm h) xs _ q hs
      rw[h2]
      exact e
    ·cases e
  ·cases e
theorem SM.span (hm:SM S S') {h:Nat} {xs:List It} {q:Option (K3×K3)} (e:QL S h xs=some q):QL S' h xs=some q:=KX (hm.one h) xs _ q e
theorem SM.spanOk (hm:SM S S') {h:Nat} {xs:List It} (e:(QL S h xs).isSome=true):(QL S' h xs).isSome=true:=by
 obtain⟨q,hq⟩:=Option.isSome_iff_exists.1 e
 rw[hm.span hq]
 rfl
theorem SM.okL (hm:SM S S') {L r:Int} (e:okL S L r=true):okL S' L r=true:=by
 unfold Go.Proofs.YtckhnchnbeoogaaGreat.okL at e ⊢
 split at e
 ·rename_i hr
  rw[if_pos hr]
  rcases hn:qV S r.toNat with _|⟨lvl,xs⟩
  ·rw[hn] at e;cases e
  ·rw[hn] at e
   rw[hm.node _ _ hn]
   simp only[Bool.and_eq_true] at e ⊢
   exact⟨hm.spanOk e.1,e.2⟩
 ·cases e
theorem SM.items (hm:SM S S'):∀ (h:Nat) (xs:List It),(QL S h xs).isSome=true→qS S' h xs=qS S h xs
 |0,_,_=>rfl
 |h+1,xs,e=>by
  unfold qS
  rw[List.flatMap_def,List.flatMap_def]
  congr 1
  refine List.map_congr_left fun y hy=>?_
  obtain⟨b,hb,_,_,ys,hn,hs⟩:=VN (kj e y hy)
  rw[hb,Int.toNat_natCast,hm.node _ _ hn,hn]
  exact SM.items hm h ys hs
theorem SM.vols (hm:SM S S') {root next:Int} {vs:List Vol} (ht:Go.Proofs.YtckhnchnbeoogaaGreat.okL S (-1) root=true) (e:Vj S root next=some vs):Vj S' root next=some vs:=by
 unfold Vj at e ⊢
 unfold Go.Proofs.YtckhnchnbeoogaaGreat.okL at ht
 split at ht
 ·rcases hn:qV S root.toNat with _|⟨lvl,xs⟩
  ·rw[hn] at e;cases e
  ·rw[hn] at e ht
   rw[hm.node _ _ hn]
   simp only[Bool.and_eq_true] at e ht ⊢
   rw[hm.items _ _ ht.1]
   exact e
 ·cases ht
theorem SM.pool (hm:SM S S') (hS:qB S'=true) {root next:Int} {dead:List Int} {vs:List Vol} (h:QM S root next dead vs):QM S' root next dead vs:=
 ⟨hS,h.few,hm.okL h.top,hm.vols h.top h.vols,fun r hr=>hm.okL (h.ok r hr)⟩
theorem SM.refs (hm:SM S S') {a:Nat} (h:ZN S a):zi S' a=zi S a:=by
 obtain⟨-,-,lvl,xs,hn,-⟩:=h
 unfold zi
 rw[hn,hm.node _ _ hn]
theorem SM.kids (hm:SM S S') {a:Nat} (h:ZN S a):QX S' a=QX S a:=by
 have hr:=hm.refs h
 obtain⟨-,-,lvl,xs,hn,-⟩:=h
 unfold QX
 rw[hn,hm.node _ _ hn]
 simp only[hr]
theorem SM.rch (hm:SM S S') {R:Nat→Prop} (hR:∀ a,R a→ZN S a) {a:Nat} (x:Rch (QX S) R a):Rch (QX S') R a:=by
 induction x with
 |base r=>exact .base r
 |step hx hb ih=>exact .step ih (by rw[hm.kids (KT hR hx)];exact hb)
theorem qdI {rs rs':Nat→List Nat} {M:Nat→Bool} {b:Nat}:∀ n,(∀ a,M a=true→rs a=rs' a)→vL rs M b n=vL rs' M b n
 |0,_=>rfl
 |n+1,h=>by
  unfold vL
  rw[qdI n h]
  by_cases hm:M n=true
  ·rw[if_pos hm,if_pos hm,h n hm]
  ·rw[if_neg hm,if_neg hm]
theorem SM.counted (hm:SM S S') {R:List Nat} {refs nodes:Nat→Nat} (hR:∀ a,a∈R→ZN S a) (h:Qj S R refs nodes):Qj S' R refs nodes:=by
 have htr:∀ a,zv nodes a=true→ZN S a:=fun a ha=>KT (R:=(· ∈ R)) hR (h.mkd.reach a ha)
 refine⟨⟨fun a ha=>hm.rch hR (h.mkd.reach a ha),h.mkd.root,fun a ha b hb=>?_,fun b=>?_⟩,h.few⟩
 ·rw[hm.kids (htr a ha)] at hb
  exact h.mkd.kids a ha b hb
 ·rw[h.mkd.sum b,qdI 256 fun a ha=>(hm.refs (htr a ha)).symm]
theorem Qj.node {R:List Nat} {refs nodes:Nat→Nat} (hR:∀ a,a∈R→ZN S a) (h:Qj S R refs nodes) {a:Nat} (ha:zv nodes a=true):(qV S a).isSome=true:=by
 obtain⟨-,-,lvl,xs,hn,-⟩:=KT (R:=(· ∈ R)) hR (h.mkd.reach a ha)
 rw[hn]
 rfl
end
structure Xv (F:Fence):Prop where
 fn:∀ f,F.fn f
 depth:¬F.depth.isSome=true
 call:∀ {n:Nat} {P:Program} {f:FuncId} {args:Array Value} {w:World} {R:Ending→World→Prop},Calls P f args w R→CallsIn F n P f args w R
theorem wideF:Xv Fence.wide:=⟨fun _=>trivial,fun h=>(by cases h),fun h=>callsIn_wide.2 h⟩
theorem Xo (l:Nat):Xv (Fence.wide.inRound l):=⟨fun _=>trivial,fun h=>(by cases h),fun h=>CallsIn.inRound l (callsIn_wide.2 h)⟩
def Vc (ops:Array Oper):Bool:=ops.toList.all fun o=>match o.op with | .defer _=>false|_=>true
theorem Jy {ops:Array Oper} (h:Vc ops=true) {i:Nat} {o:Oper} (ho:ops[i]?=some o):∀ c,o.op≠.defer c:=by
 intro c hc
 have h1:=List.all_eq_true.1 h o (by
  have:=Array.mem_of_getElem? ho
  simpa using this)
 rw[hc] at h1
 cases h1
section
variable {F:Fence} {P:Program} {ops:Array Oper} {n:Nat}
theorem VZ {Q':Exit→Act→World→Prop}:∀ (l:List Oper) (k:Nat) (listed:Array Bool) (a:Act) (W:World),(∀ j,j<l.length→l[j]?=ops[k+j]?)→YY ops l.length k listed=true→wpListIn F n P ops Q' l a W→wpAnyIn F n P .any ops Q' l.length listed a W
 | [],_,_,_,_,_,hB,h=>⟨by simpa [YY] using hB,h⟩
 |o :: l,k,listed,a,W,hl,hB,h=>by
  simp only[List.length_cons,YY,Bool.and_eq_true] at hB
  obtain⟨hr,hB'⟩:=hB
  have hr':Region.ready .any ops listed=[k]:=by simpa using hr
  have h0:ops[k]?=some o:=by simpa using (hl 0 (by simp)).symm
  refine⟨fun e=>(by rw[hr'] at e;cases e),fun i hi=>?_⟩
  rw[hr'] at hi
  obtain rfl:i=k:=by simpa using hi
  have hl':∀ j,j<l.length→l[j]?=ops[i+1+j]?:=fun j hj=>by have:=hl (j+1) (by simpa using hj);simpa [Nat.add_assoc,Nat.add_comm 1 j] using this
  refine wpOpIn_mono (fun a w hw=>VZ l (i+1) _ a w hl' hB' hw) ?_
  unfold wpOpIn
  simp only[h0]
  exact h
end
section
variable {F0:Fence} {R:Rel} {P:Program} {ops:Array Oper} {w0:World} {n:Nat}
theorem XW (HF:Xv F0) (HN:Vc ops=true) {H:Nat→Option qT} {i:Nat} {o:Oper} {a:Act} {F:qN} {K:Act→qN→Prop} {K':Act→World→Prop} {Q':Exit→Act→World→Prop} {W:World} (hi:ops[i]?=some o)
  (hH:∀ i h,H i=some h→∀ p,qF R (h.φ p)) (hst:∀ k,qF R (F k)) (hW:R.r w0 W) (hF:∀ k,F k W)
  (hK:∀ a' F' W',K a' F'→(∀ k,qF R (F' k))→R.r w0 W'→(∀ k,F' k W')→K' a' W') (h:FOpG R P ops w0 H i o K a F):wpOpIn F0 n P ops Q' i K' a W:=by
 obtain⟨hh,hok,hn⟩:=h
 have go:∀ p W',R.r W W'→hh.φ p W'→K' (a.put o.dst (hh.f p)) W':=fun p W' he hφ=>by
  have hF':∀ k,upd F i o (hh.φ p) k W':=fun k=>by
   unfold upd
   split
   ·exact⟨hφ,fun j _=>hst j _ _ he (hF j)⟩
   ·exact hst k _ _ he (hF k)
  exact hK _ _ W' (hn p ⟨W',R.trans hW he,hF'⟩) (Ze hst i o (hok.stable hH p)) (R.trans hW he) hF'
 unfold wpOpIn
 simp only[hi]
 rcases hok with ⟨x1,rfl⟩|⟨x1,x2,v,rfl,x3⟩|⟨x1,x2,x3⟩
 ·simp only[x1,Bool.false_eq_true,if_false]
  exact⟨fun f _=>HF.fn f,go () W (R.refl W) trivial⟩
 ·simp only[x1,if_true]
  obtain⟨w',hr,he⟩:=x3 W hW fun k _=>hF k
  refine⟨fun f _=>HF.fn f,?_⟩
  rw[Oper.semAt_eq _ _ _ (Jy HN hi),hr]
  exact go () w' he trivial
 ·simp only[x1,if_true]
  have h3:=x3 W hW fun k _=>hF k
  unfold Qp at h3
  refine⟨fun f _=>HF.fn f,?_⟩
  rw[Oper.semAt_eq _ _ _ (Jy HN hi)]
  generalize (execOp a.eval o).run P W=r at *
  cases r with
  |ok m w' =>
   cases m <;> simp only[Zo] at h3 <;> simp only[Oper.uponIn]
   case value u =>
    obtain⟨p,rfl,hp,he⟩:=h3
    exact go p w' he hp
   case skip =>
    obtain⟨p,e,hp,he⟩:=h3
    have:=go p w' he hp
    rwa [←e] at this
   case enter f args =>
    obtain⟨he,hcl⟩:=h3
    refine⟨fun h=>absurd h HF.depth,HF.call (hcl.mono fun e w'' ⟨p,he1,hp,he2⟩=>?_)⟩
    subst he1
    exact go p w'' (R.trans he he2) hp
  |halt x w'=>simp only[Zo] at h3
theorem jP (HF:Xv F0) (HN:Vc ops=true) {H:Nat→Option qT} (hH:∀ i h,H i=some h→∀ p,qF R (h.φ p)) {L:Array Bool} {t:Nat} {Q:Act→qN→Prop} {Q':Exit→Act→World→Prop}
  (hQ:∀ a F W,Q a F→R.r w0 W→(∀ k,F k W)→wpAnyIn F0 n P .any ops Q' t L a W) :
  ∀ (fuel:Nat) (listed:Array Bool) (a:Act) (F:qN) (W:World),(∀ k,qF R (F k))→R.r w0 W→(∀ k,F k W)→Jw R P ops w0 H L Q fuel listed a F→wpAnyIn F0 n P .any ops Q' (fuel+t) listed a W
 |0,listed,a,F,W,_,hW,hF,h=>by
  rw[h.1,Nat.zero_add]
  exact hQ a F W h.2 hW hF
 |fuel+1,listed,a,F,W,hst,hW,hF,h=>by
  rw[show fuel+1+t=fuel+t+1 by omega]
  refine⟨fun h0=>absurd h0 h.1,fun i hi=>?_⟩
  obtain⟨_,o,ho,_⟩:=mem_ready.1 hi
  exact XW HF HN ho hH hst hW hF (fun a' F' W' hk hst' hW' hF'=>jP HF HN hH hQ fuel _ a' F' W' hst' hW' hF' hk) (h.2 i hi o ho)
theorem vz {id:Nat} {l:List Oper} {Q:Exit→Act→World→Prop} {a:Act} {w:World} (R:Rel) (H:Nat→Option qT) (M:List Bool) (t:Nat) (HF:Xv F0) (HN:Vc l.toArray=true) (hm:P.follows .mixedOrders=true)
  (hs:Region.noSelect l.toArray=true) (ht:qbe l.toArray (QS l.length (l.length-t)) ((qz 0 l M).map (·.1))=true) (hc0:YF l.toArray (Array.replicate l.length false)=true) (hB:Zs l.toArray (QS l.length (l.length-t)) ((qz 0 l M).map (·.1)) (Array.replicate l.length false)=true)
  (hseq:YY l.toArray t (l.length-t) (QS l.length (l.length-t))=true) (hfu:l.length=(qz 0 l M).length+t) (htl:(l.drop (l.length-t)).length=t)
  (hH:∀ i h,H i=some h→∀ p,qF R (h.φ p)) (hW:R.r w w.drew)
  (h:∀ K:Act→qN→Prop,(∀ a' F',(∀ W,R.r w W→(∀ k,F' k W)→wpListIn F0 n P l.toArray Q (l.drop (l.length-t)) a' W)→K a' F')→ZC R P l.toArray w H K (qz 0 l M) a (fun _ _=>True)):(Code.region id l.toArray true).wpIn F0 n P Q a w:=by
 have h:=h _ (fun a' F' hh=>hh)
 refine wpIn_region_any hm ?_
 have key:=vn (w0:=w) hH hs (fun _ _ h=>h.step) (VC ht) (qz 0 l M) (Array.replicate l.length false) a (fun _ _=>True) (JA hc0) (fun x hx=>by
  obtain⟨j,h1,h2⟩:=jz l M 0 x hx
  refine⟨?_,List.mem_map.2 ⟨x,hx,rfl⟩⟩
  rw[h1,Nat.zero_add]
  simpa using h2) hB (fun _ _ _ _ _=>trivial) ⟨w.drew,hW,fun _=>trivial⟩ (fun _ _ _=>trivial) h
 have:=jP (n:=n) (w0:=w) HF HN hH (t:=t) (Q':=Q) (fun a F W hq hW hF=>by
  have:=VZ (F:=F0) (n:=n) (l.drop (l.length-t)) (l.length-t) _ a W (fun j _=>by rw[List.getElem?_drop];simp) (by rw[htl];exact hseq) (hq W hW hF)
  rwa [htl] at this) _ _ _ _ w.drew (fun _ _ _ _ _=>trivial) hW (fun _=>trivial) key
 rw[←hfu] at this
 simpa using this
end
end Go.Proofs.YtckhnchnbeoogaaGreat
