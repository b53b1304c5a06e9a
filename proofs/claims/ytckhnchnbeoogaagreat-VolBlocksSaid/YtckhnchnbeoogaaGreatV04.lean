/- Texts ItReadR, Node, FreeG, joined. -/
import Derived.Test.YtckhnchnbeoogaaGreatV03
set_option linter.unusedSimpArgs false
set_option linter.unusedVariables false
namespace Go.Proofs.YtckhnchnbeoogaaGreat
open Go.RowKit
set_option maxHeartbeats 2000000 in
set_option maxRecDepth 100000 in
theorem qeI (v:Value) (l:List UInt8) (hl:l.length<1000) (w:World) (h:Bys w w.heap.size v l) :
  Calls Tryz.prog 123 #[v] w (zE (ReadP w.heap.size (QA l)) w):=by
 obtain⟨A,m,c,rfl⟩:∃ A m c,v=.slice A m c:=by obtain⟨A,c,e,_⟩:=h;exact⟨_,_,_,e⟩
 obtain⟨e1,hc,hm,hA⟩:=h.at_
 by_cases h12:l.length<12
 ·have hq:QA l=none:=by unfold QA;rw[if_pos (.inl h12)]
  rw[hq]
  clear h
  subst e1
  go_enter Tryz.func123,Tryz.ntmps123
  go_wp2
  all_goals first|(exfalso;omega)|exact bodyPost_ret (v:=XZ) (by simp[results,Tryz.results123,go_sem]) rfl ⟨_,rfl,rfl,(by repeat' (first|with_reducible exact Below.refl _ _|with_reducible assumption|with_reducible apply Below.drew|with_reducible apply qp|with_reducible refine Below.alloc ?_ ?_ _|with_reducible refine Below.setCell ?_ ?_ _|(simp;done)|(simp;omega)|omega))⟩
 ·obtain⟨b,off,rfl,hb⟩:=hA (by omega)
  have hcell:∀ j u,(l.map bv)[j]?=some u→w.cell? ⟨b,off+j,none⟩=some u:=by
   obtain⟨A,c',e,_,_,hr⟩:=h
   cases e
   obtain⟨b',off',e,_,hcell⟩:=hr.2 (by omega)
   cases e
   exact hcell
  have c0:w.cell? ⟨b,off,none⟩=some (.int .u8 ((l[0]?.getD 0).toNat:Int)):=hcell 0 _ (by rw[List.getElem?_map,List.getElem?_eq_getElem (by omega)];rfl)
  have c11:w.cell? ⟨b,off+11,none⟩=some (.int .u8 ((l[11]?.getD 0).toNat:Int)):=hcell 11 _ (by rw[List.getElem?_map,List.getElem?_eq_getElem (by omega)];rfl)
  have hs:Zt l=12+(l[11]?.getD 0).toNat:=rfl
  have u0:=(l[0]?.getD 0).toNat_lt
  have u11:=(l[11]?.getD 0).toNat_lt
  clear hcell hA
  have hbw:b≠w.heap.size:=by omega
  by_cases hsz:l.length<Zt l
  ·have hq:QA l=none:=by unfold QA;rw[if_pos (.inr hsz)]
   rw[hq]
   clear h
   subst e1
   generalize (l[11]?.getD 0).toNat=q at *
   go_enter Tryz.func123,Tryz.ntmps123
   go_wp2
   refine bodyPost_ret (v:=XZ) (by simp[results,Tryz.results123,go_sem]) rfl ⟨_,rfl,rfl,(by repeat' (first|with_reducible exact Below.refl _ _|with_reducible assumption|with_reducible apply Below.drew|with_reducible apply qp|with_reducible refine Below.alloc ?_ ?_ _|with_reducible refine Below.setCell ?_ ?_ _|(simp;done)|(simp;omega)|omega))⟩
  ·have h48:Bys w w.heap.size (.slice (some ⟨b,off+12,none⟩) (Zt l-12) (c-12)) ((l.drop 12).take (Zt l-12)):=h.sub (by omega)
   have hlv:((l.drop 12).take (Zt l-12)).length=Zt l-12:=by simp;omega
   have H1:∀ W,Ext w W→_:=fun W hW=>JK _ l 1 (by omega) (by omega) W ((h.below hW).more hW.size)
   have H5:∀ W,Ext w W→_:=fun W hW=>JK _ l 5 (by omega) (by omega) W ((h.below hW).more hW.size)
   have H9:∀ W,Ext w W→_:=fun W hW=>Xq _ l 9 (by omega) (by omega) W ((h.below hW).more hW.size)
   have hq:QA l=if itB (YU l).r (Zt l-12) then some (YU l,Zt l) else none:=by unfold QA;rw[if_neg (by omega)]
   have hi:YU l=⟨((l[0]?.getD 0).toNat:Int),Qx l 1 4,Qx l 5 4,Qx l 9 2,(l.drop 12).take (Zt l-12)⟩:=rfl
   rw[hi] at hq
   generalize QA l=R at *
   generalize Qx l 1 4=n1 at *
   generalize Qx l 5 4=n5 at *
   generalize Qx l 9 2=n9 at *
   generalize hval:(l.drop 12).take (Zt l-12)=val at *
   have h48':∀ O,(O=off+12∨Zt l-12=0)→Bys w w.heap.size (.slice (some ⟨b,O,none⟩) (Zt l-12) (c-12)) val:=by
    rintro O (rfl|h0)
    ·exact h48
    ·rw[h0] at hlv ⊢
     obtain rfl:val=[]:=List.eq_nil_of_length_eq_zero hlv
     exact⟨_,_,rfl,Nat.zero_le _,by omega,rfl,fun h=>absurd h (by simp)⟩
   have HT:∀ O,(O=off+12∨Zt l-12=0)→∀ W,Ext w W→Bys W W.heap.size (.slice (some ⟨b,O,none⟩) (Zt l-12) (c-12)) val:=fun O hO W hW=>((h48' O hO).below hW).more hW.size
   clear h h48 h48' hval hi
   subst e1
   rw[hs] at *
   clear hs
   generalize (l[11]?.getD 0).toNat=q at *
   generalize (l[0]?.getD 0).toNat=k at *
   have e12:12+q-12=q:=by omega
   rw[e12] at hq HT hlv
   replace hq:=zH hq
   replace H1:=zH H1
   replace H5:=zH H5
   replace H9:=zH H9
   replace HT:=zH HT
   unfold maxLen at hm
   go_enter Tryz.func123,Tryz.ntmps123
   go_wp2_with fail
   generalize hw1:(World.alloc (World.alloc _ _) _)=w1
   have b1:Ext w w1:=by rw[←hw1];exact(Ext.alloc _ _).trans (Ext.alloc _ _)
   have r1:w1.heap[w.heap.size+1]?=some (.cells #[.int .u8 k,.int .u32 0,.int .u32 0,.int .i64 0,.slice none 0 0] 38 (0,0)):=by rw[←hw1];exact World.alloc_heap_at _ _ _ (by simp)
   have rr1:w1.heap[w.heap.size]?=some (.cells #[.int .u8 0,.int .u32 0,.int .u32 0,.int .i64 0,.slice none 0 0] 38 (0,0)):=by rw[←hw1];exact(Below.heap_alloc _ _ _ (by simp)).trans (World.alloc_heap_at _ _ _ rfl)
   clear hw1
   refine(H1.out _ b1).mono ?_
   rintro e w2 ⟨rfl,hB⟩
   have b1':Ext w w2:=Ext.trans b1 hB
   have r1':=qc r1 hB
   have rr1':=qc rr1 hB
   have k1:=qa r1'
   have f1:=qd r1'
   clear hB r1 rr1
   go_wp2_with fail
   generalize hw:(World.setCell _ _ _)=w3
   have b2:Ext w w3:=by rw[←hw];exact b1'.setCell (p:=⟨w.heap.size+1,1,none⟩) (by simp) _
   have rr2:w3.heap[w.heap.size]?=some (.cells #[.int .u8 0,.int .u32 0,.int .u32 0,.int .i64 0,.slice none 0 0] 38 (0,0)):=by rw[←hw];exact(Below.heap_setCell _ _ _ _ (by simp)).trans rr1'
   have r2:w3.heap[w.heap.size+1]?=some (.cells #[.int .u8 k,.int .u32 n1,.int .u32 0,.int .i64 0,.slice none 0 0] 38 (0,0)):=by rw[←hw];exact qh r1' 1 _
   clear hw k1 f1 r1' b1' rr1'
   refine(H5.out _ b2).mono ?_
   rintro e w4 ⟨rfl,hB⟩
   have b2':Ext w w4:=Ext.trans b2 hB
   have r2':=qc r2 hB
   have rr2':=qc rr2 hB
   have k2:=qa r2'
   have f2:=qd r2'
   clear hB r2 rr2
   go_wp2_with fail
   generalize hw:(World.setCell _ _ _)=w5
   have b3:Ext w w5:=by rw[←hw];exact b2'.setCell (p:=⟨w.heap.size+1,2,none⟩) (by simp) _
   have rr3:w5.heap[w.heap.size]?=some (.cells #[.int .u8 0,.int .u32 0,.int .u32 0,.int .i64 0,.slice none 0 0] 38 (0,0)):=by rw[←hw];exact(Below.heap_setCell _ _ _ _ (by simp)).trans rr2'
   have r3:w5.heap[w.heap.size+1]?=some (.cells #[.int .u8 k,.int .u32 n1,.int .u32 n5,.int .i64 0,.slice none 0 0] 38 (0,0)):=by rw[←hw];exact qh r2' 2 _
   clear hw k2 f2 r2' b2' rr2'
   refine(H9.out _ b3).mono ?_
   rintro e w6 ⟨rfl,hB⟩
   have b4:Ext w w6:=Ext.trans b3 hB
   have r4:=qc r3 hB
   have rr4:=qc rr3 hB
   have k4:=qa r4
   have f4:=qd r4
   clear hB r3 rr3
   have c11':=Ext.cell b4 c11
   go_wp2
   generalize hw:(World.setCell _ _ _)=w7
   have b5:Ext w w7:=by rw[←hw];exact b4.setCell (p:=⟨w.heap.size+1,3,none⟩) (by simp) _
   have rr5:w7.heap[w.heap.size]?=some (.cells #[.int .u8 0,.int .u32 0,.int .u32 0,.int .i64 0,.slice none 0 0] 38 (0,0)):=by rw[←hw];exact(Below.heap_setCell _ _ _ _ (by simp)).trans rr4
   have r5:w7.heap[w.heap.size+1]?=some (.cells #[.int .u8 k,.int .u32 n1,.int .u32 n5,.int .i64 n9,.slice none 0 0] 38 (0,0)):=by rw[←hw];exact qh r4 3 _
   clear hw k4 f4 r4 b4 rr4
   have hgt:w.heap.size+1<w7.heap.size:=(zG.1 r5).1
   have cx:∀ W,Ext w7 W→W.cell? ⟨w.heap.size+1,4,none⟩=some (.slice none 0 0):=fun W hW=>by rw[qa (qc r5 hW)];rfl
   have HA:∀ O,(O=off+12∨q=0)→∀ W,Ext w7 W→∃ p,∃ w',(Builtin.append_ #[26,26] 26 #[.slice none 0 0,.slice (some ⟨b,O,none⟩) q (c-12)]).run Tryz.prog W=.ok ((ZA w7.heap.size q val).f p) w'∧(ZA w7.heap.size q val).φ p w'∧Ext W w':=fun O hO W hW=>by
    obtain⟨i0,hi,hz0,hz1,hz2⟩:=info_parts Tryz.info_u8
    obtain⟨A,c',e,hcc,hmm,hr⟩:=HT.out O hO W (b5.trans hW)
    simp only[Value.slice.injEq] at e
    obtain⟨rfl,e2,rfl⟩:=e
    rw[hlv] at hr
    obtain⟨v',w',hrun,hown,_,hbel,_⟩:=Km (P:=Tryz.prog) W W.heap.size 26 26 5 i0 (.int .u8 0) 1 1 Tryz.underlying26 hi hz0 hz1 hz2 rfl (by decide) (.slice none 0 0) 0 [] (World.ownsRow_nil _ _ _ _) W.heap.size _ q _ _ hr (zT _) (by omega) (by decide) (Nat.le_refl _)
    rw[Nat.zero_add,List.nil_append] at hown
    obtain⟨p,h1,h2,h3⟩:=Jc (lo:=w7.heap.size) (e:=.returned v') ⟨v',rfl,hown,hbel⟩ hW.size
    cases h1
    exact⟨p,w',hrun,h2,h3⟩
   replace HA:=zH HA
   clear HT
   rcases Nat.lt_or_ge 12 c with hc12|hc12
   ·skip
    refine qG (qE [(5,ZA w7.heap.size q val)]) 7 (by kernel_rfl) (by kernel_rfl) (by kernel_rfl) (by decide) (by kernel_rfl) (by kernel_rfl) ?st ?walk
    case st=>exact qJ (by simp only[List.forall_mem_cons];exact⟨ZG _ _ _,fun _ h=>by cases h⟩)
    case walk =>
     intro K hK
     dsimp only[List.take]
     repeat ((first|(refine ql ?_ (by rfl) (by rfl) (fun W hW _=>⟨W,?_,Ext.refl W⟩) ?_;rotate_left;(first|(go_simp;with_reducible rfl)|(go_simp;done)))|(refine qt (by rfl) ?_));try simp only[Act.put,qi,qe,qb,qg,zA,zB,zC])
     refine ql (.slice (some ⟨b,off+12,none⟩) q (c-12)) (by rfl) (by rfl) (fun W hW _=>⟨W,?_,Ext.refl W⟩) ?_
     ·go_simp
      rw[if_pos (by omega),if_pos (by omega),if_neg (by omega),show (12+(q:Int)).toNat-12=q by omega]
     simp only[Act.put,qi,qe,zA,zB,zC]
     refine qZ (ZA w7.heap.size q val) (by rfl) (by rfl) (fun W hW _=>?_) (fun p=>?_)
     ·obtain⟨p,w',hrun,h2,h3⟩:=HA.out (off+12) (by simp) W hW
      refine Vo (u:=(ZA w7.heap.size q val).f p) (w':=w') ?_ ⟨p,rfl,h2,h3⟩
      exact QQ (s:=.tmp 52) (x:=.tmp 55) rfl rfl rfl hrun
     obtain⟨A',c'⟩:=p
     simp only[Act.put,qi,qe,qb,qg,zA,zB,zC]
     repeat ((first|(refine ql ?_ (by rfl) (by rfl) (fun W hW _=>⟨W,?_,Ext.refl W⟩) ?_;rotate_left;(first|(go_simp;with_reducible rfl)|(go_simp;done)))|(refine qt (by rfl) ?_));try simp only[Act.put,qi,qe,qb,qg,zA,zB,zC])
     refine qP (hK _ _ fun W hW hF=>?_)
     obtain⟨hby,hfr⟩:Bys W W.heap.size (.slice A' q c') val∧QD w7.heap.size (.slice A' q c'):=(hF 5).1
     clear hF hK HA cx
     have r6:=qc r5 hW
     have rr6:=qc rr5 hW
     have b6:Ext w W:=b5.trans hW
     have k6:=qa r6
     have f6:=qd r6
     clear r5 rr5 b5
     dsimp only[List.drop]
     go_wp2_with fail
     have hby':=hby.setCell hfr (p:=⟨w.heap.size+1,4,none⟩) hgt (.slice A' q c')
     generalize hw:(World.setCell _ _ _)=w8 at *
     have b7:Ext w w8:=by rw[←hw];exact b6.setCell (p:=⟨w.heap.size+1,4,none⟩) (by simp) _
     have rr7:w8.heap[w.heap.size]?=some (.cells #[.int .u8 0,.int .u32 0,.int .u32 0,.int .i64 0,.slice none 0 0] 38 (0,0)):=by rw[←hw];exact(Below.heap_setCell _ _ _ _ (by simp)).trans rr6
     have r7:w8.heap[w.heap.size+1]?=some (.cells #[.int .u8 k,.int .u32 n1,.int .u32 n5,.int .i64 n9,.slice A' q c'] 38 (0,0)):=by rw[←hw];exact qh r6 4 _
     have hz8:w8.heap.size=W.heap.size:=by rw[←hw];simp
     rw[←hz8] at hby'
     clear hw k6 f6 r6 b6 rr6 hby
     refine(Yf k n1 n5 n9 A' q c' _).mono ?_
     rintro e w9 ⟨rfl,hB⟩
     have b8:Below w.heap.size w w9:=Ext.trans b7 hB
     have r8:=qc r7 hB
     have rr8:=qc rr7 hB
     have hby8:=(hby'.below hB).more hB.size
     have k8:=qa r8
     have f8:=qd r8
     have kk8:=qa rr8
     have ff8:=qd rr8
     have hgt2:w.heap.size<w7.heap.size:=by omega
     clear hB r7 r8 rr7 rr8 hby' b7
     by_cases hok:itB n9 q=true
     ·have hR:R=some (⟨k,n1,n5,n9,val⟩,12+q):=by rw[hq.out,if_pos hok]
      rw[hok]
      clear hok hq
      subst hR
      go_wp2
      refine bodyPost_ret (v:=.tuple #[ZM k n1 n5 n9 A' q c',.int .i64 ((12+q:Nat):Int),.int .i64 0]) (by simp[results,Tryz.results123,go_sem,k8,kk8]) rfl ⟨_,rfl,⟨_,rfl,?_⟩,?_⟩
      ·refine⟨A',c',by rw[hlv],?_,by rw[hlv];exact hfr.mono (by omega)⟩
       rw[hlv]
       simp only[World.size_setCell]
       exact((((hby8.setCell hfr (p:=⟨w.heap.size,0,none⟩) hgt2 _).setCell hfr (p:=⟨w.heap.size,1,none⟩) hgt2 _).setCell hfr (p:=⟨w.heap.size,2,none⟩) hgt2 _).setCell hfr (p:=⟨w.heap.size,3,none⟩) hgt2 _).setCell hfr (p:=⟨w.heap.size,4,none⟩) hgt2 _
      ·exact(by repeat' (first|with_reducible exact Below.refl _ _|with_reducible assumption|with_reducible apply Below.drew|with_reducible apply qp|with_reducible refine Below.alloc ?_ ?_ _|with_reducible refine Below.setCell ?_ ?_ _|(simp;done)|(simp;omega)|omega))
     ·have hR:R=none:=by rw[hq.out,if_neg hok]
      have hok':itB n9 q=false:=by simpa using hok
      rw[hok']
      clear hok hok' hq
      subst hR
      go_wp2
      refine bodyPost_ret (v:=XZ) (by simp[results,Tryz.results123,go_sem,kk8]) rfl ⟨_,rfl,rfl,?_⟩
      exact(by repeat' (first|with_reducible exact Below.refl _ _|with_reducible assumption|with_reducible apply Below.drew|with_reducible apply qp|with_reducible refine Below.alloc ?_ ?_ _|with_reducible refine Below.setCell ?_ ?_ _|(simp;done)|(simp;omega)|omega))
   ·(obtain⟨rfl,rfl⟩:c=12∧q=0:=by omega)
    refine qG (qE [(5,ZA w7.heap.size 0 val)]) 7 (by kernel_rfl) (by kernel_rfl) (by kernel_rfl) (by decide) (by kernel_rfl) (by kernel_rfl) ?st ?walk
    case st=>exact qJ (by simp only[List.forall_mem_cons];exact⟨ZG _ _ _,fun _ h=>by cases h⟩)
    case walk =>
     intro K hK
     dsimp only[List.take]
     repeat ((first|(refine ql ?_ (by rfl) (by rfl) (fun W hW _=>⟨W,?_,Ext.refl W⟩) ?_;rotate_left;(first|(go_simp;with_reducible rfl)|(go_simp;done)))|(refine qt (by rfl) ?_));try simp only[Act.put,qi,qe,qb,qg,zA,zB,zC])
     skip
     refine qZ (ZA w7.heap.size 0 val) (by rfl) (by rfl) (fun W hW _=>?_) (fun p=>?_)
     ·obtain⟨p,w',hrun,h2,h3⟩:=HA.out (off) (by simp) W hW
      refine Vo (u:=(ZA w7.heap.size 0 val).f p) (w':=w') ?_ ⟨p,rfl,h2,h3⟩
      exact QQ (s:=.tmp 52) (x:=.tmp 55) rfl rfl rfl hrun
     obtain⟨A',c'⟩:=p
     simp only[Act.put,qi,qe,qb,qg,zA,zB,zC]
     repeat ((first|(refine ql ?_ (by rfl) (by rfl) (fun W hW _=>⟨W,?_,Ext.refl W⟩) ?_;rotate_left;(first|(go_simp;with_reducible rfl)|(go_simp;done)))|(refine qt (by rfl) ?_));try simp only[Act.put,qi,qe,qb,qg,zA,zB,zC])
     refine qP (hK _ _ fun W hW hF=>?_)
     obtain⟨hby,hfr⟩:Bys W W.heap.size (.slice A' 0 c') val∧QD w7.heap.size (.slice A' 0 c'):=(hF 5).1
     clear hF hK HA cx
     have r6:=qc r5 hW
     have rr6:=qc rr5 hW
     have b6:Ext w W:=b5.trans hW
     have k6:=qa r6
     have f6:=qd r6
     clear r5 rr5 b5
     dsimp only[List.drop]
     go_wp2_with fail
     have hby':=hby.setCell hfr (p:=⟨w.heap.size+1,4,none⟩) hgt (.slice A' 0 c')
     generalize hw:(World.setCell _ _ _)=w8 at *
     have b7:Ext w w8:=by rw[←hw];exact b6.setCell (p:=⟨w.heap.size+1,4,none⟩) (by simp) _
     have rr7:w8.heap[w.heap.size]?=some (.cells #[.int .u8 0,.int .u32 0,.int .u32 0,.int .i64 0,.slice none 0 0] 38 (0,0)):=by rw[←hw];exact(Below.heap_setCell _ _ _ _ (by simp)).trans rr6
     have r7:w8.heap[w.heap.size+1]?=some (.cells #[.int .u8 k,.int .u32 n1,.int .u32 n5,.int .i64 n9,.slice A' 0 c'] 38 (0,0)):=by rw[←hw];exact qh r6 4 _
     have hz8:w8.heap.size=W.heap.size:=by rw[←hw];simp
     rw[←hz8] at hby'
     clear hw k6 f6 r6 b6 rr6 hby
     refine(Yf k n1 n5 n9 A' 0 c' _).mono ?_
     rintro e w9 ⟨rfl,hB⟩
     have b8:Below w.heap.size w w9:=Ext.trans b7 hB
     have r8:=qc r7 hB
     have rr8:=qc rr7 hB
     have hby8:=(hby'.below hB).more hB.size
     have k8:=qa r8
     have f8:=qd r8
     have kk8:=qa rr8
     have ff8:=qd rr8
     have hgt2:w.heap.size<w7.heap.size:=by omega
     clear hB r7 r8 rr7 rr8 hby' b7
     by_cases hok:itB n9 0=true
     ·have hR:R=some (⟨k,n1,n5,n9,val⟩,12+0):=by rw[hq.out,if_pos hok]
      rw[hok]
      clear hok hq
      subst hR
      go_wp2
      refine bodyPost_ret (v:=.tuple #[ZM k n1 n5 n9 A' 0 c',.int .i64 ((12+0:Nat):Int),.int .i64 0]) (by simp[results,Tryz.results123,go_sem,k8,kk8]) rfl ⟨_,rfl,⟨_,rfl,?_⟩,?_⟩
      ·refine⟨A',c',by rw[hlv],?_,by rw[hlv];exact hfr.mono (by omega)⟩
       rw[hlv]
       simp only[World.size_setCell]
       exact((((hby8.setCell hfr (p:=⟨w.heap.size,0,none⟩) hgt2 _).setCell hfr (p:=⟨w.heap.size,1,none⟩) hgt2 _).setCell hfr (p:=⟨w.heap.size,2,none⟩) hgt2 _).setCell hfr (p:=⟨w.heap.size,3,none⟩) hgt2 _).setCell hfr (p:=⟨w.heap.size,4,none⟩) hgt2 _
      ·exact(by repeat' (first|with_reducible exact Below.refl _ _|with_reducible assumption|with_reducible apply Below.drew|with_reducible apply qp|with_reducible refine Below.alloc ?_ ?_ _|with_reducible refine Below.setCell ?_ ?_ _|(simp;done)|(simp;omega)|omega))
     ·have hR:R=none:=by rw[hq.out,if_neg hok]
      have hok':itB n9 0=false:=by simpa using hok
      rw[hok']
      clear hok hok' hq
      subst hR
      go_wp2
      refine bodyPost_ret (v:=XZ) (by simp[results,Tryz.results123,go_sem,kk8]) rfl ⟨_,rfl,rfl,?_⟩
      exact(by repeat' (first|with_reducible exact Below.refl _ _|with_reducible assumption|with_reducible apply Below.drew|with_reducible apply qp|with_reducible refine Below.alloc ?_ ?_ _|with_reducible refine Below.setCell ?_ ?_ _|(simp;done)|(simp;omega)|omega))
def zj:List (It×Value)→List Value
 | []=>[]
 |p :: r=>.int .u8 p.1.k :: .int .u32 p.1.i :: .int .u32 p.1.o :: .int .i64 p.1.r :: p.2 :: zj r
theorem Kx (ps qs:List (It×Value)):zj (ps++qs)=zj ps++zj qs:=by
 induction ps with
 |nil=>rfl
 |cons p r ih=>simp[zj,ih]
theorem GI (ps:List (It×Value)):∀ i (h:i<ps.length),(zj ps)[i*5]?=some (.int .u8 ps[i].1.k)∧(zj ps)[i*5+1]?=some (.int .u32 ps[i].1.i)∧(zj ps)[i*5+2]?=some (.int .u32 ps[i].1.o)∧(zj ps)[i*5+3]?=some (.int .i64 ps[i].1.r)∧(zj ps)[i*5+4]?=some ps[i].2:=by
 induction ps with
 |nil=>intro i h;simp at h
 |cons p r ih =>
  intro i h
  rcases i with _|i
  ·simp[zj]
  ·have:=ih i (by simpa using h)
   rw[show (i+1)*5=i*5+5 by omega]
   simpa [zj] using this
def Its (w:World) (B:Nat) (v:Value) (xs:List It):Prop:=
 ∃ ps:List (It×Value),ps.map (·.1)=xs∧(∃ A c,v=.slice A xs.length c∧xs.length≤c∧c≤maxLen∧Rd w B 5 A xs.length (zj ps))∧∀ p∈ps,(∃ A c,p.2=.slice A p.1.val.length c)∧Bys w B p.2 p.1.val
theorem Its.below {w w':World} {B:Nat} {v:Value} {xs:List It} (h:Its w B v xs) (hb:Below B w w'):Its w' B v xs:=by
 obtain⟨ps,e,⟨A,c,e1,e2,e3,hr⟩,hp⟩:=h
 exact⟨ps,e,⟨A,c,e1,e2,e3,hr.below hb⟩,fun p h=>⟨(hp p h).1,(hp p h).2.below hb⟩⟩
theorem Its.more {w:World} {B B':Nat} {v:Value} {xs:List It} (h:Its w B v xs) (hb:B≤B'):Its w B' v xs:=by
 obtain⟨ps,e,⟨A,c,e1,e2,e3,hr⟩,hp⟩:=h
 exact⟨ps,e,⟨A,c,e1,e2,e3,hr.more hb⟩,fun p h=>⟨(hp p h).1,(hp p h).2.more hb⟩⟩
theorem Its.ext {w w':World} {v:Value} {xs:List It} (h:Its w w.heap.size v xs) (hb:Ext w w'):Its w' w'.heap.size v xs:=(h.below hb).more hb.size
theorem Its.nil (w:World) (B:Nat):Its w B (.slice none 0 0) []:=⟨[],rfl,⟨none,0,rfl,Nat.le_refl _,by simp[maxLen],Rd.none_⟩,fun p h=>by cases h⟩
theorem Its.at_ {w:World} {B:Nat} {A:Option Addr} {n c:Nat} {xs:List It} (h:Its w B (.slice A n c) xs):n=xs.length∧n≤c∧c≤maxLen∧(0<n→∃ b off,A=some ⟨b,off,none⟩∧b<B):=by
 obtain⟨ps,e,⟨A',c',e1,e2,e3,hr⟩,hp⟩:=h
 cases e1
 refine⟨rfl,e2,e3,fun hn=>?_⟩
 obtain⟨b,off,e,hb,_⟩:=hr.2 hn
 exact⟨b,off,e,hb⟩
def ItAt (w:World) (B b o:Nat) (x:It) (A:Option Addr) (c:Nat):Prop:=
 w.cell? ⟨b,o,none⟩=some (.int .u8 x.k)∧w.cell? ⟨b,o+1,none⟩=some (.int .u32 x.i)∧w.cell? ⟨b,o+2,none⟩=some (.int .u32 x.o)∧w.cell? ⟨b,o+3,none⟩=some (.int .i64 x.r)∧w.cell? ⟨b,o+4,none⟩=some (.slice A x.val.length c)∧Bys w B (.slice A x.val.length c) x.val
theorem Its.item {w:World} {B b off n c:Nat} {xs:List It} (h:Its w B (.slice (some ⟨b,off,none⟩) n c) xs) (i:Nat) (hi:i<xs.length):∃ A' c',ItAt w B b (off+i*5) xs[i] A' c':=by
 obtain⟨ps,e,⟨A,c',e1,e2,e3,hr⟩,hp⟩:=h
 cases e1
 subst e
 have hi':i<ps.length:=by simpa using hi
 obtain⟨b',off',e,hb,hc⟩:=hr.2 (by omega)
 cases e
 obtain⟨c0,c1,c2,c3,c4⟩:=GI ps i hi'
 obtain⟨⟨A',c',e5⟩,hby⟩:=hp ps[i] (List.getElem_mem hi')
 rw[e5] at c4 hby
 refine⟨A',c',?_⟩
 simp only[List.getElem_map]
 refine⟨hc _ _ c0,?_,?_,?_,?_,hby⟩
 ·rw[Nat.add_assoc];exact hc _ _ c1
 ·rw[Nat.add_assoc];exact hc _ _ c2
 ·rw[Nat.add_assoc];exact hc _ _ c3
 ·rw[Nat.add_assoc];exact hc _ _ c4
def Xb (a b:It):Bool:=jk a.k a.i a.o b.k b.i b.o
def UZ (above:Bool) (xs:List It) (i:Nat):Bool:=
 match xs[i]? with
 |none=>true
 |some x=>itB x.r x.val.length && (decide (i=0) || (match xs[i-1]? with|some y=>Xb y x|none=>true)) && !(above && (decide (x.r=0) || decide (0<x.val.length)))
def Jo (above:Bool) (xs:List It) (k:Nat):Bool:=(List.range k).all (UZ above xs)
theorem vl (above:Bool) (xs:List It) (k:Nat):Jo above xs (k+1)=(Jo above xs k && UZ above xs k):=by simp[Jo,List.range_succ]
theorem Vd {above:Bool} {xs:List It} {k:Nat} (hk:k<xs.length) (h:UZ above xs k=false):Jo above xs xs.length=false:=by
 unfold Jo
 rw[List.all_eq_false]
 exact⟨k,List.mem_range.2 hk,by simp[h]⟩
def zN (lvl:Int) (n:Nat):Bool:=decide (0≤lvl∧lvl<6∧n≤5∧(0<lvl→n≠0))
def qR (lvl:Int) (xs:List It):Bool:=zN lvl xs.length && Jo (decide (0<lvl)) xs xs.length
abbrev Zv (lvl:Int) (A:Option Addr) (n c:Nat):Value:=.agg #[.int .i64 lvl,.slice A n c]
set_option maxHeartbeats 1000000 in
theorem qaG (lvl:Int) (A:Option Addr) (n c:Nat) (h:zN lvl n=false) (w:World) :
  Calls Tryz.prog 117 #[Zv lvl A n c] w (Ret (.int .i64 8) w):=by
 have h':¬(0≤lvl∧lvl<6∧n≤5∧(0<lvl→n≠0)):=by simpa [zN] using h
 clear h
 go_enter Tryz.func117,Tryz.ntmps117
 go_wp2
 all_goals simp only[beq_iff_eq,beq_eq_false_iff_ne,ne_eq] at *
 all_goals first|(exfalso;omega)|skip
 all_goals go_ret
 all_goals exact⟨rfl,(by repeat' (first|with_reducible exact Below.refl _ _|with_reducible assumption|with_reducible apply Below.drew|with_reducible apply qp|with_reducible refine Below.alloc ?_ ?_ _|with_reducible refine Below.setCell ?_ ?_ _|(simp;done)|(simp;omega)|omega))⟩
structure Rel where
 rel:World→World→Prop
 refl':∀ w,rel w w
 trans':∀ {a b c},rel a b→rel b c→rel a c
 drew':∀ w:World,rel w w.drew
def Rel.r (R:Rel) (a b:World):Prop:=R.rel a b
theorem Rel.refl (R:Rel) (w:World):R.r w w:=R.refl' w
theorem Rel.trans (R:Rel) {a b c:World} (h:R.r a b) (k:R.r b c):R.r a c:=R.trans' h k
theorem Rel.drew (R:Rel) (w:World):R.r w w.drew:=R.drew' w
section
variable {R:Rel}
def qF (R:Rel) (φ:World→Prop):Prop:=∀ W W',R.r W W'→φ W→φ W'
section
variable {P:Program} {ops:Array Oper} {w0:World}
def Zo (R:Rel) (P:Program) (W:World) (h:qT):Result Next→Prop
 | .ok (.value u) w'=>∃ p,u=h.f p∧h.φ p w'∧R.r W w'
 | .ok .skip w'=>∃ p,undef=h.f p∧h.φ p w'∧R.r W w'
 | .ok (.enter f args) w'=>R.r W w'∧Calls P f args w' fun e w''=>∃ p,e=.returned (h.f p)∧h.φ p w''∧R.r w' w''
 |_=>False
def Qp (R:Rel) (P:Program) (o:Oper) (a:Act) (W:World) (h:qT):Prop:=Zo R P W h ((execOp a.eval o).run P W)
def Jg (R:Rel) (P:Program) (o:Oper) (a:Act) (W:World) (v:Value):Prop:=∃ w',(execOp a.eval o).run P W=.ok (.value v) w'∧R.r W w'
def Zq (R:Rel) (P:Program) (ops:Array Oper) (w0:World) (H:Nat→Option qT) (i:Nat) (o:Oper) (a:Act) (F:qN) (h:qT):Prop:=
 (Region.wanted o (yielded ops a.tmps)=false∧h=one undef) ∨
 (Region.wanted o (yielded ops a.tmps)=true∧H i=none∧∃ v,h=one v∧∀ W,R.r w0 W→(∀ k∈qL o,F k W)→Jg R P o a W v) ∨
 (Region.wanted o (yielded ops a.tmps)=true∧H i=some h∧∀ W,R.r w0 W→(∀ k∈qL o,F k W)→Qp R P o a W h)
def kg (R:Rel) (w0:World) (F:qN):Prop:=∃ W,R.r w0 W∧∀ k,F k W
def FOpG (R:Rel) (P:Program) (ops:Array Oper) (w0:World) (H:Nat→Option qT) (i:Nat) (o:Oper) (K:Act→qN→Prop) (a:Act) (F:qN):Prop:=
 ∃ h,Zq R P ops w0 H i o a F h∧∀ p,kg R w0 (upd F i o (h.φ p))→K (a.put o.dst (h.f p)) (upd F i o (h.φ p))
def Jw (R:Rel) (P:Program) (ops:Array Oper) (w0:World) (H:Nat→Option qT) (L:Array Bool) (Q:Act→qN→Prop):Nat→Array Bool→Act→qN→Prop
 |0,listed,a,F=>listed=L∧Q a F
 |fuel+1,listed,a,F=>Region.ready .any ops listed≠[]∧∀ i∈Region.ready .any ops listed,∀ o,ops[i]?=some o→FOpG R P ops w0 H i o (Jw R P ops w0 H L Q fuel (listed.setIfInBounds i true)) a F
theorem Zq.unique {H:Nat→Option qT} {i:Nat} {o:Oper} {a:Act} {F:qN} {h h':qT} (hc:kg R w0 F) (x:Zq R P ops w0 H i o a F h) (y:Zq R P ops w0 H i o a F h'):h=h':=by
 obtain⟨W,hW,hF⟩:=hc
 rcases x with ⟨x1,rfl⟩|⟨x1,x2,v,rfl,x3⟩|⟨x1,x2,x3⟩ <;> rcases y with ⟨y1,rfl⟩|⟨y1,y2,u,rfl,y3⟩|⟨y1,y2,y3⟩
 ·rfl
 ·rw[x1] at y1;cases y1
 ·rw[x1] at y1;cases y1
 ·rw[x1] at y1;cases y1
 ·obtain⟨w1,e1,_⟩:=x3 W hW fun k _=>hF k
  obtain⟨w2,e2,_⟩:=y3 W hW fun k _=>hF k
  rw[e1] at e2
  cases e2
  rfl
 ·rw[x2] at y2;cases y2
 ·rw[x1] at y1;cases y1
 ·rw[x2] at y2;cases y2
 ·rw[x2] at y2;cases y2;rfl
theorem Zq.some_ {H:Nat→Option qT} {i:Nat} {o:Oper} {a:Act} {F:qN} {h:qT} (hc:kg R w0 F) (hst:∀ k,qF R (F k)) (x:Zq R P ops w0 H i o a F h):∃ p,kg R w0 (upd F i o (h.φ p)):=by
 obtain⟨W,hW,hF⟩:=hc
 have triv:∀ (φ:World→Prop) W',R.r W W'→φ W'→kg R w0 (upd F i o φ):=fun φ W' he hφ=>⟨W',R.trans hW he,fun k=>by
  unfold upd
  split
  ·exact⟨hφ,fun j _=>hst j _ _ he (hF j)⟩
  ·exact hst k _ _ he (hF k)⟩
 rcases x with ⟨x1,rfl⟩|⟨x1,x2,v,rfl,x3⟩|⟨x1,x2,x3⟩
 ·exact⟨(),triv _ W (R.refl W) trivial⟩
 ·exact⟨(),triv _ W (R.refl W) trivial⟩
 ·have h3:=x3 W hW fun k _=>hF k
  unfold Qp at h3
  generalize (execOp a.eval o).run P W=r at h3
  cases r with
  |ok n w' =>
   cases n <;> simp only[Zo] at h3
   case value u=>obtain⟨p,_,hp,he⟩:=h3;exact⟨p,triv _ w' he hp⟩
   case skip=>obtain⟨p,_,hp,he⟩:=h3;exact⟨p,triv _ w' he hp⟩
   case enter f args =>
    obtain⟨he,hcl⟩:=h3
    obtain⟨e,w'',fr,⟨p,_,hp,he2⟩,_⟩:=hcl []
    exact⟨p,triv _ w'' (R.trans he he2) hp⟩
  |halt x w'=>simp only[Zo] at h3
theorem Zq.move {H:Nat→Option qT} {i j:Nat} {oi oj:Oper} {a:Act} {F:qN} {h:qT} {v:Value} {φ:World→Prop} (hap:oi.apart ops oj=true) (hsj:∀ cs b,oj.op≠.select cs b) (hn:i∉qL oj) :
  Zq R P ops w0 H j oj (a.put oi.dst v) (upd F i oi φ) h↔Zq R P ops w0 H j oj a F h:=by
 obtain⟨h1,_,_⟩:=Oper.apart_spec hap
 have hF:∀ W,(∀ k∈qL oj,upd F i oi φ k W)↔∀ k∈qL oj,F k W:=fun W=>by
  constructor <;> intro hh k hk
  ·have:=hh k hk;unfold upd at this;rwa [if_neg (fun e=>hn (by rw[←e];exact hk))] at this
  ·unfold upd;rw[if_neg (fun e=>hn (by rw[←e];exact hk))];exact hh k hk
 unfold Zq Jg Qp
 rw[wanted_put oj a oi.dst v h1,execOp_put oj hsj a oi.dst v h1]
 simp only[hF]
theorem Zq.move' {H:Nat→Option qT} {i j:Nat} {oi oj:Oper} {a:Act} {F:qN} {h:qT} {v:Value} {φ:World→Prop} (hap:oi.apart ops oj=true) (hsi:∀ cs b,oi.op≠.select cs b) (hn:j∉qL oi) :
  Zq R P ops w0 H i oi (a.put oj.dst v) (upd F j oj φ) h↔Zq R P ops w0 H i oi a F h:=by
 obtain⟨_,_,h3⟩:=Oper.apart_spec hap
 have hF:∀ W,(∀ k∈qL oi,upd F j oj φ k W)↔∀ k∈qL oi,F k W:=fun W=>by
  constructor <;> intro hh k hk
  ·have:=hh k hk;unfold upd at this;rwa [if_neg (fun e=>hn (by rw[←e];exact hk))] at this
  ·unfold upd;rw[if_neg (fun e=>hn (by rw[←e];exact hk))];exact hh k hk
 unfold Zq Jg Qp
 rw[wanted_put oi a oj.dst v h3,execOp_put oi hsi a oj.dst v h3]
 simp only[hF]
theorem Ze {F:qN} (hst:∀ k,qF R (F k)) (i:Nat) (o:Oper) {φ:World→Prop} (hφ:qF R φ):∀ k,qF R (upd F i o φ k):=by
 intro k
 unfold upd
 split
 ·exact fun W W' he ⟨h1,h2⟩=>⟨hφ W W' he h1,fun j hj=>hst j W W' he (h2 j hj)⟩
 ·exact hst k
theorem Zq.stable {H:Nat→Option qT} (hH:∀ i h,H i=some h→∀ p,qF R (h.φ p)) {i:Nat} {o:Oper} {a:Act} {F:qN} {h:qT} (x:Zq R P ops w0 H i o a F h):∀ p,qF R (h.φ p):=by
 rcases x with ⟨_,rfl⟩|⟨_,_,v,rfl,_⟩|⟨_,x2,_⟩
 ·exact fun _ _ _ _ _=>trivial
 ·exact fun _ _ _ _ _=>trivial
 ·exact hH i h x2
theorem UN {H:Nat→Option qT} (hH:∀ i h,H i=some h→∀ p,qF R (h.φ p)) {A:Nat→Prop} {L:Array Bool} {Q:Act→qN→Prop} {i:Nat} {oi:Oper} (hi:ops[i]?=some oi) (him:A i)
  (hsel:∀ (j:Nat) (o:Oper) cs b,ops[j]?=some o→o.op≠.select cs b) (htail:∀ (j:Nat) (o:Oper),ops[j]?=some o→L.getD j true=false→∀ k,A k→k∈qL o) :
  ∀ (fuel:Nat) (listed:Array Bool) (a:Act) (F:qN),
   (∀ j oj,ops[j]?=some oj→j≠i→listed.getD j true=false→(∀ e∈oj.after,Region.binds .any e=true→e.on≠i)→oi.apart ops oj=true) →
   i∈Region.ready .any ops listed→(∀ k,qF R (F k))→kg R w0 F→(∀ k,listed.getD k true=false→∀ W,F k W) →
   FOpG R P ops w0 H i oi (Jw R P ops w0 H L Q fuel (listed.setIfInBounds i true)) a F→Jw R P ops w0 H L Q (fuel+1) listed a F:=by
 intro fuel
 induction fuel with
 |zero =>
  intro listed a F _ hr hst hc _ hop
  refine⟨fun h=>(by rw[h] at hr;cases hr),fun j hj oj hoj=>?_⟩
  by_cases hji:j=i
  ·subst hji
   rw[hi] at hoj;cases hoj
   exact hop
  ·exfalso
   obtain⟨h,hok,hK⟩:=hop
   obtain⟨p,hcp⟩:=hok.some_ hc hst
   have hmj:L.getD j true=false:=by rw[←(hK p hcp).1];exact(mem_ready.1 (ready_mono hj hji)).1
   obtain⟨_,o',ho',hall⟩:=mem_ready.1 hj
   rw[hoj] at ho';cases ho'
   have hin:=htail j oj hoj hmj i him
   obtain⟨e,he,hei⟩:=List.mem_map.1 hin
   rw[List.mem_filter] at he
   have h1:=hall e (by simpa using he.1) he.2
   have h0:=(mem_ready.1 hr).1
   rw[hei] at h1
   rcases Nat.lt_or_ge i listed.size with h'|h'
   ·simp[h'] at h0 h1;rw[h0] at h1;cases h1
   ·simp[Array.getElem?_eq_none h'] at h1
 |succ fuel ih =>
  intro listed a F hfree hr hst hc hun hop
  refine⟨fun h=>(by rw[h] at hr;cases hr),fun j hj oj hoj=>?_⟩
  by_cases hji:j=i
  ·subst hji
   rw[hi] at hoj;cases hoj
   exact hop
  ·obtain⟨hjun,oj',hoj',hall⟩:=mem_ready.1 hj
   rw[hoj] at hoj';cases hoj'
   obtain⟨hiun,oi',hoi',halli⟩:=mem_ready.1 hr
   rw[hi] at hoi';cases hoi'
   have bad:∀ k,listed.getD k true=false→listed.getD k false=true→False:=fun k h0 h1=>by
    rcases Nat.lt_or_ge k listed.size with h'|h'
    ·simp[h'] at h0 h1;rw[h0] at h1;cases h1
    ·simp[Array.getElem?_eq_none h'] at h1
   have hnot:∀ e∈oj.after,Region.binds .any e=true→e.on≠i:=fun e he hb heq=>bad i hiun (heq ▸ hall e he hb)
   have hnot':∀ e∈oi.after,Region.binds .any e=true→e.on≠j:=fun e he hb heq=>bad j hjun (heq ▸ halli e he hb)
   have hpi:i∉qL oj:=fun hin=>by
    obtain⟨e,he,hei⟩:=List.mem_map.1 hin
    rw[List.mem_filter] at he
    exact hnot e (by simpa using he.1) he.2 hei
   have hpj:j∉qL oi:=fun hin=>by
    obtain⟨e,he,hei⟩:=List.mem_map.1 hin
    rw[List.mem_filter] at he
    exact hnot' e (by simpa using he.1) he.2 hei
   have hap:=hfree j oj hoj hji hjun hnot
   have hsi:∀ cs b,oi.op≠.select cs b:=fun cs b=>hsel i oi cs b hi
   have hsj:∀ cs b,oj.op≠.select cs b:=fun cs b=>hsel j oj cs b hoj
   obtain⟨h2,_⟩:=(Oper.apart_spec hap).2
   obtain⟨hI,okI,hKI⟩:=hop
   obtain⟨p0,hcp0⟩:=okI.some_ hc hst
   obtain⟨hJ,okJ0,_⟩:=(hKI p0 hcp0).2 j (ready_mono hj hji) oj hoj
   have okJ:Zq R P ops w0 H j oj a F hJ:=(Zq.move hap hsj hpi).1 okJ0
   refine⟨hJ,okJ,fun q hcq=>?_⟩
   have stJ:=okJ.stable hH q
   have hfree':∀ k ok,ops[k]?=some ok→k≠i→(listed.setIfInBounds j true).getD k true=false →
     (∀ e∈ok.after,Region.binds .any e=true→e.on≠i)→oi.apart ops ok=true:=fun k ok hk hki hunk hno=>by
    refine hfree k ok hk hki ?_ hno
    by_cases hjk:j=k
    ·subst hjk;exact hjun
    ·rw[getD_set_ne true hjk] at hunk;exact hunk
   refine ih (listed.setIfInBounds j true) _ _ hfree' (ready_mono hr (Ne.symm hji)) (Ze hst j oj stJ) hcq ?_ ?_
   ·intro k hk W
    by_cases hjk:j=k
    ·subst hjk
     exfalso
     have hlt:j<listed.size:=by
      rcases Nat.lt_or_ge j listed.size with h'|h'
      ·exact h'
      ·simp[Array.getElem?_eq_none h'] at hjun
     simp[hlt] at hk
    ·rw[getD_set_ne true hjk] at hk
     have:=hun k hk W
     unfold upd;rw[if_neg (fun e=>hjk e.symm)];exact this
   ·refine⟨hI,(Zq.move' hap hsi hpj).2 okI,fun p hcp=>?_⟩
    have hcp':kg R w0 (upd F i oi (hI.φ p)):=by
     obtain⟨W,hW,hF⟩:=hcp
     refine⟨W,hW,fun k=>?_⟩
     have hk:=hF k
     by_cases hki:k=i
     ·subst hki
      unfold upd at hk ⊢
      rw[if_pos rfl] at hk ⊢
      refine⟨hk.1,fun l hl=>?_⟩
      have:=hk.2 l hl
      rwa [if_neg (fun e=>hpj (by rw[←e];exact hl))] at this
     ·by_cases hkj:k=j
      ·subst hkj
       unfold upd;rw[if_neg hki];exact hun k hjun W
      ·unfold upd at hk ⊢
       rw[if_neg hki,if_neg hkj] at hk
       rw[if_neg hki];exact hk
    obtain⟨hJ',okJ',hKJ'⟩:=(hKI p hcp').2 j (ready_mono hj hji) oj hoj
    have okJ'':Zq R P ops w0 H j oj a F hJ':=(Zq.move hap hsj hpi).1 okJ'
    have e:=okJ''.unique hc okJ
    subst e
    have hq:=hKJ' q (by rw[jY F _ _ (Ne.symm hji) hpi hpj];exact hcp)
    rw[Array.setIfInBounds_comm _ _ (fun e=>hji e.symm),Act.put_comm a (hI.f p) (hJ'.f q) h2,jY F _ _ (Ne.symm hji) hpi hpj] at hq
    exact hq
def qz:Nat→List Oper→List Bool→List (Nat×Oper)
 |k,o :: l,true :: m=>(k,o) :: qz (k+1) l m
 |k,_ :: l,false :: m=>qz (k+1) l m
 |_,_,_=>[]
theorem jz:∀ (l:List Oper) (m:List Bool) (k:Nat),∀ x∈qz k l m,∃ j,x.1=k+j∧l[j]?=some x.2:=by
 intro l
 induction l with
 |nil=>intro m k x hx;cases m <;> simp[qz] at hx
 |cons o l ih =>
  intro m k x hx
  cases m with
  |nil=>simp[qz] at hx
  |cons b m =>
   cases b
   ·simp only[qz] at hx
    obtain⟨j,h1,h2⟩:=ih m (k+1) x hx
    exact⟨j+1,by omega,by simpa using h2⟩
   ·simp only[qz,List.mem_cons] at hx
    rcases hx with rfl|hx
    ·exact⟨0,rfl,rfl⟩
    ·obtain⟨j,h1,h2⟩:=ih m (k+1) x hx
     exact⟨j+1,by omega,by simpa using h2⟩
def ZC (R:Rel) (P:Program) (ops:Array Oper) (w0:World) (H:Nat→Option qT) (Q:Act→qN→Prop):List (Nat×Oper)→Act→qN→Prop
 | [],a,F=>Q a F
 |(k,o) :: rest,a,F=>FOpG R P ops w0 H k o (fun a' F'=>ZC R P ops w0 H Q rest a' F') a F
def Zs (ops:Array Oper) (L:Array Bool):List Nat→Array Bool→Bool
 | [],listed=>listed == L
 |k :: r,listed=>(Region.ready .any ops listed).contains k && Region.free .any ops listed k && Zs ops L r (listed.setIfInBounds k true)
def tailM (ops:Array Oper) (L:Array Bool) (ks:List Nat):Bool:=(List.range ops.size).all fun j=>L.getD j true || ks.all fun k=>(match ops[j]? with|some o=>(qL o).contains k|none=>true)
theorem qce {L:Array Bool} {ks:List Nat} (h:tailM ops L ks=true):∀ (j:Nat) (o:Oper),ops[j]?=some o→L.getD j true=false→∀ k,k∈ks→k∈qL o:=by
 intro j o ho hm k hk
 have h1:=List.all_eq_true.1 h j (List.mem_range.2 (zG.1 ho).1)
 rw[hm,Bool.false_or] at h1
 have h2:=List.all_eq_true.1 h1 k hk
 rw[ho] at h2
 simpa using h2
theorem Xw {H:Nat→Option qT} (hH:∀ i h,H i=some h→∀ p,qF R (h.φ p)) {L:Array Bool} {ks:List Nat} {Q:Act→qN→Prop} (hs:Region.noSelect ops=true)
  (htail:∀ (j:Nat) (o:Oper),ops[j]?=some o→L.getD j true=false→∀ k,k∈ks→k∈qL o):∀ (l:List (Nat×Oper)) (listed:Array Bool) (a:Act) (F:qN),(∀ x∈l,ops[x.1]?=some x.2∧x.1∈ks) →
  Zs ops L (l.map (·.1)) listed=true→(∀ k,qF R (F k))→kg R w0 F→(∀ j,listed.getD j true=false→∀ W,F j W)→ZC R P ops w0 H Q l a F→Jw R P ops w0 H L Q l.length listed a F
 | [],listed,a,F,_,hB,_,_,_,h=>⟨by simpa [Zs] using hB,h⟩
 |(k,o) :: l,listed,a,F,hl,hB,hst,hc,hun,h=>by
  obtain⟨h0,hks⟩:=hl (k,o) (List.mem_cons_self)
  simp only[List.map_cons,Zs,Bool.and_eq_true] at hB
  obtain⟨⟨hr,hf⟩,hB'⟩:=hB
  have hrk:k∈Region.ready .any ops listed:=by simpa using hr
  have hkun:=(mem_ready.1 hrk).1
  refine UN (A:=fun k=>k∈ks) hH h0 hks (Region.noSelect_spec hs) htail l.length listed a F (Region.free_spec h0 hf) hrk hst hc hun ?_
  obtain⟨hh,hok,hK⟩:=h
  refine⟨hh,hok,fun p hcp=>?_⟩
  refine Xw hH hs htail l _ _ _ (fun x hx=>hl x (List.mem_cons_of_mem _ hx)) hB' (Ze hst k o (hok.stable hH p)) hcp (fun j hj W=>?_) (hK p hcp)
  by_cases hjk:k=j
  ·subst hjk
   have hlt:k<listed.size:=by
    rcases Nat.lt_or_ge k listed.size with h'|h'
    ·exact h'
    ·simp[Array.getElem?_eq_none h'] at hkun
   simp[hlt] at hj
  ·rw[getD_set_ne true hjk] at hj
   have:=hun j hj W
   unfold upd
   rw[if_neg (fun e=>hjk e.symm)]
   exact this
theorem Uw {H:Nat→Option qT} {i:Nat} {o:Oper} {a:Act} {F:qN} {K:Act→qN→Prop} {K':Act→World→Prop} {Q':Exit→Act→World→Prop} {W:World} (hi:ops[i]?=some o)
  (hH:∀ i h,H i=some h→∀ p,qF R (h.φ p)) (hst:∀ k,qF R (F k)) (hW:R.r w0 W) (hF:∀ k,F k W)
  (hK:∀ a' F' W',K a' F'→(∀ k,qF R (F' k))→R.r w0 W'→(∀ k,F' k W')→K' a' W') (h:FOpG R P ops w0 H i o K a F):wpOp P ops Q' i K' a W:=by
 obtain⟨hh,hok,hn⟩:=h
 have go:∀ p W',R.r W W'→hh.φ p W'→K' (a.put o.dst (hh.f p)) W':=fun p W' he hφ=>by
  have hF':∀ k,upd F i o (hh.φ p) k W':=fun k=>by
   unfold upd
   split
   ·exact⟨hφ,fun j _=>hst j _ _ he (hF j)⟩
   ·exact hst k _ _ he (hF k)
  exact hK _ _ W' (hn p ⟨W',R.trans hW he,hF'⟩) (Ze hst i o (hok.stable hH p)) (R.trans hW he) hF'
 unfold wpOp
 simp only[hi]
 rcases hok with ⟨x1,rfl⟩|⟨x1,x2,v,rfl,x3⟩|⟨x1,x2,x3⟩
 ·simp only[x1,Bool.false_eq_true,if_false]
  exact go () W (R.refl W) trivial
 ·simp only[x1,if_true]
  obtain⟨w',hr,he⟩:=x3 W hW fun k _=>hF k
  refine .inl ?_
  unfold Oper.wp
  rw[hr]
  exact go () w' he trivial
 ·simp only[x1,if_true]
  have h3:=x3 W hW fun k _=>hF k
  refine .inl ?_
  unfold Qp at h3
  unfold Oper.wp
  generalize (execOp a.eval o).run P W=r at *
  cases r with
  |ok n w' =>
   cases n <;> simp only[Zo] at h3 <;> simp only[Oper.upon]
   case value u =>
    obtain⟨p,rfl,hp,he⟩:=h3
    exact go p w' he hp
   case skip =>
    obtain⟨p,hu,hp,he⟩:=h3
    rw[hu]
    exact go p w' he hp
   case enter f args =>
    obtain⟨he,hcl⟩:=h3
    refine hcl.mono fun e w'' ⟨p,he1,hp,he2⟩=>?_
    subst he1
    exact go p w'' (R.trans he he2) hp
  |halt x w'=>simp only[Zo] at h3
theorem JY {H:Nat→Option qT} (hH:∀ i h,H i=some h→∀ p,qF R (h.φ p)) {L:Array Bool} {t:Nat} {Q:Act→qN→Prop} {Q':Exit→Act→World→Prop}
  (hQ:∀ a F W,Q a F→R.r w0 W→(∀ k,F k W)→wpAny P .any ops Q' t L a W) :
  ∀ (fuel:Nat) (listed:Array Bool) (a:Act) (F:qN) (W:World),(∀ k,qF R (F k))→R.r w0 W→(∀ k,F k W)→Jw R P ops w0 H L Q fuel listed a F→wpAny P .any ops Q' (fuel+t) listed a W
 |0,listed,a,F,W,_,hW,hF,h=>by
  rw[h.1,Nat.zero_add]
  exact hQ a F W h.2 hW hF
 |fuel+1,listed,a,F,W,hst,hW,hF,h=>by
  rw[show fuel+1+t=fuel+t+1 by omega]
  refine⟨fun h0=>absurd h0 h.1,fun i hi=>?_⟩
  obtain⟨_,o,ho,_⟩:=mem_ready.1 hi
  exact Uw ho hH hst hW hF (fun a' F' W' hk hst' hW' hF'=>JY hH hQ fuel _ a' F' W' hst' hW' hF' hk) (h.2 i hi o ho)
def QN (Q:Exit→Act→World→Prop):Exit→Act→World→Prop:=fun e a w=>match e with | .normal=>Q .normal a w|_=>False
theorem Qw {Q:Exit→Act→World→Prop} {a:Act} {w:World} (h:Q .normal a w):QN Q .normal a w:=h
theorem Zr {Q:Exit→Act→World→Prop}:¬LetsOut (QN Q):=fun ⟨_,_,h⟩=>h
theorem wpOp_QN {Q:Exit→Act→World→Prop} {i:Nat} {a:Act} {w:World} {K K':Act→World→Prop} (hK:∀ a w,K a w→K' a w) (h:wpOp P ops (QN Q) i K a w):wpOp P ops Q i K' a w:=by
 unfold wpOp at *
 split
 ·exact hK _ _ (by simpa [*] using h)
 ·rename_i o ho
  simp only[ho] at h
  split
  ·rename_i hw
   simp only[hw,if_true] at h
   rcases h with h|⟨_,h⟩
   ·refine .inl ?_
    unfold Oper.wp at *
    generalize (execOp a.eval o).run P w=r at *
    cases r with
    |ok n w' =>
     cases n <;> simp only[Oper.upon] at h ⊢ <;>
      first
       |exact hK _ _ h
       |exact Calls.mono h (fun e w'' he=>by cases e <;> first|exact hK _ _ he|exact absurd he Zr|exact False.elim he)
       |exact Rows.mono h (fun _ _ he=>hK _ _ he)
    |halt x w'=>cases x <;> simp only[Oper.upon] at h ⊢ <;> exact False.elim h
   ·exact absurd h Zr
  ·rename_i hw;simp only[hw] at h;exact hK _ _ h
theorem qbC {Q:Exit→Act→World→Prop}:∀ (fuel:Nat) (listed:Array Bool) (a:Act) (w:World),wpAny P .any ops (QN Q) fuel listed a w→wpAny P .any ops Q fuel listed a w
 |0,_,_,_,h=>⟨h.1,h.2⟩
 |fuel+1,listed,a,w,h=>⟨h.1,fun i hi=>wpOp_QN (fun a w h=>qbC fuel _ a w h) (h.2 i hi)⟩
theorem qcC {Q:Exit→Act→World→Prop} {z:Nat} {oz:Oper} {v:Value} (hz:ops[z]?=some oz) (hsel:∀ (j:Nat) (o:Oper) cs b,ops[j]?=some o→o.op≠.select cs b) :
  ∀ (fuel:Nat) (listed:Array Bool) (a:Act) (W:World),
   (∀ j oj,ops[j]?=some oj→j≠z→listed.getD j true=false→(∀ e∈oj.after,Region.binds .any e=true→e.on≠z)→oz.apart ops oj=true) →
   z∈Region.ready .any ops listed→Region.wanted oz (yielded ops a.tmps)=true→(∀ W,(execOp a.eval oz).run P W=.ok (.value v) W) →
   wpAny P .any ops (QN Q) fuel (listed.setIfInBounds z true) (a.put oz.dst v) W→wpAny P .any ops (QN Q) (fuel+1) listed a W:=by
 have first:∀ (K:Act→World→Prop) (a:Act) (W:World),Region.wanted oz (yielded ops a.tmps)=true→(∀ W,(execOp a.eval oz).run P W=.ok (.value v) W)→K (a.put oz.dst v) W→wpOp P ops (QN Q) z K a W:=by
  intro K a W hw hp h
  unfold wpOp
  simp only[hz,hw,if_true]
  refine .inl ?_
  unfold Oper.wp
  rw[hp]
  exact h
 intro fuel
 induction fuel with
 |zero =>
  intro listed a W hfree hr hw hp h
  refine⟨fun h0=>(by rw[h0] at hr;cases hr),fun i hi=>?_⟩
  by_cases hiz:i=z
  ·subst hiz;exact first _ a W hw hp h
  ·exfalso
   have:=ready_mono hi hiz
   rw[h.1] at this
   cases this
 |succ fuel ih =>
  intro listed a W hfree hr hw hp h
  refine⟨fun h0=>(by rw[h0] at hr;cases hr),fun i hi=>?_⟩
  by_cases hiz:i=z
  ·subst hiz;exact first _ a W hw hp h
  ·have hi2:=h.2 i (ready_mono hi hiz)
   obtain⟨hiun,oi,hoi,halli⟩:=mem_ready.1 hi
   obtain⟨hzun,_,_,_⟩:=mem_ready.1 hr
   have bad:∀ k,listed.getD k true=false→listed.getD k false=true→False:=fun k h0 h1=>by
    rcases Nat.lt_or_ge k listed.size with h'|h'
    ·simp[h'] at h0 h1;rw[h0] at h1;cases h1
    ·simp[Array.getElem?_eq_none h'] at h1
   have hap:=hfree i oi hoi hiz hiun (fun e he hb heq=>bad z hzun (heq ▸ halli e he hb))
   obtain⟨h1,h2,h3⟩:=Oper.apart_spec hap
   have hsi:∀ cs b,oi.op≠.select cs b:=fun cs b=>hsel i oi cs b hoi
   have hsz:∀ cs b,oz.op≠.select cs b:=fun cs b=>hsel z oz cs b hz
   have step:∀ (b:Act) (u:Value) (w':World),b.tmps=a.tmps→wpAny P .any ops (QN Q) fuel ((listed.setIfInBounds z true).setIfInBounds i true) ((b.put oz.dst v).put oi.dst u) w'→wpAny P .any ops (QN Q) (fuel+1) (listed.setIfInBounds i true) (b.put oi.dst u) w':=by
    intro b u w' hb hh
    rw[Act.put_comm b v u h2,Array.setIfInBounds_comm _ _ (fun e=>hiz e.symm)] at hh
    have hev:b.eval=a.eval:=by funext x;cases x <;> simp[Act.eval,hb]
    refine ih _ _ w' (fun j oj hoj hjz hjun hno=>?_) (ready_mono hr (Ne.symm hiz)) ?_ (fun W=>?_) hh
    ·refine hfree j oj hoj hjz ?_ hno
     by_cases hij:i=j
     ·subst hij;exact hiun
     ·rw[getD_set_ne true hij] at hjun;exact hjun
    ·rw[wanted_put oz b oi.dst u h3,hb];exact hw
    ·rw[execOp_put oz hsz b oi.dst u h3,hev];exact hp W
   unfold wpOp at hi2 ⊢
   simp only[hoi] at hi2 ⊢
   rw[wanted_put oi a oz.dst v h1] at hi2
   split
   ·rename_i hw'
    rw[if_pos hw'] at hi2
    rcases hi2 with hi2|⟨_,hi2⟩
    ·refine .inl ?_
     unfold Oper.wp at hi2 ⊢
     rw[execOp_put oi hsi a oz.dst v h1] at hi2
     generalize (execOp a.eval oi).run P W=r at *
     cases r with
     |ok n w' =>
      cases n <;> simp only[Oper.upon] at hi2 ⊢
      case value u=>exact step a u w' rfl hi2
      case skip=>exact step a undef w' rfl hi2
      case defer d =>
       refine step { a with defers:=d :: a.defers } undef w' rfl ?_
       have e:({ a.put oz.dst v with defers:=d :: (a.put oz.dst v).defers }:Act)=({ a with defers:=d :: a.defers }:Act).put oz.dst v:=by cases oz.dst <;> rfl
       rw[←e]
       exact hi2
      case enter f args=>exact Calls.mono hi2 (fun e w'' he=>by cases e <;> first|exact step a _ _ rfl he|exact absurd he Zr|exact False.elim he)
      case row=>exact Rows.mono hi2 (fun _ _ he=>step a _ _ rfl he)
     |halt x w'=>cases x <;> simp only[Oper.upon] at hi2 ⊢ <;> exact False.elim hi2
    ·exact absurd hi2 Zr
   ·rename_i hw'
    rw[if_neg hw'] at hi2
    exact step a undef W rfl hi2
theorem qv {id:Nat} {l:List Oper} {Q:Exit→Act→World→Prop} {a:Act} {w:World} (hm:P.follows .mixedOrders=true)
  (h:wpAny P .any l.toArray (QN Q) l.length (Array.replicate l.length false) a w.drew):(Code.region id l.toArray true).wp P Q a w:=
 wp_region_any hm (by simpa using qbC _ _ _ _ h)
theorem Zd {l:List Oper} {Q:Exit→Act→World→Prop} {n:Nat} {listed:Array Bool} {a:Act} {W:World} (z fuel:Nat) {oz:Oper} (v:Value) (hn:n=fuel+1) (hz:l.toArray[z]?=some oz) (hs:Region.noSelect l.toArray=true)
  (hf:Region.free .any l.toArray listed z=true) (hr:(Region.ready .any l.toArray listed).contains z=true) (hw:Region.wanted oz (yielded l.toArray a.tmps)=true) (hp:∀ W,(execOp a.eval oz).run P W=.ok (.value v) W)
  (h:wpAny P .any l.toArray (QN Q) fuel (listed.setIfInBounds z true) (a.put oz.dst v) W):wpAny P .any l.toArray (QN Q) n listed a W:=
 hn ▸ qcC hz (Region.noSelect_spec hs) fuel listed a W (Region.free_spec hz hf) (by simpa using hr) hw hp h
theorem QH {l:List Oper} {Q:Exit→Act→World→Prop} {fuel:Nat} {listed:Array Bool} {a:Act} {w W:World} (R:Rel) (H:Nat→Option qT) (M:List Bool) (t:Nat)
  (hs:Region.noSelect l.toArray=true) (ht:tailM l.toArray (QS l.length (l.length-t)) ((qz 0 l M).map (·.1))=true) (hB:Zs l.toArray (QS l.length (l.length-t)) ((qz 0 l M).map (·.1)) listed=true)
  (hseq:YY l.toArray t (l.length-t) (QS l.length (l.length-t))=true) (hfu:fuel=(qz 0 l M).length+t) (htl:(l.drop (l.length-t)).length=t)
  (hH:∀ i h,H i=some h→∀ p,qF R (h.φ p)) (hW:R.r w W)
  (h:∀ K:Act→qN→Prop,(∀ a' F',(∀ W,R.r w W→(∀ k,F' k W)→wpList P l.toArray Q (l.drop (l.length-t)) a' W)→K a' F')→ZC R P l.toArray w H K (qz 0 l M) a (fun _ _=>True)):wpAny P .any l.toArray Q fuel listed a W:=by
 have h:=h _ (fun a' F' hh=>hh)
 subst hfu
 have key:=Xw (w0:=w) hH hs (qce ht) (qz 0 l M) listed a (fun _ _=>True) (fun x hx=>by
  obtain⟨j,h1,h2⟩:=jz l M 0 x hx
  refine⟨?_,List.mem_map.2 ⟨x,hx,rfl⟩⟩
  rw[h1,Nat.zero_add]
  simpa using h2) hB (fun _ _ _ _ _=>trivial) ⟨W,hW,fun _=>trivial⟩ (fun _ _ _=>trivial) h
 refine JY (w0:=w) hH (t:=t) (Q':=Q) (fun a F W hq hW hF=>?_) _ _ _ _ W (fun _ _ _ _ _=>trivial) hW (fun _=>trivial) key
 have:=vU (l.drop (l.length-t)) (l.length-t) _ a W (fun j _=>by rw[List.getElem?_drop];simp) (by rw[htl];exact hseq) (hq W hW hF)
 rwa [htl] at this
theorem qm {l:List (Nat×qT)} (h:∀ x∈l,∀ p,qF R (x.2.φ p)):∀ i hh,qE l i=some hh→∀ p,qF R (hh.φ p):=by
 induction l with
 |nil=>intro i hh e;cases e
 |cons x r ih =>
  intro i hh e
  obtain⟨j,o⟩:=x
  simp only[qE] at e
  split at e
  ·cases e;exact h (j,_) (List.mem_cons_self)
  ·exact ih (fun y hy=>h y (List.mem_cons_of_mem _ hy)) i hh e
theorem qaR (v:Value):∀ p,qF R ((one v).φ p):=fun _ _ _ _ _=>trivial
theorem Qg {o:Oper} {a:Act} {W:World} {hh:qT} {f:FuncId} {args:Array Value} (hr:(execOp a.eval o).run P W=.ok (.enter f args) W)
  (hc:Calls P f args W fun e w''=>∃ p,e=.returned (hh.f p)∧hh.φ p w''∧R.r W w''):Qp R P o a W hh:=by
 unfold Qp;rw[hr];exact⟨R.refl W,hc⟩
theorem Qa {o:Oper} {a:Act} {W w':World} {hh:qT} {u:Value} (hr:(execOp a.eval o).run P W=.ok (.value u) w')
  (hp:∃ p,u=hh.f p∧hh.φ p w'∧R.r W w'):Qp R P o a W hh:=by
 unfold Qp;rw[hr];exact hp
theorem Vt {o:Oper} {a:Act} {W w':World} {hh:qT} (hr:(execOp a.eval o).run P W=.ok .skip w')
  (hp:∃ p,undef=hh.f p∧hh.φ p w'∧R.r W w'):Qp R P o a W hh:=by
 unfold Qp;rw[hr];exact hp
/-! ### the steps of the walk -/
section
variable {H:Nat→Option qT} {Q:Act→qN→Prop} {k:Nat} {o:Oper} {rest:List (Nat×Oper)} {a:Act} {F:qN}
theorem qD (h:Q a F):ZC R P ops w0 H Q [] a F:=h
theorem qf (v:Value) (hw:Region.wanted o (yielded ops a.tmps)=true) (hH:H k=none) (hv:∀ W,R.r w0 W→(∀ j∈qL o,F j W)→Jg R P o a W v)
  (h:ZC R P ops w0 H Q rest (a.put o.dst v) (upd F k o fun _=>True)):ZC R P ops w0 H Q ((k,o) :: rest) a F:=
 ⟨one v,.inr (.inl ⟨hw,hH,v,rfl,hv⟩),fun _ _=>h⟩
theorem qj (hw:Region.wanted o (yielded ops a.tmps)=false) (h:ZC R P ops w0 H Q rest (a.put o.dst undef) (upd F k o fun _=>True)):ZC R P ops w0 H Q ((k,o) :: rest) a F:=
 ⟨one undef,.inl ⟨hw,rfl⟩,fun _ _=>h⟩
theorem qA (hh:qT) (hw:Region.wanted o (yielded ops a.tmps)=true) (hH:H k=some hh) (hv:∀ W,R.r w0 W→(∀ j∈qL o,F j W)→Qp R P o a W hh)
  (h:∀ p,ZC R P ops w0 H Q rest (a.put o.dst (hh.f p)) (upd F k o (hh.φ p))):ZC R P ops w0 H Q ((k,o) :: rest) a F:=
 ⟨hh,.inr (.inr ⟨hw,hH,hv⟩),fun p _=>h p⟩
end
end
end
end Go.Proofs.YtckhnchnbeoogaaGreat
