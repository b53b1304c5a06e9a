/- Texts DWrite, ShareR, Twin3, joined. -/
import Derived.Test.YtckhnchnbeoogaaGreatV13
import Derived.Test.YtckhnchnbeoogaaGreatV17
import Derived.Test.YtckhnchnbeoogaaGreatV18
import Derived.Test.YtckhnchnbeoogaaGreatV19
set_option linter.unusedSimpArgs false
set_option linter.unusedVariables false
namespace Go.Proofs.YtckhnchnbeoogaaGreat
open Go.RowKit
def Kh (d:Bool) (a:Int):Int:=if d=true then (if 0≤a∧a<256 then 0 else 2) else 8
set_option maxHeartbeats 1000000 in
set_option maxRecDepth 100000 in
theorem Uf (A1:Option Addr) (n1 c1:Nat) (A2:Option Addr) (n2 c2:Nat) (bs:List (List UInt8)) (ws:List (Int×List UInt8)) (a:Int) (w:World) (hb:Bls w w.heap.size (.slice A1 n1 c1) bs) (hw:Wrs w w.heap.size (.slice A2 n2 c2) ws) :
  Calls Tryz.prog 85 #[Zw A1 n1 c1 A2 n2 c2,.int .i64 a] w (Ret (.int .i64 (Kh (Qe bs ws) a)) w):=by
 have HD:=zH (fun W (hW:Ext w W)=>TD A1 n1 c1 A2 n2 c2 bs ws W ((hb.below hW).more hW.size) ((hw.below hW).more hW.size))
 clear hb hw
 generalize Qe bs ws=d at *
 go_enter Tryz.func85,Tryz.ntmps85
 go_wp2_with fail
 generalize hw1:World.alloc _ _=w1
 have x1:Ext w w1:=by rw[←hw1];exact Ext.alloc _ _
 clear hw1
 refine(HD.out _ x1).mono ?_
 rintro e w2 ⟨rfl,hB⟩
 have x2:Ext w w2:=x1.trans hB
 clear hB x1 HD
 cases d
 ·go_wp2
  go_ret
  exact⟨rfl,x2⟩
 ·have h0:Hid (∀ n:Int,(if 0≤a∧a<256 then 0 else 2)=n→Kh true a=n):=zH fun n h=>by unfold Kh;rw[if_pos rfl];exact h
  rw[show kl true=0 from rfl]
  by_cases h1:a<0
  ·go_wp2
   go_ret
   exact⟨jU (h0.out _ (if_neg (by omega))).symm,x2⟩
  ·by_cases h2:a≥256
   ·go_wp2
    go_ret
    exact⟨jU (h0.out _ (if_neg (by omega))).symm,x2⟩
   ·have d2:decide (256≤a)=false:=decide_eq_false (by omega)
    go_wp2
    go_ret
    exact⟨jU (h0.out _ (if_pos (by omega))).symm,x2⟩
def NewDisk (lo:Nat) (bs:List (List UInt8)) (ws:List (Int×List UInt8)) (u:Value) (W:World):Prop:=∃ A1 c1 A2 c2,u=Zw A1 bs.length c1 A2 ws.length c2∧∀ W2:World,(∀ q:Addr,lo≤q.block→q.block<W.heap.size→W2.cell? q=(thaw W).cell? q)→Bls W2 W.heap.size (.slice A1 bs.length c1) bs∧Wrs W2 W.heap.size (.slice A2 ws.length c2) ws
abbrev qak (e:Int):Value:=.tuple #[Zw none 0 0 none 0 0,.int .i64 e]
def jc (bs:List (List UInt8)) (ws:List (Int×List UInt8)) (a:Int) (data:List UInt8):Int:=
 if Kh (Qe bs ws) a≠0 then Kh (Qe bs ws) a else if data.length≠128 then 3 else if ws.length=4096 then 9 else 0
theorem Zy {bs:List (List UInt8)} {ws:List (Int×List UInt8)} (h:Qe bs ws=true):bs.length<1000000∧ws.length<1000000∧(∀ l∈bs,l.length<1000000)∧∀ p∈ws,p.2.length<1000000:=by
 unfold Qe headD at h
 simp only[Bool.and_eq_true,decide_eq_true_eq,List.all_eq_true] at h
 obtain⟨⟨h1,h2⟩,h3,h4⟩:=h
 refine⟨by omega,by omega,fun l hl=>?_,fun p hp=>?_⟩
 ·have:=h3 l hl
  unfold vB at this
  have:=of_decide_eq_true this
  omega
 ·have:=h4 p hp
  unfold KK at this
  have:=of_decide_eq_true this
  omega
theorem jg.waits {lo:Nat} {bs:List (List UInt8)} {ws:List (Int×List UInt8)} {BB WW g:Nat} {W:World} (h:jg lo bs ws BB WW g W) (h2:ws.length<1000000):∃ ps:List ((Int×List UInt8)×Value),ps.map (·.1)=ws∧W.ownsRow lo 100 2 (.slice (some ⟨WW,0,none⟩) ws.length (ws.length+1)) ws.length (QE ps)∧∀ p∈ps,∃ F,InG W g F p.2 p.1.2:=by
 obtain⟨cw,hw1,hw2,hw3⟩:=h.ww
 have hq:∀ i,i<ws.length→∃ q:(Int×List UInt8)×Value,ws[i]?=some q.1∧(∃ F,InG W g F q.2 q.1.2)∧cw[i*2]?=some (.int .i64 q.1.1)∧cw[i*2+1]?=some q.2:=fun i hi=>by
  obtain⟨v,F,e1,e2,e3⟩:=hw3 i ws[i] (List.getElem?_eq_getElem hi)
  exact⟨(ws[i],v),List.getElem?_eq_getElem hi,⟨F,e3⟩,e1,e2⟩
 obtain⟨Q,hQ⟩:=Go.Deep.choose_lt (α:=(Int×List UInt8)×Value) (p:=fun i q=>ws[i]?=some q.1∧(∃ F,InG W g F q.2 q.1.2)∧cw[i*2]?=some (.int .i64 q.1.1)∧cw[i*2+1]?=some q.2) hq
 refine⟨(List.range ws.length).map Q,?_,⟨by rw[jL];simp,.inr ⟨WW,ws.length+1,cw,rfl,h.los.2.1,hw1,by omega,by unfold maxLen;omega,hw2,?_⟩⟩,fun p hp=>?_⟩
 ·apply List.ext_getElem?
  intro i
  rw[List.map_map,List.getElem?_map]
  rcases Nat.lt_or_ge i ws.length with hi|hi
  ·rw[List.getElem?_range hi,(hQ i hi).1];rfl
  ·rw[List.getElem?_eq_none (by simpa using hi),List.getElem?_eq_none hi];rfl
 ·apply List.ext_getElem?
  intro j
  rw[List.getElem?_take]
  by_cases hj:j<ws.length*2
  ·rw[if_pos hj]
   obtain⟨c0,c1⟩:=JM ((List.range ws.length).map Q) (j / 2) (by simp;omega)
   obtain⟨_,_,q0,q1⟩:=hQ (j / 2) (by omega)
   have e0:cw.toList[j]?=cw[j]?:=by simp
   rw[e0]
   rcases(show j=j / 2*2∨j=j / 2*2+1 by omega) with e|e
   ·rw[show cw[j]?=cw[j / 2*2]? from congrArg (fun t=>cw[t]?) e,q0,show (QE ((List.range ws.length).map Q))[j]?=(QE ((List.range ws.length).map Q))[j / 2*2]? from congrArg (fun t=>(QE ((List.range ws.length).map Q))[t]?) e,c0]
    simp
   ·rw[show cw[j]?=cw[j / 2*2+1]? from congrArg (fun t=>cw[t]?) e,q1,show (QE ((List.range ws.length).map Q))[j]?=(QE ((List.range ws.length).map Q))[j / 2*2+1]? from congrArg (fun t=>(QE ((List.range ws.length).map Q))[t]?) e,c1]
    simp
  ·rw[if_neg hj,List.getElem?_eq_none (by rw[jL];simp;omega)]
 ·obtain⟨i,hi,rfl⟩:=List.mem_map.1 hp
  exact(hQ i (List.mem_range.1 hi)).2.1
theorem vN (ps:List ((Int×List UInt8)×Value)) (a:Int) (l:List UInt8) (u:Value):QE (ps++[((a,l),u)])=QE ps++gW (a,l) u:=by
 induction ps with
 |nil=>rfl
 |cons p r ih=>simp only[List.cons_append,QE,ih]
theorem jg.blocks {lo:Nat} {bs:List (List UInt8)} {ws:List (Int×List UInt8)} {BB WW g:Nat} {W:World} (h:jg lo bs ws BB WW g W) (h1:bs.length<1000000) (h3:∀ l∈bs,l.length<1000000)
  (W2:World) (hB:∀ j,W2.cell? ⟨BB,j,none⟩=W.cell? ⟨BB,j,none⟩) (hg:∀ j,W2.cell? ⟨g,j,none⟩=W.cell? ⟨g,j,none⟩):Bls W2 W.heap.size (.slice (some ⟨BB,0,none⟩) bs.length bs.length) bs:=by
 obtain⟨cb,hb1,hb2,hb3⟩:=h.bb
 have z1:=(zG.1 hb1).1
 have hm:∀ n,n<1000001→n≤maxLen:=fun n hn=>by unfold maxLen;omega
 refine⟨cb.toList,_,_,rfl,Nat.le_refl _,hm _ (by omega),⟨by simp[hb2],fun _=>⟨BB,0,rfl,z1,fun j u hu=>?_⟩⟩,fun i u l hu hl=>?_⟩
 ·rw[Nat.zero_add,hB,qa hb1]
  simpa using hu
 ·obtain⟨v,F,e1,e2⟩:=hb3 i l hl
  have:cb.toList[i]?=cb[i]?:=by simp
  rw[this,e1] at hu
  cases hu
  exact(e2.cells hg).bys h.los.2.2.2.1 (hm _ (by have:=h3 l (List.mem_of_getElem? hl);omega))
set_option maxHeartbeats 4000000 in
set_option maxRecDepth 100000 in
theorem qcU (A1:Option Addr) (n1 c1:Nat) (A2:Option Addr) (n2 c2:Nat) (bs:List (List UInt8)) (ws:List (Int×List UInt8)) (a:Int) (A:Option Addr) (c:Nat) (data:List UInt8) (w:World)
  (hb:Bls w w.heap.size (.slice A1 n1 c1) bs) (hw:Wrs w w.heap.size (.slice A2 n2 c2) ws) (hd:Bys w w.heap.size (.slice A data.length c) data) :
  Calls Tryz.prog 68 #[Zw A1 n1 c1 A2 n2 c2,.int .i64 a,.slice A data.length c] w (zE (fun u W=>(jc bs ws a data≠0∧u=qak (jc bs ws a data))∨(jc bs ws a data=0∧∃ v,u=.tuple #[v,.int .i64 0]∧NewDisk w.heap.size bs (ws++[(a,data)]) v W)) w):=by
 have HA:=zH (fun W (hW:Ext w W)=>Uf A1 n1 c1 A2 n2 c2 bs ws a W ((hb.below hW).more hW.size) ((hw.below hW).more hW.size))
 have HT:=zH (fun (h:Qe bs ws=true) W (hW:Ext w W)=>Gd A1 n1 c1 A2 n2 c2 bs ws (Zy h).1 (Zy h).2.1 (Zy h).2.2.1 (Zy h).2.2.2 W ((hb.below hW).more hW.size) ((hw.below hW).more hW.size))
 have HC:=zH (fun (h:data.length=128) W (hW:Ext w W)=>Zh (.slice A data.length c) data (by omega) W ((hd.below hW).more hW.size))
 obtain⟨e2,hc2,hm2,-⟩:=hw.at_
 subst e2
 have hE:∀ e,e=Kh (Qe bs ws) a→jc bs ws a data=if e≠0 then e else if data.length≠128 then 3 else if ws.length=4096 then 9 else 0:=fun e h=>by subst h;rfl
 have hM:Hid (Kh (Qe bs ws) a=0→Qe bs ws=true):=zH fun h=>by
  unfold Kh at h
  split at h
  ·assumption
  ·cases h
 clear hb hw hd hm2
 obtain⟨ae,hae⟩:∃ ae,ae=Kh (Qe bs ws) a:=⟨_,rfl⟩
 rw[←hae] at HA hM
 replace hE:=zH (hE ae hae)
 clear hae
 go_enter Tryz.func68,Tryz.ntmps68
 go_wp2_with fail
 generalize hw1:World.alloc (World.alloc _ _) _=w1
 have x1:Ext w w1:=by rw[←hw1];exact(Ext.alloc _ _).trans (Ext.alloc _ _)
 have r1:w1.heap[w.heap.size]?=some (.cells #[.slice A1 n1 c1,.slice A2 ws.length c2] 25 (0,0)):=by rw[←hw1];exact(Below.heap_alloc _ _ _ (by simp)).trans (World.alloc_heap_at _ _ _ rfl)
 have q1:w1.heap[w.heap.size+1]?=some (.cells #[.slice none 0 0,.slice none 0 0] 25 (0,0)):=by rw[←hw1];exact World.alloc_heap_at _ _ _ (by simp)
 clear hw1
 refine(HA.out w1 x1).mono ?_
 rintro e w2 ⟨rfl,hB⟩
 have x2:Ext w w2:=x1.trans hB
 have r2:=qc r1 hB
 have q2:=qc q1 hB
 have k2:=qa r2
 have kq:=qa q2
 have fq:=qd q2
 have zq:=(zG.1 q2).1
 clear hB x1 HA r1 q1
 by_cases h0:ae=0
 case neg =>
  have d0:(ae != 0)=true:=by simpa using h0
  have e0:Hid (jc bs ws a data=ae):=zH (by rw[hE.out,if_pos h0])
  go_wp2_with fail
  have rf:=qh (qh q2 0 (.slice none 0 0)) 1 (.slice none 0 0)
  have kf:=qa rf
  have bf:Below w.heap.size w ((w2.setCell ⟨w.heap.size+1,0,none⟩ (.slice none 0 0)).setCell ⟨w.heap.size+1,1,none⟩ (.slice none 0 0)):=Below.setCell (Below.setCell x2 (p:=⟨w.heap.size+1,0,none⟩) (Nat.le_succ _) _) (p:=⟨w.heap.size+1,1,none⟩) (Nat.le_succ _) _
  exact bodyPost_ret (v:=qak ae) (by simp[results,Tryz.results68,go_sem,kf]) rfl ⟨_,rfl,.inl ⟨by rw[e0.out];exact h0,by rw[e0.out]⟩,bf⟩
 case pos =>
  have hmay:=hM.out h0
  rw[h0] at hE ⊢
  clear h0 hM
  by_cases h1:data.length=128
  case neg =>
   have d1:((data.length:Int) != 128)=true:=by rw[bne_iff_ne];omega
   have e0:Hid (jc bs ws a data=3):=zH (by rw[hE.out,if_neg (by decide),if_pos h1])
   go_wp2_with fail
   have rf:=qh (qh q2 0 (.slice none 0 0)) 1 (.slice none 0 0)
   have kf:=qa rf
   have bf:Below w.heap.size w ((w2.setCell ⟨w.heap.size+1,0,none⟩ (.slice none 0 0)).setCell ⟨w.heap.size+1,1,none⟩ (.slice none 0 0)):=Below.setCell (Below.setCell x2 (p:=⟨w.heap.size+1,0,none⟩) (Nat.le_succ _) _) (p:=⟨w.heap.size+1,1,none⟩) (Nat.le_succ _) _
   exact bodyPost_ret (v:=qak 3) (by simp[results,Tryz.results68,go_sem,kf]) rfl ⟨_,rfl,.inl ⟨by rw[e0.out];decide,by rw[e0.out]⟩,bf⟩
  case pos =>
   have d1:((data.length:Int) != 128)=false:=by rw[bne_eq_false_iff_eq];omega
   by_cases h2:ws.length=4096
   case pos =>
    have d2:((ws.length:Int) == 4096)=true:=by rw[beq_iff_eq];omega
    have e0:Hid (jc bs ws a data=9):=zH (by rw[hE.out,if_neg (by decide),if_neg (by omega),if_pos h2])
    go_wp2_with fail
    have rf:=qh (qh q2 0 (.slice none 0 0)) 1 (.slice none 0 0)
    have kf:=qa rf
    have bf:Below w.heap.size w ((w2.setCell ⟨w.heap.size+1,0,none⟩ (.slice none 0 0)).setCell ⟨w.heap.size+1,1,none⟩ (.slice none 0 0)):=Below.setCell (Below.setCell x2 (p:=⟨w.heap.size+1,0,none⟩) (Nat.le_succ _) _) (p:=⟨w.heap.size+1,1,none⟩) (Nat.le_succ _) _
    exact bodyPost_ret (v:=qak 9) (by simp[results,Tryz.results68,go_sem,kf]) rfl ⟨_,rfl,.inl ⟨by rw[e0.out];decide,by rw[e0.out]⟩,bf⟩
   case neg =>
    have d2:((ws.length:Int) == 4096)=false:=by rw[beq_eq_false_iff_ne];omega
    have e0:Hid (jc bs ws a data=0):=zH (by rw[hE.out,if_neg (by decide),if_neg (by omega),if_neg h2])
    obtain⟨hbl,hwl,hbe,hwe⟩:=Zy hmay
    have HT2:=zH (HT.out hmay)
    have HC2:=zH (HC.out h1)
    clear HT HC
    clear hE
    go_wp2_with fail
    refine(HT2.out w2 x2).mono ?_
    rintro e w3 ⟨BB,WW,g,rfl,hD,hB⟩
    have hB3:Ext w2 w3:=hB
    have x3:Ext w w3:=x2.trans hB3
    have r3:=qc r2 hB3
    have q3:=qc q2 hB3
    clear r2 q2 k2 kq fq hB HT2
    go_wp2_with fail
    generalize hw4:World.alloc w3 _=w4
    have x34:Ext w3 w4:=by rw[←hw4];exact Ext.alloc _ _
    have t4:w4.heap[w3.heap.size]?=some (.cells #[.slice (some ⟨BB,0,none⟩) bs.length bs.length,.slice (some ⟨WW,0,none⟩) ws.length (ws.length+1)] 25 (0,0)):=by rw[←hw4];exact World.alloc_heap_at _ _ _ rfl
    clear hw4
    have hD4:=hD.keep (Nat.le_refl _) x34.size (fun b _ hb=>x34.block b hb)
    obtain⟨ps,hps,hown,hin⟩:=hD4.waits hwl
    have hpl:ps.length=ws.length:=by rw[←hps,List.length_map]
    obtain⟨l1,l2,l3,l4,l5,l6,l7⟩:=hD4.los
    have r4:=qc r3 x34
    have q4:=qc q3 x34
    have x4:Ext w w4:=x3.trans x34
    have z23:=hB3.size
    have z34:=x34.size
    have zt:=(zG.1 t4).1
    have hWl:WW<w4.heap.size:=by obtain⟨_,h,_⟩:=hD4.ww;exact(zG.1 h).1
    have hBl:BB<w4.heap.size:=by obtain⟨_,h,_⟩:=hD4.bb;exact(zG.1 h).1
    have hW3:WW≠w3.heap.size:=by
     obtain⟨_,h,_⟩:=hD4.ww
     exact qX h t4 (by decide)
    have hB3':BB≠w3.heap.size:=by
     obtain⟨_,h,_⟩:=hD4.bb
     exact qX h t4 (by decide)
    have hg3:g<w3.heap.size:=hD.los.2.2.2.1
    have hvl:∀ k,(Value.slice (some ⟨WW,0,none⟩) ws.length (ws.length+1)).ownBlock=some k→k=WW:=fun k hk=>by simp[Value.ownBlock] at hk;exact hk.symm
    have hv1:∀ k,(Value.slice (some ⟨WW,0,none⟩) ws.length (ws.length+1)).ownBlock=some k→k<w4.heap.size:=fun k hk=>by rw[hvl k hk];exact hWl
    obtain⟨i0,hi,hz0,hz1,hz2⟩:=info_parts Tryz.info_write
    obtain⟨RR,hRR⟩:∃ RR:Rel,RR=XX w2.heap.size 100 2 w4.heap.size (.slice (some ⟨WW,0,none⟩) ws.length (ws.length+1)) ws.length (QE ps) (gW (a,data)) data:=⟨_,rfl⟩
    have g1:∀ W,RR.r w4 W→∀ i,W.cell? ⟨w3.heap.size,i,none⟩=#[.slice (some ⟨BB,0,none⟩) bs.length bs.length,.slice (some ⟨WW,0,none⟩) ws.length (ws.length+1)][i]?:=fun W h=>qa (ZT (hRR ▸ h) (fun e=>hW3 (hvl _ e).symm) t4)
    replace hRR:=zH hRR
    replace hD:=zH hD
    replace hD4:=zH hD4
    replace hown:=zH hown
    replace hin:=zH hin
    replace hps:=zH hps
    clear hD
    go_wp2_with fail
    refine qv (by kernel_rfl) ?_
    refine Qu (w:=w4) RR (qE [(4,VI w4.heap.size data.length data),(5,outW w4.heap.size a data),(6,Jz w4.heap.size 100 (gW (a,data)) data),(7,outX w2.heap.size 100 2 w4.heap.size (.slice (some ⟨WW,0,none⟩) ws.length (ws.length+1)) ws.length (QE ps) (gW (a,data)) data)])
     [true,true,true,true,true,true,true,true,true] 1 (by kernel_rfl) (by kernel_rfl) (by kernel_rfl) (by kernel_rfl) (by kernel_rfl) (by kernel_rfl) (by kernel_rfl) ?st (Rel.drew _ _) ?walk
    case st=>rw[hRR.out];exact qm (by simp only[List.forall_mem_cons];exact⟨vJ hv1,Ye hv1,JX hv1,VO,fun _ h=>by cases h⟩)
    case walk =>
     intro K hK
     dsimp only[qz]
     repeat ((first|(refine qf ?_ (by rfl) (by rfl) (fun W hW _=>⟨W,?_,Rel.refl _ W⟩) ?_;rotate_left;(first|(go_simp;with_reducible rfl)|(go_simp;done)))|(refine qj (by rfl) ?_));try simp only[Act.put,qi,qe,qb,qg,Ql,zQ,QG,zS,zA,zB,zC])
     refine qA (VI w4.heap.size data.length data) (by rfl) (by rfl) (fun W hW _=>?_) (fun p7=>?_)
     ·rw[hRR.out] at hW ⊢
      have hxW:Ext w W:=⟨hW.1.os.trans x4.os,hW.1.tape.trans x4.tape,hW.1.output.trans x4.output,Nat.le_trans x4.size hW.1.size,fun k hk=>(hW.1.block k (Nat.lt_of_lt_of_le hk x4.size) (fun e=>by have:=hvl k e.symm;have:=x2.size;omega)).trans (x4.block k hk)⟩
      refine Qg ?_ ((HC2.out W hxW).mono fun e w' h=>?_)
      ·go_simp
      obtain⟨u,rfl,hu,hB⟩:=h
      have h1:=IsB.of_own hu
      obtain⟨A',c',rfl,_,_⟩:=qw hu
      exact⟨(A',c'),rfl,(ZP.of_own hu).mono hW.1.size,vZ hB⟩
     obtain⟨A7,c7⟩:=p7
     simp only[Act.put,qi,qe,qb,qg,Ql,zQ,QG,zS,zA,zB,zC]
     refine qA (outW w4.heap.size a data) (by rfl) (by rfl) (fun W hW hp=>?_) (fun p7=>?_)
     ·rw[hRR.out] at hW ⊢
      have f7:=(hp 4 (by decide)).1
      refine Qa (u:=.agg #[.int .i64 a,.slice A7 data.length c7]) (w':=W) ?_ ⟨(A7,c7),rfl,f7,Rel.refl _ W⟩
      go_simp
     obtain⟨A7,c7⟩:=p7
     simp only[Act.put,qi,qe,qb,qg,Ql,zQ,QG,zS,zA,zB,zC]
     refine qA (Jz w4.heap.size 100 (gW (a,data)) data) (by rfl) (by rfl) (fun W hW hp=>?_) (fun p8=>?_)
     ·rw[hRR.out] at hW ⊢
      have f7:=(hp 5 (by decide)).1
      refine kQ (A:=A7) (c:=c7) ?_ hW.1.size f7
      go_simp
     simp only[Act.put,qi,qe,qb,qg,Ql,zQ,QG,zS,zA,zB,zC]
     refine qA (outX w2.heap.size 100 2 w4.heap.size (.slice (some ⟨WW,0,none⟩) ws.length (ws.length+1)) ws.length (QE ps) (gW (a,data)) data) (by rfl) (by rfl) (fun W hW hp=>?_) (fun p9=>?_)
     ·rw[hRR.out] at hW ⊢
      obtain⟨_,A8,c8,hcells,hB8⟩:=(hp 6 (by decide)).1
      obtain⟨v',w',hrun,hD,hR'⟩:=Vi (P:=Tryz.prog) (lo:=w4.heap.size) (f:=gW (a,data)) (l:=data) W 23 23 i0 _ 32 Tryz.underlying23 hi hz0 hz1 hz2 rfl (by decide) (hW.2.1 hown.out) ⟨p8,0,none⟩ A8 c8 rfl (VV hcells) (by simp[gW,Value.oneCell']) hB8 hv1 (by omega) (by decide) (by have:=hW.1.size;omega) hW.1.size
      have hsl:=hD
      obtain⟨_,_,hDD,_⟩:=hsl
      obtain⟨A',c',rfl,_,_⟩:=qw hDD.1
      refine Qa (u:=.slice A' (ws.length+1) c') (w':=w') ?_ ⟨(A',c'),rfl,hD,hR'⟩
      exact QQ (s:=.tmp 29) (x:=.tmp 34) rfl rfl rfl hrun
     obtain⟨A9,c9⟩:=p9
     simp only[Act.put,qi,qe,qb,qg,Ql,zQ,QG,zS,zA,zB,zC]
     repeat ((first|(refine qf ?_ (by rfl) (by rfl) (fun W hW _=>⟨W,?_,Rel.refl _ W⟩) ?_;rotate_left;(first|(go_simp;with_reducible rfl)|(go_simp;done)))|(refine qj (by rfl) ?_));try simp only[Act.put,qi,qe,qb,qg,Ql,zQ,QG,zS,zA,zB,zC])
     refine qD (hK _ _ fun W hW hF=>?_)
     have hDX:VE _ _ _ _ _ _ _ _ _ (.slice A9 (ws.length+1) c9) W:=(hF 7).1
     clear hF hK g1
     rw[hRR.out] at hW
     dsimp only[List.drop,List.length_cons,List.length_nil]
     have tW:=ZT hW (fun e=>hW3 (hvl _ e).symm) t4
     have qW:=ZT hW (fun e=>by have:=hvl _ e;omega) q4
     have kt:=qa tW
     have ft:=qd tW
     have kq:=qa qW
     have fq:=qd qW
     have zW:=hW.1.size
     obtain⟨A10,c10,hDn,hBd,_⟩:=hDX
     have hbW:Below w.heap.size w W:=⟨hW.1.os.trans x4.os,hW.1.tape.trans x4.tape,hW.1.output.trans x4.output,Nat.le_trans x4.size zW,fun k hk=>(hW.1.block k (by have:=x4.size;omega) (fun e=>by have:=hvl k e.symm;omega)).trans (x4.block k hk)⟩
     have hgW:∀ b,b<w4.heap.size→b≠WW→W.heap[b]?=w4.heap[b]?:=fun b h1 h2=>hW.1.block b h1 (fun e=>h2 (hvl b e.symm))
     replace hDn:=zH hDn
     replace hBd:=zH hBd
     replace hgW:=zH hgW
     clear hW t4 q4 r4 r3 q3
     go_wp2
     refine Qw ?_
     go_wp2_with fail
     have hl1:(ws++[(a,data)]).length=ws.length+1:=by simp
     have rf:=qh (qh ((Below.heap_setCell W ⟨w3.heap.size,1,none⟩ (.slice A9 (ws.length+1) c9) (w.heap.size+1) (by show w.heap.size+1≠w3.heap.size;omega)).trans qW) 0 (.slice (some ⟨BB,0,none⟩) bs.length bs.length)) 1 (.slice A9 (ws.length+1) c9)
     have kf:=qa rf
     have st:∀ b,b≠w3.heap.size→b≠w.heap.size+1→(((W.setCell ⟨w3.heap.size,1,none⟩ (.slice A9 (ws.length+1) c9)).setCell ⟨w.heap.size+1,0,none⟩ (.slice (some ⟨BB,0,none⟩) bs.length bs.length)).setCell ⟨w.heap.size+1,1,none⟩ (.slice A9 (ws.length+1) c9)).heap[b]?=W.heap[b]?:=fun b h1 h2=>(Below.heap_setCell _ _ _ _ h2).trans ((Below.heap_setCell _ _ _ _ h2).trans (Below.heap_setCell _ _ _ _ h1))
     have hz:(((W.setCell ⟨w3.heap.size,1,none⟩ (.slice A9 (ws.length+1) c9)).setCell ⟨w.heap.size+1,0,none⟩ (.slice (some ⟨BB,0,none⟩) bs.length bs.length)).setCell ⟨w.heap.size+1,1,none⟩ (.slice A9 (ws.length+1) c9)).heap.size=W.heap.size:=by simp
     have bf:Below w.heap.size w (((W.setCell ⟨w3.heap.size,1,none⟩ (.slice A9 (ws.length+1) c9)).setCell ⟨w.heap.size+1,0,none⟩ (.slice (some ⟨BB,0,none⟩) bs.length bs.length)).setCell ⟨w.heap.size+1,1,none⟩ (.slice A9 (ws.length+1) c9)):=Below.setCell (Below.setCell (Below.setCell hbW (p:=⟨w3.heap.size,1,none⟩) (by show w.heap.size≤w3.heap.size;omega) _) (p:=⟨w.heap.size+1,0,none⟩) (Nat.le_succ _) _) (p:=⟨w.heap.size+1,1,none⟩) (Nat.le_succ _) _
     generalize World.setCell (World.setCell (World.setCell W _ _) _ _) _ _=wf at *
     refine bodyPost_ret (v:=.tuple #[Zw (some ⟨BB,0,none⟩) bs.length bs.length A9 (ws.length+1) c9,.int .i64 0]) (by simp[results,Tryz.results68,go_sem,kf]) rfl ⟨_,rfl,.inr ⟨e0.out,_,rfl,some ⟨BB,0,none⟩,bs.length,A9,c9,by rw[hl1],fun W2 hk=>?_⟩,bf⟩
     rw[hz] at hk ⊢
     have hcell:∀ b,w.heap.size≤b→b<w4.heap.size→b≠WW→b≠w3.heap.size→b≠w.heap.size+1→∀ j,W2.cell? ⟨b,j,none⟩=(thaw w4).cell? ⟨b,j,none⟩:=fun b h1 h2 h3 h4 h5 j=>(hk ⟨b,j,none⟩ h1 (by show b<W.heap.size;omega)).trans ((Qi (q:=⟨b,j,none⟩) (st b h4 h5)).trans (Qi (q:=⟨b,j,none⟩) (hgW.out b h2 h3)))
     obtain⟨cg,tg,hgr⟩:=hD4.out.gg
     obtain⟨cb,hbr,-⟩:=hD4.out.bb
     have hgc:=fun j=>(hcell g (by omega) l4 (fun e=>l7 e.symm) (by omega) (by omega) j).trans (jh hgr j)
     refine⟨(hD4.out.blocks hbl hbe W2 (fun j=>(hcell BB (by omega) hBl l5 hB3' (by omega) j).trans (jh hbr j)) hgc).more zW,?_⟩
     have hOw:=hDn.out.1
     have hlt:=zY hOw
     have hA9:∀ k,(Value.slice A9 (ws.length+1) c9).ownBlock=some k→k≠w3.heap.size∧k≠w.heap.size+1:=fun k hk=>by
      have h1:=hlt k hk
      rcases hDn.out.2 with h2|⟨q,h2,h3⟩
      ·have:=hvl k (h2 ▸ hk)
       omega
      ·have:k=q:=by rw[hk] at h2;exact Option.some.inj h2
       omega
     obtain⟨B9,d9,e9,hn9,hm9⟩:=qw hOw
     cases e9
     obtain⟨g9,cs9,t9,rfl,hr9⟩:∃ g9 cs9 t9,A9=some ⟨g9,0,none⟩∧W.heap[g9]?=some (.cells cs9 t9 (0,0)):=by
      rcases hOw.2 with ⟨_,h0⟩|⟨g9,_,_,e,_,hr9,_⟩
      ·omega
      ·cases e;exact⟨g9,_,_,rfl,hr9⟩
     refine⟨ps++[((a,data),.slice A10 data.length c10)],by rw[List.map_append,hps.out];rfl,⟨some ⟨g9,0,none⟩,c9,by rw[hl1],by rw[hl1];exact hn9,hm9,?_⟩,fun p hp=>?_⟩
     ·rw[hl1]
      have hR:=Rd.of_own hOw
      refine⟨by rw[vN];exact hR.1,fun hn=>?_⟩
      obtain⟨b,off,eA,hb,hc⟩:=hR.2 hn
      cases eA
      have hbk:=hA9 g9 rfl
      refine⟨g9,0,rfl,hb,fun j u hu=>?_⟩
      rw[vN] at hu
      have h2:=hlt g9 rfl
      exact(hk ⟨g9,0+j,none⟩ (by show w.heap.size≤g9;omega) hb).trans ((Qi (q:=⟨g9,0+j,none⟩) (st g9 hbk.1 hbk.2)).trans ((jh hr9 _).trans (hc j u hu)))
     ·rcases List.mem_append.1 hp with hp|hp
      ·obtain⟨F,hI⟩:=hin.out p hp
       have hI2:=hI.cells hgc
       have hp1:p.1∈ws:=by rw[←hps.out];exact List.mem_map.2 ⟨p,hp,rfl⟩
       have hp2:=hwe _ hp1
       have hby:=hI2.bys (B:=W.heap.size) (by omega) (by unfold maxLen;omega)
       obtain⟨o,e,_⟩:=hI
       exact⟨⟨_,_,e⟩,hby⟩
      ·have:p=((a,data),.slice A10 data.length c10):=by simpa using hp
       subst this
       refine⟨⟨A10,c10,rfl⟩,hBd.out.thaw.keepN hBd.out.from fun q h1 h2=>(hk q (by omega) h2).trans (Qi (st q.block (by omega) (by omega)))⟩
set_option maxRecDepth 100000 in
theorem up_any (A:Option Addr) (n c:Nat) (t:List UInt8) (a:Int) (w:World) (h:Bys w w.heap.size (.slice A n c) t) :
  Calls Tryz.prog 79 #[.slice A n c,.int .i64 a] w (zE (qbv t a 1 255 w.heap.size) w):=by
 have HT:=zH (turn_any A n c t a 1 255 w h)
 clear h
 go_enter Tryz.func79,Tryz.ntmps79
 go_wp2_with fail
 refine HT.out.mono ?_
 clear HT
 rintro e w2 ⟨u,rfl,hu,hB⟩
 rcases hu with ⟨h1,rfl⟩|⟨h1,A',c',rfl,hown⟩
 ·have hB':Ext w w2:=hB
  have hQ:=zH (⟨_,rfl,.inl ⟨h1,rfl⟩,hB'⟩:zE (qbv t a 1 255 w.heap.size) w (.returned (.tuple #[.slice none 0 0,.int .i64 (VD t a 255)])) w2)
  generalize VD t a 255=er at *
  replace h1:=zH h1
  go_wp2_with fail
  refine bodyPost_ret (v:=.tuple #[.slice none 0 0,.int .i64 er]) ?_ rfl hQ.out
  simp[results,Tryz.results79,go_sem]
 ·have hB':Ext w w2:=hB
  have hQ:=zH (⟨_,rfl,.inr ⟨h1,A',c',rfl,hown⟩,hB'⟩:zE (qbv t a 1 255 w.heap.size) w (.returned (.tuple #[.slice A' 256 c',.int .i64 0])) w2)
  replace h1:=zH h1
  go_wp2_with fail
  refine bodyPost_ret (v:=.tuple #[.slice A' 256 c',.int .i64 0]) ?_ rfl hQ.out
  simp[results,Tryz.results79,go_sem]
abbrev zL (S:Sto) (t:List UInt8):Sto:=⟨S.bs,S.ws,t,S.last⟩
abbrev sto0:Value:=Qy none 0 0 none 0 0 none 0 0 none 0 0
def Jq (S:Sto) (a:Int):Int:=if Jj S a≠0 then Jj S a else if zZ S a.toNat=255 then 70 else 0
def StoQ (e:Int) (S:Sto) (lo:Nat) (u:Value) (W:World):Prop:=(e≠0∧u=.tuple #[sto0,.int .i64 e])∨(e=0∧∃ v,u=.tuple #[v,.int .i64 0]∧jE lo S v W)
theorem zK {S:Sto} (h:qB S=true):kK S:=by
 obtain⟨h1,h2,h3,h4⟩:=qQ h
 have hd:Qe S.bs S.ws=true:=by unfold qB at h;simp at h;exact h.1
 obtain⟨d1,d2,d3,d4⟩:=Zy hd
 exact⟨d1,d2,d3,d4,by omega,by omega⟩
theorem qdd {S:Sto} (h:qB S=true):QJ S.now=true:=by unfold qB at h;simp at h;exact h.2.1
theorem Xe {R:Ending→World→Prop} {a:Act} {W:World} {b:Nat} {x0 x1 x2 x3 v:Value} (h4:a.tmps[4]?.getD undef=.pointer (some ⟨b,0,none⟩)) (h5:a.tmps[5]?.getD undef=v) (hd:a.defers=[])
  (hrow:W.heap[b]?=some (.cells #[x0,x1,x2,x3] 28 (0,0))) (hR:R (.returned (.tuple #[.agg #[x0,x1,x2,x3],v])) W):bodyPost Tryz.prog Tryz.f42 R .ret a W:=by
 refine bodyPost_ret (v:=.tuple #[.agg #[x0,x1,x2,x3],v]) ?_ hd hR
 have k:=qa hrow
 simp[results,Tryz.results42,go_sem,h4,h5,k]
set_option maxHeartbeats 4000000 in
set_option maxRecDepth 100000 in
theorem qdb (A1:Option Addr) (n1 c1:Nat) (A2:Option Addr) (n2 c2:Nat) (A3:Option Addr) (n3 c3:Nat) (A4:Option Addr) (n4 c4:Nat) (S:Sto) (a:Int) (w:World) (h:qH w w.heap.size (.slice A1 n1 c1) (.slice A2 n2 c2) (.slice A3 n3 c3) (.slice A4 n4 c4) S) :
  Calls Tryz.prog 42 #[Qy A1 n1 c1 A2 n2 c2 A3 n3 c3 A4 n4 c4,.int .i64 a] w (zE (StoQ (Jq S a) (zL S (Zb S.now a.toNat 1)) w.heap.size) w):=by
 have HA:=zH (fun W (hx:Ext w W)=>qcT A1 n1 c1 A2 n2 c2 A3 n3 c3 A4 n4 c4 S a W (h.ext hx))
 have HU:=zH (fun W (hx:Ext w W)=>up_any A3 n3 c3 S.now a W (h.ext hx).now)
 replace h:=zH h
 go_enter Tryz.func42,Tryz.ntmps42
 go_wp2_with fail
 generalize hw1:(World.alloc (World.alloc w _) _)=w1
 have x1:Ext w w1:=by rw[←hw1];exact(Ext.alloc _ _).trans (Ext.alloc _ _)
 have rs1:w1.heap[w.heap.size]?=some (.cells #[.slice A1 n1 c1,.slice A2 n2 c2,.slice A3 n3 c3,.slice A4 n4 c4] 28 (0,0)):=by rw[←hw1];exact(Below.heap_alloc _ _ _ (by simp)).trans (World.alloc_heap_at _ _ _ rfl)
 have ro1:w1.heap[w.heap.size+1]?=some (.cells #[.slice none 0 0,.slice none 0 0,.slice none 0 0,.slice none 0 0] 28 (0,0)):=by rw[←hw1];exact World.alloc_heap_at _ _ _ (by simp)
 clear hw1
 refine(HA.out w1 x1).mono ?_
 clear HA
 rintro e w2 ⟨rfl,hB⟩
 have x2:Ext w w2:=x1.trans hB
 have rs2:=qc rs1 hB
 have ro2:=qc ro1 hB
 clear hB rs1 ro1 x1
 by_cases h0:Jj S a=0
 ·obtain⟨hS,m,rfl,hm8,hm256,hnz⟩:=Th h0
  have hE:Jq S (m:Int)=if zZ S m=255 then 70 else 0:=by unfold Jq;rw[if_neg (by simpa using h0),Int.toNat_natCast]
  have hT:VD S.now (m:Int) 255=if zZ S m=255 then 70 else 0:=qaL (qdd hS) hm8 hm256 255
  have hsh:=zH (zK hS)
  rw[h0]
  have ks2:=qa rs2
  replace h0:=zH h0
  replace hS:=zH hS
  rw[←hE] at hT
  replace hE:=zH hE
  clear hnz
  go_wp2_with fail
  refine(HU.out w2 x2).mono ?_
  clear HU
  rintro e w3 ⟨u,rfl,hu,hB⟩
  have x3:Ext w w3:=x2.trans hB
  have rs3:=qc rs2 hB
  have ro3:=qc ro2 hB
  have ks3:=qa rs3
  have z23:=hB.size
  clear hB rs2 ro2 ks2
  unfold qbv at hu
  rw[hT] at hu
  rcases hu with ⟨h1,rfl⟩|⟨h1,A',c',rfl,hown⟩
  ·generalize Jq S (m:Int)=er at *
   have he:(er != 0)=true:=by rw[bne_iff_ne];exact h1
   have hq:=zH h1
   have ko3:=qa ro3
   have fo3:=qd ro3
   clear h1 hT
   go_wp2_with fail
   exact Xe (b:=w.heap.size+1) rfl rfl rfl (TG ro3 _ _ _ _) ⟨_,rfl,.inl ⟨hq.out,rfl⟩,ZO x3 (by omega) _ _ _ _⟩
  ·have hby:=Bys.of_own hown
   have HTW:=GC A1 n1 c1 A2 n2 c2 A' 256 c' A4 n4 c4 (zL S (Zb S.now m 1)) ⟨hsh.out.bs,hsh.out.ws,hsh.out.be,hsh.out.we,by rw[JS];exact hsh.out.now,hsh.out.last⟩ w3 ⟨(h.out.ext x3).bs,(h.out.ext x3).ws,hby,(h.out.ext x3).last⟩
   replace hby:=zH hby
   replace hown:=zH hown
   replace h1:=zH h1
   go_wp2_with fail
   refine HTW.mono ?_
   clear HTW
   rintro e w4 ⟨u,rfl,hu,hB⟩
   have x4:Ext w w4:=x3.trans hB
   have ro4:=qc ro3 hB
   have ko4:=qa ro4
   have fo4:=qd ro4
   have zo3:w.heap.size+1<w3.heap.size:=(zG.1 ro3).1
   obtain⟨BB,WW,g,B3,d3,B4,d4,rfl,hD,hN,hL⟩:=hu
   have hK:=fun (x0 x1 x2 x3':Value)=>jE.keep (lo':=w.heap.size) (⟨BB,WW,g,B3,d3,B4,d4,rfl,hD,hN,hL⟩:jE w3.heap.size (zL S (Zb S.now m 1)) _ w4) (W2:=(((w4.setCell ⟨w.heap.size+1,0,none⟩ x0).setCell ⟨w.heap.size+1,1,none⟩ x1).setCell ⟨w.heap.size+1,2,none⟩ x2).setCell ⟨w.heap.size+1,3,none⟩ x3') (by omega) (by simp) (fun b hb _=>(Below.heap_setCell _ _ _ _ (by simp;omega)).trans ((Below.heap_setCell _ _ _ _ (by simp;omega)).trans ((Below.heap_setCell _ _ _ _ (by simp;omega)).trans (Below.heap_setCell _ _ _ _ (by simp;omega)))))
   replace hK:=zH hK
   clear hB hD hN hL ks3 rs3 ro3
   go_wp2_with fail
   exact Xe (b:=w.heap.size+1) rfl rfl rfl (TG ro4 _ _ _ _) ⟨_,rfl,.inr ⟨h1.out,_,rfl,hK.out _ _ _ _⟩,ZO x4 (by omega) _ _ _ _⟩
 ·have hE:Jq S a=Jj S a:=by unfold Jq;rw[if_pos h0]
  generalize Jj S a=er at *
  have he:(er != 0)=true:=by rw[bne_iff_ne];exact h0
  have hq:=zH h0
  have ko2:=qa ro2
  have fo2:=qd ro2
  replace hE:=zH hE
  clear h0
  go_wp2_with fail
  exact Xe (b:=w.heap.size+1) rfl rfl rfl (TG ro2 _ _ _ _) ⟨_,rfl,.inl ⟨by rw[hE.out];exact hq.out,by rw[hE.out];rfl⟩,ZO x2 (by omega) _ _ _ _⟩
set_option maxHeartbeats 2000000 in
set_option maxRecDepth 100000 in
theorem qek (A1:Option Addr) (n1 c1:Nat) (A2:Option Addr) (n2 c2:Nat) (bs:List (List UInt8)) (ws:List (Int×List UInt8)) (hbl:bs.length<1000000) (hwl:ws.length<1000000) (hbe:∀ l∈bs,l.length<1000000) (hwe:∀ p∈ws,p.2.length<1000000) (w:World)
  (hb:Bls w w.heap.size (.slice A1 n1 c1) bs) (hw:Wrs w w.heap.size (.slice A2 n2 c2) ws) :
  Calls Tryz.prog 50 #[Zw A1 n1 c1 A2 n2 c2] w (zE (fun u W=>∃ A1 c1 A2 c2,u=Zw A1 bs.length c1 A2 ws.length c2∧∀ W2:World,(∀ q:Addr,w.heap.size≤q.block→q.block<W.heap.size→W2.cell? q=W.cell? q)→Bls W2 W.heap.size (.slice A1 bs.length c1) bs∧Wrs W2 W.heap.size (.slice A2 ws.length c2) ws) w):=by
 obtain⟨e1,hc1,hm1,hA1⟩:=hb.at_
 obtain⟨e2,hc2,hm2,hA2⟩:=hw.at_
 subst e1
 subst e2
 have HB:=zH hb
 have HW:=zH hw
 clear hb hw
 go_enter Tryz.func50,Tryz.ntmps50
 go_wp2_with fail
 generalize hw1:(World.alloc (World.alloc (World.alloc _ _) _) _)=w1
 have x1:Ext w w1:=by rw[←hw1];exact((Ext.alloc _ _).trans (Ext.alloc _ _)).trans (Ext.alloc _ _)
 have r1:w1.heap[w.heap.size]?=some (.cells #[.slice A1 bs.length c1,.slice A2 ws.length c2] 25 (0,0)):=by rw[←hw1];exact(Below.heap_alloc _ _ _ (by simp;omega)).trans ((Below.heap_alloc _ _ _ (by simp)).trans (World.alloc_heap_at _ _ _ rfl))
 have q1:w1.heap[w.heap.size+1]?=some (.cells #[.slice none 0 0,.slice none 0 0] 25 (0,0)):=by rw[←hw1];exact(Below.heap_alloc _ _ _ (by simp)).trans (World.alloc_heap_at _ _ _ (by simp))
 have t1:w1.heap[w.heap.size+1+1]?=some (.cells #[.slice none 0 0,.slice none 0 0] 25 (0,0)):=by rw[←hw1];exact World.alloc_heap_at _ _ _ (by simp)
 clear hw1
 have I0:TwB bs w1 (w.heap.size+1+1) (.int .i64 0) w1:=⟨0,[],none,0,by omega,rfl,rfl,t1,Js.nil _,Below.refl _ _⟩
 replace I0:=zH I0
 go_wp2_with fail
 go_loopw [4] (fun i wr=>TwB bs w1 (w.heap.size+1+1) i wr) (fun i _=>bs.length-(intOf i).toNat)
 case atStart=>exact I0.out
 case round =>
  obtain⟨k,ps,A,c,hk,rfl,hps,ht,hrow,hE⟩:=hrel.ex
  clear hrel I0
  have xw:Below w.heap.size w wr:=Below.trans x1 (Below.mono hE (by omega))
  have rr:=(hE.block w.heap.size (by omega)).trans r1
  have kr:=qa rr
  by_cases hlt:k<bs.length
  ·have hlt':=hlt
   have hpl:ps.length=k:=by
    have:=congrArg List.length hps
    rw[List.length_map,List.length_take] at this
    omega
   obtain⟨b1,o1,rfl,hb1⟩:=hA1 (by omega)
   obtain⟨A',c',hc,hby⟩:=(HB.out.below xw).get k hlt
   have hll:=hbe bs[k] (List.getElem_mem hlt)
   have hsn:bs.take (k+1)=bs.take k++[bs[k]]:=List.take_succ_eq_append_getElem hlt
   generalize bs[k]=l at *
   have hvl:=zY hrow.1
   have hap:zV (.slice A k c) (.slice A' l.length c'):=zV.of_bys hby (fun g hg=>by have:=hvl g hg;omega)
   have hby':Bys wr wr.heap.size (.slice A' l.length c') l:=hby.more xw.size
   have hvd:(Value.slice A k c).ownBlock≠some w.heap.size:=fun h=>by have:=hvl _ h;omega
   have hvt:(Value.slice A k c).ownBlock≠some (w.heap.size+1+1):=fun h=>by have:=hvl _ h;omega
   have hvb:(Value.slice A k c).ownBlock≠some b1:=fun h=>by have:=hvl _ h;omega
   have zz:w.heap.size+1+1<wr.heap.size:=(zG.1 ht).1
   obtain⟨RR,hRR⟩:∃ RR:Rel,RR=XX (w.heap.size+1+1+1) 26 1 wr.heap.size (.slice A k c) ps.length (ps.flatMap fun p=>gB p.1 p.2) (gB l) l:=⟨_,rfl⟩
   replace hRR:=zH hRR
   have g1:∀ W,RR.r wr W→∀ i,W.cell? ⟨w.heap.size,i,none⟩=#[.slice (some ⟨b1,o1,none⟩) bs.length c1,.slice A2 ws.length c2][i]?:=fun W h=>qa (ZT (hRR.out ▸ h) hvd rr)
   have g2:∀ W,RR.r wr W→∀ i,W.cell? ⟨w.heap.size+1+1,i,none⟩=#[.slice A k c,.slice none 0 0][i]?:=fun W h=>qa (ZT (hRR.out ▸ h) hvt ht)
   have g3:∀ W,RR.r wr W→W.cell? ⟨b1,o1+k,none⟩=some (.slice A' l.length c'):=fun W h=>Xa (hRR.out ▸ h) hvb hc
   have i1:decide (k<bs.length)=true:=decide_eq_true hlt
   replace hE:=zH hE
   replace hsn:=zH hsn
   replace hps:=zH hps
   replace hpl:=zH hpl
   clear hc
   go_wp2_with fail
   refine qv (by kernel_rfl) ?_
   refine Qu (w:=wr) RR (qE [(7,VI wr.heap.size l.length l),(8,Jz wr.heap.size 26 (gB l) l),(9,outX (w.heap.size+1+1+1) 26 1 wr.heap.size (.slice A k c) ps.length (ps.flatMap fun p=>gB p.1 p.2) (gB l) l)])
    [true,true,true,true,true,true,true,true,true,true] 2 (by kernel_rfl) (by kernel_rfl) (by kernel_rfl) (by kernel_rfl) (by kernel_rfl) (by kernel_rfl) (by kernel_rfl) ?st (Rel.drew _ _) ?walk
   case st=>rw[hRR.out];exact qm (by simp only[List.forall_mem_cons];exact⟨vJ (fun g hg=>(hvl g hg).2),JX (fun g hg=>(hvl g hg).2),VO,fun _ h=>by cases h⟩)
   case walk =>
    intro K hK
    dsimp only[qz]
    repeat ((first|(refine qf ?_ (by rfl) (by rfl) (fun W hW _=>⟨W,?_,Rel.refl _ W⟩) ?_;rotate_left;(first|(go_simp;with_reducible rfl)|(go_simp;done)))|(refine qj (by rfl) ?_));try simp only[Act.put,qi,qe,qb,qg,qb,Ql,zQ,QG,zS,zA,zB,zC])
    first
     |(refine qf (.pointer (some ⟨b1,o1+k,none⟩)) (by rfl) (by rfl) (fun W hW _=>⟨W,?_,Rel.refl _ W⟩) ?_
       ·go_simp
        rw[IntWalk.i64_in (k:Int) (by omega),if_pos (by omega)]
        simp
       simp only[Act.put,qi,qe,qb,qg,qb,Ql,zQ,QG,zS,zA,zB,zC])
     |skip
    repeat ((first|(refine qf ?_ (by rfl) (by rfl) (fun W hW _=>⟨W,?_,Rel.refl _ W⟩) ?_;rotate_left;(first|(go_simp;with_reducible rfl)|(go_simp;done)))|(refine qj (by rfl) ?_));try simp only[Act.put,qi,qe,qb,qg,qb,Ql,zQ,QG,zS,zA,zB,zC])
    refine qA (VI wr.heap.size l.length l) (by rfl) (by rfl) (fun W hW _=>?_) (fun p7=>?_)
    ·rw[hRR.out] at hW ⊢
     obtain⟨p,w',hrun,h1,h2⟩:=Xg (hby'.grown hW.1 hap) hll
     refine Qa (u:=.slice p.1 l.length p.2) (w':=w') ?_ ⟨p,rfl,ZP.mono h1 hW.1.size,vZ h2⟩
     exact QQ (s:=.const (.slice none 0 0)) (x:=.tmp 19) rfl rfl rfl hrun
    obtain⟨A7,c7⟩:=p7
    simp only[Act.put,qi,qe,qb,qg,qb,Ql,zQ,QG,zS,zA,zB,zC]
    refine qA (Jz wr.heap.size 26 (gB l) l) (by rfl) (by rfl) (fun W hW hp=>?_) (fun p8=>?_)
    ·rw[hRR.out] at hW ⊢
     have f7:=(hp 7 (by decide)).1
     refine kQ (A:=A7) (c:=c7) ?_ hW.1.size f7
     go_simp
    simp only[Act.put,qi,qe,qb,qg,qb,Ql,zQ,QG,zS,zA,zB,zC]
    refine qA (outX (w.heap.size+1+1+1) 26 1 wr.heap.size (.slice A k c) ps.length (ps.flatMap fun p=>gB p.1 p.2) (gB l) l) (by rfl) (by rfl) (fun W hW hp=>?_) (fun p9=>?_)
    ·rw[hRR.out] at hW ⊢
     obtain⟨_,A8,c8,hcells,hB8⟩:=(hp 8 (by decide)).1
     obtain⟨i0,hi,hz0,hz1,hz2⟩:=info_parts Tryz.info_bytes
     obtain⟨v',w',hrun,hD,hR'⟩:=Vi (P:=Tryz.prog) (lo:=wr.heap.size) (f:=gB l) (l:=l) W 22 22 i0 _ 24 Tryz.underlying22 hi hz0 hz1 hz2 rfl (by decide) (hW.2.1 hrow.1) ⟨p8,0,none⟩ A8 c8 rfl (VV hcells) (by simp[gB,Value.oneCell']) hB8 (fun g hg=>(hvl g hg).2) (by have:=hpl.out;omega) (by decide) (by have:=hW.1.size;omega) hW.1.size
     have hsl:=hD
     obtain⟨_,_,hDD,_⟩:=hsl
     obtain⟨A',c',rfl,_,_⟩:=qw hDD.1
     refine Qa (u:=.slice A' (ps.length+1) c') (w':=w') ?_ ⟨(A',c'),rfl,hD,hR'⟩
     exact QQ (s:=.tmp 14) (x:=.tmp 21) rfl rfl rfl hrun
    obtain⟨A9,c9⟩:=p9
    simp only[Act.put,qi,qe,qb,qg,qb,Ql,zQ,QG,zS,zA,zB,zC]
    repeat ((first|(refine qf ?_ (by rfl) (by rfl) (fun W hW _=>⟨W,?_,Rel.refl _ W⟩) ?_;rotate_left;(first|(go_simp;with_reducible rfl)|(go_simp;done)))|(refine qj (by rfl) ?_));try simp only[Act.put,qi,qe,qb,qg,qb,Ql,zQ,QG,zS,zA,zB,zC])
    refine qD (hK _ _ fun W hW hF=>?_)
    have hD:VE _ _ _ _ _ _ _ _ _ (.slice A9 (ps.length+1) c9) W:=(hF 9).1
    clear hF hK g1 g2 g3
    rw[hRR.out] at hW
    dsimp only[List.drop,List.length_cons,List.length_nil]
    have tW:=ZT hW hvt ht
    have kW:=qa tW
    have fW:=qd tW
    obtain⟨u,hrW⟩:=hrow.push l (by omega) rfl hD hW.1
    have hBW:Below (w.heap.size+1+1) wr W:=(Below.refl _ _).grown hW.1 (by omega) (fun g hg=>by have:=hvl g hg;omega)
    have hwk:=zH (IntWalk.wrap64_in ((k:Int)+1) (by omega))
    have IR:TwB bs w1 (w.heap.size+1+1) (.int .i64 ((k:Int)+1)) (W.setCell ⟨w.heap.size+1+1,0,none⟩ (.slice A9 (ps.length+1) c9)):=by
     have hpl:=hpl.out
     subst hpl
     exact⟨ps.length+1,ps++[(l,u)],A9,c9,by omega,rfl,by rw[List.map_append,hps.out,hsn.out];rfl,qh tW 0 _,hrW.setCell (p:=⟨w.heap.size+1+1,0,none⟩) (Nat.lt_succ_self _) (Nat.lt_succ_self _) _,Below.setCell (Below.trans hE.out hBW) (p:=⟨w.heap.size+1+1,0,none⟩) (Nat.le_refl _) _⟩
    replace IR:=zH IR
    clear hrW hD hW hBW
    go_wp2
    refine Qw ?_
    go_wp2_with fail
    try rw[hwk.out]
    refine⟨IR.out,?_⟩
    simp[intOf]
    omega
  ·obtain rfl:k=bs.length:=by omega
   rw[List.take_length] at hps
   have zz:w.heap.size+1+1<wr.heap.size:=(zG.1 ht).1
   have hv0:=zY hrow.1
   have hq0:=hrow.low
   have J0:TwW bs ws w1 (w.heap.size+1+1) (.int .i64 0) wr:=⟨0,ps,[],A,c,none,0,wr.heap.size,by omega,rfl,hps,rfl,ht,hrow,Js.nil _,⟨zz,Nat.le_refl _⟩,fun g hg=>(hv0 g hg).2,hq0,hE⟩
   generalize hwm:wr=wm at *
   clear hwm
   replace J0:=zH J0
   clear hrow hps ht hE hv0 hq0 hk zz hlt
   go_wp2_with fail
   go_loopw [5] (fun i wr=>TwW bs ws w1 (w.heap.size+1+1) i wr) (fun i _=>ws.length-(intOf i).toNat)
   case atStart=>exact J0.out
   case round =>
    clear kr rr xw
    obtain⟨k,qs,ps,A1',c1',A,c,base,hk,rfl,hqs,hps,ht,hqr,hrow,⟨hbase,hbz⟩,hob,hqb,hE⟩:=hrel.ex
    clear hrel J0
    have xw:Below w.heap.size w wr:=Below.trans x1 (Below.mono hE (by omega))
    have rr:=(hE.block w.heap.size (by omega)).trans r1
    have kr:=qa rr
    by_cases hlt:k<ws.length
    ·have hlt':=hlt
     have hpl:ps.length=k:=by
      have:=congrArg List.length hps
      rw[List.length_map,List.length_take] at this
      omega
     obtain⟨b2,o2,rfl,hb2⟩:=hA2 (by omega)
     obtain⟨A',c',ha,hc,hby⟩:=(HW.out.below xw).get k hlt
     have hll:=hwe ws[k] (List.getElem_mem hlt)
     have hsn:ws.take (k+1)=ws.take k++[(ws[k].1,ws[k].2)]:=List.take_succ_eq_append_getElem hlt
     generalize ws[k].1=n at *
     generalize ws[k].2=l at *
     have hvl:=zY hrow.1
     have zz:w.heap.size+1+1<wr.heap.size:=(zG.1 ht).1
     have hap:zV (.slice A k c) (.slice A' l.length c'):=zV.of_bys hby (fun g hg=>by have:=hvl g hg;omega)
     have hby':Bys wr wr.heap.size (.slice A' l.length c') l:=hby.more xw.size
     have hvd:(Value.slice A k c).ownBlock≠some w.heap.size:=fun h=>by have:=hvl _ h;omega
     have hvt:(Value.slice A k c).ownBlock≠some (w.heap.size+1+1):=fun h=>by have:=hvl _ h;omega
     have hvb:(Value.slice A k c).ownBlock≠some b2:=fun h=>by have:=hvl _ h;omega
     obtain⟨RR,hRR⟩:∃ RR:Rel,RR=XX base 100 2 wr.heap.size (.slice A k c) ps.length (ps.flatMap fun p=>gW p.1 p.2) (gW (n,l)) l:=⟨_,rfl⟩
     replace hRR:=zH hRR
     have g1:∀ W,RR.r wr W→∀ i,W.cell? ⟨w.heap.size,i,none⟩=#[.slice A1 bs.length c1,.slice (some ⟨b2,o2,none⟩) ws.length c2][i]?:=fun W h=>qa (ZT (hRR.out ▸ h) hvd rr)
     have g2:∀ W,RR.r wr W→∀ i,W.cell? ⟨w.heap.size+1+1,i,none⟩=#[.slice A1' bs.length c1',.slice A k c][i]?:=fun W h=>qa (ZT (hRR.out ▸ h) hvt ht)
     have g3:∀ W,RR.r wr W→W.cell? ⟨b2,o2+k*2,none⟩=some (.int .i64 n):=fun W h=>Xa (hRR.out ▸ h) hvb ha
     have g4:∀ W,RR.r wr W→W.cell? ⟨b2,o2+k*2+1,none⟩=some (.slice A' l.length c'):=fun W h=>Xa (hRR.out ▸ h) hvb hc
     have i1:decide (k<ws.length)=true:=decide_eq_true hlt
     replace hE:=zH hE
     replace hsn:=zH hsn
     replace hps:=zH hps
     replace hqs:=zH hqs
     replace hpl:=zH hpl
     replace hqr:=zH hqr
     replace hqb:=zH hqb
     replace hob:=zH hob
     clear hc ha
     go_wp2_with fail
     refine qv (by kernel_rfl) ?_
     refine Qu (w:=wr) RR (qE [(14,VI wr.heap.size l.length l),(15,outW wr.heap.size n l),(16,Jz wr.heap.size 100 (gW (n,l)) l),(17,outX base 100 2 wr.heap.size (.slice A k c) ps.length (ps.flatMap fun p=>gW p.1 p.2) (gW (n,l)) l)])
      [true,true,true,true,true,true,true,true,true,true,true,true,true,true,true,true,true,true] 2 (by kernel_rfl) (by kernel_rfl) (by kernel_rfl) (by kernel_rfl) (by kernel_rfl) (by kernel_rfl) (by kernel_rfl) ?st (Rel.drew _ _) ?walk
     case st=>rw[hRR.out];exact qm (by simp only[List.forall_mem_cons];exact⟨vJ (fun g hg=>(hvl g hg).2),Ye (fun g hg=>(hvl g hg).2),JX (fun g hg=>(hvl g hg).2),VO,fun _ h=>by cases h⟩)
     case walk =>
      intro K hK
      dsimp only[qz]
      repeat ((first|(refine qf ?_ (by rfl) (by rfl) (fun W hW _=>⟨W,?_,Rel.refl _ W⟩) ?_;rotate_left;(first|(go_simp;with_reducible rfl)|(go_simp;done)))|(refine qj (by rfl) ?_));try simp only[Act.put,qi,qe,qb,qg,qb,Ql,zQ,QG,zS,zA,zB,zC])
      first
       |(refine qf (.pointer (some ⟨b2,o2+k*2,none⟩)) (by rfl) (by rfl) (fun W hW _=>⟨W,?_,Rel.refl _ W⟩) ?_
         ·go_simp
          rw[IntWalk.i64_in (k:Int) (by omega),if_pos (by omega)]
          simp
         simp only[Act.put,qi,qe,qb,qg,qb,Ql,zQ,QG,zS,zA,zB,zC])
       |skip
      repeat ((first|(refine qf ?_ (by rfl) (by rfl) (fun W hW _=>⟨W,?_,Rel.refl _ W⟩) ?_;rotate_left;(first|(go_simp;with_reducible rfl)|(go_simp;done)))|(refine qj (by rfl) ?_));try simp only[Act.put,qi,qe,qb,qg,qb,Ql,zQ,QG,zS,zA,zB,zC])
      first
       |(refine qf (.pointer (some ⟨b2,o2+k*2,none⟩)) (by rfl) (by rfl) (fun W hW _=>⟨W,?_,Rel.refl _ W⟩) ?_
         ·go_simp
          rw[IntWalk.i64_in (k:Int) (by omega),if_pos (by omega)]
          simp
         simp only[Act.put,qi,qe,qb,qg,qb,Ql,zQ,QG,zS,zA,zB,zC])
       |skip
      repeat ((first|(refine qf ?_ (by rfl) (by rfl) (fun W hW _=>⟨W,?_,Rel.refl _ W⟩) ?_;rotate_left;(first|(go_simp;with_reducible rfl)|(go_simp;done)))|(refine qj (by rfl) ?_));try simp only[Act.put,qi,qe,qb,qg,qb,Ql,zQ,QG,zS,zA,zB,zC])
      refine qA (VI wr.heap.size l.length l) (by rfl) (by rfl) (fun W hW _=>?_) (fun p7=>?_)
      ·rw[hRR.out] at hW ⊢
       obtain⟨p,w',hrun,h1,h2⟩:=Xg (hby'.grown hW.1 hap) hll
       refine Qa (u:=.slice p.1 l.length p.2) (w':=w') ?_ ⟨p,rfl,ZP.mono h1 hW.1.size,vZ h2⟩
       exact QQ (s:=.const (.slice none 0 0)) (x:=.tmp 44) rfl rfl rfl hrun
      obtain⟨A7,c7⟩:=p7
      simp only[Act.put,qi,qe,qb,qg,qb,Ql,zQ,QG,zS,zA,zB,zC]
      refine qA (outW wr.heap.size n l) (by rfl) (by rfl) (fun W hW hp=>?_) (fun p7=>?_)
      ·rw[hRR.out] at hW ⊢
       have f7:=(hp 14 (by decide)).1
       refine Qa (u:=.agg #[.int .i64 n,.slice A7 l.length c7]) (w':=W) ?_ ⟨(A7,c7),rfl,f7,Rel.refl _ W⟩
       go_simp
      obtain⟨A7,c7⟩:=p7
      simp only[Act.put,qi,qe,qb,qg,qb,Ql,zQ,QG,zS,zA,zB,zC]
      refine qA (Jz wr.heap.size 100 (gW (n,l)) l) (by rfl) (by rfl) (fun W hW hp=>?_) (fun p8=>?_)
      ·rw[hRR.out] at hW ⊢
       have f7:=(hp 15 (by decide)).1
       refine kQ (A:=A7) (c:=c7) ?_ hW.1.size f7
       go_simp
      simp only[Act.put,qi,qe,qb,qg,qb,Ql,zQ,QG,zS,zA,zB,zC]
      refine qA (outX base 100 2 wr.heap.size (.slice A k c) ps.length (ps.flatMap fun p=>gW p.1 p.2) (gW (n,l)) l) (by rfl) (by rfl) (fun W hW hp=>?_) (fun p9=>?_)
      ·rw[hRR.out] at hW ⊢
       obtain⟨_,A8,c8,hcells,hB8⟩:=(hp 16 (by decide)).1
       obtain⟨i0,hi,hz0,hz1,hz2⟩:=info_parts Tryz.info_write
       obtain⟨v',w',hrun,hD,hR'⟩:=Vi (P:=Tryz.prog) (lo:=wr.heap.size) (f:=gW (n,l)) (l:=l) W 23 23 i0 _ 32 Tryz.underlying23 hi hz0 hz1 hz2 rfl (by decide) (hW.2.1 hrow.1) ⟨p8,0,none⟩ A8 c8 rfl (VV hcells) (by simp[gW,Value.oneCell']) hB8 (fun g hg=>(hvl g hg).2) (by have:=hpl.out;omega) (by decide) (by have:=hW.1.size;omega) hW.1.size
       have hsl:=hD
       obtain⟨_,_,hDD,_⟩:=hsl
       obtain⟨A',c',rfl,_,_⟩:=qw hDD.1
       refine Qa (u:=.slice A' (ps.length+1) c') (w':=w') ?_ ⟨(A',c'),rfl,hD,hR'⟩
       exact QQ (s:=.tmp 32) (x:=.tmp 47) rfl rfl rfl hrun
      obtain⟨A9,c9⟩:=p9
      simp only[Act.put,qi,qe,qb,qg,qb,Ql,zQ,QG,zS,zA,zB,zC]
      repeat ((first|(refine qf ?_ (by rfl) (by rfl) (fun W hW _=>⟨W,?_,Rel.refl _ W⟩) ?_;rotate_left;(first|(go_simp;with_reducible rfl)|(go_simp;done)))|(refine qj (by rfl) ?_));try simp only[Act.put,qi,qe,qb,qg,qb,Ql,zQ,QG,zS,zA,zB,zC])
      refine qD (hK _ _ fun W hW hF=>?_)
      have hD:VE _ _ _ _ _ _ _ _ _ (.slice A9 (ps.length+1) c9) W:=(hF 17).1
      clear hF hK g1 g2 g3 g4
      rw[hRR.out] at hW
      dsimp only[List.drop,List.length_cons,List.length_nil]
      have tW:=ZT hW hvt ht
      have kW:=qa tW
      have fW:=qd tW
      obtain⟨u,hrW⟩:=hrow.push (n,l) hbz rfl hD hW.1
      have hqW:=hqr.out.other hW.1 (fun g hg h=>by have:=hvl g h;have:=hob.out g hg;omega) (fun q hq a n c e hn h=>by have:=hvl _ h;have:=hqb.out q hq a n c e hn;omega)
      have hBW:Below (w.heap.size+1+1) wr W:=(Below.refl _ _).grown hW.1 (by omega) (fun g hg=>by have:=hvl g hg;omega)
      have hwk:=zH (IntWalk.wrap64_in ((k:Int)+1) (by omega))
      have IR:TwW bs ws w1 (w.heap.size+1+1) (.int .i64 ((k:Int)+1)) (W.setCell ⟨w.heap.size+1+1,1,none⟩ (.slice A9 (ps.length+1) c9)):=by
       have hpl:=hpl.out
       subst hpl
       exact⟨ps.length+1,qs,ps++[((n,l),u)],A1',c1',A9,c9,base,by omega,rfl,hqs.out,by rw[List.map_append,hps.out,hsn.out];rfl,qh tW 1 _,hqW.setCell (p:=⟨w.heap.size+1+1,1,none⟩) (Nat.lt_succ_self _) (Nat.lt_succ_self _) _,hrW.setCell (p:=⟨w.heap.size+1+1,1,none⟩) hbase hbase _,⟨hbase,by have:=hW.1.size;simp;omega⟩,hob.out,hqb.out,Below.setCell (Below.trans hE.out hBW) (p:=⟨w.heap.size+1+1,1,none⟩) (Nat.le_refl _) _⟩
      replace IR:=zH IR
      clear hrW hD hW hBW hqW
      go_wp2
      refine Qw ?_
      go_wp2_with fail
      try rw[hwk.out]
      refine⟨IR.out,?_⟩
      simp[intOf]
      omega
    ·obtain rfl:k=ws.length:=by omega
     rw[List.take_length] at hps
     have zz:w.heap.size+1+1<wr.heap.size:=(zG.1 ht).1
     have q2:=(hE.block (w.heap.size+1) (by omega)).trans q1
     have kt:=qa ht
     have kq:=qa q2
     have fq:=qd q2
     have hB1:=((hqr.setCell (p:=⟨w.heap.size+1,0,none⟩) (by show w.heap.size+1<_;omega) (by show w.heap.size+1<_;omega) (.slice A1' bs.length c1')).setCell (p:=⟨w.heap.size+1,1,none⟩) (by show w.heap.size+1<_;omega) (by show w.heap.size+1<_;omega) (.slice A ws.length c))
     have hB2:=((hrow.setCell (p:=⟨w.heap.size+1,0,none⟩) (by show w.heap.size+1<_;omega) (by show w.heap.size+1<_;omega) (.slice A1' bs.length c1')).setCell (p:=⟨w.heap.size+1,1,none⟩) (by show w.heap.size+1<_;omega) (by show w.heap.size+1<_;omega) (.slice A ws.length c))
     have rf:=qh (qh q2 0 (.slice A1' bs.length c1')) 1 (.slice A ws.length c)
     have kf:=qa rf
     have bf:Below w.heap.size w ((wr.setCell ⟨w.heap.size+1,0,none⟩ (.slice A1' bs.length c1')).setCell ⟨w.heap.size+1,1,none⟩ (.slice A ws.length c)):=Below.setCell (Below.setCell xw (p:=⟨w.heap.size+1,0,none⟩) (by show _≤w.heap.size+1;omega) _) (p:=⟨w.heap.size+1,1,none⟩) (by show _≤w.heap.size+1;omega) _
     replace hqr:=zH hqr
     replace hrow:=zH hrow
     replace hB1:=zH hB1
     replace hB2:=zH hB2
     replace hE:=zH hE
     replace bf:=zH bf
     replace kf:=zH kf
     clear rf
     go_wp2
     have kf:=kf.out
     exact bodyPost_ret (v:=Zw A1' bs.length c1' A ws.length c) (by simp[results,Tryz.results50,go_sem,kf]) rfl ⟨_,rfl,⟨A1',c1',A,c,rfl,fun W2 hk=>⟨hqs ▸ hB1.out.blsN (Nat.le_refl _) (fun q hq hz=>hk q (by omega) hz),hps ▸ hB2.out.wrsN (Nat.le_refl _) (fun q hq hz=>hk q (by omega) hz)⟩⟩,bf.out⟩
end Go.Proofs.YtckhnchnbeoogaaGreat
