/- Texts Take, AskR, FreeIt, PushI, Refs, joined. -/
import Derived.ChangeKeysEq
import Derived.RangeFuncKeeps
import Derived.RangeFuncBound
import Derived.RangeFuncLeaves
import Derived.Shelf.Abstract
import Derived.OwnWalkIn
import Derived.TacticsInMore
import Derived.Sort.CutIn
import Derived.Test.YtckhnchnbeoogaaGreatV01
import Derived.Test.YtckhnchnbeoogaaGreatV15
set_option linter.unusedSimpArgs false
set_option linter.unusedVariables false
namespace Go.Proofs.YtckhnchnbeoogaaGreat
open Go.RowKit
def outOn (lo B:Nat) (A1:Option Addr) (n1 c1:Nat) (A2:Option Addr) (n2:Nat) (n3:Nat) (A4:Option Addr) (n4 c4:Nat) (S:Sto):qT:=⟨Nat,fun b=>.pointer (some ⟨b,0,none⟩),fun b W=>∃ A3' c3',OnB lo b (.slice A1 n1 c1) (.slice A2 n2 n2) (.slice A3' n3 c3') (.slice A4 n4 c4) S W∧QD lo (.slice A3' n3 c3')⟩
theorem Tb (lo B:Nat) (A1:Option Addr) (n1 c1:Nat) (A2:Option Addr) (n2:Nat) (n3:Nat) (A4:Option Addr) (n4 c4:Nat) (S:Sto) (b:Nat):(outOn lo B A1 n1 c1 A2 n2 n3 A4 n4 c4 S).f b=.pointer (some ⟨b,0,none⟩):=rfl
theorem GZ (lo B:Nat) (A1:Option Addr) (n1 c1:Nat) (A2:Option Addr) (n2:Nat) (n3:Nat) (A4:Option Addr) (n4 c4:Nat) (S:Sto):∀ p,QI ((outOn lo B A1 n1 c1 A2 n2 n3 A4 n4 c4 S).φ p):=fun p W W' he ⟨A,c,⟨h1,h2,h3⟩,h4⟩=>⟨A,c,⟨h1,qc h2 he,h3.ext he⟩,h4⟩
def qaw (lo:Nat):qT:=⟨Nat,fun b=>.map (some b),fun b W=>lo≤b∧b<W.heap.size∧zm W b fun _=>none⟩
theorem Yh (lo b:Nat):(qaw lo).f b=.map (some b):=rfl
theorem UM (lo:Nat):∀ p,QI ((qaw lo).φ p):=fun p W W' he ⟨h1,h2,h3⟩=>⟨h1,Nat.lt_of_lt_of_le h2 he.size,h3.of_heap (he.block p h2)⟩
theorem run_mm (t:TypeId) (W:World):(Instr.makeMap t none).run Tryz.prog W=.ok (.map (some W.heap.size)) (W.alloc (.map #[] 0)):=rfl
theorem run_bx (cs:Array Value) (t:TypeId) (W:World):(Instr.box t (.agg cs)).run Tryz.prog W=.ok (.pointer (some ⟨W.heap.size,0,none⟩)) (W.alloc (.cells cs t)):=rfl
theorem Kp {cs:Array Value} {k:Nat} {v:Value} (hk:k<256) (hv:cs[k]?=some v) (W:World):(Instr.index 110 (.agg cs) (.int .i64 (k:Int))).run Tryz.prog W=.ok v W:=by
 obtain⟨i0,hi,hz0,hz1,hz2⟩:=info_parts Tryz.info_int
 have hp:=run_part_plain (P:=Tryz.prog) (w:=W) (e:=3) (by kernel_rfl) hv
 have h0:(0:Int)≤(k:Int)∧(k:Int)<256:=by omega
 simp[Instr.index,asIntOf,run_underlying Tryz.underlying110,h0,sizeOf,typeInfo,hi,hz1,hp,Sem.run_bind]
 intro hge
 omega
theorem vc {R:Ending→World→Prop} {a:Act} {W:World} {u v:Value} (h2:a.tmps[2]?.getD undef=u) (h3:a.tmps[3]?.getD undef=v) (hd:a.defers=[]) (hR:R (.returned (.tuple #[u,v])) W):bodyPost Tryz.prog Tryz.f51 R .ret a W:=by
 refine bodyPost_ret (v:=.tuple #[u,v]) ?_ hd hR
 simp[results,Tryz.results51,go_sem,h2,h3]
set_option maxHeartbeats 4000000 in
set_option maxRecDepth 100000 in
theorem Ub (A1:Option Addr) (n1 c1:Nat) (A2:Option Addr) (n2 c2:Nat) (A3:Option Addr) (n3 c3:Nat) (A4:Option Addr) (n4 c4:Nat) (gen root next:Int) (A5:Option Addr) (c5:Nat) (S:Sto) (dead:List Int) (w:World)
  (h:qH w w.heap.size (.slice A1 n1 c1) (.slice A2 n2 c2) (.slice A3 n3 c3) (.slice A4 n4 c4) S) (hd:QF w w.heap.size (.slice A5 dead.length c5) dead) :
  Calls Tryz.prog 51 #[.agg (qC (.slice A1 n1 c1) (.slice A2 n2 c2) (.slice A3 n3 c3) (.slice A4 n4 c4) gen root next (.slice A5 dead.length c5))] w (Kt S root next dead w):=by
 have HCK:=zH (fun W (hx:Ext w W)=>JQ A1 n1 c1 A2 n2 c2 A3 n3 c3 A4 n4 c4 S W (h.ext hx))
 have HNL:qB S=true→S.now.length<1073741824:=fun hm=>by have:=(qQ hm).2.2.1;omega
 have HON:=zH (fun (hm:qB S=true) W (hx:Ext w W)=>on_any A1 n1 c1 A2 n2 c2 A3 n3 c3 A4 n4 c4 S (HNL hm) W (h.ext hx))
 replace h:=zH h
 replace hd:=zH hd
 clear HNL
 go_enter Tryz.func51,Tryz.ntmps51
 go_wp2_with fail
 generalize hw1:World.alloc w _=w1
 have x1:Ext w w1:=by rw[←hw1];exact Ext.alloc _ _
 have p1:w1.heap[w.heap.size]?=some (.cells (qC (.slice A1 n1 c1) (.slice A2 n2 c2) (.slice A3 n3 c3) (.slice A4 n4 c4) gen root next (.slice A5 dead.length c5)) 32 (0,0)):=by rw[←hw1];exact World.alloc_heap_at _ _ _ rfl
 clear hw1
 refine(HCK.out w1 x1).mono ?_
 rintro e w2 ⟨rfl,hB⟩
 have x2:=x1.trans hB
 have p2:=qc p1 hB
 have k2:=qa p2
 clear hB p1 x1 HCK
 rcases hmay:qB S with _|_
 ·unfold kl
  have HB:=zH (Kt.bad (S:=S) (next:=next) (root:=root) (dead:=dead) x2 (fun vs hp=>by have:=hp.may;rw[hmay] at this;cases this))
  replace hmay:=zH hmay
  go_wp2_with fail
  exact vc rfl rfl rfl HB.out
 ·unfold kl
  rcases Nat.lt_or_ge 40 dead.length with h40|h40
  ·have hq:decide ((dead.length:Int)>40)=true:=decide_eq_true (by omega)
   have HB:=zH (Kt.bad (S:=S) (next:=next) (root:=root) (dead:=dead) x2 (fun vs hp=>by have:=hp.few;omega))
   replace hmay:=zH hmay
   go_wp2_with fail
   exact vc rfl rfl rfl HB.out
  ·have hq:decide ((dead.length:Int)>40)=false:=decide_eq_false (by omega)
   have hmay':=zH hmay
   clear hmay
   go_wp2_with fail
   have gP:∀ W,qu.r w2 W→∀ i,W.cell? ⟨w.heap.size,i,none⟩=(qC (.slice A1 n1 c1) (.slice A2 n2 c2) (.slice A3 n3 c3) (.slice A4 n4 c4) gen root next (.slice A5 dead.length c5))[i]?:=fun W h=>qa (qc p2 h)
   have hz2:w.heap.size<w2.heap.size:=(zG.1 p2).1
   refine qv (by kernel_rfl) ?_
   refine Qu (w:=w2) qu (qE [(4,outOn w2.heap.size w2.heap.size A1 n1 c1 A2 n2 n3 A4 n4 c4 S),(5,qaw w2.heap.size)])
    [true,true,true,true,true,true,true] 2 (by kernel_rfl) (by kernel_rfl) (by kernel_rfl) (by kernel_rfl) (by kernel_rfl) (by kernel_rfl) (by kernel_rfl) ?st (Rel.drew _ _) ?walk
   case st=>exact qm (by simp only[List.forall_mem_cons];exact⟨fun p=>zD (GZ _ _ _ _ _ _ _ _ _ _ _ _ p),fun p=>zD (UM _ p),fun _ h=>by cases h⟩)
   case walk =>
    intro K hK
    dsimp only[qz]
    repeat ((first|(refine qf ?_ (by rfl) (by rfl) (fun W hW _=>⟨W,?_,Rel.refl _ W⟩) ?_;rotate_left;(first|(go_simp;with_reducible rfl)|(go_simp;done)))|(refine qj (by rfl) ?_));try simp only[Act.put,qi,qe,qb,qg,qb,Tb,Yh,zA,zB,zC])
    refine qA (outOn w2.heap.size w2.heap.size A1 n1 c1 A2 n2 n3 A4 n4 c4 S) (by rfl) (by rfl) (fun W hW _=>?_) (fun (bb:Nat)=>?_)
    ·have hWx:Ext w2 W:=hW
     refine Qg ?_ ((HON.out hmay'.out W (x2.trans hWx)).mono fun e w' h=>?_)
     ·go_simp
     ·obtain⟨u,rfl,⟨b,A3',c3',rfl,h1,h2⟩,h3⟩:=h
      exact⟨b,rfl,⟨A3',c3',⟨Nat.le_trans hWx.size h1.1,h1.2⟩,h2.mono hWx.size⟩,h3⟩
    simp only[Act.put,qi,qe,qb,qg,qb,Tb,Yh,zA,zB,zC]
    refine qA (qaw w2.heap.size) (by rfl) (by rfl) (fun W hW _=>?_) (fun (mb:Nat)=>?_)
    ·have hWx:Ext w2 W:=hW
     have hmm:=run_mm 109 W
     refine Qa (u:=.map (some W.heap.size)) (w':=W.alloc (.map #[] 0)) ?_ ⟨W.heap.size,rfl,⟨hWx.size,by simp,zm.empty W⟩,Ext.alloc _ _⟩
     go_simp
    simp only[Act.put,qi,qe,qb,qg,qb,Tb,Yh,zA,zB,zC]
    refine qf (.agg (ca0 (.slice A1 n1 c1) (.slice A2 n2 c2) (.slice A3 n3 c3) (.slice A4 n4 c4) bb mb)) (by rfl) (by rfl) (fun W hW _=>⟨W,?_,Rel.refl _ W⟩) ?_
    ·go_simp
     exact ca_eq _ _ _ _ _ _
    simp only[Act.put,qi,qe,qb,qg,qb,Tb,Yh,zA,zB,zC]
    refine qD (hK _ _ fun W hW hF=>?_)
    have hWx:Ext w2 W:=hW
    have HO:=(hF 4).1
    have HM:=(hF 5).1
    clear hF hK gP
    change ∃ A3' c3',_ at HO
    change w2.heap.size≤mb∧mb<W.heap.size∧zm W mb _ at HM
    obtain⟨A3',c3',hon,hfr⟩:=HO
    obtain⟨hm1,hm2,hmap⟩:=HM
    obtain⟨hb1,hrow,hst⟩:=hon
    have xW:=x2.trans hWx
    have pW:=qc p2 hWx
    dsimp only[List.drop,List.length_cons,List.length_nil]
    have hca:=ca0_ar (.slice A1 n1 c1) (.slice A2 n2 c2) (.slice A3 n3 c3) (.slice A4 n4 c4) bb mb
    have hca0:∀ i,i<6→(ca0 (.slice A1 n1 c1) (.slice A2 n2 c2) (.slice A3 n3 c3) (.slice A4 n4 c4) bb mb)[i]?=(#[.slice A1 n1 c1,.slice A2 n2 c2,.slice A3 n3 c3,.slice A4 n4 c4,.pointer (some ⟨bb,0,none⟩),.map (some mb)]:Array Value)[i]?:=fun i hi=>ca0_low _ _ _ _ _ _ hi
    generalize (ca0 (.slice A1 n1 c1) (.slice A2 n2 c2) (.slice A3 n3 c3) (.slice A4 n4 c4) bb mb)=ca at *
    have hbx:=run_bx ca
    replace hca:=zH hca
    replace hca0:=zH hca0
    clear hW hWx x2 p2
    go_wp2_with fail
    refine Qw ?_
    have hcc:W.heap.size=W.heap.size:=rfl
    obtain⟨cb,hcb⟩:∃ cb,cb=W.heap.size:=⟨_,rfl⟩
    generalize hw3:World.alloc W _=w3
    have x3:Ext W w3:=by rw[←hw3];exact Ext.alloc _ _
    have r3:w3.heap[cb]?=some (.cells ca 112 (0,0)):=by rw[←hw3];exact World.alloc_heap_at _ _ _ hcb
    have z3:w3.heap.size=cb+1:=by rw[←hw3,hcb];simp
    clear hw3 hcc
    have hbb:bb<W.heap.size:=(zG.1 hrow).1
    have xw3:=xW.trans x3
    have hsw:w.heap.size≤w2.heap.size:=by omega
    have C3:Cen ⟨S,w.heap.size,w3.heap.size,cb,bb,mb,ca,.slice A1 n1 c1,.slice A2 n2 c2,.slice A3 n3 c3,.slice A4 n4 c4,.slice A1 n1 c1,.slice A2 n2 n2,.slice A3' n3 c3',.slice A4 n4 c4⟩ w3 (fun _=>none):={
     row:=r3
     c0:=hca0.out 0 (by omega)
     c1:=hca0.out 1 (by omega)
     c2:=hca0.out 2 (by omega)
     c3:=hca0.out 3 (by omega)
     c4:=hca0.out 4 (by omega)
     c5:=hca0.out 5 (by omega)
     map:=hmap.of_heap (x3.block _ hm2)
     known:=fun a v hv=>by cases hv
     sto:=h.out.below xw3
     on:=qc hrow x3
     onb:=(h.out.below xw3).bs
     onw:=(h.out.below xw3).ws.clip
     onl:=(h.out.below xw3).last
     onn:=(hst.now.below x3).more x3.size
     onf:=fun A n c e=>by
      have hn:=(Bys.at_ hst.now).2.2.2
      have hl:=(qQ hmay'.out).2.2.1
      have hn3:=(Bys.at_ hst.now).1
      obtain⟨b,off,hA,hb⟩:=hn (by omega)
      have e':Value.slice A3' n3 c3'=.slice (some A) n c:=e
      rw[hA] at e'
      simp only[Value.slice.injEq,Option.some.injEq] at e'
      rw[←e'.1]
      show b≠cb
      omega
     low:=by
      show cb<w3.heap.size∧bb<w3.heap.size∧mb<w3.heap.size∧cb≠mb∧bb≠mb∧w3.heap.size≤w3.heap.size∧w.heap.size≤cb∧w.heap.size≤bb∧w.heap.size≤mb∧cb≠bb
      have hne:bb≠mb:=by
       rintro rfl
       obtain⟨es,clock,h1,_⟩:=hmap
       rw[hrow] at h1
       cases h1
      omega
     may:=hmay'.out }
    rw[←hcb]
    have pw3:=qc pW x3
    have hcw:w.heap.size≤cb:=by omega
    have hw3:w.heap.size<cb:=by have:=(zG.1 pW).1;omega
    generalize hpp:(⟨S,w.heap.size,w3.heap.size,cb,bb,mb,ca,.slice A1 n1 c1,.slice A2 n2 c2,.slice A3 n3 c3,.slice A4 n4 c4,.slice A1 n1 c1,.slice A2 n2 n2,.slice A3' n3 c3',.slice A4 n4 c4⟩:CP)=p at C3
    have pS:p.S=S:=by rw[←hpp]
    have pcb:p.cb=cb:=by rw[←hpp]
    have pmb:p.mb=mb:=by rw[←hpp]
    have plo:p.lo=w3.heap.size:=by rw[←hpp]
    have pca:p.ca=ca:=by rw[←hpp]
    have hmb:w.heap.size<mb:=by have:=(zG.1 pW).1;omega
    clear hpp hbx hmap hst hrow hfr pW x3 r3 z3 hb1 hm1 hm2 hbb hcb
    have kp:=qa pw3
    go_wp2_with fail
    have HLR:=Tw p root w3 _ C3
    rw[pcb] at HLR
    refine HLR.mono ?_
    rintro e w4 ⟨v,g,rfl,⟨lvl,A,n,c,fk,lk,rfl,hknown⟩,hgr,hm,hg,hn⟩
    have C4:=C3.after hgr hm hg hn
    rw[pS] at hknown ⊢
    have hz3:cb<w3.heap.size:=by rw[←pcb];exact(zG.1 C3.row).1
    have x4:Below w.heap.size w w4:=xw3.grown hg (by omega) (fun q hq=>by cases hq;rw[pmb];omega)
    have pw4:=(hg.block w.heap.size (by omega) (by simp;omega)).trans pw3
    have z4:=hg.size
    have hcb4:cb<w4.heap.size:=by rw[←pcb];exact(zG.1 C4.row).1
    rcases hok:okL S (-1) root with _|_
    ·have HB:=zH (fun W (hx:Ext w4 W)=>Kt.bad (S:=S) (next:=next) (root:=root) (dead:=dead) (x4.trans (Below.mono hx (by omega))) (fun vs hp=>by have:=hp.top;rw[hok] at this;cases this))
     replace C4:=zH C4
     replace C3:=zH C3
     replace hok:=zH hok
     clear hknown hgr hm hg hn HLR kp pw3 pw4
     go_wp2_with fail
     exact vc rfl rfl rfl (HB.out _ (Ext.alloc _ _))
    ·obtain⟨a,ha,htree⟩:=kS hok
     have hga:=hknown hok
     rw[hok] at hga
     obtain⟨n9,lv,xs,A',c',fk',lk',b',e9,-,-,hnode,hv,hits,hsp,hcl⟩:=C4.known _ _ hga
     rw[pS] at hnode hsp
     simp only[Value.agg.injEq,Array.mk.injEq,List.cons.injEq,Value.int.injEq,Value.bool.injEq,Value.slice.injEq,true_and,and_true] at hv
     obtain⟨rfl,⟨rfl,rfl,rfl⟩,-,-,-,-,-,-,rfl⟩:=hv
     have hmay9:=(Qn hnode).1
     have hxs:=fun y hy=>((Qn hnode).2.1 y hy).1
     have hlen:xs.length≤5:=by unfold qR zN at hmay9;simp at hmay9;omega
     have hvo:Vj S root next=zR next [] (qS S lv xs):=by
      unfold Vj
      rw[e9,Int.toNat_natCast,hnode]
      show zR next [] (qS S (lv:Int).toNat xs)=_
      rw[Int.toNat_natCast]
     have hsp9:(QL S lv xs).isSome=true:=hsp.1.symm
     have hcl9:0<lv→∀ y∈xs,(g y.r).isSome=true:=hcl rfl
     replace C4:=zH C4
     replace C3:=zH C3
     replace hok:=zH hok
     replace hits:=zH hits
     replace hsp9:=zH hsp9
     replace hcl9:=zH hcl9
     replace hxs:=zH hxs
     replace hvo:=zH hvo
     replace hnode:=zH hnode
     replace htree:=zH htree
     replace hga:=zH hga
     replace ha:=zH ha
     replace e9:=zH e9
     have kp4:=qa pw4
     have hzw4:w.heap.size<w4.heap.size:=by omega
     clear hknown hgr hm hg hn HLR kp pw3 hsp hcl hmay9
     go_wp2_with fail
     generalize hw5:World.alloc w4 _=w5
     have x45:Ext w4 w5:=by rw[←hw5];exact Ext.alloc _ _
     clear hw5
     have x5:=x4.trans (Below.mono x45 (by omega))
     have pw5:=qc pw4 x45
     have C5:=C4.out.ext x45
     have hits5:=hits.out.keep x45.size (fun q _ hq=>Below.cell x45 hq)
     have I5:VolI p w5 w5 [] (.slice none 0 0) ca (fun _=>0) (fun _=>0):=by
      refine⟨⟨Off.refl (Nat.le_refl _),?_,hca.out,fun i _=>by rw[pca],(zG.1 C5.row).1⟩,World.ownsRow_nil _ _ _ _⟩
      have:=C5.row
      rwa [pca] at this
     have HV:=qaY p w5 g (fun _=>0) (fun _=>0) (.slice A1 n1 c1) (.slice A2 n2 c2) (.slice A3 n3 c3) (.slice A4 n4 c4) gen root next (.slice A5 dead.length c5) C5 lv xs A c [] (.slice none 0 0) ca w5 I5 (by simp) hxs.out hlen hits5 (by rw[pS];exact hsp9.out) hcl9.out
     rw[pcb,pS] at HV
     refine HV.mono ?_
     rintro e w6 ⟨F6,hm6⟩
     clear HV I5
     have x6:Below w.heap.size w w6:=⟨F6.os.trans x5.os,F6.tape.trans x5.tape,F6.output.trans x5.output,Nat.le_trans x5.size F6.size,fun k hk=>(F6.block k (Nat.lt_of_lt_of_le hk x5.size) (by omega) (by simp[Value.ownBlock])).trans (x5.block k hk)⟩
     have hz5:w.heap.size<w5.heap.size:=by have:=x45.size;omega
     have hzw6:w.heap.size<w6.heap.size:=by have:=F6.size;omega
     have hcb5:cb<w5.heap.size:=by have:=x45.size;omega
     have hmb5:mb<w5.heap.size:=by have h1:=C3.out.low.2.2.1;rw[pmb,plo] at h1;have:=x45.size;omega
     have hcb6:cb<w6.heap.size:=by have:=x45.size;have:=F6.size;omega
     have hmb6:mb<w6.heap.size:=by have h1:=C3.out.low.2.2.1;rw[pmb,plo] at h1;have:=x45.size;have:=F6.size;omega
     rcases hgo:zR next [] (qS S lv xs) with _|vs
     ·rw[hgo] at hm6
      obtain rfl:e=.returned (.int .i64 8):=hm6
      have HB:=zH (Kt.bad (S:=S) (next:=next) (root:=root) (dead:=dead) x6 (fun vs hp=>by have:=hp.vols;rw[hvo.out,hgo] at this;cases this))
      clear kp4 pw4 pw5 F6 x45
      replace C5:=zH C5
      go_wp2_with fail
      exact vc rfl rfl rfl HB.out
     ·rw[hgo] at hm6
      obtain⟨rfl,vv,ca6,V6,N6⟩:=hm6
      clear N6
      have pw6:=(F6.block w.heap.size hz5 (by omega) (by simp[Value.ownBlock])).trans pw5
      have kp6:=qa pw6
      clear kp4 pw4 pw5 F6 x45
      replace C5:=zH C5
      replace V6:=zH V6
      replace hgo:=zH hgo
      replace hits5:=zH hits5
      obtain⟨i0,hi,hz0,hz1,hz2⟩:=info_parts Tryz.info_int
      go_wp2_with (at_builtin;refine qI ?_)
      have hda:Rd (w6.alloc (.cells #[.int .i64 root] 3)) w.heap.size 1 A5 dead.length (dead.map fun (a:Int)=>Value.int .i64 a):=by
       obtain⟨A',c',e,_,_,hr⟩:=hd.out
       cases e
       exact(hr.below x6).alloc (by omega) _
      have o7:(w6.alloc (.cells #[.int .i64 root] 3)).ownsRow w6.heap.size 3 1 (.slice (some ⟨w6.heap.size,0,none⟩) 1 1) 1 [.int .i64 root]:=World.ownsRow_lit (base:=w6.heap.size) (e:=3) (size:=1) w6 #[.int .i64 root] 1 (Nat.le_refl _) (by unfold maxLen;omega) rfl
      refine Qc.go (qM _ rfl (.tmp 48) (.tmp 50) 30 rfl w6.heap.size 3 i0 (.int .i64 0) 1 8 Tryz.underlying30 hi hz0 hz1 hz2 rfl (by decide) _ 1 [.int .i64 root] rfl o7 w.heap.size A5 dead.length c5 (dead.map fun (a:Int)=>Value.int .i64 a) rfl hda (by simp[Value.oneCell']) (by omega) (by decide) (by simp) ?_)
      intro v7 w7 o8 g7 hB7 hv7
      have x67:Ext w6 w7:=Below.trans (Ext.alloc w6 _) hB7
      have I1:R1 w6 root dead vs v7 (.int .i64 0) w7:=⟨0,Nat.zero_le _,rfl,by
       have e:Ki (ZB root dead vs 0)=[.int .i64 root]++dead.map fun (a:Int)=>Value.int .i64 a:=by unfold ZB Ki;simp
       rw[e]
       exact o8,x67⟩
      have V7:=V6.out.ext x67
      have pw7:=qc pw6 x67
      obtain⟨AV,cV,rfl,hcv1,hcv2⟩:=qw V7.own
      have kc7:w7.cell? ⟨cb,518,none⟩=some (.slice AV vs.length cV):=by rw[←pcb,qa V7.t.row];exact V7.t.ar.vol
      have hvs16:vs.length≤16:=KU next _ _ _ (by simp) hgo.out
      replace I1:=zH I1
      replace V7:=zH V7
      replace x67:=zH x67
      clear o7 o8 g7 hv7 hB7 hda hi hz0 hz1 hz2 hcv1 hcv2 kp6
      go_wp2_with fail
      clear kc7
      go_loopw [5,57] (fun v i wr=>R1 w6 root dead vs v i wr) (fun _ i _=>vs.length-(intOf i).toNat)
      case atStart=>exact I1.out
      case round =>
       obtain⟨k,hk,rfl,own,xr⟩:=hrel.ex
       clear I1
       by_cases hlt:k<vs.length
       ·have hlt':=hlt
        obtain⟨bv,offv,eA,hbv,hcel⟩:=(Rd.of_own (V6.out.ext xr).own).2 (by omega)
        subst eA
        obtain⟨d0,d1,d2,d3⟩:=GE vs k hlt'
        replace d0:=hcel _ _ d0
        replace d1:=hcel _ _ d1
        replace d2:=hcel _ _ d2
        replace d3:=hcel _ _ d3
        have HSU:=zH (YC root dead vs hlt')
        generalize vs[k]=u at *
        clear hcel
        rw[←Nat.add_assoc] at d1 d2 d3
        obtain⟨AR,cR,rfl,hcr1,hcr2⟩:=qw own
        obtain⟨i0,hi,hz0,hz1,hz2⟩:=info_parts Tryz.info_int
        replace own:=zH own
        replace xr:=zH xr
        clear hcr1 hcr2
        go_upto_region 11 with fail
        generalize hw9:World.alloc wr _=w9
        have x9:Ext wr w9:=by rw[←hw9];exact Ext.alloc _ _
        have u9:w9.heap[wr.heap.size]?=some (.cells (XS u) 70 (0,0)):=by rw[←hw9];exact World.alloc_heap_at _ _ _ rfl
        have ku9:=qa u9
        clear hw9 d0 d1 d2 d3 u9
        go_wp2_with (at_builtin;refine qI ?_)
        refine Qc.go (QP _ rfl (.tmp 61) (.tmp 64) 30 rfl w6.heap.size 3 i0 (.int .i64 0) 1 8 Tryz.underlying30 hi hz0 hz1 hz2 rfl (by decide) _ _ _ rfl (QK own.out x9) #[.int .i64 u.root] rfl rfl (by simp[Value.oneCell']) (by omega) (by decide) (Nat.le_trans xr.out.size x9.size) ?_)
        intro v8 w8 own8 _ hB8 _
        have IR:R1 w6 root dead vs v8 (.int .i64 ((k:Int)+1)) w8:=⟨k+1,hlt',rfl,by
         rw[HSU.out,Gu]
         exact own8,Below.trans (Below.trans xr.out (Below.mono x9 xr.out.size)) hB8⟩
        replace IR:=zH IR
        clear own8 hB8 hi hz0 hz1 hz2
        go_wp2_with fail
        refine⟨IR.out,?_⟩
        simp[intOf]
        omega
       ·have hke:k=vs.length:=by omega
        subst hke
        have VW:=V6.out.ext xr
        have CW:=VW.t.cen C5.out
        have hRl:(Qs root dead vs).length=1+dead.length+vs.length:=by rw[←kP];exact XE root dead vs (Nat.le_refl _)
        rw[kP,←hRl] at own
        obtain⟨AR,cR,rfl,hcr1,hcr2⟩:=qw own
        obtain⟨N,hN⟩:∃ N,N=(Qs root dead vs).length:=⟨_,rfl⟩
        rw[←hN] at own hRl ⊢
        have I2:R2 p wr (.slice AV vs.length cV) (Qs root dead vs) (.int .i64 0) wr:=⟨0,g,ca6,fun _=>0,fun _=>0,Nat.zero_le _,rfl,CW,VW.t.ar,Qj.zero _,(fun a ha=>by cases ha),(fun r hr=>by cases hr),jZ.refl _ _ _⟩
        have xw:=x6.trans (Below.mono xr (by omega))
        have pwr:=qc pw6 xr
        clear hcr1 hcr2
        replace I2:=zH I2
        replace CW:=zH CW
        replace VW:=zH VW
        replace own:=zH own
        replace hRl:=zH hRl
        replace hN:=zH hN
        replace xw:=zH xw
        replace pwr:=zH pwr
        clear hrel
        generalize wr=w8 at *
        go_wp2_with fail
        go_loopw [2,3,69] (fun u v i wq=>u=.pointer (some ⟨cb,0,none⟩)∧v=.int .i64 0∧R2 p w8 (.slice AV vs.length cV) (Qs root dead vs) i wq) (fun _ _ i _=>N-(intOf i).toNat)
        case atStart=>exact⟨rfl,rfl,I2.out⟩
        case round =>
         obtain⟨rfl,rfl,hrel⟩:=hrel
         obtain⟨k,g2,ca2,refs2,nodes2,hk2,rfl,C2,N2,M2,Q2,hall,K2⟩:=hrel.ex
         clear I2
         have hRL:=hRl.out
         have hN2:=hN.out
         by_cases hlt2:k<(Qs root dead vs).length
         ·have hlt3:k<N:=by omega
          have hwk:wrap64 ((k:Int)+1)=(k:Int)+1:=IntWalk.wrap64_in _ (by omega)
          replace hwk:=zH hwk
          obtain⟨br,offr,eR,hbr,hcel⟩:=(Rd.of_own own.out).2 (by omega)
          have hbr2:=(zY own.out)
          subst eR
          have hbr3:=hbr2 br rfl
          have dk:=hcel k _ (Uq _ k hlt2)
          replace dk:=(World.cell?_of_block (a:=⟨br,offr+k,none⟩) (K2.block br hbr (by rw[pcb];omega) (by rw[pmb];omega))).trans dk
          have HTK:=zH (List.take_succ_eq_append_getElem hlt2)
          have HMM:=zH (List.getElem_mem hlt2)
          generalize (Qs root dead vs)[k]=r at *
          have HT:=tree_any (p.put ca2) (((Qs root dead vs).take k).map Int.toNat) (by rw[List.length_map,List.length_take];omega) r wr g2 refs2 nodes2 _ C2 N2 M2 Q2
          change Calls _ _ #[.pointer (some ⟨p.cb,0,none⟩),.int .i64 r] wr _ at HT
          rw[pcb] at HT
          replace C2:=zH C2
          replace N2:=zH N2
          replace M2:=zH M2
          replace Q2:=zH Q2
          replace hall:=zH hall
          replace K2:=zH K2
          replace hRL:=zH hRL
          replace hN2:=zH hN2
          replace hlt2:=zH hlt2
          replace HT:=zH HT
          clear hcel hbr2 hbr3
          go_wp2_with fail
          refine HT.out.mono ?_
          rintro e w9 ⟨hE,t1,t2,t3,t4,t5,t6⟩
          have K9:jZ p.cb p.mb w8 w9:=K2.out.trans ⟨t1,t2,t3,t4,t5⟩
          rcases hokr:okL p.S (-1) r with _|_
          ·have x9:=K9.below xw.out (by have:=(zG.1 pwr.out).1;omega) (by rw[pcb];omega) (by rw[pmb];omega)
           have HB:=zH (Kt.bad (S:=S) (next:=next) (root:=root) (dead:=dead) x9 (fun vs' hp=>by
            have h1:=hp.vols
            rw[hvo.out,hgo.out,Option.some.injEq] at h1
            subst h1
            have:=hp.ok r HMM.out
            rw[pS] at hokr
            rw[hokr] at this
            cases this))
           obtain rfl:e=.returned (.int .i64 8):=hE.trans (by show Ending.returned (.int .i64 (if okL p.S (-1) r=true then 0 else 8))=_;rw[hokr];rfl)
           replace hokr:=zH hokr
           clear t1 t2 t3 t4 t5 t6 K9 x9 hE
           go_wp2_with fail
           exact vc rfl rfl rfl HB.out
          ·obtain⟨ca3,g3,refs3,nodes3,C9,hg9,N9,M9,Q9⟩:=t6 hokr
           have IR:R2 p w8 (.slice AV vs.length cV) (Qs root dead vs) (.int .i64 ((k:Int)+1)) w9:=by
            refine⟨k+1,g3,ca3,refs3,nodes3,hlt2.out,rfl,C9,N9,?_,?_,?_,K9⟩
            ·rw[HTK.out,List.map_append];exact M9
            ·rw[HTK.out,List.map_append];exact Q9
            ·intro r' hr'
             rw[HTK.out] at hr'
             rcases List.mem_append.1 hr' with h1|h1
             ·exact hall.out r' h1
             ·rw[List.mem_singleton.1 h1];exact hokr
           replace IR:=zH IR
           obtain rfl:e=.returned (.int .i64 0):=hE.trans (by show Ending.returned (.int .i64 (if okL p.S (-1) r=true then 0 else 8))=_;rw[hokr];rfl)
           replace hokr:=zH hokr
           clear hE t1 t2 t3 t4 t5 t6 K9 C9 hg9 N9 M9 Q9
           go_wp2_with fail
           rw[hwk.out]
           refine⟨⟨rfl,rfl,IR.out⟩,?_⟩
           simp[intOf]
           omega
         ·have hke2:k=(Qs root dead vs).length:=by omega
          have hlt3:¬k<N:=by omega
          rw[hke2,List.take_length] at M2 Q2 hall
          have k9:=qa C2.row
          have hkN:k=N:=by omega
          replace hke2:=zH hke2
          replace hall:=zH hall
          replace C2:=zH C2
          replace M2:=zH M2
          replace Q2:=zH Q2
          replace K2:=zH K2
          replace N2:=zH N2
          clear hrel hk2 hlt2 hRL hN2
          have hz8:w.heap.size<w8.heap.size:=(zG.1 pwr.out).1
          have x9:Below w.heap.size w wr:=K2.out.below xw.out (by omega) (by rw[pcb];omega) (by rw[pmb];omega)
          have pw9:=(K2.out.block w.heap.size hz8 (by rw[pcb];omega) (by rw[pmb];omega)).trans pwr.out
          have kp9:=qa pw9
          have rc9:=C2.out.row
          change wr.heap[p.cb]?=some (.cells ca2 _ _) at rc9
          rw[pcb] at rc9
          have hcc:∀ j v,(zk refs2)[j]?=some v→wr.cell? ⟨cb,6+j,none⟩=some v:=fun j v hj=>by
           obtain⟨h1,rfl⟩:=qaj hj
           rw[qa rc9]
           exact N2.out.ref j h1
          have hst9:=h.out.below x9
          obtain⟨A'',c'',e3,hlc,hmc,hr3⟩:=hst9.now
          have hl3:S.now.length=256:=(qQ hmay'.out).2.2.1
          have hnow:∃ b3 o3,(Value.slice A3 n3 c3)=.slice (some ⟨b3,o3,none⟩) 256 c3∧∀ j,j<256→wr.cell? ⟨b3,o3+j,none⟩=some (.int .u8 ((S.now[j]?.getD 0).toNat:Int)):=by
           rw[Value.slice.injEq] at e3
           obtain⟨rfl,hn3,rfl⟩:=e3
           obtain⟨b3,o3,hA3,_,hcel3⟩:=hr3.2 (by omega)
           refine⟨b3,o3,by rw[hA3,hn3,hl3],fun j hj=>?_⟩
           exact hcel3 j _ (by rw[List.getElem?_map,List.getElem?_eq_getElem (by omega)];rfl)
          obtain⟨b3,o3,eN,hcN⟩:=hnow
          rw[eN] at kp9
          replace hcN:=zH hcN
          replace x9:=zH x9
          clear hst9 hr3 hlc hmc pw9 rc9
          replace e3:=zH e3
          replace eN:=zH eN
          go_upto_region 20 with fail
          go_wp2_with (refine vX rfl 110 (.tmp 82) rfl cb 6 rfl (zk refs2) _ hcc Tryz.underlying110 rfl (by rw[show (zk refs2).length=256 by simp[zk]];kernel_rfl) ?_)
          clear hcc
          replace hkN:=zH hkN
          go_loopw [2,3,84] (fun u v i wq=>u=.pointer (some ⟨cb,0,none⟩)∧v=.int .i64 0∧R3 S refs2 wr i wq) (fun _ _ i _=>256-(intOf i).toNat)
          case atStart=>exact⟨rfl,rfl,0,by omega,rfl,fun a h=>absurd h (Nat.not_lt_zero _),rfl⟩
          case round =>
           obtain⟨rfl,rfl,hrel⟩:=hrel
           obtain⟨q,hq3,rfl,hle,rfl⟩:=hrel.ex
           clear hrel
           have hcnt:Qj S (zl root dead vs) refs2 nodes2:=by have:=M2.out;rw[pS] at this;exact this
           have hpool:QM S root next dead vs:=⟨hmay'.out,h40,hok.out,hvo.out.trans hgo.out,fun r hr=>by have:=hall.out r hr;rwa [pS] at this⟩
           by_cases hl4:q<256
           ·have dN:=hcN.out q hl4
            have hix:=Kp (cs:=(zk refs2).toArray) hl4 (v:=.int .i64 (refs2 q)) (by rw[List.getElem?_toArray];exact Zn refs2 hl4)
            generalize hnv:(S.now[q]?.getD 0).toNat=nv at *
            have hnv2:nv<256:=by rw[←hnv];exact UInt8.toNat_lt _
            have hwq:=zH (IntWalk.wrap64_in ((q:Int)+1) (by omega))
            replace hnv:=zH hnv
            replace hle:=zH hle
            replace hcnt:=zH hcnt
            replace hpool:=zH hpool
            rcases Nat.lt_or_ge nv (refs2 q) with hg|hg
            ·have hc1:decide ((refs2 q:Int)>(nv:Int))=true:=decide_eq_true (by omega)
             have hc2:decide (nv<refs2 q)=true:=decide_eq_true hg
             have HB:Kt S root next dead w (.returned (.tuple #[.pointer none,.int .i64 8])) wr:=⟨x9.out,.inl ⟨rfl,fun vs' hp=>by
              have h1:=hp.vols
              rw[hvo.out,hgo.out,Option.some.injEq] at h1
              subst h1
              exact⟨refs2,nodes2,hcnt.out,fun he=>by have:=he q hl4;rw[hnv.out] at this;omega⟩⟩⟩
             replace HB:=zH HB
             replace hg:=zH hg
             generalize (zk refs2).toArray=arr at *
             go_wp2_with fail
             exact vc rfl rfl rfl HB.out
            ·have hc1:decide ((refs2 q:Int)>(nv:Int))=false:=decide_eq_false (by omega)
             have hc2:decide (nv<refs2 q)=false:=decide_eq_false (by omega)
             have IR:R3 S refs2 wr (.int .i64 ((q:Int)+1)) wr:=⟨q+1,hl4,rfl,fun a ha=>by
              rcases Nat.lt_or_ge a q with h1|h1
              ·exact hle.out a h1
              ·obtain rfl:a=q:=by omega
               rw[hnv.out]
               exact hg,rfl⟩
             replace IR:=zH IR
             replace hg:=zH hg
             generalize (zk refs2).toArray=arr at *
             go_wp2_with fail
             refine⟨⟨rfl,rfl,IR.out⟩,?_⟩
             simp[intOf]
             omega
           ·have hen:QY S refs2:=fun a ha=>hle a (by omega)
            have HT:Kt S root next dead w (.returned (.tuple #[.pointer (some ⟨cb,0,none⟩),.int .i64 0])) wr:=⟨x9.out,.inr ⟨vs,refs2,nodes2,cb,ca2,.slice AV vs.length cV,rfl,⟨hpool,hcnt,hen,hcw,by rw[←pcb];exact C2.out.row,N2.out,QT (own_kept VW.out.own K2.out (by rw[pcb];exact hcb5) (by rw[pmb];exact hmb5)) (by omega)⟩⟩⟩
            replace HT:=zH HT
            replace hcnt:=zH hcnt
            replace hpool:=zH hpool
            replace hen:=zH hen
            replace hle:=zH hle
            go_wp2_with fail
            exact vc rfl rfl rfl HT.out
def zZ (S:Sto) (a:Nat):Nat:=(S.now[a]?.getD 0).toNat
def Jj (S:Sto) (a:Int):Int:=if qB S=true then (if 8≤a∧a<256 then (if zZ S a.toNat=0 then 6 else 0) else 2) else 8
theorem qaN {S:Sto} (h:qB S=false) (a:Int):Jj S a=8:=by unfold Jj;rw[h];simp
theorem qbn {S:Sto} (h:qB S=true) {a:Int} (ha:¬(8≤a∧a<256)):Jj S a=2:=by unfold Jj;rw[if_pos h,if_neg ha]
theorem qdK {S:Sto} (h:qB S=true) {a:Nat} (ha:8≤a) (ha2:a<256):Jj S (a:Int)=if zZ S a=0 then 6 else 0:=by
 unfold Jj
 rw[if_pos h,if_pos (by omega),Int.toNat_natCast]
theorem Th {S:Sto} {a:Int} (h:Jj S a=0):qB S=true∧∃ n:Nat,a=(n:Int)∧8≤n∧n<256∧zZ S n≠0:=by
 unfold Jj at h
 split at h
 ·rename_i hm
  split at h
  ·rename_i hr
   split at h
   ·cases h
   ·rename_i hn
    obtain⟨n,hna⟩:=Int.eq_ofNat_of_zero_le (show 0≤a by omega)
    subst hna
    exact⟨hm,n,rfl,by omega,by omega,by simpa using hn⟩
  ·cases h
 ·cases h
theorem kG {S:Sto} (hS:qB S=true) {w:World} {B:Nat} {v:Value} (h:Bys w B v S.now):∃ b o c,v=.slice (some ⟨b,o,none⟩) 256 c∧b<B∧∀ a,a<256→w.cell? ⟨b,o+a,none⟩=some (.int .u8 (zZ S a:Int)):=by
 obtain⟨-,-,hl,-⟩:=qQ hS
 obtain⟨A,c,e,hc,hm,hr⟩:=h
 obtain⟨b,o,rfl,hb,hcell⟩:=hr.2 (by omega)
 rw[hl] at e
 exact⟨b,o,c,e,hb,fun a ha=>hcell a _ (by rw[List.getElem?_map,List.getElem?_eq_getElem (by omega)];unfold zZ;rw[List.getElem?_eq_getElem (by omega)];rfl)⟩
set_option maxHeartbeats 2000000 in
set_option maxRecDepth 100000 in
theorem qcT (A1:Option Addr) (n1 c1:Nat) (A2:Option Addr) (n2 c2:Nat) (A3:Option Addr) (n3 c3:Nat) (A4:Option Addr) (n4 c4:Nat) (S:Sto) (a:Int) (w:World) (h:qH w w.heap.size (.slice A1 n1 c1) (.slice A2 n2 c2) (.slice A3 n3 c3) (.slice A4 n4 c4) S) :
  Calls Tryz.prog 78 #[Qy A1 n1 c1 A2 n2 c2 A3 n3 c3 A4 n4 c4,.int .i64 a] w (Ret (.int .i64 (Jj S a)) w):=by
 have HC:=zH (fun W (hx:Ext w W)=>JQ A1 n1 c1 A2 n2 c2 A3 n3 c3 A4 n4 c4 S W (h.ext hx))
 replace h:=zH h
 go_enter Tryz.func78,Tryz.ntmps78
 go_wp2_with fail
 generalize hw1:(World.alloc w _)=w1
 have x1:Ext w w1:=by rw[←hw1];exact Ext.alloc _ _
 have r1:w1.heap[w.heap.size]?=some (.cells #[.slice A1 n1 c1,.slice A2 n2 c2,.slice A3 n3 c3,.slice A4 n4 c4] 28 (0,0)):=by rw[←hw1];exact World.alloc_heap_at _ _ _ rfl
 clear hw1
 refine(HC.out w1 x1).mono ?_
 clear HC
 rintro e w2 ⟨rfl,hB⟩
 have x2:Ext w w2:=x1.trans hB
 have r2:=qc r1 hB
 clear hB r1 x1
 rcases hS:qB S with _|_
 ·have hq:=zH (qaN hS a)
  replace hS:=zH hS
  rw[ju rfl]
  go_wp2_with fail
  go_ret
  exact⟨by rw[hq.out];rfl,x2⟩
 ·rw[jw rfl]
  by_cases hr:8≤a∧a<256
  ·obtain⟨n,hna⟩:=Int.eq_ofNat_of_zero_le (show 0≤a by omega)
   subst hna
   have hn8:8≤n:=by omega
   have hn256:n<256:=by omega
   have hq:=qdK hS hn8 hn256
   obtain⟨b,o,c,e3,hb,hcell⟩:=kG hS h.out.now
   have hcn:=Ext.cell x2 (hcell n hn256)
   generalize zZ S n=nw at *
   cases e3
   have k2:=qa r2
   have d1:decide ((n:Int)<8)=false:=decide_eq_false (by omega)
   have d2:decide ((n:Int)≥256)=false:=decide_eq_false (by omega)
   clear hr hcell
   replace hS:=zH hS
   rcases Nat.eq_zero_or_pos nw with h0|h0
   ·have hz1:((nw:Int) == 0)=true:=by rw[beq_iff_eq];omega
    have hz2:decide (nw=0)=true:=decide_eq_true h0
    rw[if_pos h0] at hq
    replace hq:=zH hq
    replace h0:=zH h0
    go_wp2_with fail
    go_ret
    exact⟨by rw[hq.out];rfl,x2⟩
   ·have hz1:((nw:Int) == 0)=false:=by rw[beq_eq_false_iff_ne];omega
    have hz2:decide (nw=0)=false:=decide_eq_false (by omega)
    rw[if_neg (by omega)] at hq
    replace hq:=zH hq
    replace h0:=zH h0
    go_wp2_with fail
    go_ret
    exact⟨by rw[hq.out];rfl,x2⟩
  ·have hq:=zH (qbn hS hr)
   replace hS:=zH hS
   by_cases h8:a<8
   ·have d1:decide (a<8)=true:=decide_eq_true h8
    replace hr:=zH hr
    go_wp2_with fail
    go_ret
    exact⟨by rw[hq.out];rfl,x2⟩
   ·have d1:decide (a<8)=false:=decide_eq_false h8
    have d2:decide (a≥256)=true:=decide_eq_true (by omega)
    replace hr:=zH hr
    go_wp2_with fail
    go_ret
    exact⟨by rw[hq.out];rfl,x2⟩
set_option maxHeartbeats 2000000 in
set_option maxRecDepth 100000 in
theorem qbK (A1:Option Addr) (n1 c1:Nat) (A2:Option Addr) (n2 c2:Nat) (A3:Option Addr) (n3 c3:Nat) (A4:Option Addr) (n4 c4:Nat) (S:Sto) (a:Int) (w:World) (h:qH w w.heap.size (.slice A1 n1 c1) (.slice A2 n2 c2) (.slice A3 n3 c3) (.slice A4 n4 c4) S) :
  Calls Tryz.prog 81 #[Qy A1 n1 c1 A2 n2 c2 A3 n3 c3 A4 n4 c4,.int .i64 a] w (Ret (.int .i64 (Jj S a)) w):=by
 have HC:=zH (fun W (hx:Ext w W)=>JQ A1 n1 c1 A2 n2 c2 A3 n3 c3 A4 n4 c4 S W (h.ext hx))
 replace h:=zH h
 go_enter Tryz.func81,Tryz.ntmps81
 go_wp2_with fail
 generalize hw1:(World.alloc w _)=w1
 have x1:Ext w w1:=by rw[←hw1];exact Ext.alloc _ _
 have r1:w1.heap[w.heap.size]?=some (.cells #[.slice A1 n1 c1,.slice A2 n2 c2,.slice A3 n3 c3,.slice A4 n4 c4] 28 (0,0)):=by rw[←hw1];exact World.alloc_heap_at _ _ _ rfl
 clear hw1
 refine(HC.out w1 x1).mono ?_
 clear HC
 rintro e w2 ⟨rfl,hB⟩
 have x2:Ext w w2:=x1.trans hB
 have r2:=qc r1 hB
 clear hB r1 x1
 rcases hS:qB S with _|_
 ·have hq:=zH (qaN hS a)
  replace hS:=zH hS
  rw[ju rfl]
  go_wp2_with fail
  go_ret
  exact⟨by rw[hq.out];rfl,x2⟩
 ·rw[jw rfl]
  by_cases hr:8≤a∧a<256
  ·obtain⟨n,hna⟩:=Int.eq_ofNat_of_zero_le (show 0≤a by omega)
   subst hna
   have hn8:8≤n:=by omega
   have hn256:n<256:=by omega
   have hq:=qdK hS hn8 hn256
   obtain⟨b,o,c,e3,hb,hcell⟩:=kG hS h.out.now
   have hcn:=Ext.cell x2 (hcell n hn256)
   generalize zZ S n=nw at *
   cases e3
   have k2:=qa r2
   have d1:decide ((n:Int)<8)=false:=decide_eq_false (by omega)
   have d2:decide ((n:Int)≥256)=false:=decide_eq_false (by omega)
   clear hr hcell
   replace hS:=zH hS
   rcases Nat.eq_zero_or_pos nw with h0|h0
   ·have hz1:((nw:Int) == 0)=true:=by rw[beq_iff_eq];omega
    have hz2:decide (nw=0)=true:=decide_eq_true h0
    rw[if_pos h0] at hq
    replace hq:=zH hq
    replace h0:=zH h0
    go_wp2_with fail
    go_ret
    exact⟨by rw[hq.out];rfl,x2⟩
   ·have hz1:((nw:Int) == 0)=false:=by rw[beq_eq_false_iff_ne];omega
    have hz2:decide (nw=0)=false:=decide_eq_false (by omega)
    rw[if_neg (by omega)] at hq
    replace hq:=zH hq
    replace h0:=zH h0
    go_wp2_with fail
    go_ret
    exact⟨by rw[hq.out];rfl,x2⟩
  ·have hq:=zH (qbn hS hr)
   replace hS:=zH hS
   by_cases h8:a<8
   ·have d1:decide (a<8)=true:=decide_eq_true h8
    replace hr:=zH hr
    go_wp2_with fail
    go_ret
    exact⟨by rw[hq.out];rfl,x2⟩
   ·have d1:decide (a<8)=false:=decide_eq_false h8
    have d2:decide (a≥256)=true:=decide_eq_true (by omega)
    replace hr:=zH hr
    go_wp2_with fail
    go_ret
    exact⟨by rw[hq.out];rfl,x2⟩
end Go.Proofs.YtckhnchnbeoogaaGreat
namespace Go.Proofs.YtckhnchnbeoogaaGreat
open Go.RowKit Go.Shelf
attribute [local go_sem] Oper.semAt_some
def Kn (S:Sto) (a:Nat):Nat:=(S.last[a]?.getD 0).toNat
def Je (S:Sto) (a:Nat):Bool:=decide (8≤a) && (decide (zZ S a=0) && decide (Kn S a=0))
def zP (S:Sto) (k:Nat):List Nat:=(List.range k).filter (Je S)
def Qh (S:Sto):List Nat:=zP S 256
theorem VP (S:Sto) (k:Nat):zP S (k+1)=if Je S k=true then zP S k++[k] else zP S k:=by
 unfold zP
 rw[List.range_succ,List.filter_append]
 by_cases h:Je S k=true
 ·rw[if_pos h];simp[h]
 ·rw[if_neg h];simp[h]
theorem Tn (S:Sto) (k:Nat):(zP S k).length≤k:=Nat.le_trans (List.length_filter_le _ _) (by simp)
theorem qbT (S:Sto):zP S 8=[]:=by
 unfold zP
 rw[List.filter_eq_nil_iff]
 intro a ha
 have:a<8:=by simpa using ha
 unfold Je
 simp[show ¬8≤a by omega]
theorem qcF (S:Sto) {k m:Nat} (h:k≤m):zP S k <+: zP S m:=by
 induction m with
 |zero =>
  obtain rfl:k=0:=by omega
  exact List.prefix_refl _
 |succ m ih =>
  rcases Nat.lt_or_ge m k with h1|h1
  ·obtain rfl:k=m+1:=by omega
   exact List.prefix_refl _
  ·refine(ih h1).trans ?_
   rw[VP]
   split
   ·exact List.prefix_append _ _
   ·exact List.prefix_refl _
theorem nowN_lt (S:Sto) (a:Nat):zZ S a<256:=UInt8.toNat_lt _
theorem lastN_lt (S:Sto) (a:Nat):Kn S a<256:=UInt8.toNat_lt _
theorem or_zero (a b:Nat) (ha:a<256) (hb:b<256):(bits .or .u8 (a:Int) (b:Int) == 0)=(decide (a=0) && decide (b=0)):=by
 have e:bits .or .u8 (a:Int) (b:Int)=((a ||| b:Nat):Int):=by
  have e:∀ n:Nat,n<256→(BitVec.ofInt 8 (n:Int)).toNat=n:=fun n hn=>by simp[BitVec.ofInt_natCast];omega
  have hx:a ||| b<2 ^ 8:=Nat.or_lt_two_pow (by omega) (by omega)
  show IntKind.u8.wrap (((BitVec.ofInt 8 (a:Int) ||| BitVec.ofInt 8 (b:Int)).toNat:Nat):Int)=_
  rw[BitVec.toNat_or,e a ha,e b hb]
  simp[IntKind.wrap,IntKind.bits,IntKind.signed]
  omega
 rw[e]
 by_cases h:a=0∧b=0
 ·obtain⟨rfl,rfl⟩:=h;rfl
 ·have h2:a ||| b≠0:=by
   intro h3
   have h4:a≤a ||| b:=Nat.left_le_or
   have h5:b≤a ||| b:=Nat.right_le_or
   exact h ⟨by omega,by omega⟩
  have h6:(decide (a=0) && decide (b=0))=false:=by
   rcases Nat.eq_zero_or_pos a with h7|h7
   ·have:b≠0:=fun h8=>h ⟨h7,h8⟩
    simp[this]
   ·simp[show a≠0 by omega]
  rw[h6]
  simpa using fun h9:((a ||| b:Nat):Int)=0=>h2 (by omega)
theorem qdE {S:Sto} (hS:qB S=true) {w:World} {B:Nat} {v:Value} (h:Bys w B v S.last):∃ b o c,v=.slice (some ⟨b,o,none⟩) 256 c∧b<B∧∀ a,a<256→w.cell? ⟨b,o+a,none⟩=some (.int .u8 (Kn S a:Int)):=by
 obtain⟨-,-,-,hl⟩:=qQ hS
 obtain⟨A,c,e,hc,hm,hr⟩:=h
 obtain⟨b,o,rfl,hb,hcell⟩:=hr.2 (by omega)
 rw[hl] at e
 exact⟨b,o,c,e,hb,fun a ha=>hcell a _ (by rw[List.getElem?_map,List.getElem?_eq_getElem (by omega)];unfold Kn;rw[List.getElem?_eq_getElem (by omega)];rfl)⟩
set_option maxRecDepth 100000 in
set_option maxHeartbeats 4000000 in
theorem free_in (n:Nat) (hn:1≤n) (l bs n₀:Nat) (v1 v2 v3 v4:Value) (S:Sto) (hS:qB S=true) (J Jx:List Nat→World→Prop)
  (hY:∀ pre x W,J pre W→pre.length<256→YieldAt Fence.wide (n-1) Tryz.prog l #[.int .i64 ((x:Nat):Int)] W fun e W'=>(e=.returned (.bool true)∧J (pre++[x]) W'∧Below n₀ W W')∨(e=.returned (.bool false)∧Jx (pre++[x]) W'))
  (hJ:∀ pre W W',J pre W→Ext W W'→J pre W')
  (W:World) (hbs:bs<n₀) (hn₀:n₀≤W.heap.size) (hrow:W.heap[bs]?=some (.cells #[v1,v2,v3,v4] 28 (0,0))) (hst:qH W n₀ v1 v2 v3 v4 S) (h0:J [] W) :
  CallsIn Fence.wide n Tryz.prog 103 #[.func (.yield l) #[] #[],.pointer (some ⟨bs,0,none⟩)] W fun e W'=>(∃ v,e=.returned v)∧((∃ ys,ys=Qh S∧J ys W')∨(∃ pre,pre <+: Qh S∧Jx pre W')):=by
 obtain⟨b3,o3,c3,rfl,hb3,hc3⟩:=kG hS hst.now
 obtain⟨b4,o4,c4,rfl,hb4,hc4⟩:=qdE hS hst.last
 replace hst:=zH hst
 refine callsIn_of_wp Tryz.func103 rfl trivial ?_ rfl
 simp only[Tryz.ntmps103,List.size_toArray,List.length_cons,List.length_nil,Nat.reduceAdd,Nat.reduceSub,Array.replicate_succ,Array.replicate_zero,List.push_toArray,List.append_toArray,List.nil_append,List.cons_append]
 gi_wp2_with fail
 gi_loopw [3] (fun i wr=>∃ k:Nat,8≤k∧k≤256∧i=.int .i64 (k:Int)∧J (zP S k) wr∧Below n₀ W wr) (fun i _=>256-(intOf i).toNat)
 case atStart=>exact⟨8,by omega,by omega,rfl,by rw[qbT];exact h0,Below.refl _ _⟩
 case round =>
  obtain⟨k,hk8,hk,rfl,hJs,hB⟩:=hrel
  have hro:=(hB.block bs hbs).trans hrow
  by_cases hlt:k<256
  ·have hcx:=(World.cell?_of_block (a:=⟨b3,o3+k,none⟩) (hB.block b3 hb3)).trans (hc3 k hlt)
   have hcy:=(World.cell?_of_block (a:=⟨b4,o4+k,none⟩) (hB.block b4 hb4)).trans (hc4 k hlt)
   have gS:∀ W',qu.r wr W'→∀ i,W'.cell? ⟨bs,i,none⟩=#[v1,v2,.slice (some ⟨b3,o3,none⟩) 256 c3,.slice (some ⟨b4,o4,none⟩) 256 c4][i]?:=fun W' h=>qa (qc hro h)
   have gX:∀ W',qu.r wr W'→W'.cell? ⟨b3,o3+k,none⟩=some (.int .u8 (zZ S k:Int)):=fun W' h=>Ext.cell h hcx
   have gY:∀ W',qu.r wr W'→W'.cell? ⟨b4,o4+k,none⟩=some (.int .u8 (Kn S k:Int)):=fun W' h=>Ext.cell h hcy
   have hsu:=zH (VP S k)
   have hfb:Je S k=(decide (zZ S k=0) && decide (Kn S k=0)):=by unfold Je;simp[hk8]
   have hbz:(bits .or .u8 ((zZ S k:Nat):Int) ((Kn S k:Nat):Int) == 0)=Je S k:=or_zero _ _ (nowN_lt S k) (lastN_lt S k) ▸ hfb.symm
   generalize zZ S k=nw at *
   generalize Kn S k=lw at *
   replace hfb:=zH hfb
   replace hc3:=zH hc3
   replace hc4:=zH hc4
   replace hro:=zH hro
   have hln:=zH (Tn S k)
   clear hcx hcy
   rcases Bool.eq_false_or_eq_true (Je S k) with hfr|hfr
   ·rw[hfr] at hbz
    replace hsu:=zH ((if_pos hfr) ▸ hsu.out)
    replace hfr:=zH hfr
    gi_upto_region 3 with fail
    refine vz qu (qE []) (List.replicate 15 true) 3 wideF (by kernel_rfl) (by kernel_rfl) (by kernel_rfl) (by kernel_rfl) (by kernel_rfl) (by kernel_rfl) (by kernel_rfl) (by kernel_rfl) (by kernel_rfl) ?st (Rel.drew _ _) ?walk
    case st=>intro i h hx;simp[qE] at hx
    case walk =>
     intro K hK
     dsimp only[qz,List.replicate]
     repeat ((first|(refine qf ?_ (by rfl) (by rfl) (fun W hW _=>⟨W,?_,Rel.refl _ W⟩) ?_;rotate_left;(first|(go_simp;with_reducible rfl)|(go_simp;done)))|(refine qj (by rfl) ?_));try simp only[Act.put,qi,qe,qb,qg,zA,zB,zC])
     first
      |(refine qf (.pointer (some ⟨b3,o3+k,none⟩)) (by rfl) (by rfl) (fun W hW _=>⟨W,?_,Rel.refl _ W⟩) ?_
        ·go_simp
         rw[IntWalk.i64_in (k:Int) (by omega),if_pos (by omega)]
         simp
        simp only[Act.put,qi,qe,qb,qg,zA,zB,zC])
      |skip
     repeat ((first|(refine qf ?_ (by rfl) (by rfl) (fun W hW _=>⟨W,?_,Rel.refl _ W⟩) ?_;rotate_left;(first|(go_simp;with_reducible rfl)|(go_simp;done)))|(refine qj (by rfl) ?_));try simp only[Act.put,qi,qe,qb,qg,zA,zB,zC])
     first
      |(refine qf (.pointer (some ⟨b4,o4+k,none⟩)) (by rfl) (by rfl) (fun W hW _=>⟨W,?_,Rel.refl _ W⟩) ?_
        ·go_simp
         rw[IntWalk.i64_in (k:Int) (by omega),if_pos (by omega)]
         simp
        simp only[Act.put,qi,qe,qb,qg,zA,zB,zC])
      |skip
     repeat ((first|(refine qf ?_ (by rfl) (by rfl) (fun W hW _=>⟨W,?_,Rel.refl _ W⟩) ?_;rotate_left;(first|(go_simp;with_reducible rfl)|(go_simp;done)))|(refine qj (by rfl) ?_));try simp only[Act.put,qi,qe,qb,qg,zA,zB,zC])
     refine qD (hK _ _ fun W2 hW hF=>?_)
     clear hF hK
     dsimp only[List.drop,List.length_cons,List.length_nil]
     obtain⟨fn,tm,asg,bdy,hy,hR⟩:=hY (zP S k) k W2 (hJ _ _ _ hJs hW) (by have:=hln.out;omega)
     gi_wp2_with fail
     refine hR.mono ?_
     rintro e W3 (⟨rfl,hJ3,hk3⟩|⟨rfl,hJx3⟩)
     ·gi_wp2_with fail
      go_roundw
      case rel=>exact⟨k+1,by omega,by omega,by go_num,by rw[hsu.out];exact hJ3,hB.trans ((Below.mono hW (Nat.le_trans hn₀ hB.size)).trans hk3)⟩
      case measure=>simp[intOf];omega
     ·gi_wp2_with fail
      refine bodyPost_ret (results_none rfl _ _ _) rfl ?_
      exact⟨⟨_,rfl⟩,.inr ⟨_,hsu.out ▸ qcF S (by omega),hJx3⟩⟩
   ·rw[hfr] at hbz
    replace hsu:=zH ((if_neg (show ¬Je S k=true by rw[hfr];decide)) ▸ hsu.out)
    replace hfr:=zH hfr
    gi_upto_region 3 with fail
    refine vz qu (qE []) (List.replicate 15 true) 3 wideF (by kernel_rfl) (by kernel_rfl) (by kernel_rfl) (by kernel_rfl) (by kernel_rfl) (by kernel_rfl) (by kernel_rfl) (by kernel_rfl) (by kernel_rfl) ?st (Rel.drew _ _) ?walk
    case st=>intro i h hx;simp[qE] at hx
    case walk =>
     intro K hK
     dsimp only[qz,List.replicate]
     repeat ((first|(refine qf ?_ (by rfl) (by rfl) (fun W hW _=>⟨W,?_,Rel.refl _ W⟩) ?_;rotate_left;(first|(go_simp;with_reducible rfl)|(go_simp;done)))|(refine qj (by rfl) ?_));try simp only[Act.put,qi,qe,qb,qg,zA,zB,zC])
     first
      |(refine qf (.pointer (some ⟨b3,o3+k,none⟩)) (by rfl) (by rfl) (fun W hW _=>⟨W,?_,Rel.refl _ W⟩) ?_
        ·go_simp
         rw[IntWalk.i64_in (k:Int) (by omega),if_pos (by omega)]
         simp
        simp only[Act.put,qi,qe,qb,qg,zA,zB,zC])
      |skip
     repeat ((first|(refine qf ?_ (by rfl) (by rfl) (fun W hW _=>⟨W,?_,Rel.refl _ W⟩) ?_;rotate_left;(first|(go_simp;with_reducible rfl)|(go_simp;done)))|(refine qj (by rfl) ?_));try simp only[Act.put,qi,qe,qb,qg,zA,zB,zC])
     first
      |(refine qf (.pointer (some ⟨b4,o4+k,none⟩)) (by rfl) (by rfl) (fun W hW _=>⟨W,?_,Rel.refl _ W⟩) ?_
        ·go_simp
         rw[IntWalk.i64_in (k:Int) (by omega),if_pos (by omega)]
         simp
        simp only[Act.put,qi,qe,qb,qg,zA,zB,zC])
      |skip
     repeat ((first|(refine qf ?_ (by rfl) (by rfl) (fun W hW _=>⟨W,?_,Rel.refl _ W⟩) ?_;rotate_left;(first|(go_simp;with_reducible rfl)|(go_simp;done)))|(refine qj (by rfl) ?_));try simp only[Act.put,qi,qe,qb,qg,zA,zB,zC])
     refine qD (hK _ _ fun W2 hW hF=>?_)
     clear hF hK
     dsimp only[List.drop,List.length_cons,List.length_nil]
     refine⟨fun _ h=>(by cases h),?_⟩
     gi_wp2_with fail
     go_roundw
     case rel=>exact⟨k+1,by omega,by omega,by go_num,by rw[hsu.out];exact hJ _ _ _ hJs hW,hB.trans (Below.mono hW (Nat.le_trans hn₀ hB.size))⟩
     case measure=>simp[intOf];omega
  ·gi_wp2_with fail
   obtain rfl:k=256:=by omega
   go_end0
   exact⟨⟨_,rfl⟩,.inl ⟨_,rfl,hJs⟩⟩
end Go.Proofs.YtckhnchnbeoogaaGreat
namespace Go.Proofs.YtckhnchnbeoogaaGreat
open Go.RowKit
theorem UG {F:Fence} {n:Nat} {P:Program} {ops:Array Oper} {l:List Oper} {a:Act} {w:World} {Q:Exit→Act→World→Prop} (h:Qc (wpListIn F n P ops Q l a w)):wpListIn F n P ops Q l a w:=h
theorem Ux {F:Fence} {nf:Nat} {P:Program} (w:World) {ops:Array Oper} {rest:List Oper} {o:Oper} {a:Act} {Q:Exit→Act→World→Prop} (hgd:o.guard=none) (s x:Operand) (t:TypeId)
  (ho:o.op=.call { callee:=.builtin .append,args:=#[s,x],argTypes:=#[t,t] })
  (base:Nat) (e:TypeId) (i:TypeInfo) (z:Value) (size bytes:Nat) (ht:P.underlying t=some (.slice e)) (hi:P.info? e=some i) (hz:i.zero=some z)
  (hsize:i.size=size) (hby:i.bytes=bytes) (hzs:z.cells.size=size) (hsz:0<size)
  (v:Value) (n:Nat) (xs:List Value) (hs:a.eval s=v) (hown:w.ownsRow base e size v n xs) (cs:Array Value)
  (hx:a.eval x=.slice (some ⟨w.heap.size,0,none⟩) 1 1) (hl:cs.size=size) (h1:∀ u∈cs.toList,u.oneCell'=true)
  (hn:n<1073741824) (hbytes:bytes≤65536) (hbase:base≤w.heap.size)
  (h:∀ v' w',w'.ownsRow base e size v' (n+1) (xs++cs.toList)→w.grownBy w' v.ownBlock→(v'.ownBlock=v.ownBlock∨∃ g,v'.ownBlock=some g∧w.heap.size≤g)→wpListIn F nf P ops Q rest (a.put o.dst v') w') :
  wpListIn F nf P ops Q (o :: rest) a (w.alloc (.cells cs e)):=by
 refine wpListIn_plain hgd fun K hK=>?_
 have hb:(n+1)*bytes≤140737488355328:=Nat.le_trans (Nat.mul_le_mul_left _ hbytes) (by omega)
 have hm:n+1≤maxLen:=by unfold maxLen;omega
 obtain⟨v',w',hrun,h2,h3,_,h5⟩:=run_append_own_at (P:=P) (w.alloc (.cells cs e)) base t o.type e i z size bytes ht hi hz hsize hby hzs hsz v n xs (hown.alloc _) ⟨w.heap.size,0,none⟩ 1 1 cs.toList
  (by rw[Array.length_toList];omega) (qaQ w cs e) h1 hm hb (by simp;omega)
 have hg:w.grownBy w' v.ownBlock:=⟨h3.os,h3.tape,h3.output,Nat.le_trans (by simp) h3.size,fun k hk hne=>(h3.block k (by simp;omega) hne).trans (Below.heap_alloc w _ k hk)⟩
 unfold Oper.wpIn
 refine⟨?_,?_⟩
 ·simp[Oper.about,ho,resolve,Target.leads,Sem.run_pure]
 ·rw[Oper.semAt_plain F _ _ (by rw[ho];intro c hc';cases hc')]
  simp only[execOp,ho,resolve,invoke,builtin,Sem.run_bind,Sem.run_pure,Result.andThen_ok,List.map_toArray,List.map_cons,List.map_nil,hs,hx,hrun]
  exact hK _ _ (h v' w' h2 hg (h5.imp id fun e=>⟨_,e,by simp⟩))
def RefsQ (S:Sto) (root next:Int) (dead:List Int) (w:World) (e:Ending) (w':World):Prop:=Below w.heap.size w w' ∧
 ((e=.returned (.tuple #[.slice none 0 0,.int .i64 8])∧∀ vs,QM S root next dead vs→∃ refs nodes,Qj S (zl root dead vs) refs nodes∧¬QY S refs) ∨
  ∃ vs refs nodes cb ca vv lo,e=.returned (.tuple #[.slice (some ⟨cb,6,none⟩) 256 256,.int .i64 0])∧w.heap.size≤lo∧Taken S root next dead vs refs nodes lo cb ca vv w')
theorem qbm {R:Ending→World→Prop} {a:Act} {W:World} {u v:Value} (h2:a.tmps[2]?.getD undef=u) (h3:a.tmps[3]?.getD undef=v) (hd:a.defers=[]) (hR:R (.returned (.tuple #[u,v])) W):bodyPost Tryz.prog Tryz.f75 R .ret a W:=by
 refine bodyPost_ret (v:=.tuple #[u,v]) ?_ hd hR
 simp[results,Tryz.results75,go_sem,h2,h3]
set_option maxHeartbeats 2000000 in
set_option maxRecDepth 100000 in
theorem refs_any (A1:Option Addr) (n1 c1:Nat) (A2:Option Addr) (n2 c2:Nat) (A3:Option Addr) (n3 c3:Nat) (A4:Option Addr) (n4 c4:Nat) (gen root next:Int) (A5:Option Addr) (c5:Nat) (S:Sto) (dead:List Int) (w:World)
  (h:qH w w.heap.size (.slice A1 n1 c1) (.slice A2 n2 c2) (.slice A3 n3 c3) (.slice A4 n4 c4) S) (hd:QF w w.heap.size (.slice A5 dead.length c5) dead) :
  Calls Tryz.prog 75 #[.agg (qC (.slice A1 n1 c1) (.slice A2 n2 c2) (.slice A3 n3 c3) (.slice A4 n4 c4) gen root next (.slice A5 dead.length c5))] w (RefsQ S root next dead w):=by
 have HT:=zH (fun W (hx:Ext w W)=>Ub A1 n1 c1 A2 n2 c2 A3 n3 c3 A4 n4 c4 gen root next A5 c5 S dead W (h.ext hx) (by
  obtain⟨A,c,e,q1,q2,q3⟩:=hd
  exact⟨A,c,e,q1,q2,(q3.below hx).more hx.size⟩))
 clear h hd
 go_enter Tryz.func75,Tryz.ntmps75
 go_wp2_with fail
 generalize hw1:World.alloc w _=w1
 have x1:Ext w w1:=by rw[←hw1];exact Ext.alloc _ _
 clear hw1
 refine(HT.out w1 x1).mono ?_
 rintro e w2 ⟨hB,hQ⟩
 have x2:Below w.heap.size w w2:=Ext.trans x1 hB
 rcases hQ with ⟨rfl,hno⟩|⟨vs,refs,nodes,cb,ca,vv,rfl,hT⟩
 ·have HB:RefsQ S root next dead w (.returned (.tuple #[.slice none 0 0,.int .i64 8])) w2:=⟨x2,.inl ⟨rfl,hno⟩⟩
  replace HB:=zH HB
  clear hno hB
  go_wp2_with fail
  exact qbm rfl rfl rfl HB.out
 ·have HB:RefsQ S root next dead w (.returned (.tuple #[.slice (some ⟨cb,6,none⟩) 256 256,.int .i64 0])) w2:=⟨x2,.inr ⟨vs,refs,nodes,cb,ca,vv,_,rfl,x1.size,hT⟩⟩
  replace HB:=zH HB
  clear hT hB
  go_wp2_with fail
  exact qbm rfl rfl rfl HB.out
end Go.Proofs.YtckhnchnbeoogaaGreat
