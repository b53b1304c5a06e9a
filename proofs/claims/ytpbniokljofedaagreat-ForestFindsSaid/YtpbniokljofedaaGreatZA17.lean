/- Texts Take, AskR, Up, DWrite, Mix, ShareR, LooseR, joined. -/
import Derived.ChangeKeysEq
import Derived.Test.YtpbniokljofedaaGreatZA03
import Derived.Test.YtpbniokljofedaaGreatZA08
import Derived.Test.YtpbniokljofedaaGreatZA09
import Derived.Test.YtpbniokljofedaaGreatZA10
import Derived.Test.YtpbniokljofedaaGreatZA16
set_option linter.unusedSimpArgs false
set_option linter.unusedVariables false
namespace Go.Proofs.YtpbniokljofedaaGreat
open Go.RowKit
def outOn (lo B:Nat) (A1:Option Addr) (n1 c1:Nat) (A2:Option Addr) (n2:Nat) (n3:Nat) (A4:Option Addr) (n4 c4:Nat) (S:Sto):qO:=⟨Nat,fun b=>.pointer (some ⟨b,0,none⟩),fun b W=>∃ A3' c3',OnB lo b (.slice A1 n1 c1) (.slice A2 n2 n2) (.slice A3' n3 c3') (.slice A4 n4 c4) S W∧zm lo (.slice A3' n3 c3')⟩
theorem XT (lo B:Nat) (A1:Option Addr) (n1 c1:Nat) (A2:Option Addr) (n2:Nat) (n3:Nat) (A4:Option Addr) (n4 c4:Nat) (S:Sto) (b:Nat):(outOn lo B A1 n1 c1 A2 n2 n3 A4 n4 c4 S).f b=.pointer (some ⟨b,0,none⟩):=rfl
theorem GX (lo B:Nat) (A1:Option Addr) (n1 c1:Nat) (A2:Option Addr) (n2:Nat) (n3:Nat) (A4:Option Addr) (n4 c4:Nat) (S:Sto):∀ p,Qx ((outOn lo B A1 n1 c1 A2 n2 n3 A4 n4 c4 S).φ p):=fun p W W' he ⟨A,c,⟨h1,h2,h3⟩,h4⟩=>⟨A,c,⟨h1,qc h2 he,h3.ext he⟩,h4⟩
def GV (lo:Nat):qO:=⟨Nat,fun b=>.map (some b),fun b W=>lo≤b∧b<W.heap.size∧QS W b fun _=>none⟩
theorem Yx (lo b:Nat):(GV lo).f b=.map (some b):=rfl
theorem UE (lo:Nat):∀ p,Qx ((GV lo).φ p):=fun p W W' he ⟨h1,h2,h3⟩=>⟨h1,Nat.lt_of_lt_of_le h2 he.size,h3.of_heap (he.block p h2)⟩
theorem run_mm (t:TypeId) (W:World):(Instr.makeMap t none).run Tryz.prog W=.ok (.map (some W.heap.size)) (W.alloc (.map #[] 0)):=rfl
theorem run_bx (cs:Array Value) (t:TypeId) (W:World):(Instr.box t (.agg cs)).run Tryz.prog W=.ok (.pointer (some ⟨W.heap.size,0,none⟩)) (W.alloc (.cells cs t)):=rfl
theorem Ks {cs:Array Value} {k:Nat} {v:Value} (hk:k<256) (hv:cs[k]?=some v) (W:World):(Instr.index 82 (.agg cs) (.int .i64 (k:Int))).run Tryz.prog W=.ok v W:=by
 obtain⟨i0,hi,hz0,hz1,hz2⟩:=info_parts Tryz.info_int
 have hp:=run_part_plain (P:=Tryz.prog) (w:=W) (e:=3) (by kernel_rfl) hv
 have h0:(0:Int)≤(k:Int)∧(k:Int)<256:=by omega
 simp[Instr.index,asIntOf,run_underlying Tryz.underlying82,h0,sizeOf,typeInfo,hi,hz1,hp,Sem.run_bind]
 intro hge
 omega
theorem JM {R:Ending→World→Prop} {a:Act} {W:World} {u v:Value} (h2:a.tmps[2]?.getD undef=u) (h3:a.tmps[3]?.getD undef=v) (hd:a.defers=[]) (hR:R (.returned (.tuple #[u,v])) W):bodyPost Tryz.prog Tryz.f45 R .ret a W:=by
 refine bodyPost_ret (v:=.tuple #[u,v]) ?_ hd hR
 simp[results,Tryz.results45,go_sem,h2,h3]
set_option maxHeartbeats 4000000 in
set_option maxRecDepth 100000 in
theorem vV (A1:Option Addr) (n1 c1:Nat) (A2:Option Addr) (n2 c2:Nat) (A3:Option Addr) (n3 c3:Nat) (A4:Option Addr) (n4 c4:Nat) (gen root next:Int) (A5:Option Addr) (c5:Nat) (S:Sto) (dead:List Int) (w:World)
  (h:Qc w w.heap.size (.slice A1 n1 c1) (.slice A2 n2 c2) (.slice A3 n3 c3) (.slice A4 n4 c4) S) (hd:Zu w w.heap.size (.slice A5 dead.length c5) dead) :
  Calls Tryz.prog 45 #[.agg (Qo (.slice A1 n1 c1) (.slice A2 n2 c2) (.slice A3 n3 c3) (.slice A4 n4 c4) gen root next (.slice A5 dead.length c5))] w (Ko S root next dead w):=by
 have HCK:=zH (fun W (hx:Ext w W)=>vc A1 n1 c1 A2 n2 c2 A3 n3 c3 A4 n4 c4 S W (h.ext hx))
 have HNL:qo S=true→S.now.length<1073741824:=fun hm=>by have:=(qV hm).2.2.1;omega
 have HON:=zH (fun (hm:qo S=true) W (hx:Ext w W)=>on_any A1 n1 c1 A2 n2 c2 A3 n3 c3 A4 n4 c4 S (HNL hm) W (h.ext hx))
 replace h:=zH h
 replace hd:=zH hd
 clear HNL
 go_enter Tryz.func45,Tryz.ntmps45
 go_wp2_with fail
 generalize hw1:World.alloc w _=w1
 have x1:Ext w w1:=by rw[←hw1];exact Ext.alloc _ _
 have p1:w1.heap[w.heap.size]?=some (.cells (Qo (.slice A1 n1 c1) (.slice A2 n2 c2) (.slice A3 n3 c3) (.slice A4 n4 c4) gen root next (.slice A5 dead.length c5)) 32 (0,0)):=by rw[←hw1];exact World.alloc_heap_at _ _ _ rfl
 clear hw1
 refine(HCK.out w1 x1).mono ?_
 rintro e w2 ⟨rfl,hB⟩
 have x2:=x1.trans hB
 have p2:=qc p1 hB
 have k2:=qa p2
 clear hB p1 x1 HCK
 rcases hmay:qo S with _|_
 ·unfold jy
  have HB:=zH (Ko.bad (S:=S) (next:=next) (root:=root) (dead:=dead) x2 (fun vs hp=>by have:=hp.may;rw[hmay] at this;cases this))
  replace hmay:=zH hmay
  go_wp2_with fail
  exact JM rfl rfl rfl HB.out
 ·unfold jy
  rcases Nat.lt_or_ge 40 dead.length with h40|h40
  ·have hq:decide ((dead.length:Int)>40)=true:=decide_eq_true (by omega)
   have HB:=zH (Ko.bad (S:=S) (next:=next) (root:=root) (dead:=dead) x2 (fun vs hp=>by have:=hp.few;omega))
   replace hmay:=zH hmay
   go_wp2_with fail
   exact JM rfl rfl rfl HB.out
  ·have hq:decide ((dead.length:Int)>40)=false:=decide_eq_false (by omega)
   have hmay':=zH hmay
   clear hmay
   go_wp2_with fail
   have gP:∀ W,ql.r w2 W→∀ i,W.cell? ⟨w.heap.size,i,none⟩=(Qo (.slice A1 n1 c1) (.slice A2 n2 c2) (.slice A3 n3 c3) (.slice A4 n4 c4) gen root next (.slice A5 dead.length c5))[i]?:=fun W h=>qa (qc p2 h)
   have hz2:w.heap.size<w2.heap.size:=(zG.1 p2).1
   refine qm (by kernel_rfl) ?_
   refine qR (w:=w2) ql (qG [(4,outOn w2.heap.size w2.heap.size A1 n1 c1 A2 n2 n3 A4 n4 c4 S),(5,GV w2.heap.size)])
    [true,true,true,true,true,true,true] 2 (by kernel_rfl) (by kernel_rfl) (by kernel_rfl) (by kernel_rfl) (by kernel_rfl) (by kernel_rfl) (by kernel_rfl) ?st (Rel.drew _ _) ?walk
   case st=>exact qk (by simp only[List.forall_mem_cons];exact⟨fun p=>Qw (GX _ _ _ _ _ _ _ _ _ _ _ _ p),fun p=>Qw (UE _ p),fun _ h=>by cases h⟩)
   case walk =>
    intro K hK
    dsimp only[qp]
    repeat ((first|(refine qd ?_ (by rfl) (by rfl) (fun W hW _=>⟨W,?_,Rel.refl _ W⟩) ?_;rotate_left;(first|(go_simp;with_reducible rfl)|(go_simp;done)))|(refine qh (by rfl) ?_));try simp only[Act.put,qi,qe,qb,qf,qb,XT,Yx,zA,zB,zC])
    refine qy (outOn w2.heap.size w2.heap.size A1 n1 c1 A2 n2 n3 A4 n4 c4 S) (by rfl) (by rfl) (fun W hW _=>?_) (fun (bb:Nat)=>?_)
    ·have hWx:Ext w2 W:=hW
     refine Qe ?_ ((HON.out hmay'.out W (x2.trans hWx)).mono fun e w' h=>?_)
     ·go_simp
     ·obtain⟨u,rfl,⟨b,A3',c3',rfl,h1,h2⟩,h3⟩:=h
      exact⟨b,rfl,⟨A3',c3',⟨Nat.le_trans hWx.size h1.1,h1.2⟩,h2.mono hWx.size⟩,h3⟩
    simp only[Act.put,qi,qe,qb,qf,qb,XT,Yx,zA,zB,zC]
    refine qy (GV w2.heap.size) (by rfl) (by rfl) (fun W hW _=>?_) (fun (mb:Nat)=>?_)
    ·have hWx:Ext w2 W:=hW
     have hmm:=run_mm 81 W
     refine Zs (u:=.map (some W.heap.size)) (w':=W.alloc (.map #[] 0)) ?_ ⟨W.heap.size,rfl,⟨hWx.size,by simp,QS.empty W⟩,Ext.alloc _ _⟩
     go_simp
    simp only[Act.put,qi,qe,qb,qf,qb,XT,Yx,zA,zB,zC]
    refine qd (.agg (ca0 (.slice A1 n1 c1) (.slice A2 n2 c2) (.slice A3 n3 c3) (.slice A4 n4 c4) bb mb)) (by rfl) (by rfl) (fun W hW _=>⟨W,?_,Rel.refl _ W⟩) ?_
    ·go_simp
     exact ca_eq _ _ _ _ _ _
    simp only[Act.put,qi,qe,qb,qf,qb,XT,Yx,zA,zB,zC]
    refine qt (hK _ _ fun W hW hF=>?_)
    have hWx:Ext w2 W:=hW
    have HO:=(hF 4).1
    have HM:=(hF 5).1
    clear hF hK gP
    change ∃ A3' c3',_ at HO
    change w2.heap.size≤mb∧mb<W.heap.size∧QS W mb _ at HM
    obtain⟨A3',c3',hon,hfr⟩:=HO
    obtain⟨hm1,hm2,hmap⟩:=HM
    obtain⟨hb1,hrow,hst⟩:=hon
    have xW:=x2.trans hWx
    have pW:=qc p2 hWx
    dsimp only[List.drop,List.length_cons,List.length_nil]
    have hca:=ca0_ar (.slice A1 n1 c1) (.slice A2 n2 c2) (.slice A3 n3 c3) (.slice A4 n4 c4) bb mb
    have hca0:∀ i,i<6→(ca0 (.slice A1 n1 c1) (.slice A2 n2 c2) (.slice A3 n3 c3) (.slice A4 n4 c4) bb mb)[i]?=(#[.slice A1 n1 c1,.slice A2 n2 c2,.slice A3 n3 c3,.slice A4 n4 c4,.pointer (some ⟨bb,0,none⟩),.map (some mb)]:Array Value)[i]?:=fun i hi=>ca0_low _ _ _ _ _ _ hi
    generalize (ca0 (.slice A1 n1 c1) (.slice A2 n2 c2) (.slice A3 n3 c3) (.slice A4 n4 c4) bb mb)=ca at *
    have hbx:=run_bx ca
    replace hca:=zH hca
    replace hca0:=zH hca0
    clear hW hWx x2 p2
    go_wp2_with fail
    refine Qn ?_
    have hcc:W.heap.size=W.heap.size:=rfl
    obtain⟨cb,hcb⟩:∃ cb,cb=W.heap.size:=⟨_,rfl⟩
    generalize hw3:World.alloc W _=w3
    have x3:Ext W w3:=by rw[←hw3];exact Ext.alloc _ _
    have r3:w3.heap[cb]?=some (.cells ca 84 (0,0)):=by rw[←hw3];exact World.alloc_heap_at _ _ _ hcb
    have z3:w3.heap.size=cb+1:=by rw[←hw3,hcb];simp
    clear hw3 hcc
    have hbb:bb<W.heap.size:=(zG.1 hrow).1
    have xw3:=xW.trans x3
    have hsw:w.heap.size≤w2.heap.size:=by omega
    have C3:Cen ⟨S,w.heap.size,w3.heap.size,cb,bb,mb,ca,.slice A1 n1 c1,.slice A2 n2 c2,.slice A3 n3 c3,.slice A4 n4 c4,.slice A1 n1 c1,.slice A2 n2 n2,.slice A3' n3 c3',.slice A4 n4 c4⟩ w3 (fun _=>none):={
     row:=r3
     c0:=hca0.out 0 (by omega)
     c1:=hca0.out 1 (by omega)
     c2:=hca0.out 2 (by omega)
     c3:=hca0.out 3 (by omega)
     c4:=hca0.out 4 (by omega)
     c5:=hca0.out 5 (by omega)
     map:=hmap.of_heap (x3.block _ hm2)
     known:=fun a v hv=>by cases hv
     sto:=h.out.below xw3
     on:=qc hrow x3
     onb:=(h.out.below xw3).bs
     onw:=(h.out.below xw3).ws.clip
     onl:=(h.out.below xw3).last
     onn:=(hst.now.below x3).more x3.size
     onf:=fun A n c e=>by
      have hn:=(Bys.at_ hst.now).2.2.2
      have hl:=(qV hmay'.out).2.2.1
      have hn3:=(Bys.at_ hst.now).1
      obtain⟨b,off,hA,hb⟩:=hn (by omega)
      have e':Value.slice A3' n3 c3'=.slice (some A) n c:=e
      rw[hA] at e'
      simp only[Value.slice.injEq,Option.some.injEq] at e'
      rw[←e'.1]
      show b≠cb
      omega
     low:=by
      show cb<w3.heap.size∧bb<w3.heap.size∧mb<w3.heap.size∧cb≠mb∧bb≠mb∧w3.heap.size≤w3.heap.size∧w.heap.size≤cb∧w.heap.size≤bb∧w.heap.size≤mb∧cb≠bb
      have hne:bb≠mb:=by
       rintro rfl
       obtain⟨es,clock,h1,_⟩:=hmap
       rw[hrow] at h1
       cases h1
      omega
     may:=hmay'.out }
    rw[←hcb]
    have pw3:=qc pW x3
    have hcw:w.heap.size≤cb:=by omega
    have hw3:w.heap.size<cb:=by have:=(zG.1 pW).1;omega
    generalize hpp:(⟨S,w.heap.size,w3.heap.size,cb,bb,mb,ca,.slice A1 n1 c1,.slice A2 n2 c2,.slice A3 n3 c3,.slice A4 n4 c4,.slice A1 n1 c1,.slice A2 n2 n2,.slice A3' n3 c3',.slice A4 n4 c4⟩:CP)=p at C3
    have pS:p.S=S:=by rw[←hpp]
    have pcb:p.cb=cb:=by rw[←hpp]
    have pmb:p.mb=mb:=by rw[←hpp]
    have plo:p.lo=w3.heap.size:=by rw[←hpp]
    have pca:p.ca=ca:=by rw[←hpp]
    have hmb:w.heap.size<mb:=by have:=(zG.1 pW).1;omega
    clear hpp hbx hmap hst hrow hfr pW x3 r3 z3 hb1 hm1 hm2 hbb hcb
    have kp:=qa pw3
    go_wp2_with fail
    have HLR:=TH p root w3 _ C3
    rw[pcb] at HLR
    refine HLR.mono ?_
    rintro e w4 ⟨v,g,rfl,⟨lvl,A,n,c,fk,lk,rfl,hknown⟩,hgr,hm,hg,hn⟩
    have C4:=C3.after hgr hm hg hn
    rw[pS] at hknown ⊢
    have hz3:cb<w3.heap.size:=by rw[←pcb];exact(zG.1 C3.row).1
    have x4:Below w.heap.size w w4:=xw3.grown hg (by omega) (fun q hq=>by cases hq;rw[pmb];omega)
    have pw4:=(hg.block w.heap.size (by omega) (by simp;omega)).trans pw3
    have z4:=hg.size
    have hcb4:cb<w4.heap.size:=by rw[←pcb];exact(zG.1 C4.row).1
    rcases hok:okL S (-1) root with _|_
    ·have HB:=zH (fun W (hx:Ext w4 W)=>Ko.bad (S:=S) (next:=next) (root:=root) (dead:=dead) (x4.trans (Below.mono hx (by omega))) (fun vs hp=>by have:=hp.top;rw[hok] at this;cases this))
     replace C4:=zH C4
     replace C3:=zH C3
     replace hok:=zH hok
     clear hknown hgr hm hg hn HLR kp pw3 pw4
     go_wp2_with fail
     exact JM rfl rfl rfl (HB.out _ (Ext.alloc _ _))
    ·obtain⟨a,ha,htree⟩:=Jb hok
     have hga:=hknown hok
     rw[hok] at hga
     obtain⟨n9,lv,xs,A',c',fk',lk',b',e9,-,-,hnode,hv,hits,hsp,hcl⟩:=C4.known _ _ hga
     rw[pS] at hnode hsp
     simp only[Value.agg.injEq,Array.mk.injEq,List.cons.injEq,Value.int.injEq,Value.bool.injEq,Value.slice.injEq,true_and,and_true] at hv
     obtain⟨rfl,⟨rfl,rfl,rfl⟩,-,-,-,-,-,-,rfl⟩:=hv
     have hmay9:=(Qa hnode).1
     have hxs:=fun y hy=>((Qa hnode).2.1 y hy).1
     have hlen:xs.length≤5:=by unfold qX jj at hmay9;simp at hmay9;omega
     have hvo:JL S root next=zl next [] (qZ S lv xs):=by
      unfold JL
      rw[e9,Int.toNat_natCast,hnode]
      show zl next [] (qZ S (lv:Int).toNat xs)=_
      rw[Int.toNat_natCast]
     have hsp9:(qT S lv xs).isSome=true:=hsp.1.symm
     have hcl9:0<lv→∀ y∈xs,(g y.r).isSome=true:=hcl rfl
     replace C4:=zH C4
     replace C3:=zH C3
     replace hok:=zH hok
     replace hits:=zH hits
     replace hsp9:=zH hsp9
     replace hcl9:=zH hcl9
     replace hxs:=zH hxs
     replace hvo:=zH hvo
     replace hnode:=zH hnode
     replace htree:=zH htree
     replace hga:=zH hga
     replace ha:=zH ha
     replace e9:=zH e9
     have kp4:=qa pw4
     have hzw4:w.heap.size<w4.heap.size:=by omega
     clear hknown hgr hm hg hn HLR kp pw3 hsp hcl hmay9
     go_wp2_with fail
     generalize hw5:World.alloc w4 _=w5
     have x45:Ext w4 w5:=by rw[←hw5];exact Ext.alloc _ _
     clear hw5
     have x5:=x4.trans (Below.mono x45 (by omega))
     have pw5:=qc pw4 x45
     have C5:=C4.out.ext x45
     have hits5:=hits.out.keep x45.size (fun q _ hq=>Below.cell x45 hq)
     have I5:VolI p w5 w5 [] (.slice none 0 0) ca (fun _=>0) (fun _=>0):=by
      refine⟨⟨Off.refl (Nat.le_refl _),?_,hca.out,fun i _=>by rw[pca],(zG.1 C5.row).1⟩,World.ownsRow_nil _ _ _ _⟩
      have:=C5.row
      rwa [pca] at this
     have HV:=qaP p w5 g (fun _=>0) (fun _=>0) (.slice A1 n1 c1) (.slice A2 n2 c2) (.slice A3 n3 c3) (.slice A4 n4 c4) gen root next (.slice A5 dead.length c5) C5 lv xs A c [] (.slice none 0 0) ca w5 I5 (by simp) hxs.out hlen hits5 (by rw[pS];exact hsp9.out) hcl9.out
     rw[pcb,pS] at HV
     refine HV.mono ?_
     rintro e w6 ⟨F6,hm6⟩
     clear HV I5
     have x6:Below w.heap.size w w6:=⟨F6.os.trans x5.os,F6.tape.trans x5.tape,F6.output.trans x5.output,Nat.le_trans x5.size F6.size,fun k hk=>(F6.block k (Nat.lt_of_lt_of_le hk x5.size) (by omega) (by simp[Value.ownBlock])).trans (x5.block k hk)⟩
     have hz5:w.heap.size<w5.heap.size:=by have:=x45.size;omega
     have hzw6:w.heap.size<w6.heap.size:=by have:=F6.size;omega
     have hcb5:cb<w5.heap.size:=by have:=x45.size;omega
     have hmb5:mb<w5.heap.size:=by have h1:=C3.out.low.2.2.1;rw[pmb,plo] at h1;have:=x45.size;omega
     have hcb6:cb<w6.heap.size:=by have:=x45.size;have:=F6.size;omega
     have hmb6:mb<w6.heap.size:=by have h1:=C3.out.low.2.2.1;rw[pmb,plo] at h1;have:=x45.size;have:=F6.size;omega
     rcases hgo:zl next [] (qZ S lv xs) with _|vs
     ·rw[hgo] at hm6
      obtain rfl:e=.returned (.int .i64 8):=hm6
      have HB:=zH (Ko.bad (S:=S) (next:=next) (root:=root) (dead:=dead) x6 (fun vs hp=>by have:=hp.vols;rw[hvo.out,hgo] at this;cases this))
      clear kp4 pw4 pw5 F6 x45
      replace C5:=zH C5
      go_wp2_with fail
      exact JM rfl rfl rfl HB.out
     ·rw[hgo] at hm6
      obtain⟨rfl,vv,ca6,V6,N6⟩:=hm6
      clear N6
      have pw6:=(F6.block w.heap.size hz5 (by omega) (by simp[Value.ownBlock])).trans pw5
      have kp6:=qa pw6
      clear kp4 pw4 pw5 F6 x45
      replace C5:=zH C5
      replace V6:=zH V6
      replace hgo:=zH hgo
      replace hits5:=zH hits5
      obtain⟨i0,hi,hz0,hz1,hz2⟩:=info_parts Tryz.info_int
      go_wp2_with (at_builtin;refine qQ ?_)
      have hda:Rd (w6.alloc (.cells #[.int .i64 root] 3)) w.heap.size 1 A5 dead.length (dead.map fun (a:Int)=>Value.int .i64 a):=by
       obtain⟨A',c',e,_,_,hr⟩:=hd.out
       cases e
       exact(hr.below x6).alloc (by omega) _
      have o7:(w6.alloc (.cells #[.int .i64 root] 3)).ownsRow w6.heap.size 3 1 (.slice (some ⟨w6.heap.size,0,none⟩) 1 1) 1 [.int .i64 root]:=World.ownsRow_lit (base:=w6.heap.size) (e:=3) (size:=1) w6 #[.int .i64 root] 1 (Nat.le_refl _) (by unfold maxLen;omega) rfl
      refine Qt.go (Qi _ rfl (.tmp 48) (.tmp 50) 30 rfl w6.heap.size 3 i0 (.int .i64 0) 1 8 Tryz.underlying30 hi hz0 hz1 hz2 rfl (by decide) _ 1 [.int .i64 root] rfl o7 w.heap.size A5 dead.length c5 (dead.map fun (a:Int)=>Value.int .i64 a) rfl hda (by simp[Value.oneCell']) (by omega) (by decide) (by simp) ?_)
      intro v7 w7 o8 g7 hB7 hv7
      have x67:Ext w6 w7:=Below.trans (Ext.alloc w6 _) hB7
      have I1:R1 w6 root dead vs v7 (.int .i64 0) w7:=⟨0,Nat.zero_le _,rfl,by
       have e:YN (jQ root dead vs 0)=[.int .i64 root]++dead.map fun (a:Int)=>Value.int .i64 a:=by unfold jQ YN;simp
       rw[e]
       exact o8,x67⟩
      have V7:=V6.out.ext x67
      have pw7:=qc pw6 x67
      obtain⟨AV,cV,rfl,hcv1,hcv2⟩:=qJ V7.own
      have kc7:w7.cell? ⟨cb,518,none⟩=some (.slice AV vs.length cV):=by rw[←pcb,qa V7.t.row];exact V7.t.ar.vol
      have hvs16:vs.length≤16:=JQ next _ _ _ (by simp) hgo.out
      replace I1:=zH I1
      replace V7:=zH V7
      replace x67:=zH x67
      clear o7 o8 g7 hv7 hB7 hda hi hz0 hz1 hz2 hcv1 hcv2 kp6
      go_wp2_with fail
      clear kc7
      go_loopw [5,57] (fun v i wr=>R1 w6 root dead vs v i wr) (fun _ i _=>vs.length-(intOf i).toNat)
      case atStart=>exact I1.out
      case round =>
       obtain⟨k,hk,rfl,own,xr⟩:=hrel.ex
       clear I1
       by_cases hlt:k<vs.length
       ·have hlt':=hlt
        obtain⟨bv,offv,eA,hbv,hcel⟩:=(Rd.of_own (V6.out.ext xr).own).2 (by omega)
        subst eA
        obtain⟨d0,d1,d2,d3⟩:=kY vs k hlt'
        replace d0:=hcel _ _ d0
        replace d1:=hcel _ _ d1
        replace d2:=hcel _ _ d2
        replace d3:=hcel _ _ d3
        have HSU:=zH (GN root dead vs hlt')
        generalize vs[k]=u at *
        clear hcel
        rw[←Nat.add_assoc] at d1 d2 d3
        obtain⟨AR,cR,rfl,hcr1,hcr2⟩:=qJ own
        obtain⟨i0,hi,hz0,hz1,hz2⟩:=info_parts Tryz.info_int
        replace own:=zH own
        replace xr:=zH xr
        clear hcr1 hcr2
        go_upto_region 11 with fail
        generalize hw9:World.alloc wr _=w9
        have x9:Ext wr w9:=by rw[←hw9];exact Ext.alloc _ _
        have u9:w9.heap[wr.heap.size]?=some (.cells (Gt u) 40 (0,0)):=by rw[←hw9];exact World.alloc_heap_at _ _ _ rfl
        have ku9:=qa u9
        clear hw9 d0 d1 d2 d3 u9
        go_wp2_with (at_builtin;refine qQ ?_)
        refine Qt.go (Zh _ rfl (.tmp 61) (.tmp 64) 30 rfl w6.heap.size 3 i0 (.int .i64 0) 1 8 Tryz.underlying30 hi hz0 hz1 hz2 rfl (by decide) _ _ _ rfl (QJ own.out x9) #[.int .i64 u.root] rfl rfl (by simp[Value.oneCell']) (by omega) (by decide) (Nat.le_trans xr.out.size x9.size) ?_)
        intro v8 w8 own8 _ hB8 _
        have IR:R1 w6 root dead vs v8 (.int .i64 ((k:Int)+1)) w8:=⟨k+1,hlt',rfl,by
         rw[HSU.out,qed]
         exact own8,Below.trans (Below.trans xr.out (Below.mono x9 xr.out.size)) hB8⟩
        replace IR:=zH IR
        clear own8 hB8 hi hz0 hz1 hz2
        go_wp2_with fail
        refine⟨IR.out,?_⟩
        simp[intOf]
        omega
       ·have hke:k=vs.length:=by omega
        subst hke
        have VW:=V6.out.ext xr
        have CW:=VW.t.cen C5.out
        have hRl:(zY root dead vs).length=1+dead.length+vs.length:=by rw[←XC];exact qaY root dead vs (Nat.le_refl _)
        rw[XC,←hRl] at own
        obtain⟨AR,cR,rfl,hcr1,hcr2⟩:=qJ own
        obtain⟨N,hN⟩:∃ N,N=(zY root dead vs).length:=⟨_,rfl⟩
        rw[←hN] at own hRl ⊢
        have I2:R2 p wr (.slice AV vs.length cV) (zY root dead vs) (.int .i64 0) wr:=⟨0,g,ca6,fun _=>0,fun _=>0,Nat.zero_le _,rfl,CW,VW.t.ar,qU.zero _,(fun a ha=>by cases ha),(fun r hr=>by cases hr),XJ.refl _ _ _⟩
        have xw:=x6.trans (Below.mono xr (by omega))
        have pwr:=qc pw6 xr
        clear hcr1 hcr2
        replace I2:=zH I2
        replace CW:=zH CW
        replace VW:=zH VW
        replace own:=zH own
        replace hRl:=zH hRl
        replace hN:=zH hN
        replace xw:=zH xw
        replace pwr:=zH pwr
        clear hrel
        generalize wr=w8 at *
        go_wp2_with fail
        go_loopw [2,3,69] (fun u v i wq=>u=.pointer (some ⟨cb,0,none⟩)∧v=.int .i64 0∧R2 p w8 (.slice AV vs.length cV) (zY root dead vs) i wq) (fun _ _ i _=>N-(intOf i).toNat)
        case atStart=>exact⟨rfl,rfl,I2.out⟩
        case round =>
         obtain⟨rfl,rfl,hrel⟩:=hrel
         obtain⟨k,g2,ca2,refs2,nodes2,hk2,rfl,C2,N2,M2,Q2,hall,K2⟩:=hrel.ex
         clear I2
         have hRL:=hRl.out
         have hN2:=hN.out
         by_cases hlt2:k<(zY root dead vs).length
         ·have hlt3:k<N:=by omega
          have hwk:wrap64 ((k:Int)+1)=(k:Int)+1:=IntWalk.wrap64_in _ (by omega)
          replace hwk:=zH hwk
          obtain⟨br,offr,eR,hbr,hcel⟩:=(Rd.of_own own.out).2 (by omega)
          have hbr2:=(QM own.out)
          subst eR
          have hbr3:=hbr2 br rfl
          have dk:=hcel k _ (rowI_get _ k hlt2)
          replace dk:=(World.cell?_of_block (a:=⟨br,offr+k,none⟩) (K2.block br hbr (by rw[pcb];omega) (by rw[pmb];omega))).trans dk
          have HTK:=zH (List.take_succ_eq_append_getElem hlt2)
          have HMM:=zH (List.getElem_mem hlt2)
          generalize (zY root dead vs)[k]=r at *
          have HT:=tree_any (p.put ca2) (((zY root dead vs).take k).map Int.toNat) (by rw[List.length_map,List.length_take];omega) r wr g2 refs2 nodes2 _ C2 N2 M2 Q2
          change Calls _ _ #[.pointer (some ⟨p.cb,0,none⟩),.int .i64 r] wr _ at HT
          rw[pcb] at HT
          replace C2:=zH C2
          replace N2:=zH N2
          replace M2:=zH M2
          replace Q2:=zH Q2
          replace hall:=zH hall
          replace K2:=zH K2
          replace hRL:=zH hRL
          replace hN2:=zH hN2
          replace hlt2:=zH hlt2
          replace HT:=zH HT
          clear hcel hbr2 hbr3
          go_wp2_with fail
          refine HT.out.mono ?_
          rintro e w9 ⟨hE,t1,t2,t3,t4,t5,t6⟩
          have K9:XJ p.cb p.mb w8 w9:=K2.out.trans ⟨t1,t2,t3,t4,t5⟩
          rcases hokr:okL p.S (-1) r with _|_
          ·have x9:=K9.below xw.out (by have:=(zG.1 pwr.out).1;omega) (by rw[pcb];omega) (by rw[pmb];omega)
           have HB:=zH (Ko.bad (S:=S) (next:=next) (root:=root) (dead:=dead) x9 (fun vs' hp=>by
            have h1:=hp.vols
            rw[hvo.out,hgo.out,Option.some.injEq] at h1
            subst h1
            have:=hp.ok r HMM.out
            rw[pS] at hokr
            rw[hokr] at this
            cases this))
           obtain rfl:e=.returned (.int .i64 8):=hE.trans (by show Ending.returned (.int .i64 (if okL p.S (-1) r=true then 0 else 8))=_;rw[hokr];rfl)
           replace hokr:=zH hokr
           clear t1 t2 t3 t4 t5 t6 K9 x9 hE
           go_wp2_with fail
           exact JM rfl rfl rfl HB.out
          ·obtain⟨ca3,g3,refs3,nodes3,C9,hg9,N9,M9,Q9⟩:=t6 hokr
           have IR:R2 p w8 (.slice AV vs.length cV) (zY root dead vs) (.int .i64 ((k:Int)+1)) w9:=by
            refine⟨k+1,g3,ca3,refs3,nodes3,hlt2.out,rfl,C9,N9,?_,?_,?_,K9⟩
            ·rw[HTK.out,List.map_append];exact M9
            ·rw[HTK.out,List.map_append];exact Q9
            ·intro r' hr'
             rw[HTK.out] at hr'
             rcases List.mem_append.1 hr' with h1|h1
             ·exact hall.out r' h1
             ·rw[List.mem_singleton.1 h1];exact hokr
           replace IR:=zH IR
           obtain rfl:e=.returned (.int .i64 0):=hE.trans (by show Ending.returned (.int .i64 (if okL p.S (-1) r=true then 0 else 8))=_;rw[hokr];rfl)
           replace hokr:=zH hokr
           clear hE t1 t2 t3 t4 t5 t6 K9 C9 hg9 N9 M9 Q9
           go_wp2_with fail
           rw[hwk.out]
           refine⟨⟨rfl,rfl,IR.out⟩,?_⟩
           simp[intOf]
           omega
         ·have hke2:k=(zY root dead vs).length:=by omega
          have hlt3:¬k<N:=by omega
          rw[hke2,List.take_length] at M2 Q2 hall
          have k9:=qa C2.row
          have hkN:k=N:=by omega
          replace hke2:=zH hke2
          replace hall:=zH hall
          replace C2:=zH C2
          replace M2:=zH M2
          replace Q2:=zH Q2
          replace K2:=zH K2
          replace N2:=zH N2
          clear hrel hk2 hlt2 hRL hN2
          have hz8:w.heap.size<w8.heap.size:=(zG.1 pwr.out).1
          have x9:Below w.heap.size w wr:=K2.out.below xw.out (by omega) (by rw[pcb];omega) (by rw[pmb];omega)
          have pw9:=(K2.out.block w.heap.size hz8 (by rw[pcb];omega) (by rw[pmb];omega)).trans pwr.out
          have kp9:=qa pw9
          have rc9:=C2.out.row
          change wr.heap[p.cb]?=some (.cells ca2 _ _) at rc9
          rw[pcb] at rc9
          have hcc:∀ j v,(VY refs2)[j]?=some v→wr.cell? ⟨cb,6+j,none⟩=some v:=fun j v hj=>by
           obtain⟨h1,rfl⟩:=qdm hj
           rw[qa rc9]
           exact N2.out.ref j h1
          have hst9:=h.out.below x9
          obtain⟨A'',c'',e3,hlc,hmc,hr3⟩:=hst9.now
          have hl3:S.now.length=256:=(qV hmay'.out).2.2.1
          have hnow:∃ b3 o3,(Value.slice A3 n3 c3)=.slice (some ⟨b3,o3,none⟩) 256 c3∧∀ j,j<256→wr.cell? ⟨b3,o3+j,none⟩=some (.int .u8 ((S.now[j]?.getD 0).toNat:Int)):=by
           rw[Value.slice.injEq] at e3
           obtain⟨rfl,hn3,rfl⟩:=e3
           obtain⟨b3,o3,hA3,_,hcel3⟩:=hr3.2 (by omega)
           refine⟨b3,o3,by rw[hA3,hn3,hl3],fun j hj=>?_⟩
           exact hcel3 j _ (by rw[List.getElem?_map,List.getElem?_eq_getElem (by omega)];rfl)
          obtain⟨b3,o3,eN,hcN⟩:=hnow
          rw[eN] at kp9
          replace hcN:=zH hcN
          replace x9:=zH x9
          clear hst9 hr3 hlc hmc pw9 rc9
          replace e3:=zH e3
          replace eN:=zH eN
          go_upto_region 20 with fail
          go_wp2_with (refine Va rfl 82 (.tmp 82) rfl cb 6 rfl (VY refs2) _ hcc Tryz.underlying82 rfl (by rw[show (VY refs2).length=256 by simp[VY]];kernel_rfl) ?_)
          clear hcc
          replace hkN:=zH hkN
          go_loopw [2,3,84] (fun u v i wq=>u=.pointer (some ⟨cb,0,none⟩)∧v=.int .i64 0∧R3 S refs2 wr i wq) (fun _ _ i _=>256-(intOf i).toNat)
          case atStart=>exact⟨rfl,rfl,0,by omega,rfl,fun a h=>absurd h (Nat.not_lt_zero _),rfl⟩
          case round =>
           obtain⟨rfl,rfl,hrel⟩:=hrel
           obtain⟨q,hq3,rfl,hle,rfl⟩:=hrel.ex
           clear hrel
           have hcnt:qU S (QI root dead vs) refs2 nodes2:=by have:=M2.out;rw[pS] at this;exact this
           have hpool:QT S root next dead vs:=⟨hmay'.out,h40,hok.out,hvo.out.trans hgo.out,fun r hr=>by have:=hall.out r hr;rwa [pS] at this⟩
           by_cases hl4:q<256
           ·have dN:=hcN.out q hl4
            have hix:=Ks (cs:=(VY refs2).toArray) hl4 (v:=.int .i64 (refs2 q)) (by rw[List.getElem?_toArray];exact TP refs2 hl4)
            generalize hnv:(S.now[q]?.getD 0).toNat=nv at *
            have hnv2:nv<256:=by rw[←hnv];exact UInt8.toNat_lt _
            have hwq:=zH (IntWalk.wrap64_in ((q:Int)+1) (by omega))
            replace hnv:=zH hnv
            replace hle:=zH hle
            replace hcnt:=zH hcnt
            replace hpool:=zH hpool
            rcases Nat.lt_or_ge nv (refs2 q) with hg|hg
            ·have hc1:decide ((refs2 q:Int)>(nv:Int))=true:=decide_eq_true (by omega)
             have hc2:decide (nv<refs2 q)=true:=decide_eq_true hg
             have HB:Ko S root next dead w (.returned (.tuple #[.pointer none,.int .i64 8])) wr:=⟨x9.out,.inl ⟨rfl,fun vs' hp=>by
              have h1:=hp.vols
              rw[hvo.out,hgo.out,Option.some.injEq] at h1
              subst h1
              exact⟨refs2,nodes2,hcnt.out,fun he=>by have:=he q hl4;rw[hnv.out] at this;omega⟩⟩⟩
             replace HB:=zH HB
             replace hg:=zH hg
             generalize (VY refs2).toArray=arr at *
             go_wp2_with fail
             exact JM rfl rfl rfl HB.out
            ·have hc1:decide ((refs2 q:Int)>(nv:Int))=false:=decide_eq_false (by omega)
             have hc2:decide (nv<refs2 q)=false:=decide_eq_false (by omega)
             have IR:R3 S refs2 wr (.int .i64 ((q:Int)+1)) wr:=⟨q+1,hl4,rfl,fun a ha=>by
              rcases Nat.lt_or_ge a q with h1|h1
              ·exact hle.out a h1
              ·obtain rfl:a=q:=by omega
               rw[hnv.out]
               exact hg,rfl⟩
             replace IR:=zH IR
             replace hg:=zH hg
             generalize (VY refs2).toArray=arr at *
             go_wp2_with fail
             refine⟨⟨rfl,rfl,IR.out⟩,?_⟩
             simp[intOf]
             omega
           ·have hen:zQ S refs2:=fun a ha=>hle a (by omega)
            have HT:Ko S root next dead w (.returned (.tuple #[.pointer (some ⟨cb,0,none⟩),.int .i64 0])) wr:=⟨x9.out,.inr ⟨vs,refs2,nodes2,cb,ca2,.slice AV vs.length cV,rfl,⟨hpool,hcnt,hen,hcw,by rw[←pcb];exact C2.out.row,N2.out,Qu (own_kept VW.out.own K2.out (by rw[pcb];exact hcb5) (by rw[pmb];exact hmb5)) (by omega)⟩⟩⟩
            replace HT:=zH HT
            replace hcnt:=zH hcnt
            replace hpool:=zH hpool
            replace hen:=zH hen
            replace hle:=zH hle
            go_wp2_with fail
            exact JM rfl rfl rfl HT.out
def Zx (S:Sto) (a:Nat):Nat:=(S.now[a]?.getD 0).toNat
def Kf (S:Sto) (a:Int):Int:=if qo S=true then (if 8≤a∧a<256 then (if Zx S a.toNat=0 then 6 else 0) else 2) else 8
theorem askR_bad {S:Sto} (h:qo S=false) (a:Int):Kf S a=8:=by unfold Kf;rw[h];simp
theorem askR_out {S:Sto} (h:qo S=true) {a:Int} (ha:¬(8≤a∧a<256)):Kf S a=2:=by unfold Kf;rw[if_pos h,if_neg ha]
theorem GO {S:Sto} (h:qo S=true) {a:Nat} (ha:8≤a) (ha2:a<256):Kf S (a:Int)=if Zx S a=0 then 6 else 0:=by
 unfold Kf
 rw[if_pos h,if_pos (by omega),Int.toNat_natCast]
theorem askR_ok {S:Sto} {a:Int} (h:Kf S a=0):qo S=true∧∃ n:Nat,a=(n:Int)∧8≤n∧n<256∧Zx S n≠0:=by
 unfold Kf at h
 split at h
 ·rename_i hm
  split at h
  ·rename_i hr
   split at h
   ·cases h
   ·rename_i hn
    obtain⟨n,hna⟩:=Int.eq_ofNat_of_zero_le (show 0≤a by omega)
    subst hna
    exact⟨hm,n,rfl,by omega,by omega,by simpa using hn⟩
  ·cases h
 ·cases h
theorem qdd {S:Sto} (hS:qo S=true) {w:World} {B:Nat} {v:Value} (h:Bys w B v S.now):∃ b o c,v=.slice (some ⟨b,o,none⟩) 256 c∧b<B∧∀ a,a<256→w.cell? ⟨b,o+a,none⟩=some (.int .u8 (Zx S a:Int)):=by
 obtain⟨-,-,hl,-⟩:=qV hS
 obtain⟨A,c,e,hc,hm,hr⟩:=h
 obtain⟨b,o,rfl,hb,hcell⟩:=hr.2 (by omega)
 rw[hl] at e
 exact⟨b,o,c,e,hb,fun a ha=>hcell a _ (by rw[List.getElem?_map,List.getElem?_eq_getElem (by omega)];unfold Zx;rw[List.getElem?_eq_getElem (by omega)];rfl)⟩
set_option maxHeartbeats 2000000 in
set_option maxRecDepth 100000 in
theorem qcO (A1:Option Addr) (n1 c1:Nat) (A2:Option Addr) (n2 c2:Nat) (A3:Option Addr) (n3 c3:Nat) (A4:Option Addr) (n4 c4:Nat) (S:Sto) (a:Int) (w:World) (h:Qc w w.heap.size (.slice A1 n1 c1) (.slice A2 n2 c2) (.slice A3 n3 c3) (.slice A4 n4 c4) S) :
  Calls Tryz.prog 48 #[Qd A1 n1 c1 A2 n2 c2 A3 n3 c3 A4 n4 c4,.int .i64 a] w (Ret (.int .i64 (Kf S a)) w):=by
 have HC:=zH (fun W (hx:Ext w W)=>vc A1 n1 c1 A2 n2 c2 A3 n3 c3 A4 n4 c4 S W (h.ext hx))
 replace h:=zH h
 go_enter Tryz.func48,Tryz.ntmps48
 go_wp2_with fail
 generalize hw1:(World.alloc w _)=w1
 have x1:Ext w w1:=by rw[←hw1];exact Ext.alloc _ _
 have r1:w1.heap[w.heap.size]?=some (.cells #[.slice A1 n1 c1,.slice A2 n2 c2,.slice A3 n3 c3,.slice A4 n4 c4] 28 (0,0)):=by rw[←hw1];exact World.alloc_heap_at _ _ _ rfl
 clear hw1
 refine(HC.out w1 x1).mono ?_
 clear HC
 rintro e w2 ⟨rfl,hB⟩
 have x2:Ext w w2:=x1.trans hB
 have r2:=qc r1 hB
 clear hB r1 x1
 rcases hS:qo S with _|_
 ·have hq:=zH (askR_bad hS a)
  replace hS:=zH hS
  rw[Jp rfl]
  go_wp2_with fail
  go_ret
  exact⟨by rw[hq.out];rfl,x2⟩
 ·rw[vD rfl]
  by_cases hr:8≤a∧a<256
  ·obtain⟨n,hna⟩:=Int.eq_ofNat_of_zero_le (show 0≤a by omega)
   subst hna
   have hn8:8≤n:=by omega
   have hn256:n<256:=by omega
   have hq:=GO hS hn8 hn256
   obtain⟨b,o,c,e3,hb,hcell⟩:=qdd hS h.out.now
   have hcn:=Ext.cell x2 (hcell n hn256)
   generalize Zx S n=nw at *
   cases e3
   have k2:=qa r2
   have d1:decide ((n:Int)<8)=false:=decide_eq_false (by omega)
   have d2:decide ((n:Int)≥256)=false:=decide_eq_false (by omega)
   clear hr hcell
   replace hS:=zH hS
   rcases Nat.eq_zero_or_pos nw with h0|h0
   ·have hz1:((nw:Int) == 0)=true:=by rw[beq_iff_eq];omega
    have hz2:decide (nw=0)=true:=decide_eq_true h0
    rw[if_pos h0] at hq
    replace hq:=zH hq
    replace h0:=zH h0
    go_wp2_with fail
    go_ret
    exact⟨by rw[hq.out];rfl,x2⟩
   ·have hz1:((nw:Int) == 0)=false:=by rw[beq_eq_false_iff_ne];omega
    have hz2:decide (nw=0)=false:=decide_eq_false (by omega)
    rw[if_neg (by omega)] at hq
    replace hq:=zH hq
    replace h0:=zH h0
    go_wp2_with fail
    go_ret
    exact⟨by rw[hq.out];rfl,x2⟩
  ·have hq:=zH (askR_out hS hr)
   replace hS:=zH hS
   by_cases h8:a<8
   ·have d1:decide (a<8)=true:=decide_eq_true h8
    replace hr:=zH hr
    go_wp2_with fail
    go_ret
    exact⟨by rw[hq.out];rfl,x2⟩
   ·have d1:decide (a<8)=false:=decide_eq_false h8
    have d2:decide (a≥256)=true:=decide_eq_true (by omega)
    replace hr:=zH hr
    go_wp2_with fail
    go_ret
    exact⟨by rw[hq.out];rfl,x2⟩
def zL (t:List UInt8) (a:Nat):Nat:=(t[a]?.getD 0).toNat
def KH (t:List UInt8) (a by_:Nat):List UInt8:=t.set a (UInt8.ofNat (zL t a+by_))
theorem qdL (n:Nat):IntKind.u8.wrap (n:Int)=(((UInt8.ofNat n).toNat:Nat):Int):=by
 simp[IntKind.wrap,IntKind.bits,IntKind.signed]
theorem Ui {bs:List (List UInt8)} {ws:List (Int×List UInt8)} (h:Zz bs ws=true):bs.length<1000000∧ws.length<1000000∧(∀ l∈bs,l.length<1000000)∧∀ p∈ws,p.2.length<1000000:=by
 unfold Zz headD at h
 simp only[Bool.and_eq_true,decide_eq_true_eq,List.all_eq_true] at h
 obtain⟨⟨h1,h2⟩,h3,h4⟩:=h
 refine⟨by omega,by omega,fun l hl=>?_,fun p hp=>?_⟩
 ·have:=h3 l hl
  unfold Xu at this
  have:=of_decide_eq_true this
  omega
 ·have:=h4 p hp
  unfold GC at this
  have:=of_decide_eq_true this
  omega
theorem ZB.waits {lo:Nat} {bs:List (List UInt8)} {ws:List (Int×List UInt8)} {BB WW g:Nat} {W:World} (h:ZB lo bs ws BB WW g W) (h2:ws.length<1000000):∃ ps:List ((Int×List UInt8)×Value),ps.map (·.1)=ws∧W.ownsRow lo 130 2 (.slice (some ⟨WW,0,none⟩) ws.length (ws.length+1)) ws.length (QO ps)∧∀ p∈ps,∃ F,InG W g F p.2 p.1.2:=by
 obtain⟨cw,hw1,hw2,hw3⟩:=h.ww
 have hq:∀ i,i<ws.length→∃ q:(Int×List UInt8)×Value,ws[i]?=some q.1∧(∃ F,InG W g F q.2 q.1.2)∧cw[i*2]?=some (.int .i64 q.1.1)∧cw[i*2+1]?=some q.2:=fun i hi=>by
  obtain⟨v,F,e1,e2,e3⟩:=hw3 i ws[i] (List.getElem?_eq_getElem hi)
  exact⟨(ws[i],v),List.getElem?_eq_getElem hi,⟨F,e3⟩,e1,e2⟩
 obtain⟨Q,hQ⟩:=Go.Deep.choose_lt (α:=(Int×List UInt8)×Value) (p:=fun i q=>ws[i]?=some q.1∧(∃ F,InG W g F q.2 q.1.2)∧cw[i*2]?=some (.int .i64 q.1.1)∧cw[i*2+1]?=some q.2) hq
 refine⟨(List.range ws.length).map Q,?_,⟨by rw[jE];simp,.inr ⟨WW,ws.length+1,cw,rfl,h.los.2.1,hw1,by omega,by unfold maxLen;omega,hw2,?_⟩⟩,fun p hp=>?_⟩
 ·apply List.ext_getElem?
  intro i
  rw[List.map_map,List.getElem?_map]
  rcases Nat.lt_or_ge i ws.length with hi|hi
  ·rw[List.getElem?_range hi,(hQ i hi).1];rfl
  ·rw[List.getElem?_eq_none (by simpa using hi),List.getElem?_eq_none hi];rfl
 ·apply List.ext_getElem?
  intro j
  rw[List.getElem?_take]
  by_cases hj:j<ws.length*2
  ·rw[if_pos hj]
   obtain⟨c0,c1⟩:=JE ((List.range ws.length).map Q) (j / 2) (by simp;omega)
   obtain⟨_,_,q0,q1⟩:=hQ (j / 2) (by omega)
   have e0:cw.toList[j]?=cw[j]?:=by simp
   rw[e0]
   rcases(show j=j / 2*2∨j=j / 2*2+1 by omega) with e|e
   ·rw[show cw[j]?=cw[j / 2*2]? from congrArg (fun t=>cw[t]?) e,q0,show (QO ((List.range ws.length).map Q))[j]?=(QO ((List.range ws.length).map Q))[j / 2*2]? from congrArg (fun t=>(QO ((List.range ws.length).map Q))[t]?) e,c0]
    simp
   ·rw[show cw[j]?=cw[j / 2*2+1]? from congrArg (fun t=>cw[t]?) e,q1,show (QO ((List.range ws.length).map Q))[j]?=(QO ((List.range ws.length).map Q))[j / 2*2+1]? from congrArg (fun t=>(QO ((List.range ws.length).map Q))[t]?) e,c1]
    simp
  ·rw[if_neg hj,List.getElem?_eq_none (by rw[jE];simp;omega)]
 ·obtain⟨i,hi,rfl⟩:=List.mem_map.1 hp
  exact(hQ i (List.mem_range.1 hi)).2.1
theorem ZB.blocks {lo:Nat} {bs:List (List UInt8)} {ws:List (Int×List UInt8)} {BB WW g:Nat} {W:World} (h:ZB lo bs ws BB WW g W) (h1:bs.length<1000000) (h3:∀ l∈bs,l.length<1000000)
  (W2:World) (hB:∀ j,W2.cell? ⟨BB,j,none⟩=W.cell? ⟨BB,j,none⟩) (hg:∀ j,W2.cell? ⟨g,j,none⟩=W.cell? ⟨g,j,none⟩):Bls W2 W.heap.size (.slice (some ⟨BB,0,none⟩) bs.length bs.length) bs:=by
 obtain⟨cb,hb1,hb2,hb3⟩:=h.bb
 have z1:=(zG.1 hb1).1
 have hm:∀ n,n<1000001→n≤maxLen:=fun n hn=>by unfold maxLen;omega
 refine⟨cb.toList,_,_,rfl,Nat.le_refl _,hm _ (by omega),⟨by simp[hb2],fun _=>⟨BB,0,rfl,z1,fun j u hu=>?_⟩⟩,fun i u l hu hl=>?_⟩
 ·rw[Nat.zero_add,hB,qa hb1]
  simpa using hu
 ·obtain⟨v,F,e1,e2⟩:=hb3 i l hl
  have:cb.toList[i]?=cb[i]?:=by simp
  rw[this,e1] at hu
  cases hu
  exact(e2.cells hg).bys h.los.2.2.2.1 (hm _ (by have:=h3 l (List.mem_of_getElem? hl);omega))
theorem Rd.some_ {w w':World} {B size n:Nat} {A:Option Addr} {xs:List Value} (h:Rd w B size A n xs) (hk:∀ p v,w.cell? p=some v→w'.cell? p=some v):Rd w' B size A n xs:=
 ⟨h.1,fun hn=>by
  obtain⟨b,off,e,hb,hc⟩:=h.2 hn
  exact⟨b,off,e,hb,fun j u hu=>hk _ _ (hc j u hu)⟩⟩
theorem Bys.some_ {w w':World} {B:Nat} {v:Value} {l:List UInt8} (h:Bys w B v l) (hk:∀ p v,w.cell? p=some v→w'.cell? p=some v):Bys w' B v l:=by
 obtain⟨A,c,e,hc,hm,hr⟩:=h
 exact⟨A,c,e,hc,hm,hr.some_ hk⟩
theorem Qc.some_ {w w':World} {B:Nat} {v1 v2 v3 v4:Value} {S:Sto} (h:Qc w B v1 v2 v3 v4 S) (hk:∀ p v,w.cell? p=some v→w'.cell? p=some v):Qc w' B v1 v2 v3 v4 S:=by
 obtain⟨⟨vs,A,c,e,h1,h2,h3,h4⟩,⟨ps,e',⟨A',c',e1,e2,e3,hr⟩,hp⟩,h5,h6⟩:=h
 exact⟨⟨vs,A,c,e,h1,h2,h3.some_ hk,fun i u l hu hl=>(h4 i u l hu hl).some_ hk⟩,⟨ps,e',⟨A',c',e1,e2,e3,hr.some_ hk⟩,fun p h=>⟨(hp p h).1,(hp p h).2.some_ hk⟩⟩,h5.some_ hk,h6.some_ hk⟩
def mixW (lo N:Nat) (W C:World):World:={ C with heap:=Array.ofFn (n:=max N C.heap.size) fun k=>if lo≤k.1∧k.1<N then W.heap[k.1]?.getD (.deferred none) else C.heap[k.1]?.getD (.deferred none) }
theorem qau (lo N:Nat) (W C:World) (q:Addr):(mixW lo N W C).cell? q=if lo≤q.block∧q.block<N then W.cell? q else C.cell? q:=by
 unfold World.cell?
 have e:(mixW lo N W C).heap[q.block]?=if q.block<max N C.heap.size then some (if lo≤q.block∧q.block<N then W.heap[q.block]?.getD (.deferred none) else C.heap[q.block]?.getD (.deferred none)) else none:=by
  simp only[mixW,Array.getElem?_ofFn]
  split <;> rfl
 rw[e]
 by_cases h:lo≤q.block∧q.block<N
 ·rw[if_pos (by omega),if_pos h]
  simp only[if_pos h]
  cases W.heap[q.block]? <;> rfl
 ·simp only[if_neg h]
  split
  ·rename_i h1
   split at h1
   ·cases hq:C.heap[q.block]? with
    |none=>rw[hq] at h1;cases h1
    |some o=>rw[hq] at h1;simp only[Option.getD_some,Option.some.injEq] at h1;subst h1;rfl
   ·cases h1
  ·rename_i h1
   split at h1
   ·cases hq:C.heap[q.block]? with
    |none=>rfl
    |some o =>
     cases o with
     |cells c e f=>exact absurd (by rw[hq];rfl) (h1 c e f)
     |_=>rfl
   ·rename_i h2
    rw[Array.getElem?_eq_none (by omega)]
theorem qdU {Φ:World→Prop} (hm:∀ A C:World,(∀ q v,A.cell? q=some v→C.cell? q=some v)→Φ A→Φ C) {lo N:Nat} {W:World} (h:∀ W2:World,(∀ q:Addr,lo≤q.block→q.block<N→W2.cell? q=W.cell? q)→Φ W2) :
  ∀ C:World,(∀ q v,lo≤q.block→q.block<N→W.cell? q=some v→C.cell? q=some v)→Φ C:=fun C h3 =>
 hm (mixW lo N W C) C (fun q v hq=>by
  rw[qau] at hq
  split at hq
  ·rename_i h1;exact h3 q v h1.1 h1.2 hq
  ·exact hq) (h _ fun q h1 h2=>by rw[qau,if_pos ⟨h1,h2⟩])
structure qL (W W':World):Prop where
 size:W.heap.size≤W'.heap.size
 same:∀ (k:Nat) (o:Obj),W.heap[k]?=some o→o.isCells=true→W'.heap[k]?=some o
theorem qL.refl (W:World):qL W W:=⟨Nat.le_refl _,fun _ _ h _=>h⟩
theorem qL.row {W W':World} (h:qL W W') {b:Nat} {cs:Array Value} {ty:TypeId} {fz:Nat×Nat} (hr:W.heap[b]?=some (.cells cs ty fz)):W'.heap[b]?=some (.cells cs ty fz):=h.same b _ hr rfl
theorem qL.cell {W W':World} (h:qL W W') {q:Addr} {v:Value} (hq:W.cell? q=some v):W'.cell? q=some v:=by
 unfold World.cell? at *
 cases hb:W.heap[q.block]? with
 |none=>rw[hb] at hq;cases hq
 |some o =>
  cases o with
  |cells c e f =>
   rw[hb] at hq
   rw[h.row hb]
   exact hq
  |_=>rw[hb] at hq;cases hq
theorem qL.grown {Wb W W':World} {row:Option Nat} (h:qL Wb W) (hg:W.grownBy W' row) (hr:∀ r,row=some r→∃ o:Obj,W.heap[r]?=some o∧o.isCells=false):qL Wb W':=⟨Nat.le_trans h.size hg.size,fun k o hk ho=>by
 have h1:=h.same k o hk ho
 refine(hg.block k (zG.1 h1).1 fun e=>?_).trans h1
 obtain⟨o',h2,h3⟩:=hr k e.symm
 rw[h1] at h2
 cases h2
 rw[ho] at h3
 cases h3⟩
theorem qL.put {Wb W:World} (h:qL Wb W) {D:Nat} {o:Obj} (o':Obj) (hD:W.heap[D]?=some o) (ho:o.isCells=false):qL Wb (W.putObj D o'):=
 ⟨by have:=h.size;simpa [World.putObj] using this,fun k x hk hx=>by
  have h1:=h.same k x hk hx
  have hne:k≠D:=fun e=>by
   subst e
   rw[hD] at h1
   cases h1
   rw[ho] at hx
   cases hx
  exact(World.putObj_heap_other hne).trans h1⟩
def PosZ (lo:Nat) (W W':World):Prop:=∀ (q:Addr) (v:Value),lo≤q.block→q.block<W.heap.size→(thaw W).cell? q=some v→W'.cell? q=some v
theorem qL.thaw {W W':World} (h:qL W W') {q:Addr} {v:Value} (hq:(thaw W).cell? q=some v):(Go.Proofs.YtpbniokljofedaaGreat.thaw W').cell? q=some v:=by
 unfold World.cell? at *
 rw[jI] at hq ⊢
 cases hb:W.heap[q.block]? with
 |none=>rw[hb] at hq;cases hq
 |some o =>
  rw[hb] at hq
  cases o with
  |cells c e f =>
   rw[h.row hb]
   exact hq
  |_=>simp only[Option.map_some,qay] at hq;cases hq
theorem Ext.thaw {w w':World} (h:Ext w w'):Ext (thaw w) (Go.Proofs.YtpbniokljofedaaGreat.thaw w'):=⟨h.os,h.tape,h.output,by rw[Vc,Vc];exact h.size,fun k hk=>by
 rw[Vc] at hk
 rw[jI,jI,h.block k hk]⟩
theorem Bys.of_ownT {w:World} {base n:Nat} {e:TypeId} {v:Value} {l:List UInt8} (h:w.ownsRow base e 1 v n (l.map bv)):Bys (thaw w) w.heap.size v l:=(kA.of_own h).thaw
def TV (lo:Nat) (S:Sto) (u:Value) (W:World):Prop:=∃ A1 c1 A2 c2 A3 c3 A4 c4,u=Qd A1 S.bs.length c1 A2 S.ws.length c2 A3 S.now.length c3 A4 S.last.length c4 ∧
 ∀ C:World,PosZ lo W C→Qc C W.heap.size (.slice A1 S.bs.length c1) (.slice A2 S.ws.length c2) (.slice A3 S.now.length c3) (.slice A4 S.last.length c4) S
theorem TV.keep {lo lo':Nat} {S:Sto} {u:Value} {W W':World} (h:TV lo S u W) (hl:lo'≤lo) (hs:W.heap.size≤W'.heap.size) (hp:∀ q v,lo≤q.block→q.block<W.heap.size→(thaw W).cell? q=some v→(thaw W').cell? q=some v):TV lo' S u W':=by
 obtain⟨A1,c1,A2,c2,A3,c3,A4,c4,e,hc⟩:=h
 exact⟨A1,c1,A2,c2,A3,c3,A4,c4,e,fun C hC=>(hc C fun q v h1 h2 h3=>hC q v (by omega) (by omega) (hp q v h1 h2 h3)).more hs⟩
theorem XF {lo:Nat} {W W':World} (h:∀ k,lo≤k→k<W.heap.size→W'.heap[k]?=W.heap[k]?):PosZ lo W W':=fun q v h1 h2 h3=>(World.cell?_of_block (h q.block h1 h2)).trans (YM h3).1
theorem jD {w0 w:World} {B b:Nat} (h:Below B w0 w) (hb:B≤b) (x0 x1 x2 x3:Value):Below B w0 ((((w.setCell ⟨b,0,none⟩ x0).setCell ⟨b,1,none⟩ x1).setCell ⟨b,2,none⟩ x2).setCell ⟨b,3,none⟩ x3):=
 Below.setCell (Below.setCell (Below.setCell (Below.setCell h (p:=⟨b,0,none⟩) hb _) (p:=⟨b,1,none⟩) hb _) (p:=⟨b,2,none⟩) hb _) (p:=⟨b,3,none⟩) hb _
theorem Uc {w:World} {b:Nat} {ty:TypeId} {y0 y1 y2 y3:Value} (h:w.heap[b]?=some (.cells #[y0,y1,y2,y3] ty (0,0))) (x0 x1 x2 x3:Value) :
  ((((w.setCell ⟨b,0,none⟩ x0).setCell ⟨b,1,none⟩ x1).setCell ⟨b,2,none⟩ x2).setCell ⟨b,3,none⟩ x3).heap[b]?=some (.cells #[x0,x1,x2,x3] ty (0,0)):=qj (qj (qj (qj h 0 x0) 1 x1) 2 x2) 3 x3
theorem row8 {w:World} {b:Nat} {ty:TypeId} {y0 y1 y2 y3 y4 y5 y6 y7:Value} (h:w.heap[b]?=some (.cells #[y0,y1,y2,y3,y4,y5,y6,y7] ty (0,0))) (x0 x1 x2 x3 x4 x5 x6 x7:Value) :
  ((((((((w.setCell ⟨b,0,none⟩ x0).setCell ⟨b,1,none⟩ x1).setCell ⟨b,2,none⟩ x2).setCell ⟨b,3,none⟩ x3).setCell ⟨b,4,none⟩ x4).setCell ⟨b,5,none⟩ x5).setCell ⟨b,6,none⟩ x6).setCell ⟨b,7,none⟩ x7).heap[b]?=some (.cells #[x0,x1,x2,x3,x4,x5,x6,x7] ty (0,0)):=by
 have h1:=qj (qj (qj (qj h 0 x0) 1 x1) 2 x2) 3 x3
 exact qj (qj (qj (qj (cs:=#[x0,x1,x2,x3,y4,y5,y6,y7]) h1 4 x4) 5 x5) 6 x6) 7 x7
theorem YO {w0 w:World} {B b:Nat} (h:Below B w0 w) (hb:B≤b) (x0 x1 x2 x3 x4 x5 x6 x7:Value):Below B w0 ((((((((w.setCell ⟨b,0,none⟩ x0).setCell ⟨b,1,none⟩ x1).setCell ⟨b,2,none⟩ x2).setCell ⟨b,3,none⟩ x3).setCell ⟨b,4,none⟩ x4).setCell ⟨b,5,none⟩ x5).setCell ⟨b,6,none⟩ x6).setCell ⟨b,7,none⟩ x7):=
 Below.setCell (Below.setCell (Below.setCell (Below.setCell (jD h hb x0 x1 x2 x3) (p:=⟨b,4,none⟩) hb _) (p:=⟨b,5,none⟩) hb _) (p:=⟨b,6,none⟩) hb _) (p:=⟨b,7,none⟩) hb _
theorem other8 {w:World} {b k:Nat} (hk:k≠b) (x0 x1 x2 x3 x4 x5 x6 x7:Value):((((((((w.setCell ⟨b,0,none⟩ x0).setCell ⟨b,1,none⟩ x1).setCell ⟨b,2,none⟩ x2).setCell ⟨b,3,none⟩ x3).setCell ⟨b,4,none⟩ x4).setCell ⟨b,5,none⟩ x5).setCell ⟨b,6,none⟩ x6).setCell ⟨b,7,none⟩ x7).heap[k]?=w.heap[k]?:=by
 have hs:=fun (A:World) (j:Nat) (v:Value)=>Below.heap_setCell A ⟨b,j,none⟩ v k hk
 rw[hs,hs,hs,hs,hs,hs,hs,hs]
abbrev qF (S:Sto) (t:List UInt8):Sto:=⟨S.bs,S.ws,t,S.last⟩
theorem ju {S:Sto} (h:qo S=true):Xz S:=by
 obtain⟨h1,h2,h3,h4⟩:=qV h
 have hd:Zz S.bs S.ws=true:=by unfold qo at h;simp at h;exact h.1
 obtain⟨d1,d2,d3,d4⟩:=Ui hd
 exact⟨d1,d2,d3,d4,by omega,by omega⟩
def YR (t:List UInt8) (a:Nat):List UInt8:=t.set a (UInt8.ofNat (zL t a-1))
theorem qdv {n:Nat} (h:0<n) (h2:n<256):IntKind.u8.wrap ((n:Int)-1)=(((UInt8.ofNat (n-1)).toNat:Nat):Int):=by
 rw[←qdL]
 congr 1
 omega
theorem Ub {R:Ending→World→Prop} {a:Act} {W:World} {v:Value} (h4:a.tmps[4]?.getD undef=v) (hd:a.defers=[]) (hR:R (.returned v) W):bodyPost Tryz.prog Tryz.f133 R .ret a W:=by
 refine bodyPost_ret (v:=v) ?_ hd hR
 simp[results,Tryz.results133,go_sem,h4]
theorem QH.set4 {lo lo' b:Nat} {S:Sto} {u:Value} {W:World} (h:QH lo S u W) (hl:lo'≤lo) (hb:b<lo) (x0 x1 x2 x3:Value):QH lo' S u ((((W.setCell ⟨b,0,none⟩ x0).setCell ⟨b,1,none⟩ x1).setCell ⟨b,2,none⟩ x2).setCell ⟨b,3,none⟩ x3):=
 h.keep hl (by simp) fun b' hb' _=>(Below.heap_setCell _ _ _ _ (by simp;omega)).trans ((Below.heap_setCell _ _ _ _ (by simp;omega)).trans ((Below.heap_setCell _ _ _ _ (by simp;omega)).trans (Below.heap_setCell _ _ _ _ (by simp;omega))))
end Go.Proofs.YtpbniokljofedaaGreat
