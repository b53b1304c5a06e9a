/- Lemmas of the proof. -/
import Derived.ChangeKeysEq
import Derived.Test.YtmeadnlmepcmbaaGreatZN07
set_option linter.all false
set_option maxHeartbeats 8000000
open Go.Proofs.Tryz
namespace Go.Proofs.YtmeadnlmepcmbaaGreat
open Go.RowKit
def outOn (lo B:Nat) (A1:OA) (n1 c1:Nat) (A2:OA) (n2:Nat) (n3:Nat) (A4:OA) (n4 c4:Nat) (S:Sto):Qe:=⟨Nat,fun b=>.pointer (some ⟨b,0,none⟩),fun b W=>∃ A3' c3',OnB lo b (.slice A1 n1 c1) (.slice A2 n2 n2) (.slice A3' n3 c3') (.slice A4 n4 c4) S W/\Zv lo (.slice A3' n3 c3')⟩
theorem qaL (lo B:Nat) (A1:OA) (n1 c1:Nat) (A2:OA) (n2:Nat) (n3:Nat) (A4:OA) (n4 c4:Nat) (S:Sto) (b:Nat):(outOn lo B A1 n1 c1 A2 n2 n3 A4 n4 c4 S).f b=.pointer (some ⟨b,0,none⟩):=rfl
theorem qeJ (lo B:Nat) (A1:OA) (n1 c1:Nat) (A2:OA) (n2:Nat) (n3:Nat) (A4:OA) (n4 c4:Nat) (S:Sto):∀ p,QW ((outOn lo B A1 n1 c1 A2 n2 n3 A4 n4 c4 S).φ p):=fun p W W' he ⟨A,c,⟨h1,h2,h3⟩,h4⟩=>⟨A,c,⟨h1,qb h2 he,h3.ext he⟩,h4⟩
def qeI (lo:Nat):Qe:=⟨Nat,fun b=>.map (some b),fun b W=>lo<=b/\b<W.heap.size/\Zl W b fun _=>none⟩
theorem UF (lo b:Nat):(qeI lo).f b=.map (some b):=rfl
theorem qcR (lo:Nat):∀ p,QW ((qeI lo).φ p):=fun p W W' he ⟨h1,h2,h3⟩=>⟨h1,Nat.lt_of_lt_of_le h2 he.size,h3.of_heap (he.block p h2)⟩
theorem run_mm (t:TypeId) (W:World):(Instr.makeMap t none).run prog W=.ok (.map (some W.heap.size)) (W.alloc (.map #[] 0)):=rfl
theorem run_bx (cs:Array Value) (t:TypeId) (W:World):(Instr.box t (.agg cs)).run prog W=.ok (.pointer (some ⟨W.heap.size,0,none⟩)) (W.alloc (.cells cs t)):=rfl
theorem Th {cs:Array Value} {k:Nat} {v:Value} (hk:k<256) (hv:cs[k]?=some v) (W:World):(Instr.index 94 (.agg cs) (.int .i64 (k:Int))).run prog W=.ok v W:=by obtain⟨i0,hi,hz0,hz1,hz2⟩:=info_parts Tryz.info_int;have hp:=run_part_plain (P:=prog) (w:=W) (e:=3) zQ hv;have h0:(0:Int)<=(k:Int)/\(k:Int)<256:=zO;simp[Instr.index,asIntOf,run_underlying underlying94,h0,sizeOf,typeInfo,hi,hz1,hp,Sem.run_bind];intro hge;omega
theorem kF {R:Ending->World->Prop} {a:Act} {W:World} {u v:Value} (h2:a.tmps[2]?.getD undef=u) (h3:a.tmps[3]?.getD undef=v) (hd:a.defers=[]) (hR:R (.returned (.tuple #[u,v])) W):bodyPost prog Tryz.f59 R .ret a W:=by refine bodyPost_ret (v:=.tuple #[u,v]) ?_ hd hR;simp[results,results59,go_sem,h2,h3]
set_option maxRecDepth 100000 in
theorem KI (A1 n1 c1 A2 n2 c2 A3 n3 c3 A4 n4 c4) (gen root next:Int) (A5 c5) (S:Sto) (dead:List Int) (w:World) (h:qZ w w.heap.size (.slice A1 n1 c1) (.slice A2 n2 c2) (.slice A3 n3 c3) (.slice A4 n4 c4) S) (hd:Zw w w.heap.size (.slice A5 dead.length c5) dead):Calls prog 59 #[.agg (qC (.slice A1 n1 c1) (.slice A2 n2 c2) (.slice A3 n3 c3) (.slice A4 n4 c4) gen root next (.slice A5 dead.length c5))] w (XZ S root next dead w):=by
 have HCK:=zH (fun W (hx:Ext w W)=>Ji A1 n1 c1 A2 n2 c2 A3 n3 c3 A4 n4 c4 S W (h.ext hx));have HNL:ql S=true->S.now.length<1073741824:=fun hm=>by have:=(qX hm).2.2.1;omega
 have HON:=zH (fun (hm:ql S=true) W (hx:Ext w W)=>qij A1 n1 c1 A2 n2 c2 A3 n3 c3 A4 n4 c4 S (HNL hm) W (h.ext hx));replace h:=zH h;replace hd:=zH hd;clear HNL;go_enter func59,ntmps59;go_wp2_with fail;generalize hw1:World.alloc w _=w1;have x1:Ext w w1:=by rw[<-hw1];exact zN _ _
 have p1:w1.heap[w.heap.size]?=some (.cells (qC (.slice A1 n1 c1) (.slice A2 n2 c2) (.slice A3 n3 c3) (.slice A4 n4 c4) gen root next (.slice A5 dead.length c5)) 32 (0,0)):=by rw[<-hw1];exact zI _ _ _ rfl
 clear hw1;refine(HCK.out w1 x1).mono ?_;rintro e w2 ⟨rfl,hB⟩;have x2:=x1.trans hB;have p2:=qb p1 hB;have k2:=qa p2;clear hB p1 x1 HCK;rcases hmay:ql S with _|_
 ·unfold Jz;have HB:=zH (XZ.bad (S:=S) (next:=next) (root:=root) (dead:=dead) x2 (fun vs hp=>by have:=hp.may;rw[hmay] at this;cases this));replace hmay:=zH hmay;go_wp2_with fail;exact kF rfl rfl rfl HB.out
 ·unfold Jz;rcases Nat.lt_or_ge 40 dead.length with h40|h40
  ·have hq:decide ((dead.length:Int)>40)=true:=decide_eq_true zO;have HB:=zH (XZ.bad (S:=S) (next:=next) (root:=root) (dead:=dead) x2 (fun vs hp=>by have:=hp.few;omega));replace hmay:=zH hmay;go_wp2_with fail;exact kF rfl rfl rfl HB.out
  ·have hq:decide ((dead.length:Int)>40)=false:=decide_eq_false zO;have hXU:=zH hmay;clear hmay;go_wp2_with fail;have gP:∀ W,qm.r w2 W->∀ i,W.cell? ⟨w.heap.size,i,none⟩=(qC (.slice A1 n1 c1) (.slice A2 n2 c2) (.slice A3 n3 c3) (.slice A4 n4 c4) gen root next (.slice A5 dead.length c5))[i]?:=fun W h=>qa (qb p2 h);have hz2:w.heap.size<w2.heap.size:=(zG.1 p2).1;refine qp zQ ?_;refine Qa (w:=w2) qm (qM [(4,outOn w2.heap.size w2.heap.size A1 n1 c1 A2 n2 n3 A4 n4 c4 S),(5,qeI w2.heap.size)])
    [true,true,true,true,true,true,true] 2 zQ zQ zQ zQ zQ zQ zQ ?st (Rel.drew _ _) ?walk
   case st=>exact qj (by simp only[List.forall_mem_cons];exact⟨fun p=>Qp (qeJ _ _ _ _ _ _ _ _ _ _ _ _ p),fun p=>Qp (qcR _ p),fun _ h=>by cases h⟩)
   case walk =>
    intro K hK;dsimp only[qw];repeat ((first|(refine qe ?_ zA0 zA0 (fun W hW _=>⟨W,?_,Rel.refl _ W⟩) ?_;rotate_left;(go_simp<;>with_reducible rfl))|(refine qh zA0 ?_));try simp only[Act.put,qk,qf,qc,qg,qaL,UF,zA,zB,zC])
    refine qz (outOn w2.heap.size w2.heap.size A1 n1 c1 A2 n2 n3 A4 n4 c4 S) zA0 zA0 (fun W hW _=>?_) (fun (bb:Nat)=>?_)
    ·have hWx:Ext w2 W:=hW;refine qV ?_ ((HON.out hXU.out W (x2.trans hWx)).mono fun e w' h=>?_)
     ·go_simp
     ·obtain⟨u,rfl,⟨b,A3',c3',rfl,h1,h2⟩,h3⟩:=h;exact⟨b,rfl,⟨A3',c3',⟨Nat.le_trans hWx.size h1.1,h1.2⟩,h2.mono hWx.size⟩,h3⟩
    simp only[Act.put,qf,qc,qg,qaL,UF,zA,zB,zC];refine qz (qeI w2.heap.size) zA0 zA0 (fun W hW _=>?_) (fun (mb:Nat)=>?_)
    ·have hWx:Ext w2 W:=hW;have hmm:=run_mm 93 W;refine ZD (u:=.map (some W.heap.size)) (w':=W.alloc (.map #[] 0)) ?_ ⟨W.heap.size,rfl,⟨hWx.size,zA2,Zl.empty W⟩,zN _ _⟩;go_simp
    simp only[Act.put,qf,qc,qg,qaL,UF,zA,zB,zC];refine qe (.agg (ca0 (.slice A1 n1 c1) (.slice A2 n2 c2) (.slice A3 n3 c3) (.slice A4 n4 c4) bb mb)) zA0 zA0 (fun W hW _=>⟨W,?_,Rel.refl _ W⟩) ?_
    ·go_simp;exact ca_eq _ _ _ _ _ _
    simp only[Act.put,qf,qc,qg,qaL,UF,zA,zB,zC];refine qA (hK _ _ fun W hW hF=>?_);have hWx:Ext w2 W:=hW;have HO:=(hF 4).1;have HM:=(hF 5).1;clear hF hK gP;change ∃ A3' c3',_ at HO;change w2.heap.size<=mb/\mb<W.heap.size/\Zl W mb _ at HM;obtain⟨A3',c3',hon,hfr⟩:=HO;obtain⟨hm1,hm2,wPK⟩:=HM;obtain⟨hb1,hCA,hst⟩:=hon;have xW:=x2.trans hWx;have pW:=qb p2 hWx;refine zB4 ?_;have hca:=ca0_ar (.slice A1 n1 c1) (.slice A2 n2 c2) (.slice A3 n3 c3) (.slice A4 n4 c4) bb mb;have wJC:∀ i,i<6->(ca0 (.slice A1 n1 c1) (.slice A2 n2 c2) (.slice A3 n3 c3) (.slice A4 n4 c4) bb mb)[i]?=(#[.slice A1 n1 c1,.slice A2 n2 c2,.slice A3 n3 c3,.slice A4 n4 c4,.pointer (some ⟨bb,0,none⟩),.map (some mb)]:Array Value)[i]?:=fun i hi=>ca0_low _ _ _ _ _ _ hi;generalize (ca0 (.slice A1 n1 c1) (.slice A2 n2 c2) (.slice A3 n3 c3) (.slice A4 n4 c4) bb mb)=ca at *;have hbx:=run_bx ca;replace hca:=zH hca;replace wJC:=zH wJC;clear hW hWx x2 p2;go_wp2_with fail;refine Qw ?_;have hcc:W.heap.size=W.heap.size:=rfl;obtain⟨cb,hcb⟩:∃ cb,cb=W.heap.size:=⟨_,rfl⟩
    generalize hw3:World.alloc W _=w3;have x3:Ext W w3:=by rw[<-hw3];exact zN _ _
    have r3:w3.heap[cb]?=some (.cells ca 96 (0,0)):=by rw[<-hw3];exact zI _ _ _ hcb
    have z3:w3.heap.size=cb+1:=by rw[<-hw3,hcb];simp
    clear hw3 hcc;have hbb:bb<W.heap.size:=(zG.1 hCA).1;have xw3:=xW.trans x3;have C3:Cen ⟨S,w.heap.size,w3.heap.size,cb,bb,mb,ca,.slice A1 n1 c1,.slice A2 n2 c2,.slice A3 n3 c3,.slice A4 n4 c4,.slice A1 n1 c1,.slice A2 n2 n2,.slice A3' n3 c3',.slice A4 n4 c4⟩ w3 (fun _=>none):={
     row:=r3
     c0:=wJC.out 0 zO
     c1:=wJC.out 1 zO
     c2:=wJC.out 2 zO
     c3:=wJC.out 3 zO
     c4:=wJC.out 4 zO
     c5:=wJC.out 5 zO
     map:=wPK.of_heap (x3.block _ hm2)
     known:=fun a v hv=>by cases hv
     sto:=h.out.below xw3
     on:=qb hCA x3
     onb:=(h.out.below xw3).bs
     onw:=(h.out.below xw3).ws.clip
     onl:=(h.out.below xw3).last
     onn:=(hst.now.below x3).more x3.size
     onf:=fun A n c e=>by have hn:=(Bys.at_ hst.now).2.2.2;have hl:=(qX hXU.out).2.2.1;have hn3:=(Bys.at_ hst.now).1;obtain⟨b,off,hA,hb⟩:=hn zO;have e':Value.slice A3' n3 c3'=.slice (some A) n c:=e;rw[hA] at e';simp only[Value.slice.injEq,Option.some.injEq] at e';rw[<-e'.1];show b≠cb;omega
     low:=by
      show cb<w3.heap.size/\bb<w3.heap.size/\mb<w3.heap.size/\cb≠mb/\bb≠mb/\w3.heap.size<=w3.heap.size/\w.heap.size<=cb/\w.heap.size<=bb/\w.heap.size<=mb/\cb≠bb;have hne:bb≠mb:=by rintro rfl;obtain⟨es,clock,h1,_⟩:=wPK;rw[hCA] at h1;cases h1
      omega
     may:=hXU.out }
    rw[<-hcb];have pw3:=qb pW x3;have hcw:w.heap.size<=cb:=zO;have hw3:w.heap.size<cb:=by have:=(zG.1 pW).1;omega
    generalize hpp:(⟨S,w.heap.size,w3.heap.size,cb,bb,mb,ca,.slice A1 n1 c1,.slice A2 n2 c2,.slice A3 n3 c3,.slice A4 n4 c4,.slice A1 n1 c1,.slice A2 n2 n2,.slice A3' n3 c3',.slice A4 n4 c4⟩:CP)=p at C3;have pS:p.S=S:=by rw[<-hpp]
    have pcb:p.cb=cb:=by rw[<-hpp]
    have pmb:p.mb=mb:=by rw[<-hpp]
    have plo:p.lo=w3.heap.size:=by rw[<-hpp]
    have pca:p.ca=ca:=by rw[<-hpp]
    have hmb:w.heap.size<mb:=by have:=(zG.1 pW).1;omega
    clear hpp hbx wPK hst hCA hfr pW x3 r3 z3 hb1 hm1 hm2 hbb hcb;have kp:=qa pw3;go_wp2_with fail;have HLR:=qbx p root w3 _ C3;rw[pcb] at HLR;refine HLR.mono ?_;rintro e w4 ⟨v,g,rfl,⟨lvl,A,n,c,fk,lk,rfl,hLA⟩,hgr,hm,hg,hn⟩;have C4:=C3.after hgr hm hg hn;rw[pS] at hLA ⊢;have hz3:cb<w3.heap.size:=by rw[<-pcb];exact(zG.1 C3.row).1
    have x4:Below w.heap.size w w4:=xw3.grown hg zO (fun q hq=>by cases hq;rw[pmb];omega);have pw4:=(hg.block w.heap.size zO zA1).trans pw3;have z4:=hg.size;have hcb4:cb<w4.heap.size:=by rw[<-pcb];exact(zG.1 C4.row).1
    rcases hok:okL S (-1) root with _|_
    ·have HB:=zH (fun W (hx:Ext w4 W)=>XZ.bad (S:=S) (next:=next) (root:=root) (dead:=dead) (x4.trans (Below.mono hx zO)) (fun vs hp=>by have:=hp.top;rw[hok] at this;cases this));replace C4:=zH C4;replace C3:=zH C3;replace hok:=zH hok;clear hLA hgr hm hg hn HLR kp pw3 pw4;go_wp2_with fail;exact kF rfl rfl rfl (HB.out _ (zN _ _))
    ·obtain⟨a,ha,hTH⟩:=vn hok;have hga:=hLA hok;rw[hok] at hga;obtain⟨n9,lv,xs,A',c',fk',lk',b',e9,-,-,hnode,hv,hCL,hsp,hcl⟩:=C4.known _ _ hga;rw[pS] at hnode hsp;simp only[Value.agg.injEq,Array.mk.injEq,List.cons.injEq,Value.int.injEq,Value.bool.injEq,Value.slice.injEq,true_and,and_true] at hv;obtain⟨rfl,⟨rfl,rfl,rfl⟩,-,-,-,-,-,-,rfl⟩:=hv;have wTB:=(qQ hnode).1;have hxs:=fun y hy=>((qQ hnode).2.1 y hy).1;have hlen:xs.length<=5:=by unfold Qn Jq at wTB;simp at wTB;omega
     have hvo:TR S root next=ZR next [] (qI S lv xs):=by
      unfold TR;rw[e9,Int.toNat_natCast,hnode];show ZR next [] (qI S (lv:Int).toNat xs)=_
      rw[Int.toNat_natCast]
     have wPU:(qG S lv xs).isSome=true:=hsp.1.symm;have wPG:0<lv->∀ y∈xs,(g y.r).isSome=true:=hcl rfl;replace C4:=zH C4;replace C3:=zH C3;replace hok:=zH hok;replace hCL:=zH hCL;replace wPU:=zH wPU;replace wPG:=zH wPG;replace hxs:=zH hxs;replace hvo:=zH hvo;replace hnode:=zH hnode;replace hTH:=zH hTH;replace hga:=zH hga;replace ha:=zH ha;replace e9:=zH e9;have kp4:=qa pw4;have hzw4:w.heap.size<w4.heap.size:=zO;clear hLA hgr hm hg hn HLR kp pw3 hsp hcl wTB;go_wp2_with fail;generalize hw5:World.alloc w4 _=w5;have x45:Ext w4 w5:=by rw[<-hw5];exact zN _ _
     clear hw5;have x5:=x4.trans (Below.mono x45 zO);have pw5:=qb pw4 x45;have C5:=C4.out.ext x45;have hQE:=hCL.out.keep x45.size (fun q _ hq=>Below.cell x45 hq);have I5:VolI p w5 w5 [] (.slice none 0 0) ca (fun _=>0) (fun _=>0):=by
      refine⟨⟨Off.refl (zM _),?_,hca.out,fun i _=>by rw[pca],(zG.1 C5.row).1⟩,World.ownsRow_nil _ _ _ _⟩;have:=C5.row
      rwa [pca] at this
     have HV:=qhh p w5 g (fun _=>0) (fun _=>0) (.slice A1 n1 c1) (.slice A2 n2 c2) (.slice A3 n3 c3) (.slice A4 n4 c4) gen root next (.slice A5 dead.length c5) C5 lv xs A c [] (.slice none 0 0) ca w5 I5 zA2 hxs.out hlen hQE (by rw[pS];exact wPU.out) wPG.out
     rw[pcb,pS] at HV;refine HV.mono ?_;rintro e w6 ⟨F6,hm6⟩;clear HV I5;have x6:Below w.heap.size w w6:=⟨F6.os.trans x5.os,F6.tape.trans x5.tape,F6.output.trans x5.output,Nat.le_trans x5.size F6.size,fun k hk=>(F6.block k (Nat.lt_of_lt_of_le hk x5.size) zO (by simp[Value.ownBlock])).trans (x5.block k hk)⟩
     have hz5:w.heap.size<w5.heap.size:=by have:=x45.size;omega
     have hzw6:w.heap.size<w6.heap.size:=by have:=F6.size;omega
     have wVA:cb<w5.heap.size:=by have:=x45.size;omega
     have hmb5:mb<w5.heap.size:=by have h1:=C3.out.low.2.2.1;rw[pmb,plo] at h1;have:=x45.size;omega
     have hcb6:cb<w6.heap.size:=by have:=x45.size;have:=F6.size;omega
     have hmb6:mb<w6.heap.size:=by have h1:=C3.out.low.2.2.1;rw[pmb,plo] at h1;have:=x45.size;have:=F6.size;omega
     rcases hgo:ZR next [] (qI S lv xs) with _|vs
     ·rw[hgo] at hm6;obtain rfl:e=.returned (.int .i64 8):=hm6;have HB:=zH (XZ.bad (S:=S) (next:=next) (root:=root) (dead:=dead) x6 (fun vs hp=>by have:=hp.vols;rw[hvo.out,hgo] at this;cases this));clear kp4 pw4 pw5 F6 x45;replace C5:=zH C5;go_wp2_with fail;exact kF rfl rfl rfl HB.out
     ·rw[hgo] at hm6;obtain⟨rfl,vv,ca6,V6,N6⟩:=hm6;clear N6;have pw6:=(F6.block w.heap.size hz5 zO (by simp[Value.ownBlock])).trans pw5;have kp6:=qa pw6;clear kp4 pw4 pw5 F6 x45;replace C5:=zH C5;replace V6:=zH V6;replace hgo:=zH hgo;replace hQE:=zH hQE;obtain⟨i0,hi,hz0,hz1,hz2⟩:=info_parts Tryz.info_int;go_wp2_with (at_builtin;refine Qg ?_);have hda:Rd (w6.alloc (.cells #[.int .i64 root] 3)) w.heap.size 1 A5 dead.length (dead.map fun (a:Int)=>Value.int .i64 a):=by obtain⟨A',c',e,_,_,hr⟩:=hd.out;cases e;exact(hr.below x6).alloc zO _
      have o7:(w6.alloc (.cells #[.int .i64 root] 3)).ownsRow w6.heap.size 3 1 (.slice (some ⟨w6.heap.size,0,none⟩) 1 1) 1 [.int .i64 root]:=World.ownsRow_lit (base:=w6.heap.size) (e:=3) (size:=1) w6 #[.int .i64 root] 1 (zM _) zA6 rfl;refine QI.go (QF _ rfl (.tmp 48) (.tmp 50) 30 rfl w6.heap.size 3 i0 (.int .i64 0) 1 8 underlying30 hi hz0 hz1 hz2 rfl zD _ 1 [.int .i64 root] rfl o7 w.heap.size A5 dead.length c5 (dead.map fun (a:Int)=>Value.int .i64 a) rfl hda zA7 zO zD zA2 ?_);intro v7 w7 o8 g7 hB7 hv7;have x67:Ext w6 w7:=Below.trans (zN w6 _) hB7;have I1:R1 w6 root dead vs v7 (.int .i64 0) w7:=⟨0,Nat.zero_le _,rfl,by
       have e:GA (vT root dead vs 0)=[.int .i64 root]++dead.map fun (a:Int)=>Value.int .i64 a:=by unfold vT GA;simp
       rw[e];exact o8,x67⟩
      have V7:=V6.out.ext x67;obtain⟨AV,cV,rfl,wVD,wSK⟩:=qB V7.own;have kc7:w7.cell? ⟨cb,518,none⟩=some (.slice AV vs.length cV):=by rw[<-pcb,qa V7.t.row];exact V7.t.ar.vol
      have hvs16:vs.length<=16:=kH next _ _ _ zA2 hgo.out
      replace I1:=zH I1;replace V7:=zH V7;replace x67:=zH x67;clear o7 o8 g7 hv7 hB7 hda hi hz0 hz1 hz2 wVD wSK kp6;go_wp2_with fail;clear kc7;go_loopw [5,57] (fun v i wr=>R1 w6 root dead vs v i wr) (fun _ i _=>vs.length-(intOf i).toNat)
      case atStart=>exact I1.out
      case round =>
       obtain⟨k,hk,rfl,own,xr⟩:=hrel.ex;clear I1;by_cases hlt:k<vs.length
       ·have hCJ:=hlt;obtain⟨bv,offv,eA,hbv,hDL⟩:=(Rd.of_own (V6.out.ext xr).own).2 zO;subst eA;obtain⟨d0,d1,d2,d3⟩:=Xw vs k hCJ;replace d0:=hDL _ _ d0;replace d1:=hDL _ _ d1;replace d2:=hDL _ _ d2;replace d3:=hDL _ _ d3;have HSU:=zH (qeU root dead vs hCJ);generalize vs[k]=u at *;clear hDL;rw[<-Nat.add_assoc] at d1 d2 d3;obtain⟨AR,cR,rfl,wSD,wSF⟩:=qB own;obtain⟨i0,hi,hz0,hz1,hz2⟩:=info_parts Tryz.info_int;replace own:=zH own;replace xr:=zH xr;clear wSD wSF;go_upto_region 11 with fail;generalize hw9:World.alloc wr _=w9;have x9:Ext wr w9:=by rw[<-hw9];exact zN _ _
        have u9:w9.heap[wr.heap.size]?=some (.cells (vol4 u) 36 (0,0)):=by rw[<-hw9];exact zI _ _ _ rfl
        have ku9:=qa u9;clear hw9 d0 d1 d2 d3 u9;go_wp2_with (at_builtin;refine Qg ?_);refine QI.go (jF _ rfl (.tmp 61) (.tmp 64) 30 rfl w6.heap.size 3 i0 (.int .i64 0) 1 8 underlying30 hi hz0 hz1 hz2 rfl zD _ _ _ rfl (QR own.out x9) #[.int .i64 u.root] rfl rfl zA7 zO zD (Nat.le_trans xr.out.size x9.size) ?_);intro v8 w8 own8 _ hB8 _;have IR:R1 w6 root dead vs v8 (.int .i64 ((k:Int)+1)) w8:=⟨k+1,hCJ,rfl,by rw[HSU.out,qku];exact own8,Below.trans (Below.trans xr.out (Below.mono x9 xr.out.size)) hB8⟩
        replace IR:=zH IR;clear own8 hB8 hi hz0 hz1 hz2;go_wp2_with fail;refine⟨IR.out,?_⟩;simp[intOf];omega
       ·have hke:k=vs.length:=zO;subst hke;have VW:=V6.out.ext xr;have CW:=VW.t.cen C5.out;have hRl:(ZU root dead vs).length=1+dead.length+vs.length:=by rw[<-qao];exact qgS root dead vs (zM _)
        rw[qao,<-hRl] at own;obtain⟨AR,cR,rfl,wSD,wSF⟩:=qB own;obtain⟨N,hN⟩:∃ N,N=(ZU root dead vs).length:=⟨_,rfl⟩
        rw[<-hN] at own hRl ⊢;have I2:R2 p wr (.slice AV vs.length cV) (ZU root dead vs) (.int .i64 0) wr:=⟨0,g,ca6,fun _=>0,fun _=>0,Nat.zero_le _,rfl,CW,VW.t.ar,qY.zero _,(fun a ha=>by cases ha),(fun r hr=>by cases hr),qay.refl _ _ _⟩
        have xw:=x6.trans (Below.mono xr zO);have pwr:=qb pw6 xr;clear wSD wSF;replace I2:=zH I2;replace CW:=zH CW;replace VW:=zH VW;replace own:=zH own;replace hRl:=zH hRl;replace hN:=zH hN;replace xw:=zH xw;replace pwr:=zH pwr;clear hrel;generalize wr=w8 at *;go_wp2_with fail;go_loopw [2,3,69] (fun u v i wq=>u=.pointer (some ⟨cb,0,none⟩)/\v=.int .i64 0/\R2 p w8 (.slice AV vs.length cV) (ZU root dead vs) i wq) (fun _ _ i _=>N-(intOf i).toNat)
        case atStart=>exact⟨rfl,rfl,I2.out⟩
        case round =>
         obtain⟨rfl,rfl,hrel⟩:=hrel;obtain⟨k,g2,ca2,refs2,nodes2,hk2,rfl,C2,N2,M2,Q2,hJF,K2⟩:=hrel.ex;clear I2;have hRL:=hRl.out;have hN2:=hN.out;by_cases hlt2:k<(ZU root dead vs).length
         ·have hlt3:k<N:=zO;have hwk:wrap64 ((k:Int)+1)=(k:Int)+1:=IntWalk.wrap64_in _ zO;replace hwk:=zH hwk;obtain⟨br,offr,eR,hbr,hDL⟩:=(Rd.of_own own.out).2 zO;have hbr2:=(QZ own.out)
          subst eR;have hbr3:=hbr2 br rfl;have dk:=hDL k _ (rowI_get _ k hlt2);replace dk:=(World.cell?_of_block (a:=⟨br,offr+k,none⟩) (K2.block br hbr (by rw[pcb];omega) (by rw[pmb];omega))).trans dk;have HTK:=zH (List.take_succ_eq_append_getElem hlt2);have HMM:=zH (List.getElem_mem hlt2);generalize (ZU root dead vs)[k]=r at *;have HT:=tree_any (p.put ca2) (((ZU root dead vs).take k).map Int.toNat) (by rw[List.length_map,List.length_take];omega) r wr g2 refs2 nodes2 _ C2 N2 M2 Q2;change Calls _ _ #[.pointer (some ⟨p.cb,0,none⟩),.int .i64 r] wr _ at HT;rw[pcb] at HT;replace C2:=zH C2;replace N2:=zH N2;replace M2:=zH M2;replace Q2:=zH Q2;replace hJF:=zH hJF;replace K2:=zH K2;replace hRL:=zH hRL;replace hN2:=zH hN2;replace hlt2:=zH hlt2;replace HT:=zH HT;clear hDL hbr2 hbr3;go_wp2_with fail;refine HT.out.mono ?_;rintro e w9 ⟨hE,t1,t2,t3,t4,t5,t6⟩;have K9:qay p.cb p.mb w8 w9:=K2.out.trans ⟨t1,t2,t3,t4,t5⟩;rcases hokr:okL p.S (-1) r with _|_
          ·have x9:=K9.below xw.out (by have:=(zG.1 pwr.out).1;omega) (by rw[pcb];omega) (by rw[pmb];omega);have HB:=zH (XZ.bad (S:=S) (next:=next) (root:=root) (dead:=dead) x9 (fun vs' hp=>by have h1:=hp.vols;rw[hvo.out,hgo.out,Option.some.injEq] at h1;subst h1;have:=hp.ok r HMM.out;rw[pS] at hokr;rw[hokr] at this;cases this));obtain rfl:e=.returned (.int .i64 8):=hE.trans (by show Ending.returned (.int .i64 (if okL p.S (-1) r=true then 0 else 8))=_;rw[hokr];rfl);replace hokr:=zH hokr;clear t1 t2 t3 t4 t5 t6 K9 x9 hE;go_wp2_with fail;exact kF rfl rfl rfl HB.out
          ·obtain⟨ca3,g3,refs3,nodes3,C9,hg9,N9,M9,Q9⟩:=t6 hokr;have IR:R2 p w8 (.slice AV vs.length cV) (ZU root dead vs) (.int .i64 ((k:Int)+1)) w9:=by
            refine⟨k+1,g3,ca3,refs3,nodes3,hlt2.out,rfl,C9,N9,?_,?_,?_,K9⟩
            ·rw[HTK.out,List.map_append];exact M9
            ·rw[HTK.out,List.map_append];exact Q9
            ·intro r' hr';rw[HTK.out] at hr';rcases List.mem_append.1 hr' with h1|h1
             ·exact hJF.out r' h1
             ·rw[List.mem_singleton.1 h1];exact hokr
           replace IR:=zH IR;obtain rfl:e=.returned (.int .i64 0):=hE.trans (by show Ending.returned (.int .i64 (if okL p.S (-1) r=true then 0 else 8))=_;rw[hokr];rfl);replace hokr:=zH hokr;clear hE t1 t2 t3 t4 t5 t6 K9 C9 hg9 N9 M9 Q9;go_wp2_with fail;rw[hwk.out];refine⟨⟨rfl,rfl,IR.out⟩,?_⟩;simp[intOf];omega
         ·have xAH:k=(ZU root dead vs).length:=zO;have hlt3:¬k<N:=zO;rw[xAH,List.take_length] at M2 Q2 hJF;have k9:=qa C2.row;have hkN:k=N:=zO;replace xAH:=zH xAH;replace hJF:=zH hJF;replace C2:=zH C2;replace M2:=zH M2;replace Q2:=zH Q2;replace K2:=zH K2;replace N2:=zH N2;clear hrel hk2 hlt2 hRL hN2;have hz8:w.heap.size<w8.heap.size:=(zG.1 pwr.out).1;have x9:Below w.heap.size w wr:=K2.out.below xw.out zO (by rw[pcb];omega) (by rw[pmb];omega);have pw9:=(K2.out.block w.heap.size hz8 (by rw[pcb];omega) (by rw[pmb];omega)).trans pwr.out;have kp9:=qa pw9;have rc9:=C2.out.row;change wr.heap[p.cb]?=some (.cells ca2 _ _) at rc9;rw[pcb] at rc9;have hcc:∀ j v,(YT refs2)[j]?=some v->wr.cell? ⟨cb,6+j,none⟩=some v:=fun j v hj=>by obtain⟨h1,rfl⟩:=qiP hj;rw[qa rc9];exact N2.out.ref j h1
          have hst9:=h.out.below x9;obtain⟨A'',c'',e3,hlc,hmc,hr3⟩:=hst9.now;have hl3:S.now.length=256:=(qX hXU.out).2.2.1;have xAV:∃ b3 o3,(Value.slice A3 n3 c3)=.slice (some ⟨b3,o3,none⟩) 256 c3/\∀ j,j<256->wr.cell? ⟨b3,o3+j,none⟩=some (.int .u8 ((S.now[j]?.getD 0).toNat:Int)):=by rw[Value.slice.injEq] at e3;obtain⟨rfl,hn3,rfl⟩:=e3;obtain⟨b3,o3,hA3,_,xEM⟩:=hr3.2 zO;refine⟨b3,o3,by rw[hA3,hn3,hl3],fun j hj=>?_⟩;exact xEM j _ (by rw[List.getElem?_map,zL zO];rfl)
          obtain⟨b3,o3,eN,hcN⟩:=xAV;rw[eN] at kp9;replace hcN:=zH hcN;replace x9:=zH x9;clear hst9 hr3 hlc hmc pw9 rc9;replace e3:=zH e3;replace eN:=zH eN;go_upto_region 20 with fail;go_wp2_with (refine KO rfl 94 (.tmp 82) rfl cb 6 rfl (YT refs2) _ hcc underlying94 rfl (by rw[show (YT refs2).length=256 by simp[YT]];kernel_rfl) ?_);clear hcc;replace hkN:=zH hkN;go_loopw [2,3,84] (fun u v i wq=>u=.pointer (some ⟨cb,0,none⟩)/\v=.int .i64 0/\R3 S refs2 wr i wq) (fun _ _ i _=>256-(intOf i).toNat)
          case atStart=>exact⟨rfl,rfl,0,zO,rfl,fun a h=>absurd h (Nat.not_lt_zero _),rfl⟩
          case round =>
           obtain⟨rfl,rfl,hrel⟩:=hrel;obtain⟨q,hq3,rfl,hle,rfl⟩:=hrel.ex;clear hrel;have hMD:qY S (Qj root dead vs) refs2 nodes2:=by have:=M2.out;rw[pS] at this;exact this
           have hEG:Qo S root next dead vs:=⟨hXU.out,h40,hok.out,hvo.out.trans hgo.out,fun r hr=>by have:=hJF.out r hr;rwa [pS] at this⟩
           by_cases hl4:q<256
           ·have dN:=hcN.out q hl4;have hix:=Th (cs:=(YT refs2).toArray) hl4 (v:=.int .i64 (refs2 q)) (by rw[List.getElem?_toArray];exact qaX refs2 hl4);generalize hnv:(S.now[q]?.getD 0).toNat=nv at *;have hnv2:nv<256:=by rw[<-hnv];exact UInt8.toNat_lt _
            have hwq:=zH (IntWalk.wrap64_in ((q:Int)+1) zO);replace hnv:=zH hnv;replace hle:=zH hle;replace hMD:=zH hMD;replace hEG:=zH hEG;rcases Nat.lt_or_ge nv (refs2 q) with hg|hg
            ·have hc1:decide ((refs2 q:Int)>(nv:Int))=true:=decide_eq_true zO;have hc2:decide (nv<refs2 q)=true:=decide_eq_true hg;have HB:XZ S root next dead w (.returned (.tuple #[.pointer none,.int .i64 8])) wr:=⟨x9.out,.inl ⟨rfl,fun vs' hp=>by have h1:=hp.vols;rw[hvo.out,hgo.out,Option.some.injEq] at h1;subst h1;exact⟨refs2,nodes2,hMD.out,fun he=>by have:=he q hl4;rw[hnv.out] at this;omega⟩⟩⟩
             replace HB:=zH HB;replace hg:=zH hg;generalize (YT refs2).toArray=arr at *;go_wp2_with fail;exact kF rfl rfl rfl HB.out
            ·have hc1:decide ((refs2 q:Int)>(nv:Int))=false:=decide_eq_false zO;have hc2:decide (nv<refs2 q)=false:=decide_eq_false zO;have IR:R3 S refs2 wr (.int .i64 ((q:Int)+1)) wr:=⟨q+1,hl4,rfl,fun a ha=>by
              rcases Nat.lt_or_ge a q with h1|h1
              ·exact hle.out a h1
              ·obtain rfl:a=q:=zO;rw[hnv.out];exact hg,rfl⟩
             replace IR:=zH IR;replace hg:=zH hg;generalize (YT refs2).toArray=arr at *;go_wp2_with fail;refine⟨⟨rfl,rfl,IR.out⟩,?_⟩;simp[intOf];omega
           ·have hen:QB S refs2:=fun a ha=>hle a zO;have HT:XZ S root next dead w (.returned (.tuple #[.pointer (some ⟨cb,0,none⟩),.int .i64 0])) wr:=⟨x9.out,.inr ⟨vs,refs2,nodes2,cb,ca2,.slice AV vs.length cV,rfl,⟨hEG,hMD,hen,hcw,by rw[<-pcb];exact C2.out.row,N2.out,Qz (own_kept VW.out.own K2.out (by rw[pcb];exact wVA) (by rw[pmb];exact hmb5)) zO⟩⟩⟩
            replace HT:=zH HT;replace hMD:=zH hMD;replace hEG:=zH hEG;replace hen:=zH hen;replace hle:=zH hle;go_wp2_with fail;exact kF rfl rfl rfl HT.out
def ZQ (vs:List Vol) (id:Int):Option Vol:=vs.find? fun v=>decide (v.id=id)
abbrev qaF:Vol:=⟨0,0,false,0⟩
def volQ:Option Vol->Value
 |none=>.tuple #[VA qaF,.int .i64 6]
 |some v=>.tuple #[VA v,.int .i64 0]
def VolIx (vs:List Vol) (id:Int) (u:Value):Prop:=(∃ (j:Nat) (hj:j<vs.length),u=.int .i64 (j:Int)/\ZQ vs id=some vs[j])\/(u=.int .i64 (-1)/\ZQ vs id=none)
theorem qhg {vs:List Vol} {id:Int} {j:Nat} (hj:j<vs.length) (he:vs[j].id=id) (hn:∀ i (hi:i<vs.length),i<j->vs[i].id≠id):VolIx vs id (.int .i64 (j:Int)):=by refine .inl ⟨j,hj,rfl,?_⟩;unfold ZQ;rw[List.find?_eq_some_iff_getElem];exact⟨by simp[he],j,hj,rfl,fun i hi=>by simp[hn i zO hi]⟩
theorem qcu {vs:List Vol} {id:Int} (hn:∀ i (hi:i<vs.length),vs[i].id≠id):VolIx vs id (.int .i64 (-1)):=by refine .inr ⟨rfl,?_⟩;unfold ZQ;rw[List.find?_eq_none];intro v hv;obtain⟨i,hi,rfl⟩:=List.mem_iff_getElem.1 hv;simp[hn i hi]
set_option maxRecDepth 100000 in
theorem vol1_any (v:Vol) (bi:Nat) (id:Int) (w:World) (h:w.heap[bi]?=some (.cells #[.int .u32 id] 29 (0,0))):Calls prog 61 #[VA v,.pointer (some ⟨bi,0,none⟩)] w (Ret (.bool (decide (v.id=id))) w):=by
 have ki:=qa h;have zi:bi<w.heap.size:=(zG.1 h).1;clear h;go_enter func61,ntmps61;by_cases he:v.id=id
 ·have h1:(v.id == id)=true:=by rw[beq_iff_eq];exact he
  rw[decide_eq_true he];replace he:=zH he;go_wp2;go_ret;exact⟨rfl,zN _ _⟩
 ·have h1:(v.id == id)=false:=by rw[beq_eq_false_iff_ne];exact he
  rw[decide_eq_false he];replace he:=zH he;go_wp2;go_ret;exact⟨rfl,zN _ _⟩
set_option maxRecDepth 100000 in
theorem vidx_any (A c) (vs:List Vol) (hl:vs.length<=16) (bi:Nat) (id:Int) (w:World) (h:w.heap[bi]?=some (.cells #[.int .u32 id] 29 (0,0))) (hr:Rd w w.heap.size 4 A vs.length (jl vs)):Calls prog 60 #[.slice A vs.length c,.func (.func 61) #[] #[.pointer (some ⟨bi,0,none⟩)]] w (zF (fun u _=>VolIx vs id u) w):=by
 replace hr:=zH hr;go_enter func60,ntmps60;go_wp2_with fail;go_loopw [8] (fun i wr=>∃ k:Nat,k<=vs.length/\i=.int .i64 (k:Int)/\Ext w wr/\∀ j (hj:j<vs.length),j<k->vs[j].id≠id) (fun i _=>vs.length-(intOf i).toNat)
 case atStart=>exact⟨0,Nat.zero_le _,rfl,Ext.refl _,fun j _ hj=>absurd hj (Nat.not_lt_zero _)⟩
 case round =>
  obtain⟨k,hk,rfl,xr,hno⟩:=hrel;replace hno:=zH hno;by_cases hlt:k<vs.length
  ·obtain⟨bv,offv,rfl,hbv,hDL⟩:=hr.out.2 zO;obtain⟨d0,d1,d2,d3⟩:=Xw vs k hlt;replace d0:=Ext.cell xr (hDL _ _ d0);replace d1:=Ext.cell xr (hDL _ _ d1);replace d2:=Ext.cell xr (hDL _ _ d2);replace d3:=Ext.cell xr (hDL _ _ d3);have HAT:=zH (fun he=>qhg (id:=id) hlt he fun i hi hik=>hno.out i hi hik);have HNO:=zH (fun (he:vs[k].id≠id) j (hj:j<vs.length) (hjk:j<k+1)=>by
    rcases Nat.lt_or_ge j k with h1|h1
    ·exact hno.out j hj h1
    ·obtain rfl:j=k:=zO;exact he)
   generalize vs[k]=u at *;rw[<-Nat.add_assoc] at d1 d2 d3;clear hDL;have hXI:=zH (IntWalk.wrap64_in ((k:Int)+1) zO);have hV:=vol1_any u bi id wr (qb h xr);go_wp2_with fail;refine hV.mono ?_;rintro e w2 ⟨rfl,hB⟩;clear d0 d1 d2 d3 hV;by_cases he:u.id=id
   ·rw[decide_eq_true he];have HQ:=zH (HAT.out he);clear HAT HNO;replace he:=zH he;go_wp2_with fail;refine bodyPost_ret (v:=.int .i64 (k:Int)) ?_ rfl ⟨_,rfl,HQ.out,Ext.trans xr hB⟩;simp[results,results60,go_sem]
   ·rw[decide_eq_false he];have HQ:=zH (HNO.out he);clear HAT HNO;replace he:=zH he;have hw1:=hXI.out;go_wp2_with fail;refine⟨⟨k+1,hlt,rfl,Ext.trans xr hB,fun j hj hjk=>HQ.out j hj hjk⟩,?_⟩;simp[intOf];omega
  ·obtain rfl:k=vs.length:=zO;have HQ:=zH (qcu (id:=id) fun i hi=>hno.out i hi hi);go_wp2_with fail;refine bodyPost_ret (v:=.int .i64 (-1)) ?_ rfl ⟨_,rfl,HQ.out,xr⟩;simp[results,results60,go_sem]
def qgZ:Obj->Obj
 | .cells c t f=>if f=(0,0) then .cells c t f else .coro none
 |o=>o
def thaw (W:World):World:={ W with heap:=W.heap.map qgZ }
theorem KJ (W:World):(thaw W).heap.size=W.heap.size:=by simp[thaw]
theorem vN (W:World) (k:Nat):(thaw W).heap[k]?=(W.heap[k]?).map qgZ:=by simp[thaw]
theorem thaw_row {W:World} {b:Nat} {cs:Array Value} {t:TypeId} (h:W.heap[b]?=some (.cells cs t (0,0))):(thaw W).heap[b]?=some (.cells cs t (0,0)):=by rw[vN,h];rfl
theorem Qu {w w':World} {q:Addr} (h:w'.heap[q.block]?=w.heap[q.block]?):(thaw w').cell? q=(thaw w).cell? q:=
 World.cell?_of_block (by rw[vN,vN,h])
theorem Below.thaw {B:Nat} {w w':World} (h:Below B w w') {q:Addr} (hq:q.block<B):(thaw w').cell? q=(Go.Proofs.YtmeadnlmepcmbaaGreat.thaw w).cell? q:=Qu (h.block q.block hq)
theorem XN {W:World} {q:Addr} {v:Value} (h:(thaw W).cell? q=some v):W.cell? q=some v/\W.frozen? q=false:=by
 unfold World.cell? at h;rw[vN] at h;unfold World.cell? World.frozen?;cases hb:W.heap[q.block]? with
 |none=>rw[hb] at h;cases h
 |some o =>
  rw[hb] at h;cases o with
  |cells c e f =>
   simp only[Option.map_some,qgZ] at h;by_cases hf:f=(0,0)
   ·subst hf;rw[if_pos rfl] at h;exact⟨h,zA2⟩
   ·rw[if_neg hf] at h;cases h
  |_=>simp only[Option.map_some,qgZ] at h;cases h
theorem JW {W:World} {b:Nat} {cs:Array Value} {t:TypeId} (h:W.heap[b]?=some (.cells cs t (0,0))) (j:Nat):(thaw W).cell? ⟨b,j,none⟩=W.cell? ⟨b,j,none⟩:=by rw[qa h,qa (thaw_row h)]
def Thaw (W:World) (v:Value):Prop:=∀ a n c,v=.slice (some a) n c->0<n->∃ cs t,W.heap[a.block]?=some (.cells cs t (0,0))
theorem Thaw.of_own {w:World} {base n size:Nat} {e:TypeId} {v:Value} {xs:List Value} (h:w.ownsRow base e size v n xs):Thaw w v:=by
 intro a n' c ev hn;rcases h.2 with ⟨rfl,rfl⟩|⟨g,cap,cur,rfl,_,hg,_⟩
 ·cases ev
 ·cases ev;exact⟨_,_,hg⟩
def vy (lo:Nat) (v:Value) (l:List UInt8) (W:World):Prop:=Bys W W.heap.size v l/\Zv lo v/\Thaw W v
theorem vy.of_own {w:World} {base n:Nat} {e:TypeId} {v:Value} {l:List UInt8} (h:w.ownsRow base e 1 v n (l.map bv)):vy base v l w:=⟨Bys.of_own h,Zv.of_own h,Thaw.of_own h⟩
theorem vy.mono {lo lo':Nat} {v:Value} {l:List UInt8} {W:World} (h:vy lo v l W) (hl:lo'<=lo):vy lo' v l W:=⟨h.1,h.2.1.mono hl,h.2.2⟩
theorem vy.grown {lo:Nat} {v:Value} {l:List UInt8} {W W':World} {row:Option Nat} (h:vy lo v l W) (hg:W.grownBy W' row) (ha:∀ a n c,v=.slice (some a) n c->0<n->row≠some a.block):vy lo v l W':=by refine⟨h.1.grown hg ha,h.2.1,fun a n c e hn=>?_⟩;obtain⟨A',c',e',_,_,hr⟩:=h.1;have e2:=e';rw[e] at e';simp only[Value.slice.injEq] at e';obtain⟨e1,e3,_⟩:=e';obtain⟨b,off,e4,hbb,_⟩:=hr.2 zO;rw[<-e1] at e4;simp only[Option.some.injEq] at e4;have:=ha a n c e hn;rw[hg.block a.block (by rw[e4];exact hbb) (fun x=>this x.symm)];exact h.2.2 a n c e hn
theorem vy.ext {lo:Nat} {v:Value} {l:List UInt8} {W W':World} (h:vy lo v l W) (hx:Ext W W'):vy lo v l W':=h.grown (Zk hx none) fun _ _ _ _ _ x=>by cases x
theorem vy.thaw {lo:Nat} {v:Value} {l:List UInt8} {W:World} (h:vy lo v l W):Bys (thaw W) W.heap.size v l:=by obtain⟨⟨A,c,e,hc,hm,hr⟩,_,ht⟩:=h;refine⟨A,c,e,hc,hm,hr.1,fun hn=>?_⟩;obtain⟨b,off,e2,hb,hcs⟩:=hr.2 hn;obtain⟨cs,t,hCA⟩:=ht ⟨b,off,none⟩ l.length c (by rw[e,e2]) hn;exact⟨b,off,e2,hb,fun j u hu=>(JW hCA _).trans (hcs j u hu)⟩
theorem vy.from {lo:Nat} {v:Value} {l:List UInt8} {W:World} (h:vy lo v l W):Zv lo v:=h.2.1
def TS (base:Nat) (e:TypeId) (size lo:Nat) (v:Value) (n:Nat) (xs:List Value) (f:Value->List Value) (l:List UInt8) (v':Value) (W:World):Prop:=
 ∃ A c,Done base e size lo v (n+1) (xs++f (.slice A l.length c)) v' W/\vy lo (.slice A l.length c) l W/\vB v' (.slice A l.length c)
theorem TS.ext {base:Nat} {e:TypeId} {size lo:Nat} {v:Value} {n:Nat} {xs:List Value} {f:Value->List Value} {l:List UInt8} {v':Value} {W W':World} (h:TS base e size lo v n xs f l v' W) (hx:Ext W W'):TS base e size lo v n xs f l v' W':=by obtain⟨A,c,h1,h2,h3⟩:=h;exact⟨A,c,⟨QR h1.1 hx,h1.2⟩,h2.ext hx,h3⟩
def appX (base:Nat) (e:TypeId) (size lo:Nat) (v:Value) (n:Nat) (xs:List Value) (f:Value->List Value) (l:List UInt8):Rel where
 rel W W':=W.grownBy W' v.ownBlock/\(W.ownsRow base e size v n xs->W'.ownsRow base e size v n xs)/\∀ v',TS base e size lo v n xs f l v' W->TS base e size lo v n xs f l v' W'
 refl' W:=⟨World.grownBy.refl _ _,id,fun _=>id⟩
 trans' h k:=⟨h.1.trans k.1,fun x=>k.2.1 (h.2.1 x),fun v' x=>k.2.2 v' (h.2.2 v' x)⟩
 drew' W:=⟨⟨rfl,rfl,rfl,zM _,fun _ _ _=>rfl⟩,fun h=>h.drew,fun v' h=>h.ext (Ext.drew W)⟩
section
variable {base:Nat} {e:TypeId} {size lo:Nat} {v:Value} {n:Nat} {xs:List Value} {f:Value->List Value} {l:List UInt8}
theorem TU {W W':World} (h:Ext W W'):(appX base e size lo v n xs f l).r W W':=
 ⟨Zk h _,fun x=>QR x h,fun _ x=>x.ext h⟩
theorem TV {W W':World} (h:(appX base e size lo v n xs f l).r W W') {b:Nat} {o:Obj} (hp:v.ownBlock≠some b) (hc:W.heap[b]?=some o):W'.heap[b]?=some o:=
 (h.1.block b (zG.1 hc).1 (fun x=>hp x.symm)).trans hc
theorem qeW {P:Program} (W:World) (t ty:TypeId) (i:TypeInfo) (z:Value) (bytes:Nat) (ht:P.underlying t=some (.slice e)) (hi:P.info? e=some i) (hz:i.zero=some z) (hLX:i.size=size) (hby:i.bytes=bytes) (hzs:z.cells.size=size) (hsz:0<size) (hBQ:W.ownsRow base e size v n xs) (a:Addr) (A c) (hl:(f (.slice A l.length c)).length=size) (wCE:∀ j u,(f (.slice A l.length c))[j]?=some u->W.cell? (a.add j)=some u) (h1:∀ u∈f (.slice A l.length c),u.oneCell'=true) (hnb:vy lo (.slice A l.length c) l W) (hvl:∀ g,v.ownBlock=some g->g<lo) (hn:n+1<1073741824) (hNC:bytes<=65536) (hUC:base<=W.heap.size) (hlo:lo<=W.heap.size) : ∃ v' w',(Builtin.append_ #[t,t] ty #[v,.slice (some a) 1 1]).run P W=.ok v' w'/\TS base e size lo v n xs f l v' w'/\(appX base e size lo v n xs f l).r W w':=by
 have hbs:=hnb.1;have hf:=hnb.2.1;have hb:(n+1)*bytes<=140737488355328:=Nat.le_trans (Nat.mul_le_mul_left _ hNC) zO;have hm:n+1<=maxLen:=zA6;have hl':(f (.slice A l.length c)).length=1*size:=by rw[hl,Nat.one_mul]
 obtain⟨v',w',hr,h2,h3,_,h5⟩:=run_append_own_at (P:=P) W base t ty e i z size bytes ht hi hz hLX hby hzs hsz v n xs hBQ a 1 1 _ hl' wCE h1 hm hb hUC;have hap:vB v (.slice A l.length c):=vB.of_from hf hvl;have hap':vB v' (.slice A l.length c):=by
  intro a n c e hn;rcases h5 with h4|h4
  ·rw[h4];exact hap a n c e hn
  ·rw[h4];intro hx;simp only[Option.some.injEq] at hx;obtain⟨A',c',e',_,_,hr⟩:=hbs;rw[e] at e';simp only[Value.slice.injEq] at e';obtain⟨e1,e2,_⟩:=e';obtain⟨b,off,e3,hbb,_⟩:=hr.2 zO;rw[<-e1] at e3;simp only[Option.some.injEq] at e3;rw[e3] at hx;simp at hx;omega
 have hD:TS base e size lo v n xs f l v' w':=⟨A,c,⟨h2,h5.imp id fun e=>⟨_,e,hlo⟩⟩,hnb.grown h3 hap,hap'⟩
 rcases hBQ.2 with ⟨rfl,rfl⟩|⟨g,cap,cur,rfl,hbg,hg,hnc,hcm,hcs,htk⟩
 ·exact⟨v',w',hr,hD,TU ⟨h3.os,h3.tape,h3.output,h3.size,fun k hk=>h3.block k hk (by simp[Value.ownBlock])⟩⟩
 ·by_cases hroom:n+1<=cap
  ·obtain⟨w2,hr2,g2,g3⟩:=run_append_fits (P:=P) W base t ty e i size ht hi hLX g n cap xs hBQ a 1 1 _ hl' wCE h1 hroom;refine⟨_,w2,hr2,⟨A,c,⟨g2,.inl rfl⟩,hnb.grown g3 hap,hap⟩,g3,fun _=>Yp g2 hBQ.1,fun u hu=>?_⟩;obtain⟨A0,c0,hu,k2,k4⟩:=hu;have k2':=k2.grown g3 (vB.of_from k2.2.1 hvl);rcases hu.1.2 with h0|⟨g',cap',cur',rfl,wZM,hg',xAT,wZT,wSG,xBI⟩
   ·exact⟨A0,c0,⟨⟨hu.1.1,.inl h0⟩,hu.2⟩,k2',k4⟩
   ·by_cases hgg:g'=g
    ·subst hgg;rw[hg] at hg';simp only[Option.some.injEq,Obj.cells.injEq] at hg';obtain⟨rfl,_⟩:=hg';obtain rfl:cap'=cap:=by
      have:cap'*size=cap*size:=by rw[<-wSG,<-hcs]
      exact Nat.eq_of_mul_eq_mul_right hsz this
     exact⟨A,c,⟨g2,.inl rfl⟩,hnb.grown g3 hap,hap⟩
    ·exact⟨A0,c0,⟨⟨hu.1.1,.inr ⟨g',cap',cur',rfl,wZM,(g3.block g' (zG.1 hg').1 (by simpa using hgg)).trans hg',xAT,wZT,wSG,xBI⟩⟩,hu.2⟩,k2',k4⟩
  ·have holds:∀ j u,xs[j]?=some u->W.cell? ((⟨g,0,none⟩:Addr).add j)=some u:=hBQ.cells (g:=g) rfl;subst hLX;subst hby;have hr':=run_append_grow (P:=P) W t ty e i z ht hi hz ⟨g,0,none⟩ n cap xs hBQ.1 holds a 1 1 _ hl' wCE zO (by unfold maxLen at hm;omega) (growslice_fits zO hb);rw[hr] at hr';cases hr';exact⟨_,_,hr,hD,TU ((Ext.drew W).trans (zN _ _))⟩
def outX (base:Nat) (e:TypeId) (size lo:Nat) (v:Value) (n:Nat) (xs:List Value) (f:Value->List Value) (l:List UInt8):Qe:=⟨OA×Nat,fun p=>.slice p.1 (n+1) p.2,fun p W=>TS base e size lo v n xs f l (.slice p.1 (n+1) p.2) W⟩
theorem Gx (A:OA) (c:Nat):(outX base e size lo v n xs f l).f (A,c)=.slice A (n+1) c:=rfl
theorem qgE:∀ p,qJ (appX base e size lo v n xs f l) ((outX base e size lo v n xs f l).φ p):=fun p _ _ he h=>he.2.2 _ h
def UE (lo:Nat) (ty:TypeId) (f:Value->List Value) (l:List UInt8):Qe:=⟨Nat,fun b=>.slice (some ⟨b,0,none⟩) 1 1,fun b W=>lo<=b/\∃ A c,W.heap[b]?=some (.cells (f (.slice A l.length c)).toArray ty (0,0))/\vy lo (.slice A l.length c) l W⟩
theorem VK (lo:Nat) (ty:TypeId) (b:Nat):(UE lo ty f l).f b=.slice (some ⟨b,0,none⟩) 1 1:=rfl
theorem qbO {lo':Nat} {ty:TypeId} (hlo:∀ g,v.ownBlock=some g->g<lo'):∀ p,qJ (appX base e size lo v n xs f l) ((UE lo' ty f l).φ p):=fun p _ _ he ⟨h1,A,c,h2,h3⟩ =>
 ⟨h1,A,c,TV he (fun x=>by have:=hlo p x;omega) h2,h3.grown he.1 (vB.of_from h3.2.1 hlo)⟩
def qbP (lo n:Nat) (l:List UInt8):Qe:=⟨OA×Nat,fun p=>.slice p.1 n p.2,fun p W=>vy lo (.slice p.1 n p.2) l W⟩
theorem vS (lo n:Nat) (l:List UInt8) (A c):(qbP lo n l).f (A,c)=.slice A n c:=rfl
theorem qcS (lo n:Nat) (l:List UInt8):∀ p,qJ qm ((qbP lo n l).φ p):=fun p W W' he h=>by have he:Ext W W':=he;exact vy.ext h he
theorem qcT {lo' n':Nat} {l':List UInt8} (hlo:∀ g,v.ownBlock=some g->g<lo'):∀ p,qJ (appX base e size lo v n xs f l) ((qbP lo' n' l').φ p):=fun p _ _ he h =>
 vy.grown h he.1 (vB.of_from h.2.1 hlo)
end
section
variable {α:Type} {base lo:Nat} {e:TypeId} {size:Nat} {g:α->Value->List Value} {by_:α->List UInt8}
end
theorem Rd.some_ {w w':World} {B size n:Nat} {A:OA} {xs:List Value} (h:Rd w B size A n xs) (hk:∀ p v,w.cell? p=some v->w'.cell? p=some v):Rd w' B size A n xs:=
 ⟨h.1,fun hn=>by obtain⟨b,off,e,hb,hc⟩:=h.2 hn;exact⟨b,off,e,hb,fun j u hu=>hk _ _ (hc j u hu)⟩⟩
theorem Bys.some_ {w w':World} {B:Nat} {v:Value} {l:List UInt8} (h:Bys w B v l) (hk:∀ p v,w.cell? p=some v->w'.cell? p=some v):Bys w' B v l:=by obtain⟨A,c,e,hc,hm,hr⟩:=h;exact⟨A,c,e,hc,hm,hr.some_ hk⟩
theorem qZ.some_ {w w':World} {B:Nat} {v1 v2 v3 v4:Value} {S:Sto} (h:qZ w B v1 v2 v3 v4 S) (hk:∀ p v,w.cell? p=some v->w'.cell? p=some v):qZ w' B v1 v2 v3 v4 S:=by obtain⟨⟨vs,A,c,e,h1,h2,h3,h4⟩,⟨ps,e',⟨A',c',e1,e2,e3,hr⟩,hp⟩,h5,h6⟩:=h;exact⟨⟨vs,A,c,e,h1,h2,h3.some_ hk,fun i u l hu hl=>(h4 i u l hu hl).some_ hk⟩,⟨ps,e',⟨A',c',e1,e2,e3,hr.some_ hk⟩,fun p h=>⟨(hp p h).1,(hp p h).2.some_ hk⟩⟩,h5.some_ hk,h6.some_ hk⟩
def mixW (lo N:Nat) (W C:World):World:={ C with heap:=Array.ofFn (n:=max N C.heap.size) fun k=>if lo<=k.1/\k.1<N then W.heap[k.1]?.getD (.deferred none) else C.heap[k.1]?.getD (.deferred none) }
theorem qgs (lo N:Nat) (W C:World) (q:Addr):(mixW lo N W C).cell? q=if lo<=q.block/\q.block<N then W.cell? q else C.cell? q:=by
 unfold World.cell?;have e:(mixW lo N W C).heap[q.block]?=if q.block<max N C.heap.size then some (if lo<=q.block/\q.block<N then W.heap[q.block]?.getD (.deferred none) else C.heap[q.block]?.getD (.deferred none)) else none:=by simp only[mixW,Array.getElem?_ofFn];split <;> rfl
 rw[e];by_cases h:lo<=q.block/\q.block<N
 ·rw[if_pos zO,if_pos h];simp only[if_pos h];cases W.heap[q.block]? <;> rfl
 ·simp only[if_neg h];split
  ·rename_i h1;split at h1
   ·cases hq:C.heap[q.block]? with
    |none=>rw[hq] at h1;cases h1
    |some o=>rw[hq] at h1;simp only[Option.getD_some,Option.some.injEq] at h1;subst h1;rfl
   ·cases h1
  ·rename_i h1;split at h1
   ·cases hq:C.heap[q.block]? with
    |none=>rfl
    |some o =>
     cases o with
     |cells c e f=>exact absurd (by rw[hq];rfl) (h1 c e f)
     |_=>rfl
   ·rename_i h2;rw[Array.getElem?_eq_none zO]
theorem qdM {Φ:World->Prop} (hm:∀ A C:World,(∀ q v,A.cell? q=some v->C.cell? q=some v)->Φ A->Φ C) {lo N:Nat} {W:World} (h:∀ W2:World,(∀ q:Addr,lo<=q.block->q.block<N->W2.cell? q=W.cell? q)->Φ W2) : ∀ C:World,(∀ q v,lo<=q.block->q.block<N->W.cell? q=some v->C.cell? q=some v)->Φ C:=fun C h3 =>
 hm (mixW lo N W C) C (fun q v hq=>by
  rw[qgs] at hq;split at hq
  ·rename_i h1;exact h3 q v h1.1 h1.2 hq
  ·exact hq) (h _ fun q h1 h2=>by rw[qgs,if_pos ⟨h1,h2⟩])
structure qU (W W':World):Prop where
 size:W.heap.size<=W'.heap.size
 same:∀ (k:Nat) (o:Obj),W.heap[k]?=some o->o.isCells=true->W'.heap[k]?=some o
theorem qU.refl (W:World):qU W W:=⟨zM _,fun _ _ h _=>h⟩
theorem qU.row {W W':World} (h:qU W W') {b:Nat} {cs:Array Value} {ty:TypeId} {fz:Nat×Nat} (hr:W.heap[b]?=some (.cells cs ty fz)):W'.heap[b]?=some (.cells cs ty fz):=h.same b _ hr rfl
theorem qU.cell {W W':World} (h:qU W W') {q:Addr} {v:Value} (hq:W.cell? q=some v):W'.cell? q=some v:=by
 unfold World.cell? at *;cases hb:W.heap[q.block]? with
 |none=>rw[hb] at hq;cases hq
 |some o =>
  cases o with
  |cells c e f =>
   rw[hb] at hq;rw[h.row hb];exact hq
  |_=>rw[hb] at hq;cases hq
theorem qU.grown {Wb W W':World} {row:Option Nat} (h:qU Wb W) (hg:W.grownBy W' row) (hr:∀ r,row=some r->∃ o:Obj,W.heap[r]?=some o/\o.isCells=false):qU Wb W':=⟨Nat.le_trans h.size hg.size,fun k o hk ho=>by have h1:=h.same k o hk ho;refine(hg.block k (zG.1 h1).1 fun e=>?_).trans h1;obtain⟨o',h2,h3⟩:=hr k e.symm;rw[h1] at h2;cases h2;rw[ho] at h3;cases h3⟩
theorem qU.put {Wb W:World} (h:qU Wb W) {D:Nat} {o:Obj} (o':Obj) (hD:W.heap[D]?=some o) (ho:o.isCells=false):qU Wb (W.putObj D o'):=
 ⟨by have:=h.size;simpa [World.putObj] using this,fun k x hk hx=>by
  have h1:=h.same k x hk hx;have hne:k≠D:=fun e=>by subst e;rw[hD] at h1;cases h1;rw[ho] at hx;cases hx
  exact(World.putObj_heap_other hne).trans h1⟩
def PosZ (lo:Nat) (W W':World):Prop:=∀ (q:Addr) (v:Value),lo<=q.block->q.block<W.heap.size->(thaw W).cell? q=some v->W'.cell? q=some v
theorem qU.thaw {W W':World} (h:qU W W') {q:Addr} {v:Value} (hq:(thaw W).cell? q=some v):(Go.Proofs.YtmeadnlmepcmbaaGreat.thaw W').cell? q=some v:=by
 unfold World.cell? at *;rw[vN] at hq ⊢;cases hb:W.heap[q.block]? with
 |none=>rw[hb] at hq;cases hq
 |some o =>
  rw[hb] at hq;cases o with
  |cells c e f =>
   rw[h.row hb];exact hq
  |_=>simp only[Option.map_some,qgZ] at hq;cases hq
theorem Ext.thaw {w w':World} (h:Ext w w'):Ext (thaw w) (Go.Proofs.YtmeadnlmepcmbaaGreat.thaw w'):=⟨h.os,h.tape,h.output,by rw[KJ,KJ];exact h.size,fun k hk=>by rw[KJ] at hk;rw[vN,vN,h.block k hk]⟩
theorem Bys.of_ownT {w:World} {base n:Nat} {e:TypeId} {v:Value} {l:List UInt8} (h:w.ownsRow base e 1 v n (l.map bv)):Bys (thaw w) w.heap.size v l:=(vy.of_own h).thaw
def qhp (lo:Nat) (S:Sto) (u:Value) (W:World):Prop:=∃ A1 c1 A2 c2 A3 c3 A4 c4,u=Qk A1 S.bs.length c1 A2 S.ws.length c2 A3 S.now.length c3 A4 S.last.length c4 /\
 ∀ C:World,PosZ lo W C->qZ C W.heap.size (.slice A1 S.bs.length c1) (.slice A2 S.ws.length c2) (.slice A3 S.now.length c3) (.slice A4 S.last.length c4) S
theorem Vf {lo:Nat} {W W':World} (h:∀ k,lo<=k->k<W.heap.size->W'.heap[k]?=W.heap[k]?):PosZ lo W W':=fun q v h1 h2 h3=>(World.cell?_of_block (h q.block h1 h2)).trans (XN h3).1
theorem zm {w0 w:World} {B b:Nat} (h:Below B w0 w) (hb:B<=b) (x0 x1 x2 x3:Value):Below B w0 ((((w.setCell ⟨b,0,none⟩ x0).setCell ⟨b,1,none⟩ x1).setCell ⟨b,2,none⟩ x2).setCell ⟨b,3,none⟩ x3):=
 Below.setCell (Below.setCell (Below.setCell (Below.setCell h (p:=⟨b,0,none⟩) hb _) (p:=⟨b,1,none⟩) hb _) (p:=⟨b,2,none⟩) hb _) (p:=⟨b,3,none⟩) hb _
theorem Vn {w:World} {b:Nat} {ty:TypeId} {y0 y1 y2 y3:Value} (h:w.heap[b]?=some (.cells #[y0,y1,y2,y3] ty (0,0))) (x0 x1 x2 x3:Value) : ((((w.setCell ⟨b,0,none⟩ x0).setCell ⟨b,1,none⟩ x1).setCell ⟨b,2,none⟩ x2).setCell ⟨b,3,none⟩ x3).heap[b]?=some (.cells #[x0,x1,x2,x3] ty (0,0)):=qi (qi (qi (qi h 0 x0) 1 x1) 2 x2) 3 x3
theorem vA {w:World} {b:Nat} {ty:TypeId} {y0 y1 y2 y3 y4 y5 y6 y7:Value} (h:w.heap[b]?=some (.cells #[y0,y1,y2,y3,y4,y5,y6,y7] ty (0,0))) (x0 x1 x2 x3 x4 x5 x6 x7:Value) : ((((((((w.setCell ⟨b,0,none⟩ x0).setCell ⟨b,1,none⟩ x1).setCell ⟨b,2,none⟩ x2).setCell ⟨b,3,none⟩ x3).setCell ⟨b,4,none⟩ x4).setCell ⟨b,5,none⟩ x5).setCell ⟨b,6,none⟩ x6).setCell ⟨b,7,none⟩ x7).heap[b]?=some (.cells #[x0,x1,x2,x3,x4,x5,x6,x7] ty (0,0)):=by
 have h1:=qi (qi (qi (qi h 0 x0) 1 x1) 2 x2) 3 x3;exact qi (qi (qi (qi (cs:=#[x0,x1,x2,x3,y4,y5,y6,y7]) h1 4 x4) 5 x5) 6 x6) 7 x7
theorem ZV {w0 w:World} {B b:Nat} (h:Below B w0 w) (hb:B<=b) (x0 x1 x2 x3 x4 x5 x6 x7:Value):Below B w0 ((((((((w.setCell ⟨b,0,none⟩ x0).setCell ⟨b,1,none⟩ x1).setCell ⟨b,2,none⟩ x2).setCell ⟨b,3,none⟩ x3).setCell ⟨b,4,none⟩ x4).setCell ⟨b,5,none⟩ x5).setCell ⟨b,6,none⟩ x6).setCell ⟨b,7,none⟩ x7):=
 Below.setCell (Below.setCell (Below.setCell (Below.setCell (zm h hb x0 x1 x2 x3) (p:=⟨b,4,none⟩) hb _) (p:=⟨b,5,none⟩) hb _) (p:=⟨b,6,none⟩) hb _) (p:=⟨b,7,none⟩) hb _
theorem jI {w:World} {b k:Nat} (hk:k≠b) (x0 x1 x2 x3 x4 x5 x6 x7:Value):((((((((w.setCell ⟨b,0,none⟩ x0).setCell ⟨b,1,none⟩ x1).setCell ⟨b,2,none⟩ x2).setCell ⟨b,3,none⟩ x3).setCell ⟨b,4,none⟩ x4).setCell ⟨b,5,none⟩ x5).setCell ⟨b,6,none⟩ x6).setCell ⟨b,7,none⟩ x7).heap[k]?=w.heap[k]?:=by have hs:=fun (A:World) (j:Nat) (v:Value)=>zJ A ⟨b,j,none⟩ v k hk;rw[hs,hs,hs,hs,hs,hs,hs,hs]
def VolFQ (S:Sto) (root next:Int) (dead:List Int) (id:Int) (w:World) (e:Ending) (w':World):Prop:=Below w.heap.size w w' /\
 ((e=.returned (.tuple #[VA qaF,.int .i64 8])/\∀ vs,Qo S root next dead vs->∃ refs nodes,qY S (Qj root dead vs) refs nodes/\¬QB S refs) \/
  ∃ vs refs nodes,Qo S root next dead vs/\qY S (Qj root dead vs) refs nodes/\QB S refs/\e=.returned (volQ (ZQ vs id)))
theorem qbr {R:Ending->World->Prop} {a:Act} {W:World} {b:Nat} {u:Vol} {v:Value} (h4:a.tmps[4]?.getD undef=.pointer (some ⟨b,0,none⟩)) (h5:a.tmps[5]?.getD undef=v) (hd:a.defers=[]) (hCA:W.heap[b]?=some (.cells #[.int .u32 u.id,.int .i64 u.root,.bool u.fz,.int .u32 u.frm] 36 (0,0))) (hR:R (.returned (.tuple #[VA u,v])) W):bodyPost prog Tryz.f17 R .ret a W:=by
 refine bodyPost_ret (v:=.tuple #[VA u,v]) ?_ hd hR;have k:=qa hCA;simp[results,results17,go_sem,h4,h5,k]
set_option maxRecDepth 100000 in
theorem qga (A1 n1 c1 A2 n2 c2 A3 n3 c3 A4 n4 c4) (gen root next:Int) (A5 c5) (S:Sto) (dead:List Int) (id:Int) (w:World) (h:qZ w w.heap.size (.slice A1 n1 c1) (.slice A2 n2 c2) (.slice A3 n3 c3) (.slice A4 n4 c4) S) (hd:Zw w w.heap.size (.slice A5 dead.length c5) dead):Calls prog 17 #[.agg (qC (.slice A1 n1 c1) (.slice A2 n2 c2) (.slice A3 n3 c3) (.slice A4 n4 c4) gen root next (.slice A5 dead.length c5)),.int .u32 id] w (VolFQ S root next dead id w):=by
 have HT:=zH (fun W (hx:Ext w W)=>KI A1 n1 c1 A2 n2 c2 A3 n3 c3 A4 n4 c4 gen root next A5 c5 S dead W (h.ext hx) (by obtain⟨A,c,e,q1,q2,q3⟩:=hd;exact⟨A,c,e,q1,q2,(q3.below hx).more hx.size⟩));clear h hd;go_enter func17,ntmps17;go_wp2_with fail;generalize hw1:(World.alloc (World.alloc (World.alloc w _) _) _)=w1;have x1:Ext w w1:=by rw[<-hw1];exact((zN _ _).trans (zN _ _)).trans (zN _ _)
 have ri1:w1.heap[w.heap.size+1]?=some (.cells #[.int .u32 id] 29 (0,0)):=by rw[<-hw1];exact(zK _ _ _ zA2).trans (zI _ _ _ zA2)
 have rv1:w1.heap[w.heap.size+2]?=some (.cells #[.int .u32 0,.int .i64 0,.bool false,.int .u32 0] 36 (0,0)):=by rw[<-hw1];exact zI _ _ _ zA2
 clear hw1;refine(HT.out w1 x1).mono ?_;clear HT;rintro e w2 ⟨hB,hQ⟩;have x2:Ext w w2:=Ext.trans x1 hB;have ri2:=qb ri1 hB;have rv2:=qb rv1 hB;have z2:w.heap.size+2<w2.heap.size:=(zG.1 rv2).1;have kv2:=qa rv2;have fv2:=qd rv2;rcases hQ with ⟨rfl,hno⟩|⟨vs,refs,nodes,cb,ca,vv,rfl,hT⟩
 ·replace hno:=zH hno;clear hB x1 ri1 rv1;go_wp2_with fail;exact qbr (b:=w.heap.size+2) (u:=qaF) rfl rfl rfl (Vn rv2 _ _ _ _) ⟨zm x2 zO _ _ _ _,.inl ⟨rfl,hno.out⟩⟩
 ·have hvs:vs.length<=16:=by
   have hv:=hT.pool.vols;unfold TR at hv;split at hv
   ·cases hv
   ·exact kH _ _ _ _ zA2 hv
  obtain⟨AV,cV,rfl,wVD,wSK⟩:=qB hT.own;have hrd:=Rd.of_own hT.own;have kc:w2.cell? ⟨cb,518,none⟩=some (.slice AV vs.length cV):=by rw[qa hT.row];exact hT.ar.vol
  have HIX:=zH (vidx_any AV cV vs hvs (w.heap.size+1) id w2 ri2 hrd);have HR:=zH hrd;replace hT:=zH hT;clear hB x1 ri1 rv1 hrd;go_wp2_with fail;refine HIX.out.mono ?_;clear HIX;rintro e w3 ⟨u,rfl,hu,hB⟩;have x3:Ext w w3:=Ext.trans x2 hB;have rv3:=qb rv2 hB;have kv3:=qa rv3;have fv3:=qd rv3;have kc3:=Ext.cell hB kc;rcases hu with ⟨j,hj,rfl,hv⟩|⟨rfl,hv⟩
  ·obtain⟨bv,offv,rfl,hbv,hDL⟩:=HR.out.2 zO;obtain⟨d0,d1,d2,d3⟩:=Xw vs j hj;replace d0:=Ext.cell hB (hDL _ _ d0);replace d1:=Ext.cell hB (hDL _ _ d1);replace d2:=Ext.cell hB (hDL _ _ d2);replace d3:=Ext.cell hB (hDL _ _ d3);generalize vs[j]=u at *;rw[<-Nat.add_assoc] at d1 d2 d3;have hj1:decide ((j:Int)<0)=false:=decide_eq_false zO;replace hv:=zH hv;replace x3:=zH x3;clear hDL kv2 fv2 rv2 ri2 kc x2 hB z2;go_wp2_with fail;exact qbr (b:=w.heap.size+2) (u:=u) rfl rfl rfl (Vn rv3 _ _ _ _) ⟨zm x3.out zO _ _ _ _,.inr ⟨vs,refs,nodes,hT.out.pool,hT.out.cnt,hT.out.enough,by rw[hv.out];rfl⟩⟩
  ·replace hv:=zH hv;replace x3:=zH x3;clear kv2 fv2 rv2 ri2 kc x2 hB z2;go_wp2_with fail;exact qbr (b:=w.heap.size+2) (u:=qaF) rfl rfl rfl (Vn rv3 _ _ _ _) ⟨zm x3.out zO _ _ _ _,.inr ⟨vs,refs,nodes,hT.out.pool,hT.out.cnt,hT.out.enough,by rw[hv.out];rfl⟩⟩
theorem XC (a b:K3):Qh a b=true↔(a.1<b.1\/(a.1=b.1/\(a.2.1<b.2.1\/(a.2.1=b.2.1/\a.2.2<b.2.2)))):=by simp[Qh,KC]
theorem KD (a b:K3):Qh a b=false↔¬(a.1<b.1\/(a.1=b.1/\(a.2.1<b.2.1\/(a.2.1=b.2.1/\a.2.2<b.2.2)))):=by rw[<-Bool.not_eq_true,XC]
def leK (a b:K3):Prop:=Qh b a=false
theorem Un (a:K3):leK a a:=by unfold leK;rw[KD];omega
theorem qbw {a b c:K3} (h:leK a b) (h':Qh b c=true):Qh a c=true:=by unfold leK at h;rw[KD] at h;rw[XC] at *;omega
theorem TK {a b c:K3} (h:Qh a b=true) (h':leK b c):Qh a c=true:=by unfold leK at h';rw[KD] at h';rw[XC] at *;omega
theorem VI {a b:K3} (h:Qh a b=true):leK a b:=by unfold leK;rw[KD];rw[XC] at h;omega
theorem ve {a b c:K3} (h:Qh a b=true) (h':Qh b c=true):Qh a c=true:=TK h (VI h')
theorem Yf (a:K3):Qh a a=false:=Un a
theorem qey {a b:K3} (h:leK a b) (h':leK b a):a=b:=by obtain⟨a1,a2,a3⟩:=a;obtain⟨b1,b2,b3⟩:=b;unfold leK at *;rw[KD] at *;simp only[Prod.mk.injEq] at *;omega
structure Srt (f l:K3) (ys:List It):Prop where
 ord:ys.Pairwise fun a b=>Qh (qt a) (qt b)=true
 low:∀ x∈ys,leK f (qt x)
 high:∀ x∈ys,leK (qt x) l
 le:leK f l
theorem Srt.append {f l f' l':K3} {ys zs:List It} (h:Srt f l ys) (h':Srt f' l' zs) (hl:Qh l f'=true):Srt f l' (ys++zs):=
 ⟨List.pairwise_append.2 ⟨h.ord,h'.ord,fun a ha b hb=>qbw (h.high a ha) (TK hl (h'.low b hb))⟩,
  fun x hx=>(List.mem_append.1 hx).elim (h.low x) fun hx=>VI (qbw h.le (TK hl (h'.low x hx))),
  fun x hx=>(List.mem_append.1 hx).elim (fun hx=>VI (qbw (h.high x hx) (TK hl h'.le))) (h'.high x),
  VI (qbw h.le (TK hl h'.le))⟩
theorem Srt.one (x:It) {l:K3} (h:leK (qt x) l):Srt (qt x) l [x]:=
 ⟨List.pairwise_singleton _ _,fun y hy=>by rw[List.mem_singleton.1 hy];exact Un _,fun y hy=>by rw[List.mem_singleton.1 hy];exact h,h⟩
theorem Qq {S:Sto}:∀ (h:Nat) (xs ys:List It),qI S h (xs++ys)=qI S h xs++qI S h ys
 |0,_,_=>rfl
 |h+1,xs,ys=>by rw[Zx,Zx,Zx,List.flatMap_append]
theorem Ti (S:Sto) (h:Nat) (H1:∀ y f l,jv S h y=some (f,l)->Srt f l (qI S h [y])) (xs:List It):∀ (k:Nat) (_:k<=xs.length) (p:K3×K3),qG S h (xs.take k)=some (some p)->Srt p.1 p.2 (qI S h (xs.take k))/\Srt p.1 p.2 (xs.take k):=by
 intro k;induction k with
 |zero=>intro _ p e;rw[List.take_zero] at e;cases e
 |succ k ih =>
  intro hk p e;have hlt:k<xs.length:=hk;rw[JR hlt] at e;unfold jV at e;rw[List.take_succ_eq_append_getElem hlt,Qq];rcases hO:jv S h xs[k] with _|⟨f,l⟩
  ·rw[hO] at e;rcases hA:qG S h (xs.take k) with _|a
   ·rw[hA] at e;cases e
   ·rw[hA] at e;cases e
  ·have h1:=H1 _ _ _ hO;rw[hO] at e;rcases hA:qG S h (xs.take k) with _|_|q
   ·rw[hA] at e;cases e
   ·obtain rfl:k=0:=by
     rcases Nat.eq_zero_or_pos k with h0|h0
     ·exact h0
     ·exact absurd hA (ZG h0 zO)
    rw[hA] at e;simp only at e;split at e
    ·rename_i hf;cases e;subst hf;rw[List.take_zero,vH];exact⟨h1,Srt.one _ h1.le⟩
    ·cases e
   ·obtain⟨i1,i2⟩:=ih zO q hA;rw[hA] at e;simp only at e;split at e
    ·rename_i hf;split at e
     ·rename_i hl;cases e;subst hf;exact⟨i1.append h1 hl,i2.append (Srt.one _ h1.le) hl⟩
     ·cases e
    ·cases e
theorem qeE (S:Sto):∀ (h:Nat) (y:It) (f l:K3),jv S h y=some (f,l)->Srt f l (qI S h [y])
 |0,y,f,l,e=>by
  unfold jv at e;split at e
  ·cases e;exact Srt.one y (Un _)
  ·cases e
 |h+1,y,f,l,e=>by
  rw[JV] at e;unfold vI at e;split at e
  ·rcases hn:qu S y.r.toNat with _|⟨lvl,xs⟩
   ·rw[hn] at e;cases e
   ·rw[hn] at e;simp only at e;split at e
    ·rcases hs:qG S h xs with _|_|q
     ·rw[hs] at e;cases e
     ·rw[hs] at e;cases e
     ·rw[hs] at e;cases e;have:=(Ti S h (qeE S h) xs xs.length (zM _) _ (by rw[List.take_length];exact hs)).1;rw[List.take_length] at this;rw[Zx];simp only[List.flatMap_cons,List.flatMap_nil,List.append_nil,hn];exact this
    ·cases e
  ·cases e
theorem qcm {S:Sto} {h:Nat} {xs:List It} {p:K3×K3} (hs:qG S h xs=some (some p)):Srt p.1 p.2 (qI S h xs)/\Srt p.1 p.2 xs:=by
 have:=Ti S h (qeE S h) xs xs.length (zM _) p (by rw[List.take_length];exact hs)
 rwa [List.take_length] at this
theorem kz {S:Sto} {h:Nat} {xs:List It} (hs:(qG S h xs).isSome=true):(qI S h xs).Pairwise (fun a b=>Qh (qt a) (qt b)=true)/\xs.Pairwise (fun a b=>Qh (qt a) (qt b)=true):=by
 rcases hq:qG S h xs with _|_|p
 ·rw[hq] at hs;cases hs
 ·rcases Nat.eq_zero_or_pos xs.length with h0|h0
  ·obtain rfl:=List.eq_nil_of_length_eq_zero h0;rw[vH];exact⟨List.Pairwise.nil,List.Pairwise.nil⟩
  ·exact absurd (by rw[List.take_length];exact hq) (ZG (S:=S) (h:=h) h0 (zM xs.length))
 ·exact⟨(qcm hq).1.ord,(qcm hq).2.ord⟩
theorem Yl {xs:List It} (h:xs.Pairwise fun a b=>Qh (qt a) (qt b)=true) {i j:Nat} (hij:i<j) (hj:j<xs.length):Qh (qt (xs[i]'(by omega))) (qt xs[j])=true:=List.pairwise_iff_getElem.1 h i j _ hj hij
theorem kD {S:Sto} {h:Nat} {xs:List It} (hs:(qG S h xs).isSome=true) (k:Nat):(qG S h (xs.take k)).isSome=true:=by
 rcases hq:qG S h (xs.take k) with _|q
 ·rw[qdV hq] at hs;cases hs
 ·rfl
def qD (xs:List It) (k:K3):Nat:=(xs.filter fun x=>Qh (qt x) k).length
theorem JD (xs:List It) (k:K3):qD xs k<=xs.length:=List.length_filter_le _ _
theorem qil {xs:List It} {k:K3} {i:Nat} (h:i<xs.length):qD (xs.take (i+1)) k=qD (xs.take i) k+(if Qh (qt xs[i]) k=true then 1 else 0):=by
 unfold qD;rw[List.take_succ_eq_append_getElem h,List.filter_append,List.length_append];congr 1;by_cases hl:Qh (qt xs[i]) k=true
 ·rw[if_pos hl];simp[hl]
 ·rw[if_neg hl];simp[hl]
theorem JC:∀ {xs:List It} {k:K3},xs.Pairwise (fun a b=>Qh (qt a) (qt b)=true)->∀ i (h:i<xs.length),(Qh (qt xs[i]) k=true↔i<qD xs k)
 | [],_,_,i,h=>absurd h (Nat.not_lt_zero _)
 |x :: r,k,ho,i,h=>by
  rw[List.pairwise_cons] at ho;by_cases hx:Qh (qt x) k=true
  ·have e:qD (x :: r) k=qD r k+1:=by simp[qD,hx]
   cases i with
   |zero=>simp[hx,e]
   |succ i=>rw[e];have:=JC (k:=k) ho.2 i (by simpa using h);simpa using this
  ·have hJF:∀ y∈r,Qh (qt y) k=false:=fun y hy=>by
    rcases hz:Qh (qt y) k with _|_
    ·rfl
    ·exact absurd (ve (ho.1 y hy) hz) hx
   have e:qD (x :: r) k=0:=by
    unfold qD;have:r.filter (fun x=>Qh (qt x) k)=[]:=by rw[List.filter_eq_nil_iff];intro y hy;simp[hJF y hy]
    simp[hx,this]
   rw[e];cases i with
   |zero=>simp[hx]
   |succ i =>
    have hi:i<r.length:=by simpa using h
    simp[hJF r[i] (List.getElem_mem hi)]
theorem qca {p:It->Bool} {xs:List It} {i:Nat} (h:i<xs.length) (hp:p xs[i]=true) (hn:∀ j (hj:j<xs.length),i<j->p xs[j]=false):xs.reverse.find? p=some xs[i]:=by
 have e:xs=xs.take i++xs[i] :: xs.drop (i+1):=by rw[<-List.drop_eq_getElem_cons h,List.take_append_drop]
 have e2:xs.reverse=(xs.drop (i+1)).reverse++xs[i] :: (xs.take i).reverse:=by
  conv=>lhs;rw[e]
  simp
 rw[e2,List.find?_append];have e3:(xs.drop (i+1)).reverse.find? p=none:=by rw[List.find?_eq_none];intro y hy;rw[List.mem_reverse] at hy;obtain⟨j,hj,rfl⟩:=List.mem_iff_getElem.1 hy;rw[List.length_drop] at hj;rw[List.getElem_drop];simp[hn (i+1+j) zO zO]
 rw[e3,List.find?_cons_of_pos hp];rfl
theorem qgR {p:It->Bool} {xs:List It} (hn:∀ j (hj:j<xs.length),p xs[j]=false):xs.reverse.find? p=none:=by rw[List.find?_eq_none];intro y hy;rw[List.mem_reverse] at hy;obtain⟨j,hj,rfl⟩:=List.mem_iff_getElem.1 hy;simp[hn j hj]
def Uc (xs:List It) (k:K3):Option It:=xs.reverse.find? fun x=>!Qh k (qt x)
def leafS (xs:List It) (k:K3):Option It:=xs.reverse.find? fun x=>decide (qt x=k)
def Uy (S:Sto) (k:K3):Nat->List It->Option It
 |0,xs=>leafS xs k
 |h+1,xs=>match Uc xs k with
  |none=>none
  |some y=>match qu S y.r.toNat with
   |none=>none
   |some (_,ys)=>Uy S k h ys
theorem qgB (S:Sto) (k:K3) (xs:List It):Uy S k 0 xs=leafS xs k:=rfl
theorem one_down {S:Sto} {k:K3} {h:Nat} {xs ys:List It} {y:It} {lvl:Int} (hd:Uc xs k=some y) (hn:qu S y.r.toNat=some (lvl,ys)):Uy S k (h+1) xs=Uy S k h ys:=by show (match Uc xs k with|none=>none|some y=>match qu S y.r.toNat with|none=>none|some (_,ys)=>Uy S k h ys)=_;rw[hd];simp only;rw[hn]
theorem one_none {S:Sto} {k:K3} {h:Nat} {xs:List It} (hd:Uc xs k=none):Uy S k (h+1) xs=none:=by show (match Uc xs k with|none=>none|some y=>match qu S y.r.toNat with|none=>none|some (_,ys)=>Uy S k h ys)=_;rw[hd]
section
variable {xs:List It} {k:K3} (ho:xs.Pairwise fun a b=>Qh (qt a) (qt b)=true)
include ho
theorem leaf_is (hp:qD xs k<xs.length) (he:qt (xs[qD xs k]'hp)=k):leafS xs k=some xs[qD xs k]:=by refine qca hp (by simp[he]) fun j hj hlt=>?_;have:=Yl ho hlt hj;rw[he] at this;rw[decide_eq_false_iff_not];intro h;rw[h,Yf] at this;cases this
theorem leaf_no (hn:∀ hp:qD xs k<xs.length,qt (xs[qD xs k]'hp)≠k):leafS xs k=none:=by
 refine qgR fun j hj=>?_;rw[decide_eq_false_iff_not];intro h;have h1:¬j<qD xs k:=fun hl=>by have:=(JC (k:=k) ho j hj).2 hl;rw[h,Yf] at this;cases this
 have h2:¬qD xs k<j:=fun hl=>by have h3:=Yl ho hl hj;rw[h] at h3;exact absurd ((JC (k:=k) ho _ zO).1 h3) (Nat.lt_irrefl _)
 have h4:qD xs k=j:=zO;subst h4;exact hn hj h
theorem down_is (hp:qD xs k<xs.length) (he:qt (xs[qD xs k]'hp)=k):Uc xs k=some xs[qD xs k]:=by refine qca hp (by simp[he,Yf]) fun j hj hlt=>?_;have:=Yl ho hlt hj;rw[he] at this;simp[this]
theorem down_no (h0:qD xs k=0) (hn:∀ hp:qD xs k<xs.length,qt (xs[qD xs k]'hp)≠k):Uc xs k=none:=by
 refine qgR fun j hj=>?_;have h1:Qh (qt xs[j]) k=false:=by
  rcases hz:Qh (qt xs[j]) k with _|_
  ·rfl
  ·have:=(JC ho j hj).1 hz;omega
 rcases hz:Qh k (qt xs[j]) with _|_
 ·have he:qt xs[j]=k:=qey hz h1;rcases Nat.eq_zero_or_pos j with hj0|hj0
  ·subst hj0;exact absurd (by simpa [h0] using he) (hn zO)
  ·have h3:=Yl ho (i:=0) hj0 hj;rw[he] at h3;have:=(JC ho 0 zO).1 h3;omega
 ·simp
theorem qfU (h0:0<qD xs k) (hn:∀ hp:qD xs k<xs.length,qt (xs[qD xs k]'hp)≠k):Uc xs k=some (xs[qD xs k-1]'(by have:=JD xs k;omega)):=by
 have hle:=JD xs k;refine qca zO ?_ fun j hj hlt=>?_
 ·have:=(JC (k:=k) ho (qD xs k-1) zO).2 zO;have h2:Qh k (qt (xs[qD xs k-1]'(by omega)))=false:=VI this;simp[h2]
 ·have h1:Qh (qt xs[j]) k=false:=by
   rcases hz:Qh (qt xs[j]) k with _|_
   ·rfl
   ·have:=(JC ho j hj).1 hz;omega
  rcases hz:Qh k (qt xs[j]) with _|_
  ·have he:qt xs[j]=k:=qey hz h1;by_cases hjp:qD xs k=j
   ·subst hjp;exact absurd he (hn hj)
   ·have h3:=Yl ho (show qD xs k<j by omega) hj;rw[he] at h3;have:=(JC ho _ zO).1 h3;omega
  ·simp
end
def Yb (xs:List It) (k:K3):Bool:=match xs[qD xs k]? with
 |none=>false
 |some x=>decide (qt x=k)
theorem Kb {xs:List It} {k:K3} (h:qD xs k<xs.length):Yb xs k=decide (qt xs[qD xs k]=k):=by unfold Yb;rw[zL h]
theorem XA {xs:List It} {k:K3} (h:¬qD xs k<xs.length):Yb xs k=false:=by unfold Yb;rw[List.getElem?_eq_none zO]
theorem key_if (x:It) (k i o:Int) (W:World):(if x.k=k then if x.i=i then if x.o=o then Result.ok (Next.value (Value.bool true)) W else Result.ok (Next.value (Value.bool false)) W else Result.ok (Next.value (Value.bool false)) W else Result.ok (Next.value (Value.bool false)) W)=Result.ok (Next.value (Value.bool (decide (qt x=(k,i,o))))) W:=by
 have e:(qt x=(k,i,o))↔(x.k=k/\x.i=i/\x.o=o):=by unfold qt;simp only[Prod.mk.injEq]
 by_cases h1:x.k=k
 ·by_cases h2:x.i=i
  ·by_cases h3:x.o=o
   ·rw[if_pos h1,if_pos h2,if_pos h3,decide_eq_true (e.2 ⟨h1,h2,h3⟩)]
   ·rw[if_pos h1,if_pos h2,if_neg h3,decide_eq_false (fun h=>h3 (e.1 h).2.2)]
  ·rw[if_pos h1,if_neg h2,decide_eq_false (fun h=>h2 (e.1 h).2.1)]
 ·rw[if_neg h1,decide_eq_false (fun h=>h1 (e.1 h).1)]
theorem qdL {R:Ending->World->Prop} {a:Act} {W:World} {u v:Value} (h2:a.tmps[4]?.getD undef=u) (h3:a.tmps[5]?.getD undef=v) (hd:a.defers=[]) (hR:R (.returned (.tuple #[u,v])) W):bodyPost prog Tryz.f146 R .ret a W:=by refine bodyPost_ret (v:=.tuple #[u,v]) ?_ hd hR;simp[results,results146,go_sem,h2,h3]
set_option maxRecDepth 100000 in
theorem qbW (lvl:Int) (A c) (xs:List It) (k i o:Int) (w:World) (hl:xs.length<=5) (h:Its w w.heap.size (.slice A xs.length c) xs):Calls prog 146 #[jU lvl A xs.length c,Xd k i o] w (Ret (.tuple #[.int .i64 ((qD xs (k,i,o):Nat):Int),.bool (Yb xs (k,i,o))]) w):=by
 obtain⟨-,hc1,hc2,hA⟩:=h.at_;have HI:=zH h;clear h;go_enter func146,ntmps146;go_wp2_with fail;generalize hw1:(World.alloc (World.alloc w _) _)=w1;have x1:Ext w w1:=by rw[<-hw1];exact(zN _ _).trans (zN _ _)
 have rn:w1.heap[w.heap.size]?=some (.cells #[.int .i64 lvl,.slice A xs.length c] 113 (0,0)):=by rw[<-hw1];exact(zK _ _ _ zA2).trans (zI _ _ _ rfl)
 have rk:w1.heap[w.heap.size+1]?=some (.cells #[.int .u8 k,.int .u32 i,.int .u32 o] 49 (0,0)):=by rw[<-hw1];exact zI _ _ _ zA2
 clear hw1;go_loopw [4,11] (fun p j wr=>∃ n:Nat,n<=xs.length/\j=.int .i64 (n:Int)/\p=.int .i64 ((qD (xs.take n) (k,i,o):Nat):Int)/\Ext w1 wr) (fun _ j _=>xs.length-(intOf j).toNat)
 case atStart=>exact⟨0,Nat.zero_le _,rfl,rfl,Ext.refl _⟩
 case round =>
  obtain⟨n,hn,rfl,rfl,xr⟩:=hrel;have xwr:=x1.trans xr;have kn:=qa (qb rn xr);have kk:=qa (qb rk xr);have zk:w.heap.size+1<wr.heap.size:=(zG.1 (qb rk xr)).1;by_cases hlt:n<xs.length
  ·obtain⟨b,off,rfl,hb⟩:=hA zO;obtain⟨A',c',d0,d1,d2,d3,d4,-⟩:=HI.out.item n hlt;replace d0:=Ext.cell xwr d0;replace d1:=Ext.cell xwr d1;replace d2:=Ext.cell xwr d2;replace d3:=Ext.cell xwr d3;replace d4:=Ext.cell xwr d4;have HP:=zH (qil (k:=(k,i,o)) hlt);have hpl:=JD (xs.take n) (k,i,o);rw[List.length_take] at hpl;generalize qD (xs.take n) (k,i,o)=pl at *;generalize xs[n]=x at *;go_wp2_with fail;generalize hwa:(World.alloc wr _)=wa;have xa:Ext wr wa:=by rw[<-hwa];exact zN _ _
   clear hwa;refine(Xf x.k x.i x.o k i o wa).mono ?_;rintro e wl ⟨rfl,hB⟩;have xl:Ext w1 wl:=xr.trans (xa.trans hB);clear kn kk d0 d1 d2 d3 d4;rcases hls:KC x.k x.i x.o k i o with _|_
   ·have hz:qD (xs.take (n+1)) (k,i,o)=pl:=by rw[HP.out,if_neg (show ¬Qh (qt x) (k,i,o)=true from (fun h=>by rw[show Qh (qt x) (k,i,o)=false from hls] at h;cases h))];rfl
    replace hz:=zH hz;go_wp2_with fail;refine⟨⟨n+1,hlt,rfl,by rw[hz.out],xl⟩,?_⟩;simp[intOf];omega
   ·have hz:qD (xs.take (n+1)) (k,i,o)=pl+1:=by rw[HP.out,if_pos (show Qh (qt x) (k,i,o)=true from hls)]
    replace hz:=zH hz;go_wp2_with fail;refine⟨⟨n+1,hlt,rfl,by rw[hz.out];rfl,xl⟩,?_⟩;simp[intOf];omega
  ·obtain rfl:n=xs.length:=zO;rw[List.take_length];have hpl:=JD xs (k,i,o);go_wp2_with fail;by_cases hp:qD xs (k,i,o)<xs.length
   ·have hia:=Kb hp;obtain⟨b,off,rfl,hb⟩:=hA zO;obtain⟨A',c',d0,d1,d2,-,-,-⟩:=HI.out.item _ hp;replace d0:=Ext.cell xwr d0;replace d1:=Ext.cell xwr d1;replace d2:=Ext.cell xwr d2;generalize xs[qD xs (k,i,o)]=x at *;generalize qD xs (k,i,o)=pl at *;generalize hie:Yb xs (k,i,o)=ie at *;have gN:∀ W,qm.r wr W->∀ i,W.cell? ⟨w.heap.size,i,none⟩=#[.int .i64 lvl,.slice (some ⟨b,off,none⟩) xs.length c][i]?:=fun W h=>qa (qb (qb rn xr) h);have gK:∀ W,qm.r wr W->∀ j,W.cell? ⟨w.heap.size+1,j,none⟩=#[.int .u8 k,.int .u32 i,.int .u32 o][j]?:=fun W h=>qa (qb (qb rk xr) h);have gD:∀ W,qm.r wr W->W.cell? ⟨b,off+pl*5,none⟩=some (.int .u8 x.k)/\W.cell? ⟨b,off+pl*5+1,none⟩=some (.int .u32 x.i)/\W.cell? ⟨b,off+pl*5+2,none⟩=some (.int .u32 x.o):=fun W h=>⟨Ext.cell h d0,Ext.cell h d1,Ext.cell h d2⟩
    have gD0:=fun W h=>(gD W h).1;have gD1:=fun W h=>(gD W h).2.1;have gD2:=fun W h=>(gD W h).2.2;replace hia:=zH hia;clear d0 d1 d2 gD;refine qp zQ ?_;refine Qa (w:=wr) qm (qM []) [true,true,true,true,true,true,true,true,true,true,true,true,true,true,true,true,true] 1 zQ zQ zQ zQ zQ zQ zQ ?st (Rel.drew _ _) ?walk
    case st=>exact qj (fun _ h=>by cases h)
    case walk =>
     intro K hK;dsimp only[qw];refine zB5 ?_;refine qe (.bool ie) zA0 zA0 (fun W hW _=>⟨W,?_,Rel.refl _ W⟩) ?_
     ·go_simp;rw[hia.out];exact key_if x k i o W
     refine zB5 ?_;refine qA (hK _ _ fun W hW hF=>?_);clear hF hK gN gK gD0 gD1 gD2;have hW':Ext wr W:=hW;refine zB4 ?_;go_wp2;refine Qw ?_;go_wp2_with fail;exact qdL rfl rfl rfl ⟨rfl,xwr.trans hW'⟩
   ·have hia:=XA hp;have gN:∀ W,qm.r wr W->∀ i,W.cell? ⟨w.heap.size,i,none⟩=#[.int .i64 lvl,.slice A xs.length c][i]?:=fun W h=>qa (qb (qb rn xr) h);generalize qD xs (k,i,o)=pl at *;generalize hie:Yb xs (k,i,o)=ie at *;replace hia:=zH hia;refine qp zQ ?_;refine Qa (w:=wr) qm (qM []) [true,true,true,true,true,true,true,true,true,true,true,true,true,true,true,true,true] 1 zQ zQ zQ zQ zQ zQ zQ ?st (Rel.drew _ _) ?walk
    case st=>exact qj (fun _ h=>by cases h)
    case walk =>intro K hK;dsimp only[qw];refine zB5 ?_;refine qA (hK _ _ fun W hW hF=>?_);clear hF hK gN;have hW':Ext wr W:=hW;refine zB4 ?_;go_wp2;refine Qw ?_;go_wp2_with fail;exact qdL rfl rfl rfl ⟨by rw[hia.out];rfl,xwr.trans hW'⟩
theorem qdK (lvl:Int) (A c) (xs:List It) (k i o:Int) (lo:Nat) (w:World) (hl:xs.length<=5) (h:je lo w (.slice A xs.length c) xs):Calls prog 146 #[jU lvl A xs.length c,Xd k i o] w (Ret (.tuple #[.int .i64 ((qD xs (k,i,o):Nat):Int),.bool (Yb xs (k,i,o))]) w):=qbW lvl A c xs k i o w hl h.its
end Go.Proofs.YtmeadnlmepcmbaaGreat
