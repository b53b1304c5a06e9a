/- Texts Take, AskR, Up, DWrite, Mix, joined. -/
import Derived.ChangeKeysEq
import Derived.Test.YtpbniokljofedaaGreatZG03
import Derived.Test.YtpbniokljofedaaGreatZG06
import Derived.Test.YtpbniokljofedaaGreatZG11
import Derived.Test.YtpbniokljofedaaGreatZG12
import Derived.Test.YtpbniokljofedaaGreatZG13
import Derived.Test.YtpbniokljofedaaGreatZG15
set_option linter.unusedSimpArgs false
set_option linter.unusedVariables false
set_option maxHeartbeats 8000000
open Go.Proofs.Tryz
namespace Go.Proofs.YtpbniokljofedaaGreat
open Go.RowKit
def outOn (lo B:Nat) (A1:Option Addr) (n1 c1:Nat) (A2:Option Addr) (n2:Nat) (n3:Nat) (A4:Option Addr) (n4 c4:Nat) (S:Sto):Qa:=⟨Nat,fun b=>.pointer (some ⟨b,0,none⟩),fun b W=>∃ A3' c3',OnB lo b (.slice A1 n1 c1) (.slice A2 n2 n2) (.slice A3' n3 c3') (.slice A4 n4 c4) S W/\Zo lo (.slice A3' n3 c3')⟩
theorem qay (lo B:Nat) (A1:Option Addr) (n1 c1:Nat) (A2:Option Addr) (n2:Nat) (n3:Nat) (A4:Option Addr) (n4 c4:Nat) (S:Sto) (b:Nat):(outOn lo B A1 n1 c1 A2 n2 n3 A4 n4 c4 S).f b=.pointer (some ⟨b,0,none⟩):=rfl
theorem qeb (lo B:Nat) (A1:Option Addr) (n1 c1:Nat) (A2:Option Addr) (n2:Nat) (n3:Nat) (A4:Option Addr) (n4 c4:Nat) (S:Sto):∀ p,QV ((outOn lo B A1 n1 c1 A2 n2 n3 A4 n4 c4 S).φ p):=fun p W W' he ⟨A,c,⟨h1,h2,h3⟩,h4⟩=>⟨A,c,⟨h1,qb h2 he,h3.ext he⟩,h4⟩
def qea (lo:Nat):Qa:=⟨Nat,fun b=>.map (some b),fun b W=>lo<=b/\b<W.heap.size/\Ze W b fun _=>none⟩
theorem Uo (lo b:Nat):(qea lo).f b=.map (some b):=rfl
theorem qcj (lo:Nat):∀ p,QV ((qea lo).φ p):=fun p W W' he ⟨h1,h2,h3⟩=>⟨h1,Nat.lt_of_lt_of_le h2 he.size,h3.of_heap (he.block p h2)⟩
theorem run_mm (t:TypeId) (W:World):(Instr.makeMap t none).run prog W=.ok (.map (some W.heap.size)) (W.alloc (.map #[] 0)):=rfl
theorem run_bx (cs:Array Value) (t:TypeId) (W:World):(Instr.box t (.agg cs)).run prog W=.ok (.pointer (some ⟨W.heap.size,0,none⟩)) (W.alloc (.cells cs t)):=rfl
theorem XS {cs:Array Value} {k:Nat} {v:Value} (hk:k<256) (hv:cs[k]?=some v) (W:World):(Instr.index 82 (.agg cs) (.int .i64 (k:Int))).run prog W=.ok v W:=by obtain⟨i0,hi,ag,aU,aW⟩:=info_parts Tryz.info_int;have hp:=run_part_plain (P:=prog) (w:=W) (e:=3) zQ hv;have h0:(0:Int)<=(k:Int)/\(k:Int)<256:=zO;simp[Instr.index,asIntOf,run_underlying underlying82,h0,sizeOf,typeInfo,hi,aU,hp,Sem.run_bind];intro lG;omega
theorem VS {R:Ending->World->Prop} {a:Act} {W:World} {u v:Value} (h2:a.tmps[2]?.getD undef=u) (h3:a.tmps[3]?.getD undef=v) (hd:a.defers=[]) (hR:R (.returned (.tuple #[u,v])) W):bodyPost prog Tryz.f45 R .ret a W:=by refine bodyPost_ret (v:=.tuple #[u,v]) ?_ hd hR;simp[results,results45,go_sem,h2,h3]
set_option maxRecDepth 100000 in
theorem KB (A1:Option Addr) (n1 c1:Nat) (A2:Option Addr) (n2 c2:Nat) (A3:Option Addr) (n3 c3:Nat) (A4:Option Addr) (n4 c4:Nat) (gen root next:Int) (A5:Option Addr) (c5:Nat) (S:Sto) (dead:List Int) (w:World) (h:qU w w.heap.size (.slice A1 n1 c1) (.slice A2 n2 c2) (.slice A3 n3 c3) (.slice A4 n4 c4) S) (hd:Zw w w.heap.size (.slice A5 dead.length c5) dead):Calls prog 45 #[.agg (qF (.slice A1 n1 c1) (.slice A2 n2 c2) (.slice A3 n3 c3) (.slice A4 n4 c4) gen root next (.slice A5 dead.length c5))] w (XK S root next dead w):=by
 have HCK:=zH (fun W (hx:Ext w W)=>Jw A1 n1 c1 A2 n2 c2 A3 n3 c3 A4 n4 c4 S W (h.ext hx));have HNL:qm S=true->S.now.length<1073741824:=fun hm=>by have:=(Qc hm).2.2.1;omega
 have HON:=zH (fun (hm:qm S=true) W (hx:Ext w W)=>qdU A1 n1 c1 A2 n2 c2 A3 n3 c3 A4 n4 c4 S (HNL hm) W (h.ext hx));replace h:=zH h;replace hd:=zH hd;clear HNL;go_enter func45,ntmps45;go_wp2_with fail;generalize aA:World.alloc w _=w1;have x1:Ext w w1:=by rw[<-aA];exact zN _ _
 have p1:w1.heap[w.heap.size]?=some (.cells (qF (.slice A1 n1 c1) (.slice A2 n2 c2) (.slice A3 n3 c3) (.slice A4 n4 c4) gen root next (.slice A5 dead.length c5)) 32 (0,0)):=by rw[<-aA];exact zI _ _ _ rfl
 clear aA;refine(HCK.out w1 x1).mono ?_;rintro e w2 ⟨rfl,hB⟩;have x2:=x1.trans hB;have p2:=qb p1 hB;have k2:=qa p2;clear hB p1 x1 HCK;rcases hmay:qm S with _|_
 ·unfold JA;have HB:=zH (XK.bad (S:=S) (next:=next) (root:=root) (dead:=dead) x2 (fun vs hp=>by have:=hp.may;rw[hmay] at this;cases this));replace hmay:=zH hmay;go_wp2_with fail;exact VS rfl rfl rfl HB.out
 ·unfold JA;rcases Nat.lt_or_ge 40 dead.length with h40|h40
  ·have hq:decide ((dead.length:Int)>40)=true:=decide_eq_true zO;have HB:=zH (XK.bad (S:=S) (next:=next) (root:=root) (dead:=dead) x2 (fun vs hp=>by have:=hp.few;omega));replace hmay:=zH hmay;go_wp2_with fail;exact VS rfl rfl rfl HB.out
  ·have hq:decide ((dead.length:Int)>40)=false:=decide_eq_false zO;have lK:=zH hmay;clear hmay;go_wp2_with fail;have gP:∀ W,qj.r w2 W->∀ i,W.cell? ⟨w.heap.size,i,none⟩=(qF (.slice A1 n1 c1) (.slice A2 n2 c2) (.slice A3 n3 c3) (.slice A4 n4 c4) gen root next (.slice A5 dead.length c5))[i]?:=fun W h=>qa (qb p2 h);have aW:w.heap.size<w2.heap.size:=(zG.1 p2).1;refine qp zQ ?_;refine qQ (w:=w2) qj (qH [(4,outOn w2.heap.size w2.heap.size A1 n1 c1 A2 n2 n3 A4 n4 c4 S),(5,qea w2.heap.size)])
    [true,true,true,true,true,true,true] 2 zQ zQ zQ zQ zQ zQ zQ ?st (Rel.drew _ _) ?walk
   case st=>exact qk (by simp only[List.forall_mem_cons];exact⟨fun p=>QI (qeb _ _ _ _ _ _ _ _ _ _ _ _ p),fun p=>QI (qcj _ p),fun _ h=>by cases h⟩)
   case walk =>
    intro K hK;dsimp only[qt];repeat ((first|(refine qd ?_ zA0 zA0 (fun W hW _=>⟨W,?_,Rel.refl _ W⟩) ?_;rotate_left;(go_simp<;>with_reducible rfl))|(refine qh zA0 ?_));try simp only[Act.put,ql,qg,qc,qf,qc,qay,Uo,zA,zB,zC])
    refine qw (outOn w2.heap.size w2.heap.size A1 n1 c1 A2 n2 n3 A4 n4 c4 S) zA0 zA0 (fun W hW _=>?_) (fun (bb:Nat)=>?_)
    ·have lC:Ext w2 W:=hW;refine Qi ?_ ((HON.out lK.out W (x2.trans lC)).mono fun e w' h=>?_)
     ·go_simp
     ·obtain⟨u,rfl,⟨b,A3',c3',rfl,h1,h2⟩,h3⟩:=h;exact⟨b,rfl,⟨A3',c3',⟨Nat.le_trans lC.size h1.1,h1.2⟩,h2.mono lC.size⟩,h3⟩
    simp only[Act.put,qg,qc,qf,qc,qay,Uo,zA,zB,zC];refine qw (qea w2.heap.size) zA0 zA0 (fun W hW _=>?_) (fun (mb:Nat)=>?_)
    ·have lC:Ext w2 W:=hW;have hmm:=run_mm 81 W;refine jw (u:=.map (some W.heap.size)) (w':=W.alloc (.map #[] 0)) ?_ ⟨W.heap.size,rfl,⟨lC.size,zA2,Ze.empty W⟩,zN _ _⟩;go_simp
    simp only[Act.put,qg,qc,qf,qc,qay,Uo,zA,zB,zC];refine qd (.agg (ca0 (.slice A1 n1 c1) (.slice A2 n2 c2) (.slice A3 n3 c3) (.slice A4 n4 c4) bb mb)) zA0 zA0 (fun W hW _=>⟨W,?_,Rel.refl _ W⟩) ?_
    ·go_simp;exact ca_eq _ _ _ _ _ _
    simp only[Act.put,qg,qc,qf,qc,qay,Uo,zA,zB,zC];refine qv (hK _ _ fun W hW hF=>?_);have lC:Ext w2 W:=hW;have HO:=(hF 4).1;have HM:=(hF 5).1;clear hF hK gP;change ∃ A3' c3',_ at HO;change w2.heap.size<=mb/\mb<W.heap.size/\Ze W mb _ at HM;obtain⟨A3',c3',hon,hfr⟩:=HO;obtain⟨hm1,lJ,yl⟩:=HM;obtain⟨bU,aF,aI⟩:=hon;have xW:=x2.trans lC;have pW:=qb p2 lC;refine zB5 ?_;have hca:=ca0_ar (.slice A1 n1 c1) (.slice A2 n2 c2) (.slice A3 n3 c3) (.slice A4 n4 c4) bb mb;have uG:∀ i,i<6->(ca0 (.slice A1 n1 c1) (.slice A2 n2 c2) (.slice A3 n3 c3) (.slice A4 n4 c4) bb mb)[i]?=(#[.slice A1 n1 c1,.slice A2 n2 c2,.slice A3 n3 c3,.slice A4 n4 c4,.pointer (some ⟨bb,0,none⟩),.map (some mb)]:Array Value)[i]?:=fun i hi=>ca0_low _ _ _ _ _ _ hi;generalize (ca0 (.slice A1 n1 c1) (.slice A2 n2 c2) (.slice A3 n3 c3) (.slice A4 n4 c4) bb mb)=ca at *;have rQ:=run_bx ca;replace hca:=zH hca;replace uG:=zH uG;clear hW lC x2 p2;go_wp2_with fail;refine Qo ?_;have hcc:W.heap.size=W.heap.size:=rfl;obtain⟨cb,wH⟩:∃ cb,cb=W.heap.size:=⟨_,rfl⟩
    generalize aO:World.alloc W _=w3;have x3:Ext W w3:=by rw[<-aO];exact zN _ _
    have r3:w3.heap[cb]?=some (.cells ca 84 (0,0)):=by rw[<-aO];exact zI _ _ _ wH
    have z3:w3.heap.size=cb+1:=by rw[<-aO,wH];simp
    clear aO hcc;have hbb:bb<W.heap.size:=(zG.1 aF).1;have xw3:=xW.trans x3;have C3:Cen ⟨S,w.heap.size,w3.heap.size,cb,bb,mb,ca,.slice A1 n1 c1,.slice A2 n2 c2,.slice A3 n3 c3,.slice A4 n4 c4,.slice A1 n1 c1,.slice A2 n2 n2,.slice A3' n3 c3',.slice A4 n4 c4⟩ w3 (fun _=>none):={
     row:=r3
     c0:=uG.out 0 zO
     c1:=uG.out 1 zO
     c2:=uG.out 2 zO
     c3:=uG.out 3 zO
     c4:=uG.out 4 zO
     c5:=uG.out 5 zO
     map:=yl.of_heap (x3.block _ lJ)
     known:=fun a v hv=>by cases hv
     sto:=h.out.below xw3
     on:=qb aF x3
     onb:=(h.out.below xw3).bs
     onw:=(h.out.below xw3).ws.clip
     onl:=(h.out.below xw3).last
     onn:=(aI.now.below x3).more x3.size
     onf:=fun A n c e=>by have hn:=(Bys.at_ aI.now).2.2.2;have hl:=(Qc lK.out).2.2.1;have hn3:=(Bys.at_ aI.now).1;obtain⟨b,off,hA,hb⟩:=hn zO;have e':Value.slice A3' n3 c3'=.slice (some A) n c:=e;rw[hA] at e';simp only[Value.slice.injEq,Option.some.injEq] at e';rw[<-e'.1];show b≠cb;omega
     low:=by
      show cb<w3.heap.size/\bb<w3.heap.size/\mb<w3.heap.size/\cb≠mb/\bb≠mb/\w3.heap.size<=w3.heap.size/\w.heap.size<=cb/\w.heap.size<=bb/\w.heap.size<=mb/\cb≠bb;have aG:bb≠mb:=by rintro rfl;obtain⟨es,clock,h1,_⟩:=yl;rw[aF] at h1;cases h1
      omega
     may:=lK.out }
    rw[<-wH];have pw3:=qb pW x3;have hcw:w.heap.size<=cb:=zO;have aO:w.heap.size<cb:=by have:=(zG.1 pW).1;omega
    generalize iT:(⟨S,w.heap.size,w3.heap.size,cb,bb,mb,ca,.slice A1 n1 c1,.slice A2 n2 c2,.slice A3 n3 c3,.slice A4 n4 c4,.slice A1 n1 c1,.slice A2 n2 n2,.slice A3' n3 c3',.slice A4 n4 c4⟩:CP)=p at C3;have pS:p.S=S:=by rw[<-iT]
    have pcb:p.cb=cb:=by rw[<-iT]
    have pmb:p.mb=mb:=by rw[<-iT]
    have plo:p.lo=w3.heap.size:=by rw[<-iT]
    have pca:p.ca=ca:=by rw[<-iT]
    have hmb:w.heap.size<mb:=by have:=(zG.1 pW).1;omega
    clear iT rQ yl aI aF hfr pW x3 r3 z3 bU hm1 lJ hbb wH;have kp:=qa pw3;go_wp2_with fail;have HLR:=qbc p root w3 _ C3;rw[pcb] at HLR;refine HLR.mono ?_;rintro e w4 ⟨v,g,rfl,⟨lvl,A,n,c,fk,lk,rfl,bn⟩,bM,hm,hg,hn⟩;have C4:=C3.after bM hm hg hn;rw[pS] at bn ⊢;have hz3:cb<w3.heap.size:=by rw[<-pcb];exact(zG.1 C3.row).1
    have x4:Below w.heap.size w w4:=xw3.grown hg zO (fun q hq=>by cases hq;rw[pmb];omega);have pw4:=(hg.block w.heap.size zO zA1).trans pw3;have z4:=hg.size;have hcb4:cb<w4.heap.size:=by rw[<-pcb];exact(zG.1 C4.row).1
    rcases hok:okL S (-1) root with _|_
    ·have HB:=zH (fun W (hx:Ext w4 W)=>XK.bad (S:=S) (next:=next) (root:=root) (dead:=dead) (x4.trans (Below.mono hx zO)) (fun vs hp=>by have:=hp.top;rw[hok] at this;cases this));replace C4:=zH C4;replace C3:=zH C3;replace hok:=zH hok;clear bn bM hm hg hn HLR kp pw3 pw4;go_wp2_with fail;exact VS rfl rfl rfl (HB.out _ (zN _ _))
    ·obtain⟨a,ha,dW⟩:=ZY hok;have hga:=bn hok;rw[hok] at hga;obtain⟨n9,lv,xs,A',c',ng,lk',b',e9,-,-,hnode,hv,aJ,aN,ai⟩:=C4.known _ _ hga;rw[pS] at hnode aN;simp only[Value.agg.injEq,Array.mk.injEq,List.cons.injEq,Value.int.injEq,Value.bool.injEq,Value.slice.injEq,true_and,and_true] at hv;obtain⟨rfl,⟨rfl,rfl,rfl⟩,-,-,-,-,-,-,rfl⟩:=hv;have hDI:=(qN hnode).1;have tN:=fun y hy=>((qN hnode).2.1 y hy).1;have hlen:xs.length<=5:=by unfold Qb ZR at hDI;simp at hDI;omega
     have uu:vt S root next=Zs next [] (qC S lv xs):=by
      unfold vt;rw[e9,Int.toNat_natCast,hnode];show Zs next [] (qC S (lv:Int).toNat xs)=_
      rw[Int.toNat_natCast]
     have hAE:(qD S lv xs).isSome=true:=aN.1.symm;have yZ:0<lv->∀ y∈xs,(g y.r).isSome=true:=ai rfl;replace C4:=zH C4;replace C3:=zH C3;replace hok:=zH hok;replace aJ:=zH aJ;replace hAE:=zH hAE;replace yZ:=zH yZ;replace tN:=zH tN;replace uu:=zH uu;replace hnode:=zH hnode;replace dW:=zH dW;replace hga:=zH hga;replace ha:=zH ha;replace e9:=zH e9;have kp4:=qa pw4;have hzw4:w.heap.size<w4.heap.size:=zO;clear bn bM hm hg hn HLR kp pw3 aN ai hDI;go_wp2_with fail;generalize aV:World.alloc w4 _=w5;have dP:Ext w4 w5:=by rw[<-aV];exact zN _ _
     clear aV;have x5:=x4.trans (Below.mono dP zO);have pw5:=qb pw4 dP;have C5:=C4.out.ext dP;have dn:=aJ.out.keep dP.size (fun q _ hq=>Below.cell dP hq);have I5:VolI p w5 w5 [] (.slice none 0 0) ca (fun _=>0) (fun _=>0):=by
      refine⟨⟨Off.refl (zM _),?_,hca.out,fun i _=>by rw[pca],(zG.1 C5.row).1⟩,World.ownsRow_nil _ _ _ _⟩;have:=C5.row
      rwa [pca] at this
     have HV:=qgA p w5 g (fun _=>0) (fun _=>0) (.slice A1 n1 c1) (.slice A2 n2 c2) (.slice A3 n3 c3) (.slice A4 n4 c4) gen root next (.slice A5 dead.length c5) C5 lv xs A c [] (.slice none 0 0) ca w5 I5 zA2 tN.out hlen dn (by rw[pS];exact hAE.out) yZ.out
     rw[pcb,pS] at HV;refine HV.mono ?_;rintro e w6 ⟨F6,pU⟩;clear HV I5;have x6:Below w.heap.size w w6:=⟨F6.os.trans x5.os,F6.tape.trans x5.tape,F6.output.trans x5.output,Nat.le_trans x5.size F6.size,fun k hk=>(F6.block k (Nat.lt_of_lt_of_le hk x5.size) zO (by simp[Value.ownBlock])).trans (x5.block k hk)⟩
     have hz5:w.heap.size<w5.heap.size:=by have:=dP.size;omega
     have hzw6:w.heap.size<w6.heap.size:=by have:=F6.size;omega
     have hGL:cb<w5.heap.size:=by have:=dP.size;omega
     have hmb5:mb<w5.heap.size:=by have h1:=C3.out.low.2.2.1;rw[pmb,plo] at h1;have:=dP.size;omega
     have hcb6:cb<w6.heap.size:=by have:=dP.size;have:=F6.size;omega
     have hmb6:mb<w6.heap.size:=by have h1:=C3.out.low.2.2.1;rw[pmb,plo] at h1;have:=dP.size;have:=F6.size;omega
     rcases hgo:Zs next [] (qC S lv xs) with _|vs
     ·rw[hgo] at pU;obtain rfl:e=.returned (.int .i64 8):=pU;have HB:=zH (XK.bad (S:=S) (next:=next) (root:=root) (dead:=dead) x6 (fun vs hp=>by have:=hp.vols;rw[uu.out,hgo] at this;cases this));clear kp4 pw4 pw5 F6 dP;replace C5:=zH C5;go_wp2_with fail;exact VS rfl rfl rfl HB.out
     ·rw[hgo] at pU;obtain⟨rfl,vv,ca6,V6,N6⟩:=pU;clear N6;have pw6:=(F6.block w.heap.size hz5 zO (by simp[Value.ownBlock])).trans pw5;have kp6:=qa pw6;clear kp4 pw4 pw5 F6 dP;replace C5:=zH C5;replace V6:=zH V6;replace hgo:=zH hgo;replace dn:=zH dn;obtain⟨i0,hi,ag,aU,aW⟩:=info_parts Tryz.info_int;go_wp2_with (at_builtin;refine Qf ?_);have hda:Rd (w6.alloc (.cells #[.int .i64 root] 3)) w.heap.size 1 A5 dead.length (dead.map fun (a:Int)=>Value.int .i64 a):=by obtain⟨A',c',e,_,_,hr⟩:=hd.out;cases e;exact(hr.below x6).alloc zO _
      have o7:(w6.alloc (.cells #[.int .i64 root] 3)).ownsRow w6.heap.size 3 1 (.slice (some ⟨w6.heap.size,0,none⟩) 1 1) 1 [.int .i64 root]:=World.ownsRow_lit (base:=w6.heap.size) (e:=3) (size:=1) w6 #[.int .i64 root] 1 (zM _) zA6 rfl;refine QC.go (Qw _ rfl (.tmp 48) (.tmp 50) 30 rfl w6.heap.size 3 i0 (.int .i64 0) 1 8 underlying30 hi ag aU aW rfl zD _ 1 [.int .i64 root] rfl o7 w.heap.size A5 dead.length c5 (dead.map fun (a:Int)=>Value.int .i64 a) rfl hda zA7 zO zD zA2 ?_);intro v7 w7 o8 g7 hB7 hv7;have x67:Ext w6 w7:=Below.trans (zN w6 _) hB7;have I1:R1 w6 root dead vs v7 (.int .i64 0) w7:=⟨0,Nat.zero_le _,rfl,by
       have e:Gj (vy root dead vs 0)=[.int .i64 root]++dead.map fun (a:Int)=>Value.int .i64 a:=by unfold vy Gj;simp
       rw[e];exact o8,x67⟩
      have V7:=V6.out.ext x67;obtain⟨AV,cV,rfl,hLN,hLP⟩:=qz V7.own;have kc7:w7.cell? ⟨cb,518,none⟩=some (.slice AV vs.length cV):=by rw[<-pcb,qa V7.t.row];exact V7.t.ar.vol
      have hvs16:vs.length<=16:=VV next _ _ _ zA2 hgo.out
      replace I1:=zH I1;replace V7:=zH V7;replace x67:=zH x67;clear o7 o8 g7 hv7 hB7 hda hi ag aU aW hLN hLP kp6;go_wp2_with fail;clear kc7;go_loopw [5,57] (fun v i wr=>R1 w6 root dead vs v i wr) (fun _ i _=>vs.length-(intOf i).toNat)
      case atStart=>exact I1.out
      case round =>
       obtain⟨k,hk,rfl,own,xr⟩:=hrel.ex;clear I1;by_cases hlt:k<vs.length
       ·have aH:=hlt;obtain⟨bv,iO,eA,hbv,aS⟩:=(Rd.of_own (V6.out.ext xr).own).2 zO;subst eA;obtain⟨d0,d1,d2,d3⟩:=Kq vs k aH;replace d0:=aS _ _ d0;replace d1:=aS _ _ d1;replace d2:=aS _ _ d2;replace d3:=aS _ _ d3;have HSU:=zH (qen root dead vs aH);generalize vs[k]=u at *;clear aS;rw[<-Nat.add_assoc] at d1 d2 d3;obtain⟨AR,cR,rfl,hCN,hCO⟩:=qz own;obtain⟨i0,hi,ag,aU,aW⟩:=info_parts Tryz.info_int;replace own:=zH own;replace xr:=zH xr;clear hCN hCO;go_upto_region 11 with fail;generalize yF:World.alloc wr _=w9;have x9:Ext wr w9:=by rw[<-yF];exact zN _ _
        have u9:w9.heap[wr.heap.size]?=some (.cells (vol4 u) 40 (0,0)):=by rw[<-yF];exact zI _ _ _ rfl
        have ku9:=qa u9;clear yF d0 d1 d2 d3 u9;go_wp2_with (at_builtin;refine Qf ?_);refine QC.go (jh _ rfl (.tmp 61) (.tmp 64) 30 rfl w6.heap.size 3 i0 (.int .i64 0) 1 8 underlying30 hi ag aU aW rfl zD _ _ _ rfl (za own.out x9) #[.int .i64 u.root] rfl rfl zA7 zO zD (Nat.le_trans xr.out.size x9.size) ?_);intro v8 w8 lh _ hB8 _;have IR:R1 w6 root dead vs v8 (.int .i64 ((k:Int)+1)) w8:=⟨k+1,aH,rfl,by rw[HSU.out,qkv];exact lh,Below.trans (Below.trans xr.out (Below.mono x9 xr.out.size)) hB8⟩
        replace IR:=zH IR;clear lh hB8 hi ag aU aW;go_wp2_with fail;refine⟨IR.out,?_⟩;simp[intOf];omega
       ·have mD:k=vs.length:=zO;subst mD;have VW:=V6.out.ext xr;have CW:=VW.t.cen C5.out;have hRl:(Zl root dead vs).length=1+dead.length+vs.length:=by rw[<-GY];exact qgl root dead vs (zM _)
        rw[GY,<-hRl] at own;obtain⟨AR,cR,rfl,hCN,hCO⟩:=qz own;obtain⟨N,hN⟩:∃ N,N=(Zl root dead vs).length:=⟨_,rfl⟩
        rw[<-hN] at own hRl ⊢;have I2:R2 p wr (.slice AV vs.length cV) (Zl root dead vs) (.int .i64 0) wr:=⟨0,g,ca6,fun _=>0,fun _=>0,Nat.zero_le _,rfl,CW,VW.t.ar,qX.zero _,(fun a ha=>by cases ha),(fun r hr=>by cases hr),qaj.refl _ _ _⟩
        have xw:=x6.trans (Below.mono xr zO);have pwr:=qb pw6 xr;clear hCN hCO;replace I2:=zH I2;replace CW:=zH CW;replace VW:=zH VW;replace own:=zH own;replace hRl:=zH hRl;replace hN:=zH hN;replace xw:=zH xw;replace pwr:=zH pwr;clear hrel;generalize wr=w8 at *;go_wp2_with fail;go_loopw [2,3,69] (fun u v i wq=>u=.pointer (some ⟨cb,0,none⟩)/\v=.int .i64 0/\R2 p w8 (.slice AV vs.length cV) (Zl root dead vs) i wq) (fun _ _ i _=>N-(intOf i).toNat)
        case atStart=>exact⟨rfl,rfl,I2.out⟩
        case round =>
         obtain⟨rfl,rfl,hrel⟩:=hrel;obtain⟨k,g2,ca2,bG,sQ,hk2,rfl,C2,N2,M2,Q2,ax,K2⟩:=hrel.ex;clear I2;have hRL:=hRl.out;have yR:=hN.out;by_cases hlt2:k<(Zl root dead vs).length
         ·have hlt3:k<N:=zO;have wS:wrap64 ((k:Int)+1)=(k:Int)+1:=IntWalk.wrap64_in _ zO;replace wS:=zH wS;obtain⟨br,offr,eR,yA,aS⟩:=(Rd.of_own own.out).2 zO;have hbr2:=(QM own.out)
          subst eR;have hbr3:=hbr2 br rfl;have dk:=aS k _ (rowI_get _ k hlt2);replace dk:=(World.cell?_of_block (a:=⟨br,offr+k,none⟩) (K2.block br yA (by rw[pcb];omega) (by rw[pmb];omega))).trans dk;have HTK:=zH (List.take_succ_eq_append_getElem hlt2);have HMM:=zH (List.getElem_mem hlt2);generalize (Zl root dead vs)[k]=r at *;have HT:=tree_any (p.put ca2) (((Zl root dead vs).take k).map Int.toNat) (by rw[List.length_map,List.length_take];omega) r wr g2 bG sQ _ C2 N2 M2 Q2;change Calls _ _ #[.pointer (some ⟨p.cb,0,none⟩),.int .i64 r] wr _ at HT;rw[pcb] at HT;replace C2:=zH C2;replace N2:=zH N2;replace M2:=zH M2;replace Q2:=zH Q2;replace ax:=zH ax;replace K2:=zH K2;replace hRL:=zH hRL;replace yR:=zH yR;replace hlt2:=zH hlt2;replace HT:=zH HT;clear aS hbr2 hbr3;go_wp2_with fail;refine HT.out.mono ?_;rintro e w9 ⟨hE,t1,t2,t3,t4,t5,t6⟩;have K9:qaj p.cb p.mb w8 w9:=K2.out.trans ⟨t1,t2,t3,t4,t5⟩;rcases hokr:okL p.S (-1) r with _|_
          ·have x9:=K9.below xw.out (by have:=(zG.1 pwr.out).1;omega) (by rw[pcb];omega) (by rw[pmb];omega);have HB:=zH (XK.bad (S:=S) (next:=next) (root:=root) (dead:=dead) x9 (fun vs' hp=>by have h1:=hp.vols;rw[uu.out,hgo.out,Option.some.injEq] at h1;subst h1;have:=hp.ok r HMM.out;rw[pS] at hokr;rw[hokr] at this;cases this));obtain rfl:e=.returned (.int .i64 8):=hE.trans (by show Ending.returned (.int .i64 (if okL p.S (-1) r=true then 0 else 8))=_;rw[hokr];rfl);replace hokr:=zH hokr;clear t1 t2 t3 t4 t5 t6 K9 x9 hE;go_wp2_with fail;exact VS rfl rfl rfl HB.out
          ·obtain⟨ca3,g3,hWV,hNZ,C9,hg9,N9,M9,Q9⟩:=t6 hokr;have IR:R2 p w8 (.slice AV vs.length cV) (Zl root dead vs) (.int .i64 ((k:Int)+1)) w9:=by
            refine⟨k+1,g3,ca3,hWV,hNZ,hlt2.out,rfl,C9,N9,?_,?_,?_,K9⟩
            ·rw[HTK.out,List.map_append];exact M9
            ·rw[HTK.out,List.map_append];exact Q9
            ·intro r' nM;rw[HTK.out] at nM;rcases List.mem_append.1 nM with h1|h1
             ·exact ax.out r' h1
             ·rw[List.mem_singleton.1 h1];exact hokr
           replace IR:=zH IR;obtain rfl:e=.returned (.int .i64 0):=hE.trans (by show Ending.returned (.int .i64 (if okL p.S (-1) r=true then 0 else 8))=_;rw[hokr];rfl);replace hokr:=zH hokr;clear hE t1 t2 t3 t4 t5 t6 K9 C9 hg9 N9 M9 Q9;go_wp2_with fail;rw[wS.out];refine⟨⟨rfl,rfl,IR.out⟩,?_⟩;simp[intOf];omega
         ·have hMD:k=(Zl root dead vs).length:=zO;have hlt3:¬k<N:=zO;rw[hMD,List.take_length] at M2 Q2 ax;have k9:=qa C2.row;have hkN:k=N:=zO;replace hMD:=zH hMD;replace ax:=zH ax;replace C2:=zH C2;replace M2:=zH M2;replace Q2:=zH Q2;replace K2:=zH K2;replace N2:=zH N2;clear hrel hk2 hlt2 hRL yR;have hz8:w.heap.size<w8.heap.size:=(zG.1 pwr.out).1;have x9:Below w.heap.size w wr:=K2.out.below xw.out zO (by rw[pcb];omega) (by rw[pmb];omega);have pw9:=(K2.out.block w.heap.size hz8 (by rw[pcb];omega) (by rw[pmb];omega)).trans pwr.out;have kp9:=qa pw9;have rc9:=C2.out.row;change wr.heap[p.cb]?=some (.cells ca2 _ _) at rc9;rw[pcb] at rc9;have hcc:∀ j v,(YL bG)[j]?=some v->wr.cell? ⟨cb,6+j,none⟩=some v:=fun j v hj=>by obtain⟨h1,rfl⟩:=qiB hj;rw[qa rc9];exact N2.out.ref j h1
          have hst9:=h.out.below x9;obtain⟨A'',c'',e3,hlc,hmc,tJ⟩:=hst9.now;have nC:S.now.length=256:=(Qc lK.out).2.2.1;have yu:∃ b3 o3,(Value.slice A3 n3 c3)=.slice (some ⟨b3,o3,none⟩) 256 c3/\∀ j,j<256->wr.cell? ⟨b3,o3+j,none⟩=some (.int .u8 ((S.now[j]?.getD 0).toNat:Int)):=by rw[Value.slice.injEq] at e3;obtain⟨rfl,hn3,rfl⟩:=e3;obtain⟨b3,o3,hA3,_,hSY⟩:=tJ.2 zO;refine⟨b3,o3,by rw[hA3,hn3,nC],fun j hj=>?_⟩;exact hSY j _ (by rw[List.getElem?_map,zL zO];rfl)
          obtain⟨b3,o3,eN,hcN⟩:=yu;rw[eN] at kp9;replace hcN:=zH hcN;replace x9:=zH x9;clear hst9 tJ hlc hmc pw9 rc9;replace e3:=zH e3;replace eN:=zH eN;go_upto_region 20 with fail;go_wp2_with (refine KH rfl 82 (.tmp 82) rfl cb 6 rfl (YL bG) _ hcc underlying82 rfl (by rw[show (YL bG).length=256 by simp[YL]];kernel_rfl) ?_);clear hcc;replace hkN:=zH hkN;go_loopw [2,3,84] (fun u v i wq=>u=.pointer (some ⟨cb,0,none⟩)/\v=.int .i64 0/\R3 S bG wr i wq) (fun _ _ i _=>256-(intOf i).toNat)
          case atStart=>exact⟨rfl,rfl,0,zO,rfl,fun a h=>absurd h (Nat.not_lt_zero _),rfl⟩
          case round =>
           obtain⟨rfl,rfl,hrel⟩:=hrel;obtain⟨q,oG,rfl,hle,rfl⟩:=hrel.ex;clear hrel;have y8:qX S (Qs root dead vs) bG sQ:=by have:=M2.out;rw[pS] at this;exact this
           have uV:Qg S root next dead vs:=⟨lK.out,h40,hok.out,uu.out.trans hgo.out,fun r hr=>by have:=ax.out r hr;rwa [pS] at this⟩
           by_cases hl4:q<256
           ·have dN:=hcN.out q hl4;have hix:=XS (cs:=(YL bG).toArray) hl4 (v:=.int .i64 (bG q)) (by rw[List.getElem?_toArray];exact qaJ bG hl4);generalize gZ:(S.now[q]?.getD 0).toNat=nv at *;have hnv2:nv<256:=by rw[<-gZ];exact UInt8.toNat_lt _
            have hwq:=zH (IntWalk.wrap64_in ((q:Int)+1) zO);replace gZ:=zH gZ;replace hle:=zH hle;replace y8:=zH y8;replace uV:=zH uV;rcases Nat.lt_or_ge nv (bG q) with hg|hg
            ·have dV:decide ((bG q:Int)>(nv:Int))=true:=decide_eq_true zO;have bP:decide (nv<bG q)=true:=decide_eq_true hg;have HB:XK S root next dead w (.returned (.tuple #[.pointer none,.int .i64 8])) wr:=⟨x9.out,.inl ⟨rfl,fun vs' hp=>by have h1:=hp.vols;rw[uu.out,hgo.out,Option.some.injEq] at h1;subst h1;exact⟨bG,sQ,y8.out,fun he=>by have:=he q hl4;rw[gZ.out] at this;omega⟩⟩⟩
             replace HB:=zH HB;replace hg:=zH hg;generalize (YL bG).toArray=arr at *;go_wp2_with fail;exact VS rfl rfl rfl HB.out
            ·have dV:decide ((bG q:Int)>(nv:Int))=false:=decide_eq_false zO;have bP:decide (nv<bG q)=false:=decide_eq_false zO;have IR:R3 S bG wr (.int .i64 ((q:Int)+1)) wr:=⟨q+1,hl4,rfl,fun a ha=>by
              rcases Nat.lt_or_ge a q with h1|h1
              ·exact hle.out a h1
              ·obtain rfl:a=q:=zO;rw[gZ.out];exact hg,rfl⟩
             replace IR:=zH IR;replace hg:=zH hg;generalize (YL bG).toArray=arr at *;go_wp2_with fail;refine⟨⟨rfl,rfl,IR.out⟩,?_⟩;simp[intOf];omega
           ·have xB:QF S bG:=fun a ha=>hle a zO;have HT:XK S root next dead w (.returned (.tuple #[.pointer (some ⟨cb,0,none⟩),.int .i64 0])) wr:=⟨x9.out,.inr ⟨vs,bG,sQ,cb,ca2,.slice AV vs.length cV,rfl,⟨uV,y8,xB,hcw,by rw[<-pcb];exact C2.out.row,N2.out,QG (own_kept VW.out.own K2.out (by rw[pcb];exact hGL) (by rw[pmb];exact hmb5)) zO⟩⟩⟩
            replace HT:=zH HT;replace y8:=zH y8;replace uV:=zH uV;replace xB:=zH xB;replace hle:=zH hle;go_wp2_with fail;exact VS rfl rfl rfl HT.out
def Zj (S:Sto) (a:Nat):Nat:=(S.now[a]?.getD 0).toNat
def JJ (S:Sto) (a:Int):Int:=if qm S=true then (if 8<=a/\a<256 then (if Zj S a.toNat=0 then 6 else 0) else 2) else 8
theorem qeP {S:Sto} (h:qm S=false) (a:Int):JJ S a=8:=by unfold JJ;rw[h];simp
theorem qeQ {S:Sto} (h:qm S=true) {a:Int} (ha:¬(8<=a/\a<256)):JJ S a=2:=by unfold JJ;rw[if_pos h,if_neg ha]
theorem qdv {S:Sto} (h:qm S=true) {a:Nat} (ha:8<=a) (aj:a<256):JJ S (a:Int)=if Zj S a=0 then 6 else 0:=by unfold JJ;rw[if_pos h,if_pos zO,Int.toNat_natCast]
theorem Xp {S:Sto} {a:Int} (h:JJ S a=0):qm S=true/\∃ n:Nat,a=(n:Int)/\8<=n/\n<256/\Zj S n≠0:=by
 unfold JJ at h;split at h
 ·rename_i hm;split at h
  ·rename_i hr;split at h
   ·cases h
   ·rename_i hn;obtain⟨n,hna⟩:=Int.eq_ofNat_of_zero_le (show 0<=a by omega);subst hna;exact⟨hm,n,rfl,zO,zO,by simpa using hn⟩
  ·cases h
 ·cases h
theorem Gc {S:Sto} (hS:qm S=true) {w:World} {B:Nat} {v:Value} (h:Bys w B v S.now):∃ b o c,v=.slice (some ⟨b,o,none⟩) 256 c/\b<B/\∀ a,a<256->w.cell? ⟨b,o+a,none⟩=some (.int .u8 (Zj S a:Int)):=by obtain⟨-,-,hl,-⟩:=Qc hS;obtain⟨A,c,e,hc,hm,hr⟩:=h;obtain⟨b,o,rfl,hb,aC⟩:=hr.2 zO;rw[hl] at e;exact⟨b,o,c,e,hb,fun a ha=>aC a _ (by rw[List.getElem?_map,zL zO];unfold Zj;rw[zL zO];rfl)⟩
set_option maxRecDepth 100000 in
theorem qbw (A1:Option Addr) (n1 c1:Nat) (A2:Option Addr) (n2 c2:Nat) (A3:Option Addr) (n3 c3:Nat) (A4:Option Addr) (n4 c4:Nat) (S:Sto) (a:Int) (w:World) (h:qU w w.heap.size (.slice A1 n1 c1) (.slice A2 n2 c2) (.slice A3 n3 c3) (.slice A4 n4 c4) S):Calls prog 48 #[Qd A1 n1 c1 A2 n2 c2 A3 n3 c3 A4 n4 c4,.int .i64 a] w (Ret (.int .i64 (JJ S a)) w):=by
 have HC:=zH (fun W (hx:Ext w W)=>Jw A1 n1 c1 A2 n2 c2 A3 n3 c3 A4 n4 c4 S W (h.ext hx));replace h:=zH h;go_enter func48,ntmps48;go_wp2_with fail;generalize aA:(World.alloc w _)=w1;have x1:Ext w w1:=by rw[<-aA];exact zN _ _
 have r1:w1.heap[w.heap.size]?=some (.cells #[.slice A1 n1 c1,.slice A2 n2 c2,.slice A3 n3 c3,.slice A4 n4 c4] 28 (0,0)):=by rw[<-aA];exact zI _ _ _ rfl
 clear aA;refine(HC.out w1 x1).mono ?_;clear HC;rintro e w2 ⟨rfl,hB⟩;have x2:Ext w w2:=x1.trans hB;have r2:=qb r1 hB;clear hB r1 x1;rcases hS:qm S with _|_
 ·have hq:=zH (qeP hS a);replace hS:=zH hS;rw[Jp rfl];go_wp2_with fail;go_ret;exact⟨by rw[hq.out];rfl,x2⟩
 ·rw[JM rfl];by_cases hr:8<=a/\a<256
  ·obtain⟨n,hna⟩:=Int.eq_ofNat_of_zero_le (show 0<=a by omega);subst hna;have hn8:8<=n:=zO;have uU:n<256:=zO;have hq:=qdv hS hn8 uU;obtain⟨b,o,c,e3,hb,aC⟩:=Gc hS h.out.now;have lD:=Ext.cell x2 (aC n uU);generalize Zj S n=nw at *;cases e3;have k2:=qa r2;have d1:decide ((n:Int)<8)=false:=decide_eq_false zO;have d2:decide ((n:Int)≥256)=false:=decide_eq_false zO;clear hr aC;replace hS:=zH hS;rcases Nat.eq_zero_or_pos nw with h0|h0
   ·have aU:((nw:Int) == 0)=true:=by rw[beq_iff_eq];omega
    have aW:decide (nw=0)=true:=decide_eq_true h0;rw[if_pos h0] at hq;replace hq:=zH hq;replace h0:=zH h0;go_wp2_with fail;go_ret;exact⟨by rw[hq.out];rfl,x2⟩
   ·have aU:((nw:Int) == 0)=false:=by rw[beq_eq_false_iff_ne];omega
    have aW:decide (nw=0)=false:=decide_eq_false zO;rw[if_neg zO] at hq;replace hq:=zH hq;replace h0:=zH h0;go_wp2_with fail;go_ret;exact⟨by rw[hq.out];rfl,x2⟩
  ·have hq:=zH (qeQ hS hr);replace hS:=zH hS;by_cases h8:a<8
   ·have d1:decide (a<8)=true:=decide_eq_true h8;replace hr:=zH hr;go_wp2_with fail;go_ret;exact⟨by rw[hq.out];rfl,x2⟩
   ·have d1:decide (a<8)=false:=decide_eq_false h8;have d2:decide (a≥256)=true:=decide_eq_true zO;replace hr:=zH hr;go_wp2_with fail;go_ret;exact⟨by rw[hq.out];rfl,x2⟩
set_option maxRecDepth 100000 in
theorem qfr (A1:Option Addr) (n1 c1:Nat) (A2:Option Addr) (n2 c2:Nat) (A3:Option Addr) (n3 c3:Nat) (A4:Option Addr) (n4 c4:Nat) (S:Sto) (a:Int) (w:World) (h:qU w w.heap.size (.slice A1 n1 c1) (.slice A2 n2 c2) (.slice A3 n3 c3) (.slice A4 n4 c4) S):Calls prog 129 #[Qd A1 n1 c1 A2 n2 c2 A3 n3 c3 A4 n4 c4,.int .i64 a] w (Ret (.int .i64 (JJ S a)) w):=by
 have HC:=zH (fun W (hx:Ext w W)=>Jw A1 n1 c1 A2 n2 c2 A3 n3 c3 A4 n4 c4 S W (h.ext hx));replace h:=zH h;go_enter func129,ntmps129;go_wp2_with fail;generalize aA:(World.alloc w _)=w1;have x1:Ext w w1:=by rw[<-aA];exact zN _ _
 have r1:w1.heap[w.heap.size]?=some (.cells #[.slice A1 n1 c1,.slice A2 n2 c2,.slice A3 n3 c3,.slice A4 n4 c4] 28 (0,0)):=by rw[<-aA];exact zI _ _ _ rfl
 clear aA;refine(HC.out w1 x1).mono ?_;clear HC;rintro e w2 ⟨rfl,hB⟩;have x2:Ext w w2:=x1.trans hB;have r2:=qb r1 hB;clear hB r1 x1;rcases hS:qm S with _|_
 ·have hq:=zH (qeP hS a);replace hS:=zH hS;rw[Jp rfl];go_wp2_with fail;go_ret;exact⟨by rw[hq.out];rfl,x2⟩
 ·rw[JM rfl];by_cases hr:8<=a/\a<256
  ·obtain⟨n,hna⟩:=Int.eq_ofNat_of_zero_le (show 0<=a by omega);subst hna;have hn8:8<=n:=zO;have uU:n<256:=zO;have hq:=qdv hS hn8 uU;obtain⟨b,o,c,e3,hb,aC⟩:=Gc hS h.out.now;have lD:=Ext.cell x2 (aC n uU);generalize Zj S n=nw at *;cases e3;have k2:=qa r2;have d1:decide ((n:Int)<8)=false:=decide_eq_false zO;have d2:decide ((n:Int)≥256)=false:=decide_eq_false zO;clear hr aC;replace hS:=zH hS;rcases Nat.eq_zero_or_pos nw with h0|h0
   ·have aU:((nw:Int) == 0)=true:=by rw[beq_iff_eq];omega
    have aW:decide (nw=0)=true:=decide_eq_true h0;rw[if_pos h0] at hq;replace hq:=zH hq;replace h0:=zH h0;go_wp2_with fail;go_ret;exact⟨by rw[hq.out];rfl,x2⟩
   ·have aU:((nw:Int) == 0)=false:=by rw[beq_eq_false_iff_ne];omega
    have aW:decide (nw=0)=false:=decide_eq_false zO;rw[if_neg zO] at hq;replace hq:=zH hq;replace h0:=zH h0;go_wp2_with fail;go_ret;exact⟨by rw[hq.out];rfl,x2⟩
  ·have hq:=zH (qeQ hS hr);replace hS:=zH hS;by_cases h8:a<8
   ·have d1:decide (a<8)=true:=decide_eq_true h8;replace hr:=zH hr;go_wp2_with fail;go_ret;exact⟨by rw[hq.out];rfl,x2⟩
   ·have d1:decide (a<8)=false:=decide_eq_false h8;have d2:decide (a≥256)=true:=decide_eq_true zO;replace hr:=zH hr;go_wp2_with fail;go_ret;exact⟨by rw[hq.out];rfl,x2⟩
def qZ (t:List UInt8) (a:Nat):Nat:=(t[a]?.getD 0).toNat
def Yw (t:List UInt8) (a:Int) (end_:Nat):Int:=if Qn t=true then (if 8<=a/\a<256 then (if qZ t a.toNat=end_ then 70 else 0) else 2) else 8
def jo (t:List UInt8) (a by_:Nat):List UInt8:=t.set a (UInt8.ofNat (qZ t a+by_))
theorem qil (t:List UInt8) (a by_:Nat):(jo t a by_).length=t.length:=by unfold jo;simp
theorem qer (n:Nat):IntKind.u8.wrap (n:Int)=(((UInt8.ofNat n).toNat:Nat):Int):=by simp[IntKind.wrap,IntKind.bits,IntKind.signed]
def qeI (t:List UInt8) (a:Int) (by_ end_ lo:Nat) (u:Value) (W:World):Prop:=
 (Yw t a end_≠0/\u=.tuple #[.slice none 0 0,.int .i64 (Yw t a end_)]) \/
  (Yw t a end_=0/\∃ A c,u=.tuple #[.slice A 256 c,.int .i64 0]/\W.ownsRow lo 5 1 (.slice A 256 c) 256 ((jo t a.toNat by_).map bv))
theorem qkE {t:List UInt8} (h:Qn t=false) (a:Int) (e:Nat):Yw t a e=8:=by unfold Yw;rw[h];simp
theorem qkF {t:List UInt8} (h:Qn t=true) {a:Int} (ha:¬(8<=a/\a<256)) (e:Nat):Yw t a e=2:=by unfold Yw;rw[if_pos h,if_neg ha]
theorem qgt {t:List UInt8} (h:Qn t=true) {a:Nat} (ha:8<=a) (aj:a<256) (e:Nat):Yw t (a:Int) e=if qZ t a=e then 70 else 0:=by unfold Yw;rw[if_pos h,if_pos zO,Int.toNat_natCast]
theorem Xl {R:Ending->World->Prop} {a:Act} {W:World} {u v:Value} (h8:a.tmps[8]?.getD undef=u) (h9:a.tmps[9]?.getD undef=v) (hd:a.defers=[]) (hR:R (.returned (.tuple #[u,v])) W):bodyPost prog Tryz.f173 R .ret a W:=by refine bodyPost_ret (v:=.tuple #[u,v]) ?_ hd hR;simp[results,results173,go_sem,h8,h9]
set_option maxRecDepth 100000 in
theorem turn_any (A:Option Addr) (n c:Nat) (t:List UInt8) (a:Int) (by_ end_:Nat) (w:World) (h:Bys w w.heap.size (.slice A n c) t):Calls prog 173 #[.slice A n c,.int .i64 a,.int .u8 (by_:Int),.int .u8 (end_:Int)] w (Za (qeI t a by_ end_ w.heap.size) w):=by
 have HC:=zH (Tj (.slice A n c) t w h);have aQ:=zH h;go_enter func173,ntmps173;go_wp2_with fail;refine HC.out.mono ?_;clear HC;rintro e w2 ⟨rfl,hB⟩;have x2:Ext w w2:=hB;clear hB h;rcases hS:Qn t with _|_
 ·have hq:=zH (qkE hS a end_);replace hS:=zH hS;rw[Jp rfl];go_wp2_with fail;exact Xl rfl rfl rfl ⟨_,rfl,.inl ⟨by rw[hq.out];decide,by rw[hq.out];rfl⟩,x2⟩
 ·rw[JM rfl];by_cases hr:8<=a/\a<256
  ·obtain⟨m,hma⟩:=Int.eq_ofNat_of_zero_le (show 0<=a by omega);subst hma;have wJ:8<=m:=zO;have dw:m<256:=zO;have hq:=qgt hS wJ dw end_;have hl:t.length=256:=by unfold Qn at hS;simp at hS;exact hS.1
   obtain⟨A',c',e,hc,hmx,oh⟩:=aQ.out;obtain⟨b,o,rfl,hb,aC⟩:=oh.2 zO;simp only[Value.slice.injEq] at e;obtain⟨rfl,e2,rfl⟩:=e;obtain rfl:n=256:=zO;clear e2;have lD:w.cell? ⟨b,o+m,none⟩=some (.int .u8 (qZ t m:Int)):=aC m _ (by rw[List.getElem?_map,zL zO];unfold qZ;rw[zL zO];rfl);have hcn2:=Ext.cell x2 lD;have d1:decide ((m:Int)<8)=false:=decide_eq_false zO;have d2:decide ((m:Int)≥256)=false:=decide_eq_false zO;have HCL:=zH (Ty (.slice (some ⟨b,o,none⟩) 256 c) t zO w2 ((aQ.out.below x2).more x2.size));have hT:Hid (jo t m by_=t.set m (UInt8.ofNat (qZ t m+by_))):=rfl;clear hr aC oh lD hc hmx;generalize gZ:qZ t m=nv at *;replace gZ:=zH gZ;replace hl:=zH hl;by_cases h0:nv=end_
   ·have aU:((nv:Int) == (end_:Int))=true:=by rw[beq_iff_eq];omega
    have aW:decide (nv=end_)=true:=decide_eq_true h0;rw[if_pos h0] at hq;replace hq:=zH hq;replace h0:=zH h0;replace hS:=zH hS;go_wp2_with fail;exact Xl rfl rfl rfl ⟨_,rfl,.inl ⟨by rw[hq.out];decide,by rw[hq.out];rfl⟩,x2⟩
   ·have aU:((nv:Int) == (end_:Int))=false:=by rw[beq_eq_false_iff_ne];omega
    have aW:decide (nv=end_)=false:=decide_eq_false h0;rw[if_neg h0] at hq;replace hq:=zH hq;replace h0:=zH h0;replace hS:=zH hS;go_wp2_with fail;refine HCL.out.mono ?_;clear HCL;rintro e w3 ⟨u,rfl,hu,hB⟩;rw[hl.out] at hu;obtain⟨Au,cu,rfl,hcu,-⟩:=qz hu;have x3:Ext w w3:=x2.trans hB;have hAu:∃ g,Au=some ⟨g,0,none⟩:=by
     rcases hu.2 with ⟨e,h0⟩|⟨g,cap,cur,e,_⟩
     ·cases e
     ·cases e;exact⟨g,rfl⟩
    obtain⟨g,rfl⟩:=hAu;obtain⟨hk,hf,yj,hgz⟩:=Zu hu;have hkm:=hk m dw;rw[show (t[m]?.getD 0).toNat=nv from gZ.out] at hkm;have hfm:=hf m;have eH:=zH (qaB hu dw (UInt8.ofNat (nv+by_)));have hwv:IntKind.u8.wrap ((nv:Int)+(by_:Int))=(((UInt8.ofNat (nv+by_)).toNat:Nat):Int):=by rw[<-qer];rfl
    clear hk hf hu hB hcn2;go_wp2_with fail;exact Xl rfl rfl rfl ⟨_,rfl,.inr ⟨hq.out,_,_,rfl,QG (by rw[Int.toNat_natCast,hT.out];exact eH.out) x2.size⟩,Below.setCell x3 (p:=⟨g,m,none⟩) (by have:=x2.size;simp;omega) _⟩
  ·have hq:=zH (qkF hS hr end_);replace hS:=zH hS;by_cases h8:a<8
   ·have d1:decide (a<8)=true:=decide_eq_true h8;replace hr:=zH hr;go_wp2_with fail;exact Xl rfl rfl rfl ⟨_,rfl,.inl ⟨by rw[hq.out];decide,by rw[hq.out];rfl⟩,x2⟩
   ·have d1:decide (a<8)=false:=decide_eq_false h8;have d2:decide (a≥256)=true:=decide_eq_true zO;replace hr:=zH hr;go_wp2_with fail;exact Xl rfl rfl rfl ⟨_,rfl,.inl ⟨by rw[hq.out];decide,by rw[hq.out];rfl⟩,x2⟩
theorem qcb {bs:List (List UInt8)} {ws:List (Int×List UInt8)} (h:jD bs ws=true):bs.length<1000000/\ws.length<1000000/\(∀ l∈bs,l.length<1000000)/\∀ p∈ws,p.2.length<1000000:=by
 unfold jD headD at h;simp only[Bool.and_eq_true,decide_eq_true_eq,List.all_eq_true] at h;obtain⟨⟨h1,h2⟩,h3,h4⟩:=h;refine⟨zO,zO,fun l hl=>?_,fun p hp=>?_⟩
 ·have:=h3 l hl;unfold Gw at this;have:=of_decide_eq_true this;omega
 ·have:=h4 p hp;unfold wrOk at this;have:=of_decide_eq_true this;omega
theorem Rd.some_ {w w':World} {B size n:Nat} {A:Option Addr} {xs:List Value} (h:Rd w B size A n xs) (hk:∀ p v,w.cell? p=some v->w'.cell? p=some v):Rd w' B size A n xs:=
 ⟨h.1,fun hn=>by obtain⟨b,off,e,hb,hc⟩:=h.2 hn;exact⟨b,off,e,hb,fun j u hu=>hk _ _ (hc j u hu)⟩⟩
theorem Bys.some_ {w w':World} {B:Nat} {v:Value} {l:List UInt8} (h:Bys w B v l) (hk:∀ p v,w.cell? p=some v->w'.cell? p=some v):Bys w' B v l:=by obtain⟨A,c,e,hc,hm,hr⟩:=h;exact⟨A,c,e,hc,hm,hr.some_ hk⟩
theorem qU.some_ {w w':World} {B:Nat} {v1 v2 v3 v4:Value} {S:Sto} (h:qU w B v1 v2 v3 v4 S) (hk:∀ p v,w.cell? p=some v->w'.cell? p=some v):qU w' B v1 v2 v3 v4 S:=by obtain⟨⟨vs,A,c,e,h1,h2,h3,h4⟩,⟨ps,e',⟨A',c',e1,e2,e3,hr⟩,hp⟩,h5,h6⟩:=h;exact⟨⟨vs,A,c,e,h1,h2,h3.some_ hk,fun i u l hu hl=>(h4 i u l hu hl).some_ hk⟩,⟨ps,e',⟨A',c',e1,e2,e3,hr.some_ hk⟩,fun p h=>⟨(hp p h).1,(hp p h).2.some_ hk⟩⟩,h5.some_ hk,h6.some_ hk⟩
def mixW (lo N:Nat) (W C:World):World:={ C with heap:=Array.ofFn (n:=max N C.heap.size) fun k=>if lo<=k.1/\k.1<N then W.heap[k.1]?.getD (.deferred none) else C.heap[k.1]?.getD (.deferred none) }
theorem qfL (lo N:Nat) (W C:World) (q:Addr):(mixW lo N W C).cell? q=if lo<=q.block/\q.block<N then W.cell? q else C.cell? q:=by
 unfold World.cell?;have e:(mixW lo N W C).heap[q.block]?=if q.block<max N C.heap.size then some (if lo<=q.block/\q.block<N then W.heap[q.block]?.getD (.deferred none) else C.heap[q.block]?.getD (.deferred none)) else none:=by simp only[mixW,Array.getElem?_ofFn];split <;> rfl
 rw[e];by_cases h:lo<=q.block/\q.block<N
 ·rw[if_pos zO,if_pos h];simp only[if_pos h];cases W.heap[q.block]? <;> rfl
 ·simp only[if_neg h];split
  ·rename_i h1;split at h1
   ·cases hq:C.heap[q.block]? with
    |none=>rw[hq] at h1;cases h1
    |some o=>rw[hq] at h1;simp only[Option.getD_some,Option.some.injEq] at h1;subst h1;rfl
   ·cases h1
  ·rename_i h1;split at h1
   ·cases hq:C.heap[q.block]? with
    |none=>rfl
    |some o =>
     cases o with
     |cells c e f=>exact absurd (by rw[hq];rfl) (h1 c e f)
     |_=>rfl
   ·rename_i h2;rw[Array.getElem?_eq_none zO]
theorem qkl {Φ:World->Prop} (hm:∀ A C:World,(∀ q v,A.cell? q=some v->C.cell? q=some v)->Φ A->Φ C) {lo N:Nat} {W:World} (h:∀ W2:World,(∀ q:Addr,lo<=q.block->q.block<N->W2.cell? q=W.cell? q)->Φ W2) : ∀ C:World,(∀ q v,lo<=q.block->q.block<N->W.cell? q=some v->C.cell? q=some v)->Φ C:=fun C h3 =>
 hm (mixW lo N W C) C (fun q v hq=>by
  rw[qfL] at hq;split at hq
  ·rename_i h1;exact h3 q v h1.1 h1.2 hq
  ·exact hq) (h _ fun q h1 h2=>by rw[qfL,if_pos ⟨h1,h2⟩])
structure Ql (W W':World):Prop where
 size:W.heap.size<=W'.heap.size
 same:∀ (k:Nat) (o:Obj),W.heap[k]?=some o->o.isCells=true->W'.heap[k]?=some o
theorem Ql.refl (W:World):Ql W W:=⟨zM _,fun _ _ h _=>h⟩
theorem Ql.row {W W':World} (h:Ql W W') {b:Nat} {cs:Array Value} {ty:TypeId} {fz:Nat×Nat} (hr:W.heap[b]?=some (.cells cs ty fz)):W'.heap[b]?=some (.cells cs ty fz):=h.same b _ hr rfl
theorem Ql.cell {W W':World} (h:Ql W W') {q:Addr} {v:Value} (hq:W.cell? q=some v):W'.cell? q=some v:=by
 unfold World.cell? at *;cases hb:W.heap[q.block]? with
 |none=>rw[hb] at hq;cases hq
 |some o =>
  cases o with
  |cells c e f =>
   rw[hb] at hq;rw[h.row hb];exact hq
  |_=>rw[hb] at hq;cases hq
theorem Ql.grown {Wb W W':World} {row:Option Nat} (h:Ql Wb W) (hg:W.grownBy W' row) (hr:∀ r,row=some r->∃ o:Obj,W.heap[r]?=some o/\o.isCells=false):Ql Wb W':=⟨Nat.le_trans h.size hg.size,fun k o hk ho=>by have h1:=h.same k o hk ho;refine(hg.block k (zG.1 h1).1 fun e=>?_).trans h1;obtain⟨o',h2,h3⟩:=hr k e.symm;rw[h1] at h2;cases h2;rw[ho] at h3;cases h3⟩
def PosZ (lo:Nat) (W W':World):Prop:=∀ (q:Addr) (v:Value),lo<=q.block->q.block<W.heap.size->(thaw W).cell? q=some v->W'.cell? q=some v
theorem Ext.thaw {w w':World} (h:Ext w w'):Ext (thaw w) (Go.Proofs.YtpbniokljofedaaGreat.thaw w'):=⟨h.os,h.tape,h.output,by rw[KD,KD];exact h.size,fun k hk=>by rw[KD] at hk;rw[Vx,Vx,h.block k hk]⟩
theorem Bys.of_ownT {w:World} {base n:Nat} {e:TypeId} {v:Value} {l:List UInt8} (h:w.ownsRow base e 1 v n (l.map bv)):Bys (thaw w) w.heap.size v l:=(NewB.of_own h).thaw
def NewSto (lo:Nat) (S:Sto) (u:Value) (W:World):Prop:=∃ A1 c1 A2 c2 A3 c3 A4 c4,u=Qd A1 S.bs.length c1 A2 S.ws.length c2 A3 S.now.length c3 A4 S.last.length c4 /\
 ∀ C:World,PosZ lo W C->qU C W.heap.size (.slice A1 S.bs.length c1) (.slice A2 S.ws.length c2) (.slice A3 S.now.length c3) (.slice A4 S.last.length c4) S
theorem JH {lo:Nat} {W W':World} (h:∀ k,lo<=k->k<W.heap.size->W'.heap[k]?=W.heap[k]?):PosZ lo W W':=fun q v h1 h2 h3=>(World.cell?_of_block (h q.block h1 h2)).trans (Gq h3).1
theorem Zf {w0 w:World} {B b:Nat} (h:Below B w0 w) (hb:B<=b) (x0 x1 x2 x3:Value):Below B w0 ((((w.setCell ⟨b,0,none⟩ x0).setCell ⟨b,1,none⟩ x1).setCell ⟨b,2,none⟩ x2).setCell ⟨b,3,none⟩ x3):=
 Below.setCell (Below.setCell (Below.setCell (Below.setCell h (p:=⟨b,0,none⟩) hb _) (p:=⟨b,1,none⟩) hb _) (p:=⟨b,2,none⟩) hb _) (p:=⟨b,3,none⟩) hb _
theorem Vm {w:World} {b:Nat} {ty:TypeId} {y0 y1 y2 y3:Value} (h:w.heap[b]?=some (.cells #[y0,y1,y2,y3] ty (0,0))) (x0 x1 x2 x3:Value) : ((((w.setCell ⟨b,0,none⟩ x0).setCell ⟨b,1,none⟩ x1).setCell ⟨b,2,none⟩ x2).setCell ⟨b,3,none⟩ x3).heap[b]?=some (.cells #[x0,x1,x2,x3] ty (0,0)):=qi (qi (qi (qi h 0 x0) 1 x1) 2 x2) 3 x3
theorem jG {w:World} {b:Nat} {ty:TypeId} {y0 y1 y2 y3 y4 y5 y6 y7:Value} (h:w.heap[b]?=some (.cells #[y0,y1,y2,y3,y4,y5,y6,y7] ty (0,0))) (x0 x1 x2 x3 x4 x5 x6 x7:Value) : ((((((((w.setCell ⟨b,0,none⟩ x0).setCell ⟨b,1,none⟩ x1).setCell ⟨b,2,none⟩ x2).setCell ⟨b,3,none⟩ x3).setCell ⟨b,4,none⟩ x4).setCell ⟨b,5,none⟩ x5).setCell ⟨b,6,none⟩ x6).setCell ⟨b,7,none⟩ x7).heap[b]?=some (.cells #[x0,x1,x2,x3,x4,x5,x6,x7] ty (0,0)):=by
 have h1:=qi (qi (qi (qi h 0 x0) 1 x1) 2 x2) 3 x3;exact qi (qi (qi (qi (cs:=#[x0,x1,x2,x3,y4,y5,y6,y7]) h1 4 x4) 5 x5) 6 x6) 7 x7
theorem zl {w0 w:World} {B b:Nat} (h:Below B w0 w) (hb:B<=b) (x0 x1 x2 x3 x4 x5 x6 x7:Value):Below B w0 ((((((((w.setCell ⟨b,0,none⟩ x0).setCell ⟨b,1,none⟩ x1).setCell ⟨b,2,none⟩ x2).setCell ⟨b,3,none⟩ x3).setCell ⟨b,4,none⟩ x4).setCell ⟨b,5,none⟩ x5).setCell ⟨b,6,none⟩ x6).setCell ⟨b,7,none⟩ x7):=
 Below.setCell (Below.setCell (Below.setCell (Below.setCell (Zf h hb x0 x1 x2 x3) (p:=⟨b,4,none⟩) hb _) (p:=⟨b,5,none⟩) hb _) (p:=⟨b,6,none⟩) hb _) (p:=⟨b,7,none⟩) hb _
theorem jz {w:World} {b k:Nat} (hk:k≠b) (x0 x1 x2 x3 x4 x5 x6 x7:Value):((((((((w.setCell ⟨b,0,none⟩ x0).setCell ⟨b,1,none⟩ x1).setCell ⟨b,2,none⟩ x2).setCell ⟨b,3,none⟩ x3).setCell ⟨b,4,none⟩ x4).setCell ⟨b,5,none⟩ x5).setCell ⟨b,6,none⟩ x6).setCell ⟨b,7,none⟩ x7).heap[k]?=w.heap[k]?:=by have hs:=fun (A:World) (j:Nat) (v:Value)=>zJ A ⟨b,j,none⟩ v k hk;rw[hs,hs,hs,hs,hs,hs,hs,hs]
end Go.Proofs.YtpbniokljofedaaGreat
