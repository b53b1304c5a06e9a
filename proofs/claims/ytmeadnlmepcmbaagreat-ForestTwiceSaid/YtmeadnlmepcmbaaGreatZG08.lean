/- Lemmas of the proof. -/
import Derived.ChangeKeysEq
import Derived.WalkMore
import Derived.Laws.CopyRow
import Derived.Laws.IdiomCopy
import Derived.Test.YtmeadnlmepcmbaaGreatZG07
set_option linter.all false
set_option maxHeartbeats 8000000
open Go.Proofs.Tryz
namespace Go.Proofs.YtmeadnlmepcmbaaGreat
open Go.RowKit
def outOn(lo B:Nat)(A1:OA)(n1 c1:Nat)(A2:OA)(n2:Nat)(n3:Nat)(A4:OA)(n4 c4:Nat)(S:Sto):qZ:=⟨Nat,λb=>.pointer (some ⟨b,0,none⟩),λb W=>∃A3' c3',OnB lo b (.slice A1 n1 c1) (.slice A2 n2 n2) (.slice A3' n3 c3') (.slice A4 n4 c4) S W/\Zw lo (.slice A3' n3 c3')⟩
theorem qbj(lo B:Nat)(A1:OA)(n1 c1:Nat)(A2:OA)(n2:Nat)(n3:Nat)(A4:OA)(n4 c4:Nat)(S:Sto)(b:Nat):(outOn lo B A1 n1 c1 A2 n2 n3 A4 n4 c4 S).f b=.pointer (some ⟨b,0,none⟩):=rfl
theorem qfg(lo B:Nat)(A1:OA)(n1 c1:Nat)(A2:OA)(n2:Nat)(n3:Nat)(A4:OA)(n4 c4:Nat)(S:Sto):∀p,QV ((outOn lo B A1 n1 c1 A2 n2 n3 A4 n4 c4 S).φ p):=λp W W' he ⟨A,c,⟨h1,h2,h3⟩,h4⟩=>⟨A,c,⟨h1,qb h2 he,h3.ext he⟩,h4⟩
def qff(lo:Nat):qZ:=⟨Nat,λb=>.map (some b),λb W=>lo<=b/\b<W.heap.size/\Zn W b λ_=>none⟩
theorem Ga(lo b:Nat):(qff lo).f b=.map (some b):=rfl
theorem qdi(lo:Nat):∀p,QV ((qff lo).φ p):=λp W W' he ⟨h1,h2,h3⟩=>⟨h1,Nat.lt_of_lt_of_le h2 he.size,h3.of_heap (he.block p h2)⟩
theorem run_mm(t:TypeId)(W:World):(Instr.makeMap t none).run prog W=.ok (.map (some W.heap.size)) (W.alloc (.map #[] 0)):=rfl
theorem run_bx(cs:Array Value)(t:TypeId)(W:World):(Instr.box t (.agg cs)).run prog W=.ok (.pointer (some ⟨W.heap.size,0,none⟩)) (W.alloc (.cells cs t)):=rfl
theorem qdn{cs:Array Value}{k:Nat}{v:Value}(hk:k<256)(hv:cs[k]?=some v)(W:World):(Instr.index 94 (.agg cs) (.int .i64 (k:Int))).run prog W=.ok v W:=by obtain⟨i0,hi,hz0,hz1,hz2⟩:=info_parts Tryz.info_int;have hp:=run_part_plain (P:=prog) (w:=W) (e:=3) zQ hv;have h0:(0:Int)<=(k:Int)/\(k:Int)<256:=zO;simp[Instr.index,asIntOf,run_underlying underlying94,h0,sizeOf,typeInfo,hi,hz1,hp,Sem.run_bind];intro hge;omega
theorem Kl{R:Ending->World->Prop}{a:Act}{W:World}{u v:Value}(h2:a.tmps[2]?.getD undef=u)(h3:a.tmps[3]?.getD undef=v)(hd:a.defers=[])(hR:R (.returned (.tuple #[u,v])) W):bodyPost prog Tryz.f59 R .ret a W:=by refine bodyPost_ret (v:=.tuple #[u,v]) ?_ hd hR;simp[results,results59,go_sem,h2,h3]
set_option maxRecDepth 100000 in
theorem Gr(A1 n1 c1 A2 n2 c2 A3 n3 c3 A4 n4 c4)(gen root next:Int)(A5 c5)(S:Sto)(dead:List Int)(w:World)(h:Qq w w.heap.size (.slice A1 n1 c1) (.slice A2 n2 c2) (.slice A3 n3 c3) (.slice A4 n4 c4) S)(hd:jH w w.heap.size (.slice A5 dead.length c5) dead):Calls prog 59 #[.agg (Qk (.slice A1 n1 c1) (.slice A2 n2 c2) (.slice A3 n3 c3) (.slice A4 n4 c4) gen root next (.slice A5 dead.length c5))] w (Ty S root next dead w):=by
 have HCK:=zH (λW (hx:Ext w W)=>Kh A1 n1 c1 A2 n2 c2 A3 n3 c3 A4 n4 c4 S W (h.ext hx));have HNL:qm S=true->S.now.length<1073741824:=λhm=>by have:=(Qb hm).2.2.1;omega
 have HON:=zH (λ(hm:qm S=true) W (hx:Ext w W)=>qfa A1 n1 c1 A2 n2 c2 A3 n3 c3 A4 n4 c4 S (HNL hm) W (h.ext hx));replace⟨h,hd⟩:=zH2 h hd;clear HNL;go_enter func59,ntmps59;go_wp2_with fail;generalize hw1:World.alloc w _=w1;have x1:Ext w w1:=by rw[<-hw1];exact zN _ _
 have p1:w1.heap[w.heap.size]?=some (.cells (Qk (.slice A1 n1 c1) (.slice A2 n2 c2) (.slice A3 n3 c3) (.slice A4 n4 c4) gen root next (.slice A5 dead.length c5)) 32 (0,0)):=by rw[<-hw1];exact zI _ _ _ rfl
 clear hw1;refine(HCK.out w1 x1).mono ?_;rintro e w2 ⟨rfl,hB⟩;have x2:=x1.trans hB;have p2:=qb p1 hB;have k2:=qa p2;clear hB p1 x1 HCK;rcases hmay:qm S with _|_
 ·unfold vO;have HB:=zH (Ty.bad (S:=S) (next:=next) (root:=root) (dead:=dead) x2 (λvs hp=>by have:=hp.may;rw[hmay]at this;cases this));replace hmay:=zH hmay;go_wp2_with fail;exact Kl rfl rfl rfl HB.out
 ·unfold vO;rcases Nat.lt_or_ge 40 dead.length with h40|h40
  ·have hq:decide ((dead.length:Int)>40)=true:=decide_eq_true zO;have HB:=zH (Ty.bad (S:=S) (next:=next) (root:=root) (dead:=dead) x2 (λvs hp=>by have:=hp.few;omega));replace hmay:=zH hmay;go_wp2_with fail;exact Kl rfl rfl rfl HB.out
  ·have hq:decide ((dead.length:Int)>40)=false:=decide_eq_false zO;have hRX:=zH hmay;clear hmay;go_wp2_with fail;have gP:∀W,qj.r w2 W->∀i,W.cell? ⟨w.heap.size,i,none⟩=(Qk (.slice A1 n1 c1) (.slice A2 n2 c2) (.slice A3 n3 c3) (.slice A4 n4 c4) gen root next (.slice A5 dead.length c5))[i]?:=λW h=>qa (qb p2 h);have hz2:w.heap.size<w2.heap.size:=(zG.1 p2).1;refine qt zQ ?_;refine qX (w:=w2) qj (qQ [(4,outOn w2.heap.size w2.heap.size A1 n1 c1 A2 n2 n3 A4 n4 c4 S),(5,qff w2.heap.size)])
    [true,true,true,true,true,true,true] 2 zQ zQ zQ zQ zQ zQ zQ ?st (Rel.drew _ _) ?walk
   case st=>exact qi (by simp only[List.forall_mem_cons];exact⟨λp=>Qo (qfg _ _ _ _ _ _ _ _ _ _ _ _ p),λp=>Qo (qdi _ p),λ_ h=>by cases h⟩)
   case walk=>
    intro K hK;dsimp only[qw];repeat ((first|(refine qd ?_ zA0 zA0 (λW hW _=>⟨W,?_,Rel.refl _ W⟩) ?_;rotate_left;(go_simp<;>with_reducible rfl))|(refine qh zA0 ?_));try simp only[Act.put,ql,qe,qc,qf,qbj,Ga,zA,zB,zC])
    refine qH (outOn w2.heap.size w2.heap.size A1 n1 c1 A2 n2 n3 A4 n4 c4 S) zA0 zA0 (λW hW _=>?_) (λ(bb:Nat)=>?_)
    ·have hWx:Ext w2 W:=hW;refine Qi ?_ ((HON.out hRX.out W (x2.trans hWx)).mono λe w' h=>?_)
     ·go_simp
     ·obtain⟨u,rfl,⟨b,A3',c3',rfl,h1,h2⟩,h3⟩:=h;exact⟨b,rfl,⟨A3',c3',⟨Nat.le_trans hWx.size h1.1,h1.2⟩,h2.mono hWx.size⟩,h3⟩
    simp only[Act.put,qe,qc,qf,qbj,Ga,zA,zB,zC];refine qH (qff w2.heap.size) zA0 zA0 (λW hW _=>?_) (λ(mb:Nat)=>?_)
    ·have hWx:Ext w2 W:=hW;have hmm:=run_mm 93 W;refine jP (u:=.map (some W.heap.size)) (w':=W.alloc (.map #[] 0)) ?_ ⟨W.heap.size,rfl,⟨hWx.size,zA3,Zn.empty W⟩,zN _ _⟩;go_simp
    simp only[Act.put,qe,qc,qf,qbj,Ga,zA,zB,zC];refine qd (.agg (ca0 (.slice A1 n1 c1) (.slice A2 n2 c2) (.slice A3 n3 c3) (.slice A4 n4 c4) bb mb)) zA0 zA0 (λW hW _=>⟨W,?_,Rel.refl _ W⟩) ?_
    ·go_simp;exact ca_eq _ _ _ _ _ _
    simp only[Act.put,qe,qc,qf,qbj,Ga,zA,zB,zC];refine qD (hK _ _ λW hW hF=>?_);have hWx:Ext w2 W:=hW;have HO:=(hF 4).1;have HM:=(hF 5).1;clear hF hK gP;change ∃A3' c3',_ at HO;change w2.heap.size<=mb/\mb<W.heap.size/\Zn W mb _ at HM;obtain⟨A3',c3',hon,hfr⟩:=HO;obtain⟨hm1,hm2,wHJ⟩:=HM;obtain⟨hb1,hBT,hst⟩:=hon;have xW:=x2.trans hWx;have pW:=qb p2 hWx;refine zB6 ?_;have hca:=ca0_ar (.slice A1 n1 c1) (.slice A2 n2 c2) (.slice A3 n3 c3) (.slice A4 n4 c4) bb mb;have wAT:∀i,i<6->(ca0 (.slice A1 n1 c1) (.slice A2 n2 c2) (.slice A3 n3 c3) (.slice A4 n4 c4) bb mb)[i]?=(#[.slice A1 n1 c1,.slice A2 n2 c2,.slice A3 n3 c3,.slice A4 n4 c4,.pointer (some ⟨bb,0,none⟩),.map (some mb)]:Array Value)[i]?:=λi hi=>ca0_low _ _ _ _ _ _ hi;generalize(ca0 (.slice A1 n1 c1) (.slice A2 n2 c2) (.slice A3 n3 c3) (.slice A4 n4 c4) bb mb)=ca at*;have hbx:=run_bx ca;replace⟨hca,wAT⟩:=zH2 hca wAT;clear hW hWx x2 p2;go_wp2_with fail;refine Qn ?_;have hcc:W.heap.size=W.heap.size:=rfl;obtain⟨cb,hcb⟩:∃cb,cb=W.heap.size:=⟨_,rfl⟩
    generalize hw3:World.alloc W _=w3;have x3:Ext W w3:=by rw[<-hw3];exact zN _ _
    have r3:w3.heap[cb]?=some (.cells ca 96 (0,0)):=by rw[<-hw3];exact zI _ _ _ hcb
    have z3:w3.heap.size=cb+1:=by rw[<-hw3,hcb];simp
    clear hw3 hcc;have hbb:bb<W.heap.size:=(zG.1 hBT).1;have xw3:=xW.trans x3;have C3:Cen ⟨S,w.heap.size,w3.heap.size,cb,bb,mb,ca,.slice A1 n1 c1,.slice A2 n2 c2,.slice A3 n3 c3,.slice A4 n4 c4,.slice A1 n1 c1,.slice A2 n2 n2,.slice A3' n3 c3',.slice A4 n4 c4⟩ w3 (λ_=>none):={
     row:=r3
     c0:=wAT.out 0 zO
     c1:=wAT.out 1 zO
     c2:=wAT.out 2 zO
     c3:=wAT.out 3 zO
     c4:=wAT.out 4 zO
     c5:=wAT.out 5 zO
     map:=wHJ.of_heap (x3.block _ hm2)
     known:=λa v hv=>by cases hv
     sto:=h.out.below xw3
     on:=qb hBT x3
     onb:=(h.out.below xw3).bs
     onw:=(h.out.below xw3).ws.clip
     onl:=(h.out.below xw3).last
     onn:=(hst.now.below x3).more x3.size
     onf:=λA n c e=>by have hn:=(Bys.at_ hst.now).2.2.2;have hl:=(Qb hRX.out).2.2.1;have hn3:=(Bys.at_ hst.now).1;obtain⟨b,off,hA,hb⟩:=hn zO;have e':Value.slice A3' n3 c3'=.slice (some A) n c:=e;rw[hA]at e';simp only[Value.slice.injEq,Option.some.injEq]at e';rw[<-e'.1];show b≠cb;omega
     low:=by
      show cb<w3.heap.size/\bb<w3.heap.size/\mb<w3.heap.size/\cb≠mb/\bb≠mb/\w3.heap.size<=w3.heap.size/\w.heap.size<=cb/\w.heap.size<=bb/\w.heap.size<=mb/\cb≠bb;have hne:bb≠mb:=by rintro rfl;obtain⟨es,clock,h1,_⟩:=wHJ;rw[hBT]at h1;cases h1
      omega
     may:=hRX.out}
    rw[<-hcb];have pw3:=qb pW x3;have hcw:w.heap.size<=cb:=zO;have hw3:w.heap.size<cb:=by have:=(zG.1 pW).1;omega
    generalize hpp:(⟨S,w.heap.size,w3.heap.size,cb,bb,mb,ca,.slice A1 n1 c1,.slice A2 n2 c2,.slice A3 n3 c3,.slice A4 n4 c4,.slice A1 n1 c1,.slice A2 n2 n2,.slice A3' n3 c3',.slice A4 n4 c4⟩:CP)=p at C3;have pS:p.S=S:=by rw[<-hpp]
    have pcb:p.cb=cb:=by rw[<-hpp]
    have pmb:p.mb=mb:=by rw[<-hpp]
    have plo:p.lo=w3.heap.size:=by rw[<-hpp]
    have pca:p.ca=ca:=by rw[<-hpp]
    have hmb:w.heap.size<mb:=by have:=(zG.1 pW).1;omega
    clear hpp hbx wHJ hst hBT hfr pW x3 r3 z3 hb1 hm1 hm2 hbb hcb;have kp:=qa pw3;go_wp2_with fail;have HLR:=qbS p root w3 _ C3;rw[pcb]at HLR;refine HLR.mono ?_;rintro e w4 ⟨v,g,rfl,⟨lvl,A,n,c,fk,lk,rfl,hHD⟩,hgr,hm,hg,hn⟩;have C4:=C3.after hgr hm hg hn;rw[pS]at hHD⊢;have hz3:cb<w3.heap.size:=by rw[<-pcb];exact(zG.1 C3.row).1
    have x4:Below w.heap.size w w4:=xw3.grown hg zO (λq hq=>by cases hq;rw[pmb];omega);have pw4:=(hg.block w.heap.size zO zA2).trans pw3;have z4:=hg.size;have hcb4:cb<w4.heap.size:=by rw[<-pcb];exact(zG.1 C4.row).1
    rcases hok:okL S (-1) root with _|_
    ·have HB:=zH (λW (hx:Ext w4 W)=>Ty.bad (S:=S) (next:=next) (root:=root) (dead:=dead) (x4.trans (Below.mono hx zO)) (λvs hp=>by have:=hp.top;rw[hok]at this;cases this));replace⟨C4,C3,hok⟩:=zH3 C4 C3 hok;clear hHD hgr hm hg hn HLR kp pw3 pw4;go_wp2_with fail;exact Kl rfl rfl rfl (HB.out _ (zN _ _))
    ·obtain⟨a,ha,hVD⟩:=Zs hok;have hga:=hHD hok;rw[hok]at hga;obtain⟨n9,lv,xs,A',c',fk',lk',b',e9,-,-,hnode,hv,hBC,hsp,hcl⟩:=C4.known _ _ hga;rw[pS]at hnode hsp;simp only[Value.agg.injEq,Array.mk.injEq,List.cons.injEq,Value.int.injEq,Value.bool.injEq,Value.slice.injEq,true_and,and_true]at hv;obtain⟨rfl,⟨rfl,rfl,rfl⟩,-,-,-,-,-,-,rfl⟩:=hv;have wKA:=(qF hnode).1;have hxs:=λy hy=>((qF hnode).2.1 y hy).1;have hlen:xs.length<=5:=by unfold Qj ZZ at wKA;simp at wKA;omega
     have hvo:vI S root next=Zg next [] (qu S lv xs):=by
      unfold vI;rw[e9,Int.toNat_natCast,hnode];show Zg next [] (qu S (lv:Int).toNat xs)=_
      rw[Int.toNat_natCast]
     have wHW:(qz S lv xs).isSome=true:=hsp.1.symm;have wGO:0<lv->∀y∈xs,(g y.r).isSome=true:=hcl rfl;replace⟨C4,C3,hok,hBC,wHW,wGO⟩:=zH6 C4 C3 hok hBC wHW wGO;replace⟨hxs,hvo,hnode,hVD,hga,ha⟩:=zH6 hxs hvo hnode hVD hga ha;replace e9:=zH e9;have kp4:=qa pw4;have hzw4:w.heap.size<w4.heap.size:=zO;clear hHD hgr hm hg hn HLR kp pw3 hsp hcl wKA;go_wp2_with fail;generalize hw5:World.alloc w4 _=w5;have x45:Ext w4 w5:=by rw[<-hw5];exact zN _ _
     clear hw5;have x5:=x4.trans (Below.mono x45 zO);have pw5:=qb pw4 x45;have C5:=C4.out.ext x45;have hLD:=hBC.out.keep x45.size (λq _ hq=>Below.cell x45 hq);have I5:VolI p w5 w5 [] (.slice none 0 0) ca (λ_=>0) (λ_=>0):=by
      refine⟨⟨Off.refl (zM _),?_,hca.out,λi _=>by rw[pca],(zG.1 C5.row).1⟩,World.ownsRow_nil _ _ _ _⟩;have:=C5.row
      rwa [pca]at this
     have HV:=qhD p w5 g (λ_=>0) (λ_=>0) (.slice A1 n1 c1) (.slice A2 n2 c2) (.slice A3 n3 c3) (.slice A4 n4 c4) gen root next (.slice A5 dead.length c5) C5 lv xs A c [] (.slice none 0 0) ca w5 I5 zA3 hxs.out hlen hLD (by rw[pS];exact wHW.out) wGO.out
     rw[pcb,pS]at HV;refine HV.mono ?_;rintro e w6 ⟨F6,hm6⟩;clear HV I5;have x6:Below w.heap.size w w6:=⟨F6.os.trans x5.os,F6.tape.trans x5.tape,F6.output.trans x5.output,Nat.le_trans x5.size F6.size,λk hk=>(F6.block k (Nat.lt_of_lt_of_le hk x5.size) zO (by simp[Value.ownBlock])).trans (x5.block k hk)⟩
     have hz5:w.heap.size<w5.heap.size:=by have:=x45.size;omega
     have hzw6:w.heap.size<w6.heap.size:=by have:=F6.size;omega
     have wMT:cb<w5.heap.size:=by have:=x45.size;omega
     have hmb5:mb<w5.heap.size:=by have h1:=C3.out.low.2.2.1;rw[pmb,plo]at h1;have:=x45.size;omega
     have hcb6:cb<w6.heap.size:=by have:=x45.size;have:=F6.size;omega
     have hmb6:mb<w6.heap.size:=by have h1:=C3.out.low.2.2.1;rw[pmb,plo]at h1;have:=x45.size;have:=F6.size;omega
     rcases hgo:Zg next [] (qu S lv xs)with _|vs
     ·rw[hgo]at hm6;obtain rfl:e=.returned (.int .i64 8):=hm6;have HB:=zH (Ty.bad (S:=S) (next:=next) (root:=root) (dead:=dead) x6 (λvs hp=>by have:=hp.vols;rw[hvo.out,hgo]at this;cases this));clear kp4 pw4 pw5 F6 x45;replace C5:=zH C5;go_wp2_with fail;exact Kl rfl rfl rfl HB.out
     ·rw[hgo]at hm6;obtain⟨rfl,vv,ca6,V6,N6⟩:=hm6;clear N6;have pw6:=(F6.block w.heap.size hz5 zO (by simp[Value.ownBlock])).trans pw5;have kp6:=qa pw6;clear kp4 pw4 pw5 F6 x45;replace⟨C5,V6,hgo,hLD⟩:=zH4 C5 V6 hgo hLD;obtain⟨i0,hi,hz0,hz1,hz2⟩:=info_parts Tryz.info_int;go_wp2_with (at_builtin;refine qY ?_);have hda:Rd (w6.alloc (.cells #[.int .i64 root] 3)) w.heap.size 1 A5 dead.length (dead.map λ(a:Int)=>Value.int .i64 a):=by obtain⟨A',c',e,_,_,hr⟩:=hd.out;cases e;exact(hr.below x6).alloc zO _
      have o7:(w6.alloc (.cells #[.int .i64 root] 3)).ownsRow w6.heap.size 3 1 (.slice (some ⟨w6.heap.size,0,none⟩) 1 1) 1 [.int .i64 root]:=World.ownsRow_lit (base:=w6.heap.size) (e:=3) (size:=1) w6 #[.int .i64 root] 1 (zM _) zA7 rfl;refine Qm.go (Qw _ rfl (.tmp 48) (.tmp 50) 30 rfl w6.heap.size 3 i0 (.int .i64 0) 1 8 underlying30 hi hz0 hz1 hz2 rfl zA1 _ 1 [.int .i64 root] rfl o7 w.heap.size A5 dead.length c5 (dead.map λ(a:Int)=>Value.int .i64 a) rfl hda zA8 zO zA1 zA3 ?_);intro v7 w7 o8 g7 hB7 hv7;have x67:Ext w6 w7:=Below.trans (zN w6 _) hB7;have I1:R1 w6 root dead vs v7 (.int .i64 0) w7:=⟨0,Nat.zero_le _,rfl,by
       have e:GV (Vo root dead vs 0)=[.int .i64 root]++dead.map λ(a:Int)=>Value.int .i64 a:=by unfold Vo GV;simp
       rw[e];exact o8,x67⟩
      have V7:=V6.out.ext x67;obtain⟨AV,cV,rfl,wQX,wQY⟩:=qG V7.own;have kc7:w7.cell? ⟨cb,518,none⟩=some (.slice AV vs.length cV):=by rw[<-pcb,qa V7.t.row];exact V7.t.ar.vol
      have hvs16:vs.length<=16:=Kn next _ _ _ zA3 hgo.out
      replace⟨I1,V7,x67⟩:=zH3 I1 V7 x67;clear o7 o8 g7 hv7 hB7 hda hi hz0 hz1 hz2 wQX wQY kp6;go_wp2_with fail;clear kc7;go_loopw [5,57] (λv i wr=>R1 w6 root dead vs v i wr) (λ_ i _=>vs.length-(intOf i).toNat)
      case atStart=>exact I1.out
      case round=>
       obtain⟨k,hk,rfl,own,xr⟩:=hrel.ex;clear I1;by_cases hlt:k<vs.length
       ·have hCB:=hlt;obtain⟨bv,offv,eA,hbv,hCF⟩:=(Rd.of_own (V6.out.ext xr).own).2 zO;subst eA;obtain⟨d0,d1,d2,d3⟩:=vX vs k hCB;replace d0:=hCF _ _ d0;replace d1:=hCF _ _ d1;replace d2:=hCF _ _ d2;replace d3:=hCF _ _ d3;have HSU:=zH (qfu root dead vs hCB);generalize vs[k]=u at*;clear hCF;rw[<-Nat.add_assoc]at d1 d2 d3;obtain⟨AR,cR,rfl,wJG,wJI⟩:=qG own;obtain⟨i0,hi,hz0,hz1,hz2⟩:=info_parts Tryz.info_int;replace⟨own,xr⟩:=zH2 own xr;clear wJG wJI;go_upto_region 11 with fail;generalize hw9:World.alloc wr _=w9;have x9:Ext wr w9:=by rw[<-hw9];exact zN _ _
        have u9:w9.heap[wr.heap.size]?=some (.cells (vol4 u) 36 (0,0)):=by rw[<-hw9];exact zI _ _ _ rfl
        have ku9:=qa u9;clear hw9 d0 d1 d2 d3 u9;go_wp2_with (at_builtin;refine qY ?_);refine Qm.go (zZ _ rfl (.tmp 61) (.tmp 64) 30 rfl w6.heap.size 3 i0 (.int .i64 0) 1 8 underlying30 hi hz0 hz1 hz2 rfl zA1 _ _ _ rfl (zh own.out x9) #[.int .i64 u.root] rfl rfl zA8 zO zA1 (Nat.le_trans xr.out.size x9.size) ?_);intro v8 w8 own8 _ hB8 _;have IR:R1 w6 root dead vs v8 (.int .i64 ((k:Int)+1)) w8:=⟨k+1,hCB,rfl,by rw[HSU.out,qli];exact own8,Below.trans (Below.trans xr.out (Below.mono x9 xr.out.size)) hB8⟩
        replace IR:=zH IR;clear own8 hB8 hi hz0 hz1 hz2;go_wp2_with fail;refine⟨IR.out,?_⟩;simp[intOf];omega
       ·have hke:k=vs.length:=zO;subst hke;have VW:=V6.out.ext xr;have CW:=VW.t.cen C5.out;have hRl:(zl root dead vs).length=1+dead.length+vs.length:=by rw[<-qaO];exact qhk root dead vs (zM _)
        rw[qaO,<-hRl]at own;obtain⟨AR,cR,rfl,wJG,wJI⟩:=qG own;obtain⟨N,hN⟩:∃N,N=(zl root dead vs).length:=⟨_,rfl⟩
        rw[<-hN]at own hRl⊢;have I2:R2 p wr (.slice AV vs.length cV) (zl root dead vs) (.int .i64 0) wr:=⟨0,g,ca6,λ_=>0,λ_=>0,Nat.zero_le _,rfl,CW,VW.t.ar,Qz.zero _,(λa ha=>by cases ha),(λr hr=>by cases hr),qaZ.refl _ _ _⟩
        have xw:=x6.trans (Below.mono xr zO);have pwr:=qb pw6 xr;clear wJG wJI;replace⟨I2,CW,VW,own,hRl,hN⟩:=zH6 I2 CW VW own hRl hN;replace⟨xw,pwr⟩:=zH2 xw pwr;clear hrel;generalize wr=w8 at*;go_wp2_with fail;go_loopw [2,3,69] (λu v i wq=>u=.pointer (some ⟨cb,0,none⟩)/\v=.int .i64 0/\R2 p w8 (.slice AV vs.length cV) (zl root dead vs) i wq) (λ_ _ i _=>N-(intOf i).toNat)
        case atStart=>exact⟨rfl,rfl,I2.out⟩
        case round=>
         obtain⟨rfl,rfl,hrel⟩:=hrel;obtain⟨k,g2,ca2,refs2,nodes2,hk2,rfl,C2,N2,M2,Q2,hCV,K2⟩:=hrel.ex;clear I2;have hRL:=hRl.out;have hN2:=hN.out;by_cases hlt2:k<(zl root dead vs).length
         ·have hlt3:k<N:=zO;have hwk:wrap64 ((k:Int)+1)=(k:Int)+1:=IntWalk.wrap64_in _ zO;replace hwk:=zH hwk;obtain⟨br,offr,eR,hbr,hCF⟩:=(Rd.of_own own.out).2 zO;have hbr2:=(QM own.out)
          subst eR;have hbr3:=hbr2 br rfl;have dk:=hCF k _ (rowI_get _ k hlt2);replace dk:=(World.cell?_of_block (a:=⟨br,offr+k,none⟩) (K2.block br hbr (by rw[pcb];omega) (by rw[pmb];omega))).trans dk;have HTK:=zH (List.take_succ_eq_append_getElem hlt2);have HMM:=zH (List.getElem_mem hlt2);generalize(zl root dead vs)[k]=r at*;have HT:=tree_any (p.put ca2) (((zl root dead vs).take k).map Int.toNat) (by rw[List.length_map,List.length_take];omega) r wr g2 refs2 nodes2 _ C2 N2 M2 Q2;change Calls _ _ #[.pointer (some ⟨p.cb,0,none⟩),.int .i64 r] wr _ at HT;rw[pcb]at HT;replace⟨C2,N2,M2,Q2,hCV,K2⟩:=zH6 C2 N2 M2 Q2 hCV K2;replace⟨hRL,hN2,hlt2,HT⟩:=zH4 hRL hN2 hlt2 HT;clear hCF hbr2 hbr3;go_wp2_with fail;refine HT.out.mono ?_;rintro e w9 ⟨hE,t1,t2,t3,t4,t5,t6⟩;have K9:qaZ p.cb p.mb w8 w9:=K2.out.trans ⟨t1,t2,t3,t4,t5⟩;rcases hokr:okL p.S (-1) r with _|_
          ·have x9:=K9.below xw.out (by have:=(zG.1 pwr.out).1;omega) (by rw[pcb];omega) (by rw[pmb];omega);have HB:=zH (Ty.bad (S:=S) (next:=next) (root:=root) (dead:=dead) x9 (λvs' hp=>by have h1:=hp.vols;rw[hvo.out,hgo.out,Option.some.injEq]at h1;subst h1;have:=hp.ok r HMM.out;rw[pS]at hokr;rw[hokr]at this;cases this));obtain rfl:e=.returned (.int .i64 8):=hE.trans (by show Ending.returned (.int .i64 (if okL p.S (-1) r=true then 0 else 8))=_;rw[hokr];rfl);replace hokr:=zH hokr;clear t1 t2 t3 t4 t5 t6 K9 x9 hE;go_wp2_with fail;exact Kl rfl rfl rfl HB.out
          ·obtain⟨ca3,g3,refs3,nodes3,C9,hg9,N9,M9,Q9⟩:=t6 hokr;have IR:R2 p w8 (.slice AV vs.length cV) (zl root dead vs) (.int .i64 ((k:Int)+1)) w9:=by
            refine⟨k+1,g3,ca3,refs3,nodes3,hlt2.out,rfl,C9,N9,?_,?_,?_,K9⟩
            ·rw[HTK.out,List.map_append];exact M9
            ·rw[HTK.out,List.map_append];exact Q9
            ·intro r' hr';rw[HTK.out]at hr';rcases List.mem_append.1 hr' with h1|h1
             ·exact hCV.out r' h1
             ·rw[List.mem_singleton.1 h1];exact hokr
           replace IR:=zH IR;obtain rfl:e=.returned (.int .i64 0):=hE.trans (by show Ending.returned (.int .i64 (if okL p.S (-1) r=true then 0 else 8))=_;rw[hokr];rfl);replace hokr:=zH hokr;clear hE t1 t2 t3 t4 t5 t6 K9 C9 hg9 N9 M9 Q9;go_wp2_with fail;rw[hwk.out];refine⟨⟨rfl,rfl,IR.out⟩,?_⟩;simp[intOf];omega
         ·have wRM:k=(zl root dead vs).length:=zO;have hlt3:¬k<N:=zO;rw[wRM,List.take_length]at M2 Q2 hCV;have k9:=qa C2.row;have hkN:k=N:=zO;replace⟨wRM,hCV,C2,M2,Q2,K2⟩:=zH6 wRM hCV C2 M2 Q2 K2;replace N2:=zH N2;clear hrel hk2 hlt2 hRL hN2;have hz8:w.heap.size<w8.heap.size:=(zG.1 pwr.out).1;have x9:Below w.heap.size w wr:=K2.out.below xw.out zO (by rw[pcb];omega) (by rw[pmb];omega);have pw9:=(K2.out.block w.heap.size hz8 (by rw[pcb];omega) (by rw[pmb];omega)).trans pwr.out;have kp9:=qa pw9;have rc9:=C2.out.row;change wr.heap[p.cb]?=some (.cells ca2 _ _)at rc9;rw[pcb]at rc9;have hcc:∀j v,(qbs refs2)[j]?=some v->wr.cell? ⟨cb,6+j,none⟩=some v:=λj v hj=>by obtain⟨h1,rfl⟩:=arrI_lt hj;rw[qa rc9];exact N2.out.ref j h1
          have hst9:=h.out.below x9;obtain⟨A'',c'',e3,hlc,hmc,hr3⟩:=hst9.now;have hl3:S.now.length=256:=(Qb hRX.out).2.2.1;have wHP:∃b3 o3,(Value.slice A3 n3 c3)=.slice (some ⟨b3,o3,none⟩) 256 c3/\∀j,j<256->wr.cell? ⟨b3,o3+j,none⟩=some (.int .u8 ((S.now[j]?.getD 0).toNat:Int)):=by rw[Value.slice.injEq]at e3;obtain⟨rfl,hn3,rfl⟩:=e3;obtain⟨b3,o3,hA3,_,wVS⟩:=hr3.2 zO;refine⟨b3,o3,by rw[hA3,hn3,hl3],λj hj=>?_⟩;exact wVS j _ (by rw[List.getElem?_map,zL zO];rfl)
          obtain⟨b3,o3,eN,hcN⟩:=wHP;rw[eN]at kp9;replace⟨hcN,x9⟩:=zH2 hcN x9;clear hst9 hr3 hlc hmc pw9 rc9;replace⟨e3,eN⟩:=zH2 e3 eN;go_upto_region 20 with fail;go_wp2_with (refine qae rfl 94 (.tmp 82) rfl cb 6 rfl (qbs refs2) _ hcc underlying94 rfl (by rw[show(qbs refs2).length=256 by simp[qbs]];kernel_rfl) ?_);clear hcc;replace hkN:=zH hkN;go_loopw [2,3,84] (λu v i wq=>u=.pointer (some ⟨cb,0,none⟩)/\v=.int .i64 0/\R3 S refs2 wr i wq) (λ_ _ i _=>256-(intOf i).toNat)
          case atStart=>exact⟨rfl,rfl,0,zO,rfl,λa h=>absurd h (Nat.not_lt_zero _),rfl⟩
          case round=>
           obtain⟨rfl,rfl,hrel⟩:=hrel;obtain⟨q,hq3,rfl,hle,rfl⟩:=hrel.ex;clear hrel;have hQV:Qz S (QJ root dead vs) refs2 nodes2:=by have:=M2.out;rw[pS]at this;exact this
           have wBJ:QR S root next dead vs:=⟨hRX.out,h40,hok.out,hvo.out.trans hgo.out,λr hr=>by have:=hCV.out r hr;rwa [pS]at this⟩
           by_cases hl4:q<256
           ·have dN:=hcN.out q hl4;have hix:=qdn (cs:=(qbs refs2).toArray) hl4 (v:=.int .i64 (refs2 q)) (by rw[List.getElem?_toArray];exact qfU refs2 hl4);generalize hnv:(S.now[q]?.getD 0).toNat=nv at*;have hnv2:nv<256:=by rw[<-hnv];exact UInt8.toNat_lt _
            have hwq:=zH (IntWalk.wrap64_in ((q:Int)+1) zO);replace⟨hnv,hle,hQV,wBJ⟩:=zH4 hnv hle hQV wBJ;rcases Nat.lt_or_ge nv (refs2 q)with hg|hg
            ·have hc1:decide ((refs2 q:Int)>(nv:Int))=true:=decide_eq_true zO;have hc2:decide (nv<refs2 q)=true:=decide_eq_true hg;have HB:Ty S root next dead w (.returned (.tuple #[.pointer none,.int .i64 8])) wr:=⟨x9.out,.inl ⟨rfl,λvs' hp=>by have h1:=hp.vols;rw[hvo.out,hgo.out,Option.some.injEq]at h1;subst h1;exact⟨refs2,nodes2,hQV.out,λhe=>by have:=he q hl4;rw[hnv.out]at this;omega⟩⟩⟩
             replace⟨HB,hg⟩:=zH2 HB hg;generalize(qbs refs2).toArray=arr at*;go_wp2_with fail;exact Kl rfl rfl rfl HB.out
            ·have hc1:decide ((refs2 q:Int)>(nv:Int))=false:=decide_eq_false zO;have hc2:decide (nv<refs2 q)=false:=decide_eq_false zO;have IR:R3 S refs2 wr (.int .i64 ((q:Int)+1)) wr:=⟨q+1,hl4,rfl,λa ha=>by
              rcases Nat.lt_or_ge a q with h1|h1
              ·exact hle.out a h1
              ·obtain rfl:a=q:=zO;rw[hnv.out];exact hg,rfl⟩
             replace⟨IR,hg⟩:=zH2 IR hg;generalize(qbs refs2).toArray=arr at*;go_wp2_with fail;refine⟨⟨rfl,rfl,IR.out⟩,?_⟩;simp[intOf];omega
           ·have hen:ZS S refs2:=λa ha=>hle a zO;have HT:Ty S root next dead w (.returned (.tuple #[.pointer (some ⟨cb,0,none⟩),.int .i64 0])) wr:=⟨x9.out,.inr ⟨vs,refs2,nodes2,cb,ca2,.slice AV vs.length cV,rfl,⟨wBJ,hQV,hen,hcw,by rw[<-pcb];exact C2.out.row,N2.out,QB (own_kept VW.out.own K2.out (by rw[pcb];exact wMT) (by rw[pmb];exact hmb5)) zO⟩⟩⟩
            replace⟨HT,hQV,wBJ,hen,hle⟩:=zH5 HT hQV wBJ hen hle;go_wp2_with fail;exact Kl rfl rfl rfl HT.out
def jf(vs:List Vol)(id:Int):Option Vol:=vs.find? λv=>decide (v.id=id)
abbrev vol0:Vol:=⟨0,0,false,0⟩
def volQ:Option Vol->Value
 |none=>.tuple #[VR vol0,.int .i64 6]
 |some v=>.tuple #[VR v,.int .i64 0]
def VolIx(vs:List Vol)(id:Int)(u:Value):Prop:=(∃(j:Nat)(hj:j<vs.length),u=.int .i64 (j:Int)/\jf vs id=some vs[j])\/(u=.int .i64 (-1)/\jf vs id=none)
theorem qhC{vs:List Vol}{id:Int}{j:Nat}(hj:j<vs.length)(he:vs[j].id=id)(hn:∀i (hi:i<vs.length),i<j->vs[i].id≠id):VolIx vs id (.int .i64 (j:Int)):=by refine .inl ⟨j,hj,rfl,?_⟩;unfold jf;rw[List.find?_eq_some_iff_getElem];exact⟨by simp[he],j,hj,rfl,λi hi=>by simp[hn i zO hi]⟩
theorem qcN{vs:List Vol}{id:Int}(hn:∀i (hi:i<vs.length),vs[i].id≠id):VolIx vs id (.int .i64 (-1)):=by refine .inr ⟨rfl,?_⟩;unfold jf;rw[List.find?_eq_none];intro v hv;obtain⟨i,hi,rfl⟩:=List.mem_iff_getElem.1 hv;simp[hn i hi]
set_option maxRecDepth 100000 in
theorem vol1_any(v:Vol)(bi:Nat)(id:Int)(w:World)(h:w.heap[bi]?=some (.cells #[.int .u32 id] 29 (0,0))):Calls prog 61 #[VR v,.pointer (some ⟨bi,0,none⟩)] w (Ret (.bool (decide (v.id=id))) w):=by
 have ki:=qa h;have zi:bi<w.heap.size:=(zG.1 h).1;clear h;go_enter func61,ntmps61;by_cases he:v.id=id
 ·have h1:(v.id==id)=true:=by rw[beq_iff_eq];exact he
  rw[decide_eq_true he];replace he:=zH he;go_wp2;go_ret;exact⟨rfl,zN _ _⟩
 ·have h1:(v.id==id)=false:=by rw[beq_eq_false_iff_ne];exact he
  rw[decide_eq_false he];replace he:=zH he;go_wp2;go_ret;exact⟨rfl,zN _ _⟩
set_option maxRecDepth 100000 in
theorem vidx_any(A c)(vs:List Vol)(hl:vs.length<=16)(bi:Nat)(id:Int)(w:World)(h:w.heap[bi]?=some (.cells #[.int .u32 id] 29 (0,0)))(hr:Rd w w.heap.size 4 A vs.length (ZT vs)):Calls prog 60 #[.slice A vs.length c,.func (.func 61) #[] #[.pointer (some ⟨bi,0,none⟩)]] w (zm (λu _=>VolIx vs id u) w):=by
 replace hr:=zH hr;go_enter func60,ntmps60;go_wp2_with fail;go_loopw [8] (λi wr=>∃k:Nat,k<=vs.length/\i=.int .i64 (k:Int)/\Ext w wr/\∀j (hj:j<vs.length),j<k->vs[j].id≠id) (λi _=>vs.length-(intOf i).toNat)
 case atStart=>exact⟨0,Nat.zero_le _,rfl,Ext.refl _,λj _ hj=>absurd hj (Nat.not_lt_zero _)⟩
 case round=>
  obtain⟨k,hk,rfl,xr,hno⟩:=hrel;replace hno:=zH hno;by_cases hlt:k<vs.length
  ·obtain⟨bv,offv,rfl,hbv,hCF⟩:=hr.out.2 zO;obtain⟨d0,d1,d2,d3⟩:=vX vs k hlt;replace d0:=Ext.cell xr (hCF _ _ d0);replace d1:=Ext.cell xr (hCF _ _ d1);replace d2:=Ext.cell xr (hCF _ _ d2);replace d3:=Ext.cell xr (hCF _ _ d3);have HAT:=zH (λhe=>qhC (id:=id) hlt he λi hi hik=>hno.out i hi hik);have HNO:=zH (λ(he:vs[k].id≠id) j (hj:j<vs.length) (hjk:j<k+1)=>by
    rcases Nat.lt_or_ge j k with h1|h1
    ·exact hno.out j hj h1
    ·obtain rfl:j=k:=zO;exact he)
   generalize vs[k]=u at*;rw[<-Nat.add_assoc]at d1 d2 d3;clear hCF;have hQU:=zH (IntWalk.wrap64_in ((k:Int)+1) zO);have hV:=vol1_any u bi id wr (qb h xr);go_wp2_with fail;refine hV.mono ?_;rintro e w2 ⟨rfl,hB⟩;clear d0 d1 d2 d3 hV;by_cases he:u.id=id
   ·rw[decide_eq_true he];have HQ:=zH (HAT.out he);clear HAT HNO;replace he:=zH he;go_wp2_with fail;refine bodyPost_ret (v:=.int .i64 (k:Int)) ?_ rfl ⟨_,rfl,HQ.out,Ext.trans xr hB⟩;simp[results,results60,go_sem]
   ·rw[decide_eq_false he];have HQ:=zH (HNO.out he);clear HAT HNO;replace he:=zH he;have hw1:=hQU.out;go_wp2_with fail;refine⟨⟨k+1,hlt,rfl,Ext.trans xr hB,λj hj hjk=>HQ.out j hj hjk⟩,?_⟩;simp[intOf];omega
  ·obtain rfl:k=vs.length:=zO;have HQ:=zH (qcN (id:=id) λi hi=>hno.out i hi hi);go_wp2_with fail;refine bodyPost_ret (v:=.int .i64 (-1)) ?_ rfl ⟨_,rfl,HQ.out,xr⟩;simp[results,results60,go_sem]
def thawO:Obj->Obj
 |.cells c t f=>if f=(0,0)then .cells c t f else .coro none
 |o=>o
def thaw(W:World):World:={W with heap:=W.heap.map thawO}
theorem Yr(W:World):(thaw W).heap.size=W.heap.size:=by simp[thaw]
theorem kK(W:World)(k:Nat):(thaw W).heap[k]?=(W.heap[k]?).map thawO:=by simp[thaw]
theorem thaw_row{W:World}{b:Nat}{cs:Array Value}{t:TypeId}(h:W.heap[b]?=some (.cells cs t (0,0))):(thaw W).heap[b]?=some (.cells cs t (0,0)):=by rw[kK,h];rfl
theorem JJ{w w':World}{q:Addr}(h:w'.heap[q.block]?=w.heap[q.block]?):(thaw w').cell? q=(thaw w).cell? q:=
 World.cell?_of_block (by rw[kK,kK,h])
theorem qaa{W:World}{q:Addr}{v:Value}(h:(thaw W).cell? q=some v):W.cell? q=some v/\W.frozen? q=false:=by
 unfold World.cell? at h;rw[kK]at h;unfold World.cell? World.frozen?;cases hb:W.heap[q.block]? with
 |none=>rw[hb]at h;cases h
 |some o=>
  rw[hb]at h;cases o with
  |cells c e f=>
   simp only[Option.map_some,thawO]at h;by_cases hf:f=(0,0)
   ·subst hf;rw[if_pos rfl]at h;exact⟨h,zA3⟩
   ·rw[if_neg hf]at h;cases h
  |_=>simp only[Option.map_some,thawO]at h;cases h
theorem Yq{W:World}{b:Nat}{cs:Array Value}{t:TypeId}(h:W.heap[b]?=some (.cells cs t (0,0)))(j:Nat):(thaw W).cell? ⟨b,j,none⟩=W.cell? ⟨b,j,none⟩:=by rw[qa h,qa (thaw_row h)]
def Thaw(W:World)(v:Value):Prop:=∀a n c,v=.slice (some a) n c->0<n->∃cs t,W.heap[a.block]?=some (.cells cs t (0,0))
theorem Thaw.of_own{w:World}{base n size:Nat}{e:TypeId}{v:Value}{xs:List Value}(h:w.ownsRow base e size v n xs):Thaw w v:=by
 intro a n' c ev hn;rcases h.2 with⟨rfl,rfl⟩|⟨g,cap,cur,rfl,_,hg,_⟩
 ·cases ev
 ·cases ev;exact⟨_,_,hg⟩
def NewB(lo:Nat)(v:Value)(l:List UInt8)(W:World):Prop:=Bys W W.heap.size v l/\Zw lo v/\Thaw W v
theorem NewB.of_own{w:World}{base n:Nat}{e:TypeId}{v:Value}{l:List UInt8}(h:w.ownsRow base e 1 v n (l.map bv)):NewB base v l w:=⟨Bys.of_own h,Zw.of_own h,Thaw.of_own h⟩
theorem NewB.thaw{lo:Nat}{v:Value}{l:List UInt8}{W:World}(h:NewB lo v l W):Bys (thaw W) W.heap.size v l:=by obtain⟨⟨A,c,e,hc,hm,hr⟩,_,ht⟩:=h;refine⟨A,c,e,hc,hm,hr.1,λhn=>?_⟩;obtain⟨b,off,e2,hb,hcs⟩:=hr.2 hn;obtain⟨cs,t,hBT⟩:=ht ⟨b,off,none⟩ l.length c (by rw[e,e2]) hn;exact⟨b,off,e2,hb,λj u hu=>(Yq hBT _).trans (hcs j u hu)⟩
theorem NewB.from{lo:Nat}{v:Value}{l:List UInt8}{W:World}(h:NewB lo v l W):Zw lo v:=h.2.1
section
variable {base:Nat} {e:TypeId} {size lo:Nat} {v:Value} {n:Nat} {xs:List Value} {f:Value->List Value} {l:List UInt8}
end
section
variable {α:Type} {base lo:Nat} {e:TypeId} {size:Nat} {g:α->Value->List Value} {by_:α->List UInt8}
end
theorem Rd.some_{w w':World}{B size n:Nat}{A:OA}{xs:List Value}(h:Rd w B size A n xs)(hk:∀p v,w.cell? p=some v->w'.cell? p=some v):Rd w' B size A n xs:=
 ⟨h.1,λhn=>by obtain⟨b,off,e,hb,hc⟩:=h.2 hn;exact⟨b,off,e,hb,λj u hu=>hk _ _ (hc j u hu)⟩⟩
theorem Bys.some_{w w':World}{B:Nat}{v:Value}{l:List UInt8}(h:Bys w B v l)(hk:∀p v,w.cell? p=some v->w'.cell? p=some v):Bys w' B v l:=by obtain⟨A,c,e,hc,hm,hr⟩:=h;exact⟨A,c,e,hc,hm,hr.some_ hk⟩
theorem Qq.some_{w w':World}{B:Nat}{v1 v2 v3 v4:Value}{S:Sto}(h:Qq w B v1 v2 v3 v4 S)(hk:∀p v,w.cell? p=some v->w'.cell? p=some v):Qq w' B v1 v2 v3 v4 S:=by obtain⟨⟨vs,A,c,e,h1,h2,h3,h4⟩,⟨ps,e',⟨A',c',e1,e2,e3,hr⟩,hp⟩,h5,h6⟩:=h;exact⟨⟨vs,A,c,e,h1,h2,h3.some_ hk,λi u l hu hl=>(h4 i u l hu hl).some_ hk⟩,⟨ps,e',⟨A',c',e1,e2,e3,hr.some_ hk⟩,λp h=>⟨(hp p h).1,(hp p h).2.some_ hk⟩⟩,h5.some_ hk,h6.some_ hk⟩
def mixW(lo N:Nat)(W C:World):World:={C with heap:=Array.ofFn (n:=max N C.heap.size) λk=>if lo<=k.1/\k.1<N then W.heap[k.1]?.getD (.deferred none)else C.heap[k.1]?.getD (.deferred none)}
theorem qgN(lo N:Nat)(W C:World)(q:Addr):(mixW lo N W C).cell? q=if lo<=q.block/\q.block<N then W.cell? q else C.cell? q:=by
 unfold World.cell?;have e:(mixW lo N W C).heap[q.block]?=if q.block<max N C.heap.size then some (if lo<=q.block/\q.block<N then W.heap[q.block]?.getD (.deferred none)else C.heap[q.block]?.getD (.deferred none))else none:=by simp only[mixW,Array.getElem?_ofFn];split<;>rfl
 rw[e];by_cases h:lo<=q.block/\q.block<N
 ·rw[if_pos zO,if_pos h];simp only[if_pos h];cases W.heap[q.block]?<;>rfl
 ·simp only[if_neg h];split
  ·rename_i h1;split at h1
   ·cases hq:C.heap[q.block]? with
    |none=>rw[hq]at h1;cases h1
    |some o=>rw[hq]at h1;simp only[Option.getD_some,Option.some.injEq]at h1;subst h1;rfl
   ·cases h1
  ·rename_i h1;split at h1
   ·cases hq:C.heap[q.block]? with
    |none=>rfl
    |some o=>
     cases o with
     |cells c e f=>exact absurd (by rw[hq];rfl) (h1 c e f)
     |_=>rfl
   ·rename_i h2;rw[Array.getElem?_eq_none zO]
theorem qkX{Φ:World->Prop}(hm:∀A C:World,(∀q v,A.cell? q=some v->C.cell? q=some v)->Φ A->Φ C){lo N:Nat}{W:World}(h:∀W2:World,(∀q:Addr,lo<=q.block->q.block<N->W2.cell? q=W.cell? q)->Φ W2):∀C:World,(∀q v,lo<=q.block->q.block<N->W.cell? q=some v->C.cell? q=some v)->Φ C:=λC h3=>
 hm (mixW lo N W C) C (λq v hq=>by
  rw[qgN]at hq;split at hq
  ·rename_i h1;exact h3 q v h1.1 h1.2 hq
  ·exact hq) (h _ λq h1 h2=>by rw[qgN,if_pos ⟨h1,h2⟩])
structure Qe(W W':World):Prop where
 size:W.heap.size<=W'.heap.size
 same:∀(k:Nat)(o:Obj),W.heap[k]?=some o->o.isCells=true->W'.heap[k]?=some o
theorem Qe.refl(W:World):Qe W W:=⟨zM _,λ_ _ h _=>h⟩
theorem Qe.row{W W':World}(h:Qe W W'){b:Nat}{cs:Array Value}{ty:TypeId}{fz:Nat×Nat}(hr:W.heap[b]?=some (.cells cs ty fz)):W'.heap[b]?=some (.cells cs ty fz):=h.same b _ hr rfl
theorem Qe.cell{W W':World}(h:Qe W W'){q:Addr}{v:Value}(hq:W.cell? q=some v):W'.cell? q=some v:=by
 unfold World.cell? at*;cases hb:W.heap[q.block]? with
 |none=>rw[hb]at hq;cases hq
 |some o=>
  cases o with
  |cells c e f=>
   rw[hb]at hq;rw[h.row hb];exact hq
  |_=>rw[hb]at hq;cases hq
theorem Qe.grown{Wb W W':World}{row:Option Nat}(h:Qe Wb W)(hg:W.grownBy W' row)(hr:∀r,row=some r->∃o:Obj,W.heap[r]?=some o/\o.isCells=false):Qe Wb W':=⟨Nat.le_trans h.size hg.size,λk o hk ho=>by have h1:=h.same k o hk ho;refine(hg.block k (zG.1 h1).1 λe=>?_).trans h1;obtain⟨o',h2,h3⟩:=hr k e.symm;rw[h1]at h2;cases h2;rw[ho]at h3;cases h3⟩
def PosZ(lo:Nat)(W W':World):Prop:=∀(q:Addr)(v:Value),lo<=q.block->q.block<W.heap.size->(thaw W).cell? q=some v->W'.cell? q=some v
theorem Ext.thaw{w w':World}(h:Ext w w'):Ext (thaw w) (Go.Proofs.YtmeadnlmepcmbaaGreat.thaw w'):=⟨h.os,h.tape,h.output,by rw[Yr,Yr];exact h.size,λk hk=>by rw[Yr]at hk;rw[kK,kK,h.block k hk]⟩
theorem Bys.of_ownT{w:World}{base n:Nat}{e:TypeId}{v:Value}{l:List UInt8}(h:w.ownsRow base e 1 v n (l.map bv)):Bys (thaw w) w.heap.size v l:=(NewB.of_own h).thaw
def NewSto(lo:Nat)(S:Sto)(u:Value)(W:World):Prop:=∃A1 c1 A2 c2 A3 c3 A4 c4,u=Qp A1 S.bs.length c1 A2 S.ws.length c2 A3 S.now.length c3 A4 S.last.length c4 /\
 ∀C:World,PosZ lo W C->Qq C W.heap.size (.slice A1 S.bs.length c1) (.slice A2 S.ws.length c2) (.slice A3 S.now.length c3) (.slice A4 S.last.length c4) S
theorem qaL{lo:Nat}{W W':World}(h:∀k,lo<=k->k<W.heap.size->W'.heap[k]?=W.heap[k]?):PosZ lo W W':=λq v h1 h2 h3=>(World.cell?_of_block (h q.block h1 h2)).trans (qaa h3).1
theorem vR{w0 w:World}{B b:Nat}(h:Below B w0 w)(hb:B<=b)(x0 x1 x2 x3:Value):Below B w0 ((((w.setCell ⟨b,0,none⟩ x0).setCell ⟨b,1,none⟩ x1).setCell ⟨b,2,none⟩ x2).setCell ⟨b,3,none⟩ x3):=
 Below.setCell (Below.setCell (Below.setCell (Below.setCell h (p:=⟨b,0,none⟩) hb _) (p:=⟨b,1,none⟩) hb _) (p:=⟨b,2,none⟩) hb _) (p:=⟨b,3,none⟩) hb _
theorem qcv{w:World}{b:Nat}{ty:TypeId}{y0 y1 y2 y3:Value}(h:w.heap[b]?=some (.cells #[y0,y1,y2,y3] ty (0,0)))(x0 x1 x2 x3:Value):((((w.setCell ⟨b,0,none⟩ x0).setCell ⟨b,1,none⟩ x1).setCell ⟨b,2,none⟩ x2).setCell ⟨b,3,none⟩ x3).heap[b]?=some (.cells #[x0,x1,x2,x3] ty (0,0)):=qo (qo (qo (qo h 0 x0) 1 x1) 2 x2) 3 x3
theorem row8{w:World}{b:Nat}{ty:TypeId}{y0 y1 y2 y3 y4 y5 y6 y7:Value}(h:w.heap[b]?=some (.cells #[y0,y1,y2,y3,y4,y5,y6,y7] ty (0,0)))(x0 x1 x2 x3 x4 x5 x6 x7:Value):((((((((w.setCell ⟨b,0,none⟩ x0).setCell ⟨b,1,none⟩ x1).setCell ⟨b,2,none⟩ x2).setCell ⟨b,3,none⟩ x3).setCell ⟨b,4,none⟩ x4).setCell ⟨b,5,none⟩ x5).setCell ⟨b,6,none⟩ x6).setCell ⟨b,7,none⟩ x7).heap[b]?=some (.cells #[x0,x1,x2,x3,x4,x5,x6,x7] ty (0,0)):=by
 have h1:=qo (qo (qo (qo h 0 x0) 1 x1) 2 x2) 3 x3;exact qo (qo (qo (qo (cs:=#[x0,x1,x2,x3,y4,y5,y6,y7]) h1 4 x4) 5 x5) 6 x6) 7 x7
theorem Yy{w0 w:World}{B b:Nat}(h:Below B w0 w)(hb:B<=b)(x0 x1 x2 x3 x4 x5 x6 x7:Value):Below B w0 ((((((((w.setCell ⟨b,0,none⟩ x0).setCell ⟨b,1,none⟩ x1).setCell ⟨b,2,none⟩ x2).setCell ⟨b,3,none⟩ x3).setCell ⟨b,4,none⟩ x4).setCell ⟨b,5,none⟩ x5).setCell ⟨b,6,none⟩ x6).setCell ⟨b,7,none⟩ x7):=
 Below.setCell (Below.setCell (Below.setCell (Below.setCell (vR h hb x0 x1 x2 x3) (p:=⟨b,4,none⟩) hb _) (p:=⟨b,5,none⟩) hb _) (p:=⟨b,6,none⟩) hb _) (p:=⟨b,7,none⟩) hb _
theorem qiL{w:World}{b k:Nat}(hk:k≠b)(x0 x1 x2 x3 x4 x5 x6 x7:Value):((((((((w.setCell ⟨b,0,none⟩ x0).setCell ⟨b,1,none⟩ x1).setCell ⟨b,2,none⟩ x2).setCell ⟨b,3,none⟩ x3).setCell ⟨b,4,none⟩ x4).setCell ⟨b,5,none⟩ x5).setCell ⟨b,6,none⟩ x6).setCell ⟨b,7,none⟩ x7).heap[k]?=w.heap[k]?:=by have hs:=λ(A:World)(j:Nat)(v:Value)=>zJ A ⟨b,j,none⟩ v k hk;rw[hs,hs,hs,hs,hs,hs,hs,hs]
def VolFQ(S:Sto)(root next:Int)(dead:List Int)(id:Int)(w:World)(e:Ending)(w':World):Prop:=Below w.heap.size w w' /\
 ((e=.returned (.tuple #[VR vol0,.int .i64 8])/\∀vs,QR S root next dead vs->∃refs nodes,Qz S (QJ root dead vs) refs nodes/\¬ZS S refs) \/
  ∃vs refs nodes,QR S root next dead vs/\Qz S (QJ root dead vs) refs nodes/\ZS S refs/\e=.returned (volQ (jf vs id)))
theorem qbH{R:Ending->World->Prop}{a:Act}{W:World}{b:Nat}{u:Vol}{v:Value}(h4:a.tmps[4]?.getD undef=.pointer (some ⟨b,0,none⟩))(h5:a.tmps[5]?.getD undef=v)(hd:a.defers=[])(hBT:W.heap[b]?=some (.cells #[.int .u32 u.id,.int .i64 u.root,.bool u.fz,.int .u32 u.frm] 36 (0,0)))(hR:R (.returned (.tuple #[VR u,v])) W):bodyPost prog Tryz.f17 R .ret a W:=by
 refine bodyPost_ret (v:=.tuple #[VR u,v]) ?_ hd hR;have k:=qa hBT;simp[results,results17,go_sem,h4,h5,k]
set_option maxRecDepth 100000 in
theorem UF(A1 n1 c1 A2 n2 c2 A3 n3 c3 A4 n4 c4)(gen root next:Int)(A5 c5)(S:Sto)(dead:List Int)(id:Int)(w:World)(h:Qq w w.heap.size (.slice A1 n1 c1) (.slice A2 n2 c2) (.slice A3 n3 c3) (.slice A4 n4 c4) S)(hd:jH w w.heap.size (.slice A5 dead.length c5) dead):Calls prog 17 #[.agg (Qk (.slice A1 n1 c1) (.slice A2 n2 c2) (.slice A3 n3 c3) (.slice A4 n4 c4) gen root next (.slice A5 dead.length c5)),.int .u32 id] w (VolFQ S root next dead id w):=by
 have HT:=zH (λW (hx:Ext w W)=>Gr A1 n1 c1 A2 n2 c2 A3 n3 c3 A4 n4 c4 gen root next A5 c5 S dead W (h.ext hx) (by obtain⟨A,c,e,q1,q2,q3⟩:=hd;exact⟨A,c,e,q1,q2,(q3.below hx).more hx.size⟩));clear h hd;go_enter func17,ntmps17;go_wp2_with fail;generalize hw1:(World.alloc (World.alloc (World.alloc w _) _) _)=w1;have x1:Ext w w1:=by rw[<-hw1];exact((zN _ _).trans (zN _ _)).trans (zN _ _)
 have ri1:w1.heap[w.heap.size+1]?=some (.cells #[.int .u32 id] 29 (0,0)):=by rw[<-hw1];exact(zK _ _ _ zA3).trans (zI _ _ _ zA3)
 have rv1:w1.heap[w.heap.size+2]?=some (.cells #[.int .u32 0,.int .i64 0,.bool false,.int .u32 0] 36 (0,0)):=by rw[<-hw1];exact zI _ _ _ zA3
 clear hw1;refine(HT.out w1 x1).mono ?_;clear HT;rintro e w2 ⟨hB,hQ⟩;have x2:Ext w w2:=Ext.trans x1 hB;have ri2:=qb ri1 hB;have rv2:=qb rv1 hB;have z2:w.heap.size+2<w2.heap.size:=(zG.1 rv2).1;have kv2:=qa rv2;have fv2:=qg rv2;rcases hQ with⟨rfl,hno⟩|⟨vs,refs,nodes,cb,ca,vv,rfl,hT⟩
 ·replace hno:=zH hno;clear hB x1 ri1 rv1;go_wp2_with fail;exact qbH (b:=w.heap.size+2) (u:=vol0) rfl rfl rfl (qcv rv2 _ _ _ _) ⟨vR x2 zO _ _ _ _,.inl ⟨rfl,hno.out⟩⟩
 ·have hvs:vs.length<=16:=by
   have hv:=hT.pool.vols;unfold vI at hv;split at hv
   ·cases hv
   ·exact Kn _ _ _ _ zA3 hv
  obtain⟨AV,cV,rfl,wQX,wQY⟩:=qG hT.own;have hrd:=Rd.of_own hT.own;have kc:w2.cell? ⟨cb,518,none⟩=some (.slice AV vs.length cV):=by rw[qa hT.row];exact hT.ar.vol
  have HIX:=zH (vidx_any AV cV vs hvs (w.heap.size+1) id w2 ri2 hrd);have HR:=zH hrd;replace hT:=zH hT;clear hB x1 ri1 rv1 hrd;go_wp2_with fail;refine HIX.out.mono ?_;clear HIX;rintro e w3 ⟨u,rfl,hu,hB⟩;have x3:Ext w w3:=Ext.trans x2 hB;have rv3:=qb rv2 hB;have kv3:=qa rv3;have fv3:=qg rv3;have kc3:=Ext.cell hB kc;rcases hu with⟨j,hj,rfl,hv⟩|⟨rfl,hv⟩
  ·obtain⟨bv,offv,rfl,hbv,hCF⟩:=HR.out.2 zO;obtain⟨d0,d1,d2,d3⟩:=vX vs j hj;replace d0:=Ext.cell hB (hCF _ _ d0);replace d1:=Ext.cell hB (hCF _ _ d1);replace d2:=Ext.cell hB (hCF _ _ d2);replace d3:=Ext.cell hB (hCF _ _ d3);generalize vs[j]=u at*;rw[<-Nat.add_assoc]at d1 d2 d3;have hj1:decide ((j:Int)<0)=false:=decide_eq_false zO;replace⟨hv,x3⟩:=zH2 hv x3;clear hCF kv2 fv2 rv2 ri2 kc x2 hB z2;go_wp2_with fail;exact qbH (b:=w.heap.size+2) (u:=u) rfl rfl rfl (qcv rv3 _ _ _ _) ⟨vR x3.out zO _ _ _ _,.inr ⟨vs,refs,nodes,hT.out.pool,hT.out.cnt,hT.out.enough,by rw[hv.out];rfl⟩⟩
  ·replace⟨hv,x3⟩:=zH2 hv x3;clear kv2 fv2 rv2 ri2 kc x2 hB z2;go_wp2_with fail;exact qbH (b:=w.heap.size+2) (u:=vol0) rfl rfl rfl (qcv rv3 _ _ _ _) ⟨vR x3.out zO _ _ _ _,.inr ⟨vs,refs,nodes,hT.out.pool,hT.out.cnt,hT.out.enough,by rw[hv.out];rfl⟩⟩
theorem Tryz.info_bytes:(Tryz.prog.info? 26).map (λi=>(i.zero,i.size,i.bytes))=some (some (.slice none 0 0),1,24):=zQ
theorem Tryz.info_write:(Tryz.prog.info? 142).map (λi=>(i.zero,i.size,i.bytes))=some (some (.agg #[.int .i64 0,.slice none 0 0]),2,32):=zQ
abbrev gB(_:List UInt8)(u:Value):List Value:=[u]
theorem Rd.keepN{w W:World}{B size lo n c:Nat}{A:OA}{xs:List Value}(h:Rd w B size A n xs)(hf:Zw lo (.slice A n c))(hk:∀q:Addr,lo<=q.block->q.block<B->W.cell? q=w.cell? q):Rd W B size A n xs:=
 ⟨h.1,λhn=>by obtain⟨b,off,e,hb,hc⟩:=h.2 hn;subst e;exact⟨b,off,rfl,hb,λj u hu=>(hk ⟨b,off+j,none⟩ (hf ⟨b,off,none⟩ n c rfl) hb).trans (hc j u hu)⟩⟩
theorem Bys.keepN{w W:World}{B lo:Nat}{v:Value}{l:List UInt8}(h:Bys w B v l)(hf:Zw lo v)(hk:∀q:Addr,lo<=q.block->q.block<B->W.cell? q=w.cell? q):Bys W B v l:=by obtain⟨A,c,e,hc,hm,hr⟩:=h;subst e;exact⟨A,c,rfl,hc,hm,hr.keepN hf hk⟩
def qey(S:Sto)(root next:Int)(dead:List Int)(w:World)(e:Ending)(w':World):Prop:=Below w.heap.size w w' /\
 ((e=.returned (.int .i64 8)/\∀vs,QR S root next dead vs->∃refs nodes,Qz S (QJ root dead vs) refs nodes/\¬ZS S refs) \/
  (e=.returned (.int .i64 0)/\∃vs refs nodes,QR S root next dead vs/\Qz S (QJ root dead vs) refs nodes/\ZS S refs))
theorem qco{R:Ending->World->Prop}{a:Act}{W:World}{u:Value}(h2:a.tmps[2]?.getD undef=u)(hd:a.defers=[])(hR:R (.returned u) W):bodyPost prog Tryz.f52 R .ret a W:=by refine bodyPost_ret (v:=u) ?_ hd hR;simp[results,results52,go_sem,h2]
set_option maxRecDepth 100000 in
theorem qiN(A1 n1 c1 A2 n2 c2 A3 n3 c3 A4 n4 c4)(gen root next:Int)(A5 c5)(S:Sto)(dead:List Int)(w:World)(h:Qq w w.heap.size (.slice A1 n1 c1) (.slice A2 n2 c2) (.slice A3 n3 c3) (.slice A4 n4 c4) S)(hd:jH w w.heap.size (.slice A5 dead.length c5) dead):Calls prog 52 #[.agg (Qk (.slice A1 n1 c1) (.slice A2 n2 c2) (.slice A3 n3 c3) (.slice A4 n4 c4) gen root next (.slice A5 dead.length c5))] w (qey S root next dead w):=by
 have HT:=zH (λW (hx:Ext w W)=>Gr A1 n1 c1 A2 n2 c2 A3 n3 c3 A4 n4 c4 gen root next A5 c5 S dead W (h.ext hx) (by obtain⟨A,c,e,q1,q2,q3⟩:=hd;exact⟨A,c,e,q1,q2,(q3.below hx).more hx.size⟩));clear h hd;go_enter func52,ntmps52;go_wp2_with fail;generalize hw1:World.alloc w _=w1;have x1:Ext w w1:=by rw[<-hw1];exact zN _ _
 clear hw1;refine(HT.out w1 x1).mono ?_;rintro e w2 ⟨hB,hQ⟩;have x2:Below w.heap.size w w2:=Ext.trans x1 hB;rcases hQ with⟨rfl,hno⟩|⟨vs,refs,nodes,cb,ca,vv,rfl,hT⟩
 ·have HB:qey S root next dead w (.returned (.int .i64 8)) w2:=⟨x2,.inl ⟨rfl,hno⟩⟩
  replace HB:=zH HB;clear hno hB;go_wp2_with fail;exact qco rfl rfl HB.out
 ·have HB:qey S root next dead w (.returned (.int .i64 0)) w2:=⟨x2,.inr ⟨rfl,vs,refs,nodes,hT.pool,hT.cnt,hT.enough⟩⟩
  replace HB:=zH HB;clear hT hB;go_wp2_with fail;exact qco rfl rfl HB.out
theorem rowI_one(l:List Int):∀u∈GV l,u.oneCell'=true:=by intro u hu;obtain⟨a,_,rfl⟩:=List.mem_map.1 hu;rfl
theorem jH.of_own{w:World}{base:Nat}{v:Value}{l:List Int}(h:w.ownsRow base 3 1 v l.length (GV l)):jH w w.heap.size v l:=by
 obtain⟨A,c,rfl,hc,hm⟩:=qG h;refine⟨A,c,rfl,hc,hm,zA3,λhn=>?_⟩;rcases h.2 with⟨_,h0⟩|⟨g,cap,cur,e,_,hr,_⟩
 ·omega
 ·simp only[Value.slice.injEq]at e;obtain⟨rfl,-,rfl⟩:=e;exact⟨g,0,rfl,(zG.1 hr).1,λj u hu=>by have h5:=h.cells (g:=g) rfl j u hu;rw[Nat.zero_add];unfold Addr.add at h5;split at h5<;>simp_all⟩
theorem jH.more{w:World}{B B':Nat}{v:Value}{l:List Int}(h:jH w B v l)(hb:B<=B'):jH w B' v l:=by obtain⟨A,c,e,hc,hm,hr⟩:=h;exact⟨A,c,e,hc,hm,hr.more hb⟩
theorem jH.ext_{w W:World}{v:Value}{l:List Int}(h:jH w w.heap.size v l)(hx:Ext w W):jH W W.heap.size v l:=by obtain⟨A,c,e,hc,hm,hr⟩:=h;exact⟨A,c,e,hc,hm,(hr.below hx).more hx.size⟩
set_option maxRecDepth 100000 in
theorem qbL(v:Value)(l:List Int)(hl:l.length<1073741824)(w:World)(h:jH w w.heap.size v l):Calls prog 63 #[v] w (zm (λu w'=>w'.ownsRow w.heap.size 3 1 u l.length (GV l)) w):=by
 obtain⟨i0,hi,hz0,hz1,hz2⟩:=info_parts Tryz.info_int;obtain⟨A,c,rfl,hc,hm,hr⟩:=h;have qn:∀(w:World)(a:OA)(n c n' c':Nat),(binOp .eql 30 (.slice a n c) (.slice none n' c')).run prog w=.ok (.bool a.isNone) w:=λw a n c n' c'=>Lib.run_eql_slice_nil w _ _ a n c n' c' underlying30;rcases A with _|⟨b,off,p⟩
 ·have h0:l=[]:=by
   rcases l with _|⟨x,r⟩
   ·rfl
   ·obtain⟨b,off,h,_⟩:=hr.2 zA3;cases h
  subst h0;go_enter func63,ntmps63;go_wp2;go_ret;exact⟨_,rfl,World.ownsRow_nil _ _ _ _,Below.refl _ _⟩
 ·go_enter func63,ntmps63;go_wp2_with (at_builtin;refine qY ?_);refine Qm.go (Qw _ rfl (.tmp 5) (.tmp 6) 30 rfl w.heap.size 3 i0 (.int .i64 0) 1 8 underlying30 hi hz0 hz1 hz2 rfl zA1 _ 0 [] rfl ?_ w.heap.size _ l.length c (GV l) zE ?_ (rowI_one l) zO zA1 zA3 ?_)
  ·exact World.ownsRow_lit w #[] 0 (zM _) (by simp[maxLen]) rfl
  ·exact hr.keep λp hp=>World.cell?_alloc_lt w _ p hp
  ·intro v' w' hAE _ hb _;simp only[Nat.zero_add,List.nil_append]at hAE;go_wp2;go_ret;exact⟨_,rfl,hAE,Below.trans ((Below.refl _ _).alloc (zM _) _) hb⟩



def Jh(S:Sto)(a:Nat):Nat:=(S.now[a]?.getD 0).toNat
def Tu(S:Sto)(a:Int):Int:=if qm S=true then(if 8<=a/\a<256 then(if Jh S a.toNat=0 then 6 else 0)else 2)else 8
theorem askR_bad{S:Sto}(h:qm S=false)(a:Int):Tu S a=8:=by unfold Tu;rw[h];simp
theorem askR_out{S:Sto}(h:qm S=true){a:Int}(ha:¬(8<=a/\a<256)):Tu S a=2:=by unfold Tu;rw[if_pos h,if_neg ha]
theorem qeB{S:Sto}(h:qm S=true){a:Nat}(ha:8<=a)(ha2:a<256):Tu S (a:Int)=if Jh S a=0 then 6 else 0:=by unfold Tu;rw[if_pos h,if_pos zO,Int.toNat_natCast]
theorem askR_ok{S:Sto}{a:Int}(h:Tu S a=0):qm S=true/\∃n:Nat,a=(n:Int)/\8<=n/\n<256/\Jh S n≠0:=by
 unfold Tu at h;split at h
 ·rename_i hm;split at h
  ·rename_i hr;split at h
   ·cases h
   ·rename_i hn;obtain⟨n,hna⟩:=Int.eq_ofNat_of_zero_le (show 0<=a by omega);subst hna;exact⟨hm,n,rfl,zO,zO,by simpa using hn⟩
  ·cases h
 ·cases h
theorem qiH{S:Sto}(hS:qm S=true){w:World}{B:Nat}{v:Value}(h:Bys w B v S.now):∃b o c,v=.slice (some ⟨b,o,none⟩) 256 c/\b<B/\∀a,a<256->w.cell? ⟨b,o+a,none⟩=some (.int .u8 (Jh S a:Int)):=by obtain⟨-,-,hl,-⟩:=Qb hS;obtain⟨A,c,e,hc,hm,hr⟩:=h;obtain⟨b,o,rfl,hb,hAL⟩:=hr.2 zO;rw[hl]at e;exact⟨b,o,c,e,hb,λa ha=>hAL a _ (by rw[List.getElem?_map,zL zO];unfold Jh;rw[zL zO];rfl)⟩
set_option maxRecDepth 100000 in
theorem qiT(A1 n1 c1 A2 n2 c2 A3 n3 c3 A4 n4 c4)(S:Sto)(a:Int)(w:World)(h:Qq w w.heap.size (.slice A1 n1 c1) (.slice A2 n2 c2) (.slice A3 n3 c3) (.slice A4 n4 c4) S):Calls prog 135 #[Qp A1 n1 c1 A2 n2 c2 A3 n3 c3 A4 n4 c4,.int .i64 a] w (Ret (.int .i64 (Tu S a)) w):=by
 have HC:=zH (λW (hx:Ext w W)=>Kh A1 n1 c1 A2 n2 c2 A3 n3 c3 A4 n4 c4 S W (h.ext hx));replace h:=zH h;go_enter func135,ntmps135;go_wp2_with fail;generalize hw1:(World.alloc w _)=w1;have x1:Ext w w1:=by rw[<-hw1];exact zN _ _
 have r1:w1.heap[w.heap.size]?=some (.cells #[.slice A1 n1 c1,.slice A2 n2 c2,.slice A3 n3 c3,.slice A4 n4 c4] 28 (0,0)):=by rw[<-hw1];exact zI _ _ _ rfl
 clear hw1;refine(HC.out w1 x1).mono ?_;clear HC;rintro e w2 ⟨rfl,hB⟩;have x2:Ext w w2:=x1.trans hB;have r2:=qb r1 hB;clear hB r1 x1;rcases hS:qm S with _|_
 ·have hq:=zH (askR_bad hS a);replace hS:=zH hS;rw[VU rfl];go_wp2_with fail;go_ret;exact⟨by rw[hq.out];rfl,x2⟩
 ·rw[Ky rfl];by_cases hr:8<=a/\a<256
  ·obtain⟨n,hna⟩:=Int.eq_ofNat_of_zero_le (show 0<=a by omega);subst hna;have hn8:8<=n:=zO;have wPS:n<256:=zO;have hq:=qeB hS hn8 wPS;obtain⟨b,o,c,e3,hb,hAL⟩:=qiH hS h.out.now;have hcn:=Ext.cell x2 (hAL n wPS);generalize Jh S n=nw at*;cases e3;have k2:=qa r2;have d1:decide ((n:Int)<8)=false:=decide_eq_false zO;have d2:decide ((n:Int)≥256)=false:=decide_eq_false zO;clear hr hAL;replace hS:=zH hS;rcases Nat.eq_zero_or_pos nw with h0|h0
   ·have hz1:((nw:Int)==0)=true:=by rw[beq_iff_eq];omega
    have hz2:decide (nw=0)=true:=decide_eq_true h0;rw[if_pos h0]at hq;replace⟨hq,h0⟩:=zH2 hq h0;go_wp2_with fail;go_ret;exact⟨by rw[hq.out];rfl,x2⟩
   ·have hz1:((nw:Int)==0)=false:=by rw[beq_eq_false_iff_ne];omega
    have hz2:decide (nw=0)=false:=decide_eq_false zO;rw[if_neg zO]at hq;replace⟨hq,h0⟩:=zH2 hq h0;go_wp2_with fail;go_ret;exact⟨by rw[hq.out];rfl,x2⟩
  ·have hq:=zH (askR_out hS hr);replace hS:=zH hS;by_cases h8:a<8
   ·have d1:decide (a<8)=true:=decide_eq_true h8;replace hr:=zH hr;go_wp2_with fail;go_ret;exact⟨by rw[hq.out];rfl,x2⟩
   ·have d1:decide (a<8)=false:=decide_eq_false h8;have d2:decide (a≥256)=true:=decide_eq_true zO;replace hr:=zH hr;go_wp2_with fail;go_ret;exact⟨by rw[hq.out];rfl,x2⟩
def qeP(S:Sto)(refs:Nat->Nat):Bool:=(List.range 256).all λa=>decide (refs a<=(S.now[a]?.getD 0).toNat)
theorem qgv(S:Sto)(refs:Nat->Nat):qeP S refs=true↔ZS S refs:=by unfold qeP ZS;rw[List.all_eq_true];exact⟨λh a ha=>of_decide_eq_true (h a (List.mem_range.2 ha)),λh a ha=>decide_eq_true (h a (List.mem_range.1 ha))⟩
theorem QR.same{S:Sto}{root next:Int}{dead:List Int}{vs vs':List Vol}(h:QR S root next dead vs)(h':QR S root next dead vs'):vs=vs':=by have:=h.vols;rw[h'.vols]at this;cases this;rfl

theorem Gn(w:World)(g:Nat)(cs:Array Value):w.grownBy (w.setRow g cs) (some g):=
 ⟨rfl,rfl,rfl,zA3,λk _ hk=>setRow_other w g k _ (λe=>hk (by simp[e]))⟩
theorem Gk{P:Program}(W:World){B:Nat}(dT sT ty elem:TypeId)(g o dLen dCap:Nat)(A c)(l:List UInt8)(cur:Array Value)(t:TypeId)(hu:P.underlying dT=some (.slice elem))(hs:(P.info? elem).map (·.size)=some 1)(hg:W.heap[g]?=some (.cells cur t (0,0)))(h:Bys W B (.slice A l.length c) l)(hd:l.length<=dLen)(hPC:o+l.length<=cur.size):(Builtin.copy_ #[dT,sT] ty #[.slice (some ⟨g,o,none⟩) dLen dCap,.slice A l.length c]).run P W=.ok (.int .i64 (l.length:Int)) (W.setRow g (cur.toList.take o++l.map bv++cur.toList.drop (o+l.length)).toArray):=by
 obtain⟨A',c',e,hc,hm,hr⟩:=h;simp only[Value.slice.injEq,true_and]at e;obtain⟨rfl,rfl⟩:=e;rcases A with _|ad
 ·have h0:l.length=0:=by
   rcases Nat.eq_zero_or_pos l.length with h0|h0
   ·exact h0
   ·obtain⟨b,off,h,_⟩:=hr.2 h0;cases h
  obtain rfl:l=[]:=List.eq_nil_of_length_eq_zero h0;cases hq:P.info? elem with
  |none=>simp[hq]at hs
  |some i=>
   simp[Builtin.copy_,run_underlying hu,Builtin.lenOf,Builtin.firstCells,sizeOf,typeInfo,hq,storeCells];rw[setRow_self W g cur t (0,0) hg];exact⟨rfl,rfl⟩
 ·have hKR:∀j v,(l.map bv)[j]?=some v->W.cell? (ad.add j)=some v:=by
   intro j v hv;rcases Nat.eq_zero_or_pos l.length with h0|h0
   ·obtain rfl:l=[]:=List.eq_nil_of_length_eq_zero h0;simp at hv
   ·obtain⟨b,off,h,_⟩:=hr.2 h0;cases h;exact hr.adds h0 j v hv
  have:=run_copy_row P W dT sT ty elem g o dLen dCap ad l.length c cur t (l.map bv) hu hs hg (by simp[Nat.min_eq_left hd]) hKR (by simpa using hPC) (Uz l);rw[List.length_map]at this;exact this
def ju(cur:Array Value)(o:Nat)(l:List UInt8):Array Value:=(cur.toList.take o++l.map bv++cur.toList.drop (o+l.length)).toArray
theorem qay{cur:Array Value}{o:Nat}{l:List UInt8}(h:o+l.length<=cur.size):(ju cur o l).size=cur.size:=by simp[ju];omega
theorem qiz{cur:Array Value}{o:Nat}{l:List UInt8}{j:Nat}(h:o+l.length<=cur.size)(hj:j<o\/o+l.length<=j):(ju cur o l)[j]?=cur[j]?:=by
 unfold ju;rw[List.getElem?_toArray];have hcl:cur.toList.length=cur.size:=zA3;rcases hj with hj|hj
 ·rw[List.append_assoc,List.getElem?_append_left (by rw[List.length_take];omega),List.getElem?_take,if_pos hj];simp
 ·rw[List.getElem?_append_right (by rw[List.length_append,List.length_take,List.length_map];omega),List.getElem?_drop,List.length_append,List.length_take,List.length_map,hcl];rw[show o+l.length+(j-(min o cur.size+l.length))=j by omega];simp
theorem qiy{cur:Array Value}{o:Nat}{l:List UInt8}{j:Nat}{u:Value}(h:o+l.length<=cur.size)(hu:(l.map bv)[j]?=some u):(ju cur o l)[o+j]?=some u:=by
 have hj:j<l.length:=by have:=(List.getElem?_eq_some_iff.1 hu).1;simpa using this
 have hcl:cur.toList.length=cur.size:=zA3;unfold ju;rw[List.getElem?_toArray,List.append_assoc,List.getElem?_append_right (by rw[List.length_take];omega),List.length_take,hcl,show o+j-min o cur.size=j by omega,List.getElem?_append_left (by rw[List.length_map];exact hj)];exact hu
structure qdz(hb g o n:Nat)(cur:Array Value)(w:World):Prop where
 box:w.heap[hb]?=some (.cells #[.slice (some ⟨g,o,none⟩) n n] 273 (0,0))
 row:w.heap[g]?=some (.cells cur 5 (0,0))
 ne:hb≠g
 fit:o+n<=cur.size
 few:n<1000000000000000
def CloneQ(hb g o n:Nat)(cur:Array Value)(l:List UInt8)(w:World)(e:Ending)(w':World):Prop:=∃o',e=.returned (.slice (some ⟨g,o,none⟩) l.length l.length)/\(0<n-l.length->o'=o+l.length)/\(n-l.length=0->o'=o)/\qdz hb g o' (n-l.length) (ju cur o l) w' /\
 (w'.heap.size=w.heap.size/\w'.os=w.os/\w'.tape=w.tape/\w'.output=w.output/\∀b,b≠hb->b≠g->w'.heap[b]?=w.heap[b]?)
set_option maxRecDepth 100000 in
theorem qbK(hb g o n:Nat)(cur:Array Value)(A c)(l:List UInt8)(hl:l.length<=n)(w:World)(H:qdz hb g o n cur w)(h:Bys w w.heap.size (.slice A l.length c) l):Calls prog 201 #[.pointer (some ⟨hb,0,none⟩),.slice A l.length c] w (CloneQ hb g o n cur l w):=by
 have hsz:(Tryz.prog.info? 5).map (·.size)=some 1:=zQ;obtain⟨r1,r2,hne,hPC,wAV⟩:=H;have hcp:=Gk (P:=prog) w 273 26 3 5 g o n n A c l _ _ underlying273 hsz r2 h hl zO;have e1:(List.take o cur.toList++List.map bv l++List.drop (o+l.length) cur.toList).toArray=ju cur o l:=rfl;rw[e1]at hcp;have r3:(w.setRow g (ju cur o l)).heap[hb]?=some (.cells #[.slice (some ⟨g,o,none⟩) n n] 273 (0,0)):=(setRow_other w g hb _ hne).trans r1;have r4:=setRow_heap w g _ (ju cur o l) _ _ r2;have h3:∀b,b≠g->(w.setRow g (ju cur o l)).heap[b]?=w.heap[b]?:=λb hb=>setRow_other w g b _ hb;have s3:(w.setRow g (ju cur o l)).heap.size=w.heap.size:=zA3;have o3:(w.setRow g (ju cur o l)).os=w.os/\(w.setRow g (ju cur o l)).tape=w.tape/\(w.setRow g (ju cur o l)).output=w.output:=⟨rfl,rfl,rfl⟩
 generalize w.setRow g (ju cur o l)=w3 at*;have k1:=qa r1;have k3:=qa r3;have f3:=qg r3;clear h r1 r2 hsz e1;replace⟨h3,r4,o3⟩:=zH3 h3 r4 o3;have hll:=zH hl;have hc1:(l.length:Int)<=(n:Int):=zO;have fin:Hid (∀o' n',n'=n-l.length->(0<n'->o'=o+l.length)->(n'=0->o'=o)->CloneQ hb g o n cur l w (.returned (.slice (some ⟨g,o,none⟩) l.length l.length)) (w3.setCell ⟨hb,0,none⟩ (.slice (some ⟨g,o',none⟩) n' n'))):=zH λo' n' e h1 h2=>by
  subst e;refine⟨o',rfl,h1,h2,⟨qo r3 0 _,(zJ _ _ _ _ (λe=>hne e.symm)).trans r4.out,hne,?_,zO⟩,by simpa using s3,o3.out.1,o3.out.2.1,o3.out.2.2,λb hb hbg=>(zJ _ _ _ _ hb).trans (h3.out b hbg)⟩;rw[qay zO];rcases Nat.eq_zero_or_pos (n-l.length)with h0|h0
  ·have:=h2 h0;omega
  ·have:=h1 h0;omega
 clear r3 r4 h3 o3 hPC;go_enter func201,ntmps201;go_wp2_with fail
 ·subst h;go_ret;exact fin.out o 0 zO (λh=>zO) (λ_=>rfl)
 ·go_ret;exact fin.out (o+l.length) (n-l.length) rfl (λ_=>rfl) (λh=>zO)
end Go.Proofs.YtmeadnlmepcmbaaGreat
