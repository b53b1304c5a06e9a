/- Lemmas of the proof. -/
import Derived.ChangeKeysEq
import Derived.WalkMore
import Derived.Laws.CopyRow
import Derived.Laws.IdiomCopy
import Derived.Test.YtmeadnlmepcmbaaGreatZT07
set_option linter.all false
set_option maxHeartbeats 8000000
open Go.Proofs.Tryz
open Go.Value renaming slice→s,int→F,pointer→Y
open Option renaming some→D,none→M
open Go renaming World→E,Value→Q
open Go.Obj renaming cells→I
open Go.IntKind renaming i64→J
open Go.Ending renaming returned→O
open Go.World renaming alloc→U
open Bool renaming true→X,false→Z
namespace Go.Proofs.YtmeadnlmepcmbaaGreat
open Go.RowKit
variable {cs cur:Array Value}{k j base n lo B N B' o:Nat}{v u y0 y1 y2 y3:Value}{R:Ending->World->Prop}{a:Act}{W w w' W' w0:World}{vs vs':List Vol}{id:Int}{q:Addr}{e ty:TypeId}{xs:List Value}{l:List UInt8}{A:OA}{S:Sto}{Φ:World->Prop}{fz:Nat×Nat}{dead:List Int}{P:Program}
def outOn(lo B:Nat)(A1:OA)(n1 c1:Nat)(A2:OA)(n2:Nat)(n3:Nat)(A4:OA)(n4 c4:Nat)(S:Sto):Qb:=⟨Nat,λb=>Y b,λb W=>∃A3' c3',OnB lo b (s A1 n1 c1) (s A2 n2 n2) (s A3' n3 c3') (s A4 n4 c4) S W/\ZK lo (s A3' n3 c3')⟩
theorem qbV(lo B:Nat)(A1:OA)(n1 c1:Nat)(A2:OA)(n2:Nat)(n3:Nat)(A4:OA)(n4 c4:Nat)(S:Sto)(b:Nat):(outOn lo B A1 n1 c1 A2 n2 n3 A4 n4 c4 S).f b=Y b:=rfl
theorem qgh(lo B:Nat)(A1:OA)(n1 c1:Nat)(A2:OA)(n2:Nat)(n3:Nat)(A4:OA)(n4 c4:Nat)(S:Sto):∀p,za ((outOn lo B A1 n1 c1 A2 n2 n3 A4 n4 c4 S).φ p):=λp W W' he ⟨A,c,⟨h1,h2,h3⟩,h4⟩=>⟨A,c,⟨h1,qb h2 he,h3.ext he⟩,h4⟩
def qgf(lo:Nat):Qb:=⟨Nat,λb=>.map (D b),λb W=>lo<=b/\b<W/\QR W b λ_=>M⟩
theorem GL(lo b:Nat):(qgf lo).f b=.map (D b):=rfl
theorem qea(lo:Nat):∀p,za ((qgf lo).φ p):=λp W W' he ⟨h1,h2,h3⟩=>⟨h1,Nat.lt_of_lt_of_le h2 he.size,h3.of_heap (he.block p h2)⟩
theorem run_mm(t:TypeId)(W:E):(Instr.makeMap t M).run prog W=.ok (.map (D W.heap.size)) (W.alloc (.map #[] 0)):=rfl
theorem run_bx(cs:Array Q)(t:TypeId)(W:E):(Instr.box t (.agg cs)).run prog W=.ok (Y W) (W.alloc (I cs t)):=rfl
theorem qef(hk:k<256)(hv:cs[k]?=v)(W:E):(Instr.index 94 (.agg cs) (F J (k:Int))).run prog W=.ok v W:=by obtain⟨i0,hi,aZ,aT,aX⟩:=info_parts Tryz.info_int;have hp:=run_part_plain (P:=prog) (w:=W) (e:=3) zQ hv;have h0:(0:Int)<=(k:Int)/\(k:Int)<256:=zO;simp[Instr.index,asIntOf,run_underlying underlying94,h0,sizeOf,typeInfo,hi,aT,hp,Sem.run_bind];intro lg;omega
theorem KA(h2:a.tmps[2]?.getD undef=u)(h3:a.tmps[3]?.getD undef=v)(hd:a.defers=[])(hR:R (O (.tuple #[u,v])) W):bodyPost prog Tryz.f59 R .ret a W:=by refine bodyPost_ret (v:=.tuple #[u,v]) ?_ hd hR;simp[results,results59,go_sem,h2,h3]
set_option maxRecDepth 100000 in
theorem qae(A1 n1 c1 A2 n2 c2 A3 n3 c3 A4 n4 c4)(gen root next:Int)(A5 c5)(S:Sto)(dead:List Int)(w:E)(h:Qh w w.heap.size (s A1 n1 c1) (s A2 n2 c2) (s A3 n3 c3) (s A4 n4 c4) S)(hd:ZS w w.heap.size (s A5 dead.length c5) dead):Calls prog 59 #[.agg (qR (s A1 n1 c1) (s A2 n2 c2) (s A3 n3 c3) (s A4 n4 c4) gen root next (s A5 dead.length c5))] w (Ul S root next dead w):=by
 have HCK:=zH (λW (hx:Ext w W)=>vl A1 n1 c1 A2 n2 c2 A3 n3 c3 A4 n4 c4 S W (h.ext hx));have HNL:qj S=X->S.now.length<1073741824:=λhm=>by have:=(qZ hm).2.2.1;omega
 have HON:=zH (λ(hm:qj S=X) W (hx:Ext w W)=>qgb A1 n1 c1 A2 n2 c2 A3 n3 c3 A4 n4 c4 S (HNL hm) W (h.ext hx));replace h:=zH h;replace hd:=zH hd;clear HNL;go_enter func59,ntmps59;go_wp2_with fail;generalize aA:U w _=w1;have x1:Ext w w1:=by rw[<-aA];exact zN _ _
 have p1:w1.heap[w.heap.size]?=D (I (qR (s A1 n1 c1) (s A2 n2 c2) (s A3 n3 c3) (s A4 n4 c4) gen root next (s A5 dead.length c5)) 32 (0,0)):=by rw[<-aA];exact zI _ _ _ rfl
 clear aA;refine(HCK.out w1 x1).mono ?_;rintro e w2 ⟨rfl,hB⟩;have x2:=x1.trans hB;have p2:=qb p1 hB;have k2:=qa p2;clear hB p1 x1 HCK;rcases hmay:qj S with _|_
 ·unfold Va;have HB:=zH (Ul.bad (S:=S) (next:=next) (root:=root) (dead:=dead) x2 (λvs hp=>by have:=hp.may;rw[hmay]at this;cases this));replace hmay:=zH hmay;go_wp2_with fail;exact KA rfl rfl rfl HB.out
 ·unfold Va;rcases Nat.lt_or_ge 40 dead.length with h40|h40
  ·have hq:decide ((dead.length:Int)>40)=X:=decide_eq_true zO;have HB:=zH (Ul.bad (S:=S) (next:=next) (root:=root) (dead:=dead) x2 (λvs hp=>by have:=hp.few;omega));replace hmay:=zH hmay;go_wp2_with fail;exact KA rfl rfl rfl HB.out
  ·have hq:decide ((dead.length:Int)>40)=Z:=decide_eq_false zO;have mX:=zH hmay;clear hmay;go_wp2_with fail;have gP:∀W,qm.r w2 W->∀i,W.cell? ⟨w.heap.size,i,M⟩=(qR (s A1 n1 c1) (s A2 n2 c2) (s A3 n3 c3) (s A4 n4 c4) gen root next (s A5 dead.length c5))[i]?:=λW h=>qa (qb p2 h);have aX:w.heap.size<w2.heap.size:=(zG.1 p2).1;refine qt zQ ?_;refine qY (w:=w2) qm (qP [(4,outOn w2.heap.size w2.heap.size A1 n1 c1 A2 n2 n3 A4 n4 c4 S),(5,qgf w2.heap.size)])
    [X,X,X,X,X,X,X] 2 zQ zQ zQ zQ zQ zQ zQ ?st (Rel.drew _ _) ?walk
   case st=>exact qk (by simp only[List.forall_mem_cons];exact⟨λp=>Qr (qgh _ _ _ _ _ _ _ _ _ _ _ _ p),λp=>Qr (qea _ p),λ_ h=>by cases h⟩)
   case walk=>
    intro K hK;dsimp only[qv];repeat ((first|(refine qd ?_ zA0 zA0 (λW hW _=>⟨W,?_,Rel.refl _ W⟩) ?_;rotate_left;(go_simp<;>with_reducible rfl))|(refine qh zA0 ?_));try simp only[Act.put,ql,qf,qc,qg,qbV,GL,zA,zB,zC])
    refine qH (outOn w2.heap.size w2.heap.size A1 n1 c1 A2 n2 n3 A4 n4 c4 S) zA0 zA0 (λW hW _=>?_) (λ(bb:Nat)=>?_)
    ·have mP:Ext w2 W:=hW;refine Qk ?_ ((HON.out mX.out W (x2.trans mP)).mono λe w' h=>?_)
     ·go_simp
     ·obtain⟨u,rfl,⟨b,A3',c3',rfl,h1,h2⟩,h3⟩:=h;exact⟨b,rfl,⟨A3',c3',⟨Nat.le_trans mP.size h1.1,h1.2⟩,h2.mono mP.size⟩,h3⟩
    simp only[Act.put,qf,qc,qg,qbV,GL,zA,zB,zC];refine qH (qgf w2.heap.size) zA0 zA0 (λW hW _=>?_) (λ(mb:Nat)=>?_)
    ·have mP:Ext w2 W:=hW;have hmm:=run_mm 93 W;refine jZ (u:=.map (D W.heap.size)) (w':=W.alloc (.map #[] 0)) ?_ ⟨W.heap.size,rfl,⟨mP.size,zA3,QR.empty W⟩,zN _ _⟩;go_simp
    simp only[Act.put,qf,qc,qg,qbV,GL,zA,zB,zC];refine qd (.agg (ca0 (s A1 n1 c1) (s A2 n2 c2) (s A3 n3 c3) (s A4 n4 c4) bb mb)) zA0 zA0 (λW hW _=>⟨W,?_,Rel.refl _ W⟩) ?_
    ·go_simp;exact ca_eq _ _ _ _ _ _
    simp only[Act.put,qf,qc,qg,qbV,GL,zA,zB,zC];refine qB (hK _ _ λW hW hF=>?_);have mP:Ext w2 W:=hW;have HO:=(hF 4).1;have HM:=(hF 5).1;clear hF hK gP;change ∃A3' c3',_ at HO;change w2.heap.size<=mb/\mb<W.heap.size/\QR W mb _ at HM;obtain⟨A3',c3',hon,hfr⟩:=HO;obtain⟨hm1,iR,hBC⟩:=HM;obtain⟨bg,aC,aJ⟩:=hon;have xW:=x2.trans mP;have pW:=qb p2 mP;refine zB6 ?_;have hca:=ca0_ar (s A1 n1 c1) (s A2 n2 c2) (s A3 n3 c3) (s A4 n4 c4) bb mb;have ut:∀i,i<6->(ca0 (s A1 n1 c1) (s A2 n2 c2) (s A3 n3 c3) (s A4 n4 c4) bb mb)[i]?=(#[s A1 n1 c1,s A2 n2 c2,s A3 n3 c3,s A4 n4 c4,Y (D ⟨bb,0,M⟩),.map (D mb)]:Array Q)[i]?:=λi hi=>ca0_low _ _ _ _ _ _ hi;generalize(ca0 (s A1 n1 c1) (s A2 n2 c2) (s A3 n3 c3) (s A4 n4 c4) bb mb)=ca at*;have gm:=run_bx ca;replace hca:=zH hca;replace ut:=zH ut;clear hW mP x2 p2;go_wp2_with fail;refine Qq ?_;have hcc:W.heap.size=W.heap.size:=rfl;obtain⟨cb,xI⟩:∃cb,cb=W.heap.size:=⟨_,rfl⟩
    generalize aP:U W _=w3;have x3:Ext W w3:=by rw[<-aP];exact zN _ _
    have r3:w3.heap[cb]?=D (I ca 96 (0,0)):=by rw[<-aP];exact zI _ _ _ xI
    have z3:w3.heap.size=cb+1:=by rw[<-aP,xI];simp
    clear aP hcc;have hbb:bb<W.heap.size:=(zG.1 aC).1;have xw3:=xW.trans x3;have C3:Cen ⟨S,w.heap.size,w3.heap.size,cb,bb,mb,ca,s A1 n1 c1,s A2 n2 c2,s A3 n3 c3,s A4 n4 c4,s A1 n1 c1,s A2 n2 n2,s A3' n3 c3',s A4 n4 c4⟩ w3 (λ_=>M):={
     row:=r3
     c0:=ut.out 0 zO
     c1:=ut.out 1 zO
     c2:=ut.out 2 zO
     c3:=ut.out 3 zO
     c4:=ut.out 4 zO
     c5:=ut.out 5 zO
     map:=hBC.of_heap (x3.block _ iR)
     known:=λa v hv=>by cases hv
     sto:=h.out.below xw3
     on:=qb aC x3
     onb:=(h.out.below xw3).bs
     onw:=(h.out.below xw3).ws.clip
     onl:=(h.out.below xw3).last
     onn:=(aJ.now.below x3).more x3.size
     onf:=λA n c e=>by have hn:=(Bys.at_ aJ.now).2.2.2;have hl:=(qZ mX.out).2.2.1;have wK:=(Bys.at_ aJ.now).1;obtain⟨b,off,hA,hb⟩:=hn zO;have e':Value.slice A3' n3 c3'=s (D A) n c:=e;rw[hA]at e';simp only[Value.slice.injEq,Option.some.injEq]at e';rw[<-e'.1];show b≠cb;omega
     low:=by
      show cb<w3.heap.size/\bb<w3.heap.size/\mb<w3.heap.size/\cb≠mb/\bb≠mb/\w3.heap.size<=w3.heap.size/\w.heap.size<=cb/\w.heap.size<=bb/\w.heap.size<=mb/\cb≠bb;have aH:bb≠mb:=by rintro rfl;obtain⟨es,clock,h1,_⟩:=hBC;rw[aC]at h1;cases h1
      omega
     may:=mX.out}
    rw[<-xI];have pw3:=qb pW x3;have hcw:w.heap.size<=cb:=zO;have aP:w.heap.size<cb:=by have:=(zG.1 pW).1;omega
    generalize iH:(⟨S,w.heap.size,w3.heap.size,cb,bb,mb,ca,s A1 n1 c1,s A2 n2 c2,s A3 n3 c3,s A4 n4 c4,s A1 n1 c1,s A2 n2 n2,s A3' n3 c3',s A4 n4 c4⟩:CP)=p at C3;have pS:p.S=S:=by rw[<-iH]
    have pcb:p.cb=cb:=by rw[<-iH]
    have pmb:p.mb=mb:=by rw[<-iH]
    have plo:p.lo=w3.heap.size:=by rw[<-iH]
    have pca:p.ca=ca:=by rw[<-iH]
    have hmb:w.heap.size<mb:=by have:=(zG.1 pW).1;omega
    clear iH gm hBC aJ aC hfr pW x3 r3 z3 bg hm1 iR hbb xI;have kp:=qa pw3;go_wp2_with fail;have HLR:=qcF p root w3 _ C3;rw[pcb]at HLR;refine HLR.mono ?_;rintro e w4 ⟨v,g,rfl,⟨lvl,A,n,c,fk,lk,rfl,dH⟩,bU,hm,hg,hn⟩;have C4:=C3.after bU hm hg hn;rw[pS]at dH⊢;have hz3:cb<w3.heap.size:=by rw[<-pcb];exact(zG.1 C3.row).1
    have x4:Below w.heap.size w w4:=xw3.grown hg zO (λq hq=>by cases hq;rw[pmb];omega);have pw4:=(hg.block w.heap.size zO zA2).trans pw3;have z4:=hg.size;have hcb4:cb<w4.heap.size:=by rw[<-pcb];exact(zG.1 C4.row).1
    rcases hok:okL S (-1) root with _|_
    ·have HB:=zH (λW (hx:Ext w4 W)=>Ul.bad (S:=S) (next:=next) (root:=root) (dead:=dead) (x4.trans (Below.mono hx zO)) (λvs hp=>by have:=hp.top;rw[hok]at this;cases this));replace C4:=zH C4;replace C3:=zH C3;replace hok:=zH hok;clear dH bU hm hg hn HLR kp pw3 pw4;go_wp2_with fail;exact KA rfl rfl rfl (HB.out _ (zN _ _))
    ·obtain⟨a,ha,oU⟩:=Zl hok;have hga:=dH hok;rw[hok]at hga;obtain⟨n9,lv,xs,A',c',fk',lk',b',e9,-,-,hnode,hv,aG,aK,az⟩:=C4.known _ _ hga;rw[pS]at hnode aK;simp only[Value.agg.injEq,Array.mk.injEq,List.cons.injEq,Value.int.injEq,Value.bool.injEq,Value.slice.injEq,true_and,and_true]at hv;obtain⟨rfl,⟨rfl,rfl,rfl⟩,-,-,-,-,-,-,rfl⟩:=hv;have hEL:=(qI hnode).1;have ng:=λy hy=>((qI hnode).2.1 y hy).1;have hlen:xs.length<=5:=by unfold Qj ZV at hEL;simp at hEL;omega
     have hvo:kA S root next=Zq next [] (qu S lv xs):=by
      unfold kA;rw[e9,Int.toNat_natCast,hnode];show Zq next [] (qu S (lv:Int).toNat xs)=_
      rw[Int.toNat_natCast]
     have hBT:(qz S lv xs).isSome=X:=aK.1.symm;have hAU:0<lv->∀y∈xs,(g y.r).isSome=X:=az rfl;replace C4:=zH C4;replace C3:=zH C3;replace hok:=zH hok;replace aG:=zH aG;replace hBT:=zH hBT;replace hAU:=zH hAU;replace ng:=zH ng;replace hvo:=zH hvo;replace hnode:=zH hnode;replace oU:=zH oU;replace hga:=zH hga;replace ha:=zH ha;replace e9:=zH e9;have kp4:=qa pw4;have hzw4:w.heap.size<w4.heap.size:=zO;clear dH bU hm hg hn HLR kp pw3 aK az hEL;go_wp2_with fail;generalize aS:U w4 _=w5;have x45:Ext w4 w5:=by rw[<-aS];exact zN _ _
     clear aS;have x5:=x4.trans (Below.mono x45 zO);have pw5:=qb pw4 x45;have C5:=C4.out.ext x45;have fH:=aG.out.keep x45.size (λq _ hq=>Below.cell x45 hq);have I5:VolI p w5 w5 [] (s M 0 0) ca (λ_=>0) (λ_=>0):=by
      refine⟨⟨Off.refl (zM _),?_,hca.out,λi _=>by rw[pca],(zG.1 C5.row).1⟩,World.ownsRow_nil _ _ _ _⟩;have:=C5.row
      rwa [pca]at this
     have HV:=qiJ p w5 g (λ_=>0) (λ_=>0) (s A1 n1 c1) (s A2 n2 c2) (s A3 n3 c3) (s A4 n4 c4) gen root next (s A5 dead.length c5) C5 lv xs A c [] (s M 0 0) ca w5 I5 zA3 ng.out hlen fH (by rw[pS];exact hBT.out) hAU.out
     rw[pcb,pS]at HV;refine HV.mono ?_;rintro e w6 ⟨F6,ry⟩;clear HV I5;have x6:Below w.heap.size w w6:=⟨F6.os.trans x5.os,F6.tape.trans x5.tape,F6.output.trans x5.output,Nat.le_trans x5.size F6.size,λk hk=>(F6.block k (Nat.lt_of_lt_of_le hk x5.size) zO (by simp[Value.ownBlock])).trans (x5.block k hk)⟩
     have pI:w.heap.size<w5.heap.size:=by have:=x45.size;omega
     have hzw6:w.heap.size<w6.heap.size:=by have:=F6.size;omega
     have hHA:cb<w5.heap.size:=by have:=x45.size;omega
     have hmb5:mb<w5.heap.size:=by have h1:=C3.out.low.2.2.1;rw[pmb,plo]at h1;have:=x45.size;omega
     have hcb6:cb<w6.heap.size:=by have:=x45.size;have:=F6.size;omega
     have hmb6:mb<w6.heap.size:=by have h1:=C3.out.low.2.2.1;rw[pmb,plo]at h1;have:=x45.size;have:=F6.size;omega
     rcases hgo:Zq next [] (qu S lv xs)with _|vs
     ·rw[hgo]at ry;obtain rfl:e=O (F J 8):=ry;have HB:=zH (Ul.bad (S:=S) (next:=next) (root:=root) (dead:=dead) x6 (λvs hp=>by have:=hp.vols;rw[hvo.out,hgo]at this;cases this));clear kp4 pw4 pw5 F6 x45;replace C5:=zH C5;go_wp2_with fail;exact KA rfl rfl rfl HB.out
     ·rw[hgo]at ry;obtain⟨rfl,vv,ca6,V6,N6⟩:=ry;clear N6;have pw6:=(F6.block w.heap.size pI zO (by simp[Value.ownBlock])).trans pw5;have kp6:=qa pw6;clear kp4 pw4 pw5 F6 x45;replace C5:=zH C5;replace V6:=zH V6;replace hgo:=zH hgo;replace fH:=zH fH;obtain⟨i0,hi,aZ,aT,aX⟩:=info_parts Tryz.info_int;go_wp2_with (at_builtin;refine qV ?_);have hda:Rd (w6.alloc (I #[F J root] 3)) w.heap.size 1 A5 dead.length (dead.map λ(a:Int)=>Value.int J a):=by obtain⟨A',c',e,_,_,hr⟩:=hd.out;cases e;exact(hr.below x6).alloc zO _
      have o7:(w6.alloc (I #[F J root] 3)).ownsRow w6.heap.size 3 1 (s (D ⟨w6.heap.size,0,M⟩) 1 1) 1 [F J root]:=World.ownsRow_lit (base:=w6.heap.size) (e:=3) (size:=1) w6 #[F J root] 1 (zM _) zA7 rfl;refine Qm.go (QB _ rfl (.tmp 48) (.tmp 50) 30 rfl w6.heap.size 3 i0 (F J 0) 1 8 underlying30 hi aZ aT aX rfl zA1 _ 1 [F J root] rfl o7 w.heap.size A5 dead.length c5 (dead.map λ(a:Int)=>Value.int J a) rfl hda zA8 zO zA1 zA3 ?_);intro v7 w7 o8 g7 hB7 hv7;have x67:Ext w6 w7:=Below.trans (zN w6 _) hB7;have I1:R1 w6 root dead vs v7 (F J 0) w7:=⟨0,Nat.zero_le _,rfl,by
       have e:Vq (VA root dead vs 0)=[F J root]++dead.map λ(a:Int)=>Value.int J a:=by unfold VA Vq;simp
       rw[e];exact o8,x67⟩
      have V7:=V6.out.ext x67;obtain⟨AV,cV,rfl,hLZ,hMA⟩:=qC V7.own;have kc7:w7.cell? ⟨cb,518,M⟩=D (s AV vs.length cV):=by rw[<-pcb,qa V7.t.row];exact V7.t.ar.vol
      have hvs16:vs.length<=16:=KC next _ _ _ zA3 hgo.out
      replace I1:=zH I1;replace V7:=zH V7;replace x67:=zH x67;clear o7 o8 g7 hv7 hB7 hda hi aZ aT aX hLZ hMA kp6;go_wp2_with fail;clear kc7;go_loopw [5,57] (λv i wr=>R1 w6 root dead vs v i wr) (λ_ i _=>vs.length-(intOf i).toNat)
      case atStart=>exact I1.out
      case round=>
       obtain⟨k,hk,rfl,own,xr⟩:=hrel.ex;clear I1;by_cases hlt:k<vs.length
       ·have aO:=hlt;obtain⟨bv,offv,eA,hbv,aY⟩:=(Rd.of_own (V6.out.ext xr).own).2 zO;subst eA;obtain⟨d0,d1,d2,d3⟩:=kZ vs k aO;replace d0:=aY _ _ d0;replace d1:=aY _ _ d1;replace d2:=aY _ _ d2;replace d3:=aY _ _ d3;have HSU:=zH (qgw root dead vs aO);generalize vs[k]=u at*;clear aY;rw[<-Nat.add_assoc]at d1 d2 d3;obtain⟨AR,cR,rfl,hLX,hLY⟩:=qC own;obtain⟨i0,hi,aZ,aT,aX⟩:=info_parts Tryz.info_int;replace own:=zH own;replace xr:=zH xr;clear hLX hLY;go_upto_region 11 with fail;generalize hw9:U wr _=w9;have x9:Ext wr w9:=by rw[<-hw9];exact zN _ _
        have u9:w9.heap[wr.heap.size]?=D (I (vol4 u) 36 (0,0)):=by rw[<-hw9];exact zI _ _ _ rfl
        have ku9:=qa u9;clear hw9 d0 d1 d2 d3 u9;go_wp2_with (at_builtin;refine qV ?_);refine Qm.go (Zh _ rfl (.tmp 61) (.tmp 64) 30 rfl w6.heap.size 3 i0 (F J 0) 1 8 underlying30 hi aZ aT aX rfl zA1 _ _ _ rfl (zu own.out x9) #[F J u.root] rfl rfl zA8 zO zA1 (Nat.le_trans xr.out.size x9.size) ?_);intro v8 w8 own8 _ hB8 _;have IR:R1 w6 root dead vs v8 (F J ((k:Int)+1)) w8:=⟨k+1,aO,rfl,by rw[HSU.out,qfj];exact own8,Below.trans (Below.trans xr.out (Below.mono x9 xr.out.size)) hB8⟩
        replace IR:=zH IR;clear own8 hB8 hi aZ aT aX;go_wp2_with fail;refine⟨IR.out,?_⟩;simp[intOf];omega
       ·have nT:k=vs.length:=zO;subst nT;have VW:=V6.out.ext xr;have CW:=VW.t.cen C5.out;have hRl:(QJ root dead vs).length=1+dead.length+vs.length:=by rw[<-qbA];exact qis root dead vs (zM _)
        rw[qbA,<-hRl]at own;obtain⟨AR,cR,rfl,hLX,hLY⟩:=qC own;obtain⟨N,hN⟩:∃N,N=(QJ root dead vs).length:=⟨_,rfl⟩
        rw[<-hN]at own hRl⊢;have I2:R2 p wr (s AV vs.length cV) (QJ root dead vs) (F J 0) wr:=⟨0,g,ca6,λ_=>0,λ_=>0,Nat.zero_le _,rfl,CW,VW.t.ar,Qu.zero _,(λa ha=>by cases ha),(λr hr=>by cases hr),qbL.refl _ _ _⟩
        have xw:=x6.trans (Below.mono xr zO);have pwr:=qb pw6 xr;clear hLX hLY;replace I2:=zH I2;replace CW:=zH CW;replace VW:=zH VW;replace own:=zH own;replace hRl:=zH hRl;replace hN:=zH hN;replace xw:=zH xw;replace pwr:=zH pwr;clear hrel;generalize wr=w8 at*;go_wp2_with fail;go_loopw [2,3,69] (λu v i wq=>u=Y (D ⟨cb,0,M⟩)/\v=F J 0/\R2 p w8 (s AV vs.length cV) (QJ root dead vs) i wq) (λ_ _ i _=>N-(intOf i).toNat)
        case atStart=>exact⟨rfl,rfl,I2.out⟩
        case round=>
         obtain⟨rfl,rfl,hrel⟩:=hrel;obtain⟨k,g2,ca2,refs2,nodes2,yx,rfl,C2,N2,M2,Q2,aW,K2⟩:=hrel.ex;clear I2;have hRL:=hRl.out;have hN2:=hN.out;by_cases hlt2:k<(QJ root dead vs).length
         ·have hlt3:k<N:=zO;have nR:wrap64 ((k:Int)+1)=(k:Int)+1:=IntWalk.wrap64_in _ zO;replace nR:=zH nR;obtain⟨br,offr,eR,uq,aY⟩:=(Rd.of_own own.out).2 zO;have hbr2:=(Qn own.out)
          subst eR;have hbr3:=hbr2 br rfl;have dk:=aY k _ (rowI_get _ k hlt2);replace dk:=(World.cell?_of_block (a:=⟨br,offr+k,M⟩) (K2.block br uq (by rw[pcb];omega) (by rw[pmb];omega))).trans dk;have HTK:=zH (List.take_succ_eq_append_getElem hlt2);have HMM:=zH (List.getElem_mem hlt2);generalize(QJ root dead vs)[k]=r at*;have HT:=tree_any (p.put ca2) (((QJ root dead vs).take k).map Int.toNat) (by rw[List.length_map,List.length_take];omega) r wr g2 refs2 nodes2 _ C2 N2 M2 Q2;change Calls _ _ #[Y (D ⟨p.cb,0,M⟩),F J r] wr _ at HT;rw[pcb]at HT;replace C2:=zH C2;replace N2:=zH N2;replace M2:=zH M2;replace Q2:=zH Q2;replace aW:=zH aW;replace K2:=zH K2;replace hRL:=zH hRL;replace hN2:=zH hN2;replace hlt2:=zH hlt2;replace HT:=zH HT;clear aY hbr2 hbr3;go_wp2_with fail;refine HT.out.mono ?_;rintro e w9 ⟨hE,t1,t2,t3,t4,t5,t6⟩;have K9:qbL p.cb p.mb w8 w9:=K2.out.trans ⟨t1,t2,t3,t4,t5⟩;rcases hokr:okL p.S (-1) r with _|_
          ·have x9:=K9.below xw.out (by have:=(zG.1 pwr.out).1;omega) (by rw[pcb];omega) (by rw[pmb];omega);have HB:=zH (Ul.bad (S:=S) (next:=next) (root:=root) (dead:=dead) x9 (λvs' hp=>by have h1:=hp.vols;rw[hvo.out,hgo.out,Option.some.injEq]at h1;subst h1;have:=hp.ok r HMM.out;rw[pS]at hokr;rw[hokr]at this;cases this));obtain rfl:e=O (F J 8):=hE.trans (by show Ending.returned (F J (if okL p.S (-1) r=X then 0 else 8))=_;rw[hokr];rfl);replace hokr:=zH hokr;clear t1 t2 t3 t4 t5 t6 K9 x9 hE;go_wp2_with fail;exact KA rfl rfl rfl HB.out
          ·obtain⟨ca3,g3,refs3,nodes3,C9,hg9,N9,M9,Q9⟩:=t6 hokr;have IR:R2 p w8 (s AV vs.length cV) (QJ root dead vs) (F J ((k:Int)+1)) w9:=by
            refine⟨k+1,g3,ca3,refs3,nodes3,hlt2.out,rfl,C9,N9,?_,?_,?_,K9⟩
            ·rw[HTK.out,List.map_append];exact M9
            ·rw[HTK.out,List.map_append];exact Q9
            ·intro r' iq;rw[HTK.out]at iq;rcases List.mem_append.1 iq with h1|h1
             ·exact aW.out r' h1
             ·rw[List.mem_singleton.1 h1];exact hokr
           replace IR:=zH IR;obtain rfl:e=O (F J 0):=hE.trans (by show Ending.returned (F J (if okL p.S (-1) r=X then 0 else 8))=_;rw[hokr];rfl);replace hokr:=zH hokr;clear hE t1 t2 t3 t4 t5 t6 K9 C9 hg9 N9 M9 Q9;go_wp2_with fail;rw[nR.out];refine⟨⟨rfl,rfl,IR.out⟩,?_⟩;simp[intOf];omega
         ·have hMN:k=(QJ root dead vs).length:=zO;have hlt3:¬k<N:=zO;rw[hMN,List.take_length]at M2 Q2 aW;have k9:=qa C2.row;have hkN:k=N:=zO;replace hMN:=zH hMN;replace aW:=zH aW;replace C2:=zH C2;replace M2:=zH M2;replace Q2:=zH Q2;replace K2:=zH K2;replace N2:=zH N2;clear hrel yx hlt2 hRL hN2;have hz8:w.heap.size<w8.heap.size:=(zG.1 pwr.out).1;have x9:Below w.heap.size w wr:=K2.out.below xw.out zO (by rw[pcb];omega) (by rw[pmb];omega);have pw9:=(K2.out.block w.heap.size hz8 (by rw[pcb];omega) (by rw[pmb];omega)).trans pwr.out;have kp9:=qa pw9;have rc9:=C2.out.row;change wr.heap[p.cb]?=D (I ca2 _ _)at rc9;rw[pcb]at rc9;have hcc:∀j v,(qcg refs2)[j]?=D v->wr.cell? ⟨cb,6+j,M⟩=D v:=λj v hj=>by obtain⟨h1,rfl⟩:=arrI_lt hj;rw[qa rc9];exact N2.out.ref j h1
          have hst9:=h.out.below x9;obtain⟨A'',c'',e3,hlc,hmc,uT⟩:=hst9.now;have lu:S.now.length=256:=(qZ mX.out).2.2.1;have hBE:∃b3 o3,(Value.slice A3 n3 c3)=s (D ⟨b3,o3,M⟩) 256 c3/\∀j,j<256->wr.cell? ⟨b3,o3+j,M⟩=D (F .u8 ((S.now[j]?.getD 0).toNat:Int)):=by rw[Value.slice.injEq]at e3;obtain⟨rfl,wK,rfl⟩:=e3;obtain⟨b3,o3,hA3,_,hRQ⟩:=uT.2 zO;refine⟨b3,o3,by rw[hA3,wK,lu],λj hj=>?_⟩;exact hRQ j _ (by rw[List.getElem?_map,zL zO];rfl)
          obtain⟨b3,o3,eN,hcN⟩:=hBE;rw[eN]at kp9;replace hcN:=zH hcN;replace x9:=zH x9;clear hst9 uT hlc hmc pw9 rc9;replace e3:=zH e3;replace eN:=zH eN;go_upto_region 20 with fail;go_wp2_with (refine qaS rfl 94 (.tmp 82) rfl cb 6 rfl (qcg refs2) _ hcc underlying94 rfl (by rw[show(qcg refs2).length=256 by simp[qcg]];kernel_rfl) ?_);clear hcc;replace hkN:=zH hkN;go_loopw [2,3,84] (λu v i wq=>u=Y (D ⟨cb,0,M⟩)/\v=F J 0/\R3 S refs2 wr i wq) (λ_ _ i _=>256-(intOf i).toNat)
          case atStart=>exact⟨rfl,rfl,0,zO,rfl,λa h=>absurd h (Nat.not_lt_zero _),rfl⟩
          case round=>
           obtain⟨rfl,rfl,hrel⟩:=hrel;obtain⟨q,nZ,rfl,hle,rfl⟩:=hrel.ex;clear hrel;have lZ:Qu S (Qp root dead vs) refs2 nodes2:=by have:=M2.out;rw[pS]at this;exact this
           have wP:QH S root next dead vs:=⟨mX.out,h40,hok.out,hvo.out.trans hgo.out,λr hr=>by have:=aW.out r hr;rwa [pS]at this⟩
           by_cases hl4:q<256
           ·have dN:=hcN.out q hl4;have hix:=qef (cs:=(qcg refs2).toArray) hl4 (v:=F J (refs2 q)) (by rw[List.getElem?_toArray];exact qgW refs2 hl4);generalize mY:(S.now[q]?.getD 0).toNat=nv at*;have hnv2:nv<256:=by rw[<-mY];exact UInt8.toNat_lt _
            have hwq:=zH (IntWalk.wrap64_in ((q:Int)+1) zO);replace mY:=zH mY;replace hle:=zH hle;replace lZ:=zH lZ;replace wP:=zH wP;rcases Nat.lt_or_ge nv (refs2 q)with hg|hg
            ·have dP:decide ((refs2 q:Int)>(nv:Int))=X:=decide_eq_true zO;have au:decide (nv<refs2 q)=X:=decide_eq_true hg;have HB:Ul S root next dead w (O (.tuple #[Y M,F J 8])) wr:=⟨x9.out,.inl ⟨rfl,λvs' hp=>by have h1:=hp.vols;rw[hvo.out,hgo.out,Option.some.injEq]at h1;subst h1;exact⟨refs2,nodes2,lZ.out,λhe=>by have:=he q hl4;rw[mY.out]at this;omega⟩⟩⟩
             replace HB:=zH HB;replace hg:=zH hg;generalize(qcg refs2).toArray=arr at*;go_wp2_with fail;exact KA rfl rfl rfl HB.out
            ·have dP:decide ((refs2 q:Int)>(nv:Int))=Z:=decide_eq_false zO;have au:decide (nv<refs2 q)=Z:=decide_eq_false zO;have IR:R3 S refs2 wr (F J ((q:Int)+1)) wr:=⟨q+1,hl4,rfl,λa ha=>by
              rcases Nat.lt_or_ge a q with h1|h1
              ·exact hle.out a h1
              ·obtain rfl:a=q:=zO;rw[mY.out];exact hg,rfl⟩
             replace IR:=zH IR;replace hg:=zH hg;generalize(qcg refs2).toArray=arr at*;go_wp2_with fail;refine⟨⟨rfl,rfl,IR.out⟩,?_⟩;simp[intOf];omega
           ·have tJ:ZJ S refs2:=λa ha=>hle a zO;have HT:Ul S root next dead w (O (.tuple #[Y (D ⟨cb,0,M⟩),F J 0])) wr:=⟨x9.out,.inr ⟨vs,refs2,nodes2,cb,ca2,s AV vs.length cV,rfl,⟨wP,lZ,tJ,hcw,by rw[<-pcb];exact C2.out.row,N2.out,QC (own_kept VW.out.own K2.out (by rw[pcb];exact hHA) (by rw[pmb];exact hmb5)) zO⟩⟩⟩
            replace HT:=zH HT;replace lZ:=zH lZ;replace wP:=zH wP;replace tJ:=zH tJ;replace hle:=zH hle;go_wp2_with fail;exact KA rfl rfl rfl HT.out
def zF(vs:List Vol)(id:Int):Option Vol:=vs.find? λv=>decide (v.id=id)
abbrev qdB:Vol:=⟨0,0,Z,0⟩
def volQ:Option Vol->Q
 |none=>.tuple #[vV qdB,F J 6]
 |some v=>.tuple #[vV v,F J 0]
def VolIx(vs:List Vol)(id:Int)(u:Q):Prop:=(∃(j:Nat)(hj:j<vs.length),u=F J (j:Int)/\zF vs id=D vs[j])\/(u=F J (-1)/\zF vs id=M)
theorem qiI(hj:j<vs.length)(he:vs[j].id=id)(hn:∀i (hi:i<vs.length),i<j->vs[i].id≠id):VolIx vs id (j:Int):=by refine .inl ⟨j,hj,rfl,?_⟩;unfold zF;rw[List.find?_eq_some_iff_getElem];exact⟨by simp[he],j,hj,rfl,λi hi=>by simp[hn i zO hi]⟩
theorem qdC(hn:∀i (hi:i<vs.length),vs[i].id≠id):VolIx vs id (F J (-1)):=by refine .inr ⟨rfl,?_⟩;unfold zF;rw[List.find?_eq_none];intro v hv;obtain⟨i,hi,rfl⟩:=List.mem_iff_getElem.1 hv;simp[hn i hi]
set_option maxRecDepth 100000 in
theorem vol1_any(v:Vol)(bi:Nat)(id:Int)(w:E)(h:w.heap[bi]?=D (I #[F .u32 id] 29)):Calls prog 61 #[vV v,Y bi] w (Ret (.bool (decide (v.id=id))) w):=by
 have ki:=qa h;have zi:bi<w:=(zG.1 h).1;clear h;go_enter func61,ntmps61;by_cases he:v.id=id
 ·have h1:(v.id==id)=X:=by rw[beq_iff_eq];exact he
  rw[decide_eq_true he];replace he:=zH he;go_wp2;go_ret;exact⟨rfl,zN _ _⟩
 have h1:(v.id==id)=Z:=by rw[beq_eq_false_iff_ne];exact he
 rw[decide_eq_false he];replace he:=zH he;go_wp2;go_ret;exact⟨rfl,zN _ _⟩
set_option maxRecDepth 100000 in
theorem vidx_any(A c)(vs:List Vol)(hl:vs.length<=16)(bi:Nat)(id:Int)(w:E)(h:w.heap[bi]?=D (I #[F .u32 id] 29))(hr:Rd w w 4 A vs.length (jG vs)):Calls prog 60 #[s A vs.length c,.func (.func 61) #[] #[Y bi]] w (zZ (λu _=>VolIx vs id u) w):=by
 replace hr:=zH hr;go_enter func60,ntmps60;go_wp2_with fail;go_loopw [8] (λi wr=>∃k:Nat,k<=vs.length/\i=F J (k:Int)/\Ext w wr/\∀j (hj:j<vs.length),j<k->vs[j].id≠id) (λi _=>vs.length-(intOf i).toNat)
 case atStart=>exact⟨0,Nat.zero_le _,rfl,Ext.refl _,λj _ hj=>absurd hj (Nat.not_lt_zero _)⟩
 case round=>
  obtain⟨k,hk,rfl,xr,aj⟩:=hrel;replace aj:=zH aj;by_cases hlt:k<vs.length
  ·obtain⟨bv,offv,rfl,hbv,aY⟩:=hr.out.2 zO;obtain⟨d0,d1,d2,d3⟩:=kZ vs k hlt;replace d0:=Ext.cell xr (aY _ _ d0);replace d1:=Ext.cell xr (aY _ _ d1);replace d2:=Ext.cell xr (aY _ _ d2);replace d3:=Ext.cell xr (aY _ _ d3);have HAT:=zH (λhe=>qiI (id:=id) hlt he λi hi hik=>aj.out i hi hik);have HNO:=zH (λ(he:vs[k].id≠id) j (hj:j<vs.length) (hjk:j<k+1)=>by
    rcases Nat.lt_or_ge j k with h1|h1
    exact aj.out j hj h1
    ·obtain rfl:j=k:=zO;exact he)
   generalize vs[k]=u at*;rw[<-Nat.add_assoc]at d1 d2 d3;clear aY;have lV:=zH (IntWalk.wrap64_in ((k:Int)+1) zO);have hV:=vol1_any u bi id wr (qb h xr);go_wp2_with fail;refine hV.mono ?_;rintro e w2 ⟨rfl,hB⟩;clear d0 d1 d2 d3 hV;by_cases he:u.id=id
   ·rw[decide_eq_true he];have HQ:=zH (HAT.out he);clear HAT HNO;replace he:=zH he;go_wp2_with fail;refine bodyPost_ret (v:=F J (k:Int)) ?_ rfl ⟨_,rfl,HQ.out,Ext.trans xr hB⟩;simp[results,results60,go_sem]
   rw[decide_eq_false he];have HQ:=zH (HNO.out he);clear HAT HNO;replace he:=zH he;have aA:=lV.out;go_wp2_with fail;refine⟨⟨k+1,hlt,rfl,Ext.trans xr hB,λj hj hjk=>HQ.out j hj hjk⟩,?_⟩;simp[intOf];omega
  obtain rfl:k=vs.length:=zO;have HQ:=zH (qdC (id:=id) λi hi=>aj.out i hi hi);go_wp2_with fail;refine bodyPost_ret (v:=F J (-1)) ?_ rfl ⟨_,rfl,HQ.out,xr⟩;simp[results,results60,go_sem]
def thawO:Obj->Obj
 |.cells c t f=>if f=(0,0)then I c t f else .coro M
 |o=>o
def thaw(W:E):E:={W with heap:=W.heap.map thawO}
theorem YO(W:E):(thaw W).heap.size=W:=by simp[thaw]
theorem Kf(W:E)(k:Nat):(thaw W).heap[k]?=(W.heap[k]?).map thawO:=by simp[thaw]
theorem thaw_row{b:Nat}{t:TypeId}(h:W.heap[b]?=D (I cs t)):(thaw W).heap[b]?=D (I cs t):=by rw[Kf,h];rfl
theorem Zd(h:w'.heap[q.block]?=w.heap[q.block]?):(thaw w').cell? q=(thaw w).cell? q:=
 World.cell?_of_block (by rw[Kf,Kf,h])
theorem qaP(h:(thaw W).cell? q=v):W.cell? q=v/\W.frozen? q=Z:=by
 unfold World.cell? at h;rw[Kf]at h;unfold World.cell? World.frozen?;cases hb:W.heap[q.block]? with
 |none=>rw[hb]at h;cases h
 |some o=>
  rw[hb]at h;cases o with
  |cells c e f=>
   simp only[Option.map_some,thawO]at h;by_cases hf:f=(0,0)
   subst hf;rw[if_pos rfl]at h;exact⟨h,zA3⟩;rw[if_neg hf]at h;cases h
  |_=>simp only[Option.map_some,thawO]at h;cases h
theorem YN{b:Nat}{t:TypeId}(h:W.heap[b]?=D (I cs t))(j:Nat):(thaw W).cell? (b,j)=W.cell? (b,j):=by rw[qa h,qa (thaw_row h)]
def Thaw(W:E)(v:Q):Prop:=∀a n c,v=s (D a) n c->0<n->∃cs t,W.heap[a.block]?=D (I cs t)
theorem Thaw.of_own{base n size:Nat}(h:w.ownsRow base e size v n xs):Thaw w v:=by
 intro a n' c ev hn;rcases h.2 with⟨rfl,rfl⟩|⟨g,cap,cur,rfl,_,hg,_⟩
 cases ev;cases ev;exact⟨_,_,hg⟩
def NewB(lo:Nat)(v:Q)(l:List UInt8)(W:E):Prop:=Bys W W v l/\ZK lo v/\Thaw W v
theorem NewB.of_own(h:w.ownsRow base e 1 v n (l.map bv)):NewB base v l w:=⟨Bys.of_own h,ZK.of_own h,Thaw.of_own h⟩
theorem NewB.thaw{lo:Nat}{v:Q}{l:List UInt8}{W:E}(h:NewB lo v l W):Bys (thaw W) W v l:=by obtain⟨⟨A,c,e,hc,hm,hr⟩,_,ht⟩:=h;refine⟨A,c,e,hc,hm,hr.1,λhn=>?_⟩;obtain⟨b,off,e2,hb,ay⟩:=hr.2 hn;obtain⟨cs,t,aC⟩:=ht ⟨b,off,M⟩ l.length c (by rw[e,e2]) hn;exact⟨b,off,e2,hb,λj u hu=>(YN aC _).trans (ay j u hu)⟩
theorem NewB.from(h:NewB lo v l W):ZK lo v:=h.2.1
section
variable {base:Nat} {e:TypeId} {size lo:Nat} {v:Value} {n:Nat} {xs:List Value} {f:Value->List Value} {l:List UInt8}
end
section
variable {α:Type} {base lo:Nat} {e:TypeId} {size:Nat} {g:α->Value->List Value} {by_:α->List UInt8}
end
theorem Rd.some_{B size n:Nat}(h:Rd w B size A n xs)(hk:∀p v,w.cell? p=D v->w'.cell? p=D v):Rd w' B size A n xs:=
 ⟨h.1,λhn=>by obtain⟨b,off,e,hb,hc⟩:=h.2 hn;exact⟨b,off,e,hb,λj u hu=>hk _ _ (hc j u hu)⟩⟩
theorem Bys.some_(h:Bys w B v l)(hk:∀p v,w.cell? p=D v->w'.cell? p=D v):Bys w' B v l:=by obtain⟨A,c,e,hc,hm,hr⟩:=h;exact⟨A,c,e,hc,hm,hr.some_ hk⟩
theorem Qh.some_{v1 v2 v3 v4:Q}(h:Qh w B v1 v2 v3 v4 S)(hk:∀p v,w.cell? p=D v->w'.cell? p=D v):Qh w' B v1 v2 v3 v4 S:=by obtain⟨⟨vs,A,c,e,h1,h2,h3,h4⟩,⟨ps,e',⟨A',c',e1,e2,e3,hr⟩,hp⟩,h5,h6⟩:=h;exact⟨⟨vs,A,c,e,h1,h2,h3.some_ hk,λi u l hu hl=>(h4 i u l hu hl).some_ hk⟩,⟨ps,e',⟨A',c',e1,e2,e3,hr.some_ hk⟩,λp h=>⟨(hp p h).1,(hp p h).2.some_ hk⟩⟩,h5.some_ hk,h6.some_ hk⟩
def mixW(lo N:Nat)(W C:E):E:={C with heap:=Array.ofFn (n:=max N C) λk=>if lo<=k.1/\k.1<N then W.heap[k.1]?.getD (.deferred M)else C.heap[k.1]?.getD (.deferred M)}
theorem qhU(lo N:Nat)(W C:E)(q:Addr):(mixW lo N W C).cell? q=if lo<=q.block/\q.block<N then W.cell? q else C.cell? q:=by
 unfold World.cell?;have e:(mixW lo N W C).heap[q.block]?=if q.block<max N C then D (if lo<=q.block/\q.block<N then W.heap[q.block]?.getD (.deferred M)else C.heap[q.block]?.getD (.deferred M))else M:=by simp only[mixW,Array.getElem?_ofFn];split<;>rfl
 rw[e];by_cases h:lo<=q.block/\q.block<N;rw[if_pos zO,if_pos h];simp only[if_pos h];cases W.heap[q.block]?<;>rfl;simp only[if_neg h];split;rename_i h1;split at h1;cases hq:C.heap[q.block]? with
 |none=>rw[hq]at h1;cases h1
 |some o=>rw[hq]at h1;simp only[Option.getD_some,Option.some.injEq]at h1;subst h1;rfl
 cases h1;rename_i h1;split at h1;cases hq:C.heap[q.block]? with
 |none=>rfl
 |some o=>
  cases o with
  |cells c e f=>exact absurd (by rw[hq];rfl) (h1 c e f)
  |_=>rfl
 rename_i h2;rw[Array.getElem?_eq_none zO]
theorem qmr(hm:∀A C:E,(∀q v,A.cell? q=D v->C.cell? q=D v)->Φ A->Φ C)(h:∀W2:E,(∀q:Addr,lo<=q.block->q.block<N->W2.cell? q=W.cell? q)->Φ W2):∀C:E,(∀q v,lo<=q.block->q.block<N->W.cell? q=D v->C.cell? q=D v)->Φ C:=λC h3=>
 hm (mixW lo N W C) C (λq v hq=>by
  rw[qhU]at hq;split at hq;rename_i h1;exact h3 q v h1.1 h1.2 hq
  ·exact hq) (h _ λq h1 h2=>by rw[qhU,if_pos ⟨h1,h2⟩])
structure Qe(W W':E):Prop where
 size:W.heap.size<=W'
 same:∀(k:Nat)(o:Obj),W.heap[k]?=o->o.isCells=X->W'.heap[k]?=o
theorem Qe.refl(W:E):Qe W W:=⟨zM _,λ_ _ h _=>h⟩
theorem Qe.row(h:Qe W W'){b:Nat}(hr:W.heap[b]?=D (I cs ty fz)):W'.heap[b]?=D (I cs ty fz):=h.same b _ hr rfl
theorem Qe.cell(h:Qe W W')(hq:W.cell? q=v):W'.cell? q=v:=by
 unfold World.cell? at*;cases hb:W.heap[q.block]? with
 |none=>rw[hb]at hq;cases hq
 |some o=>
  cases o with
  |cells c e f=>
   rw[hb]at hq;rw[h.row hb];exact hq
  |_=>rw[hb]at hq;cases hq
theorem Qe.grown{Wb:E}{row:Option Nat}(h:Qe Wb W)(hg:W.grownBy W' row)(hr:∀r,row=D r->∃o:Obj,W.heap[r]?=o/\o.isCells=Z):Qe Wb W':=⟨Nat.le_trans h.size hg.size,λk o hk ho=>by have h1:=h.same k o hk ho;refine(hg.block k (zG.1 h1).1 λe=>?_).trans h1;obtain⟨o',h2,h3⟩:=hr k e.symm;rw[h1]at h2;cases h2;rw[ho]at h3;cases h3⟩
def PosZ(lo:Nat)(W W':E):Prop:=∀(q:Addr)(v:Q),lo<=q.block->q.block<W->(thaw W).cell? q=v->W'.cell? q=v
theorem Ext.thaw{w w':E}(h:Ext w w'):Ext (thaw w) (Go.Proofs.YtmeadnlmepcmbaaGreat.thaw w'):=⟨h.os,h.tape,h.output,by rw[YO,YO];exact h.size,λk hk=>by rw[YO]at hk;rw[Kf,Kf,h.block k hk]⟩
theorem Bys.of_ownT(h:w.ownsRow base e 1 v n (l.map bv)):Bys (thaw w) w v l:=(NewB.of_own h).thaw
def NewSto(lo:Nat)(S:Sto)(u:Q)(W:E):Prop:=∃A1 c1 A2 c2 A3 c3 A4 c4,u=Qo A1 S.bs.length c1 A2 S.ws.length c2 A3 S.now.length c3 A4 S.last.length c4 /\
 ∀C:E,PosZ lo W C->Qh C W (s A1 S.bs.length c1) (s A2 S.ws.length c2) (s A3 S.now.length c3) (s A4 S.last.length c4) S
theorem Ts(h:∀k,lo<=k->k<W.heap.size->W'.heap[k]?=W.heap[k]?):PosZ lo W W':=λq v h1 h2 h3=>(World.cell?_of_block (h q.block h1 h2)).trans (qaP h3).1
theorem Je{B b:Nat}(h:Below B w0 w)(hb:B<=b)(x0 x1 x2 x3:Q):Below B w0 ((((w.setCell b x0).setCell (b,1) x1).setCell (b,2) x2).setCell (b,3) x3):=
 Below.setCell (Below.setCell (Below.setCell (Below.setCell h (p:=⟨b,0,M⟩) hb _) (p:=⟨b,1,M⟩) hb _) (p:=⟨b,2,M⟩) hb _) (p:=⟨b,3,M⟩) hb _
theorem UX{b:Nat}(h:w.heap[b]?=D (I #[y0,y1,y2,y3] ty))(x0 x1 x2 x3:Q):((((w.setCell b x0).setCell (b,1) x1).setCell (b,2) x2).setCell (b,3) x3).heap[b]?=D (I #[x0,x1,x2,x3] ty):=qi (qi (qi (qi h 0 x0) 1 x1) 2 x2) 3 x3
theorem kI{b:Nat}{y4 y5 y6 y7:Q}(h:w.heap[b]?=D (I #[y0,y1,y2,y3,y4,y5,y6,y7] ty))(x0 x1 x2 x3 x4 x5 x6 x7:Q):((((((((w.setCell b x0).setCell (b,1) x1).setCell (b,2) x2).setCell (b,3) x3).setCell (b,4) x4).setCell (b,5) x5).setCell (b,6) x6).setCell (b,7) x7).heap[b]?=D (I #[x0,x1,x2,x3,x4,x5,x6,x7] ty):=by have h1:=qi (qi (qi (qi h 0 x0) 1 x1) 2 x2) 3 x3;exact qi (qi (qi (qi (cs:=#[x0,x1,x2,x3,y4,y5,y6,y7]) h1 4 x4) 5 x5) 6 x6) 7 x7
theorem je{B b:Nat}(h:Below B w0 w)(hb:B<=b)(x0 x1 x2 x3 x4 x5 x6 x7:Q):Below B w0 ((((((((w.setCell b x0).setCell (b,1) x1).setCell (b,2) x2).setCell (b,3) x3).setCell (b,4) x4).setCell (b,5) x5).setCell (b,6) x6).setCell (b,7) x7):=
 Below.setCell (Below.setCell (Below.setCell (Below.setCell (Je h hb x0 x1 x2 x3) (p:=⟨b,4,M⟩) hb _) (p:=⟨b,5,M⟩) hb _) (p:=⟨b,6,M⟩) hb _) (p:=⟨b,7,M⟩) hb _
theorem ve{b k:Nat}(hk:k≠b)(x0 x1 x2 x3 x4 x5 x6 x7:Q):((((((((w.setCell b x0).setCell (b,1) x1).setCell (b,2) x2).setCell (b,3) x3).setCell (b,4) x4).setCell (b,5) x5).setCell (b,6) x6).setCell (b,7) x7).heap[k]?=w.heap[k]?:=by have hs:=λ(A:E)(j:Nat)(v:Q)=>zJ A ⟨b,j,M⟩ v k hk;rw[hs,hs,hs,hs,hs,hs,hs,hs]
def VolFQ(S:Sto)(root next:Int)(dead:List Int)(id:Int)(w:E)(e:Ending)(w':E):Prop:=Below w w w' /\
 ((e=O (.tuple #[vV qdB,F J 8])/\∀vs,QH S root next dead vs->∃refs nodes,Qu S (Qp root dead vs) refs nodes/\¬ZJ S refs) \/
  ∃vs refs nodes,QH S root next dead vs/\Qu S (Qp root dead vs) refs nodes/\ZJ S refs/\e=O (volQ (zF vs id)))
theorem qcy{b:Nat}{u:Vol}(h4:a.tmps[4]?.getD undef=Y b)(h5:a.tmps[5]?.getD undef=v)(hd:a.defers=[])(aC:W.heap[b]?=D (I #[F .u32 u.id,F J u.root,.bool u.fz,F .u32 u.frm] 36))(hR:R (O (.tuple #[vV u,v])) W):bodyPost prog Tryz.f17 R .ret a W:=by refine bodyPost_ret (v:=.tuple #[vV u,v]) ?_ hd hR;have k:=qa aC;simp[results,results17,go_sem,h4,h5,k]
set_option maxRecDepth 100000 in
theorem Ta(A1 n1 c1 A2 n2 c2 A3 n3 c3 A4 n4 c4)(gen root next:Int)(A5 c5)(S:Sto)(dead:List Int)(id:Int)(w:E)(h:Qh w w (s A1 n1 c1) (s A2 n2 c2) (s A3 n3 c3) (s A4 n4 c4) S)(hd:ZS w w (s A5 dead.length c5) dead):Calls prog 17 #[.agg (qR (s A1 n1 c1) (s A2 n2 c2) (s A3 n3 c3) (s A4 n4 c4) gen root next (s A5 dead.length c5)),F .u32 id] w (VolFQ S root next dead id w):=by
 have HT:=zH (λW (hx:Ext w W)=>qae A1 n1 c1 A2 n2 c2 A3 n3 c3 A4 n4 c4 gen root next A5 c5 S dead W (h.ext hx) (by obtain⟨A,c,e,q1,q2,q3⟩:=hd;exact⟨A,c,e,q1,q2,(q3.below hx).more hx.size⟩));clear h hd;go_enter func17,ntmps17;go_wp2_with fail;generalize aA:(U (U (U w _) _) _)=w1;have x1:Ext w w1:=by rw[<-aA];exact((zN _ _).trans (zN _ _)).trans (zN _ _)
 have ri1:w1.heap[w.heap.size+1]?=D (I #[F .u32 id] 29):=by rw[<-aA];exact(zK _ _ _ zA3).trans (zI _ _ _ zA3)
 have rv1:w1.heap[w.heap.size+2]?=D (I #[F .u32 0,F J 0,.bool Z,F .u32 0] 36):=aA▸zI _ _ _ zA3;clear aA;refine(HT.out w1 x1).mono ?_;clear HT;rintro e w2 ⟨hB,hQ⟩;have x2:Ext w w2:=Ext.trans x1 hB;have ri2:=qb ri1 hB;have rv2:=qb rv1 hB;have z2:w.heap.size+2<w2:=(zG.1 rv2).1;have kv2:=qa rv2;have fv2:=qe rv2;rcases hQ with⟨rfl,aj⟩|⟨vs,refs,nodes,cb,ca,vv,rfl,hT⟩
 ·replace aj:=zH aj;clear hB x1 ri1 rv1;go_wp2_with fail;exact qcy (b:=w.heap.size+2) (u:=qdB) rfl rfl rfl (UX rv2 _ _ _ _) ⟨Je x2 zO _ _ _ _,.inl ⟨rfl,aj.out⟩⟩
 have hvs:vs.length<=16:=by have hv:=hT.pool.vols;unfold kA at hv;split at hv;cases hv;exact KC _ _ _ _ zA3 hv
 obtain⟨AV,cV,rfl,hLZ,hMA⟩:=qC hT.own;have sJ:=Rd.of_own hT.own;have kc:w2.cell? (cb,518)=D (s AV vs.length cV):=by rw[qa hT.row];exact hT.ar.vol
 have HIX:=zH (vidx_any AV cV vs hvs (w.heap.size+1) id w2 ri2 sJ);have HR:=zH sJ;replace hT:=zH hT;clear hB x1 ri1 rv1 sJ;go_wp2_with fail;refine HIX.out.mono ?_;clear HIX;rintro e w3 ⟨u,rfl,hu,hB⟩;have x3:Ext w w3:=Ext.trans x2 hB;have rv3:=qb rv2 hB;have kv3:=qa rv3;have fv3:=qe rv3;have kc3:=Ext.cell hB kc;rcases hu with⟨j,hj,rfl,hv⟩|⟨rfl,hv⟩
 ·obtain⟨bv,offv,rfl,hbv,aY⟩:=HR.out.2 zO;obtain⟨d0,d1,d2,d3⟩:=kZ vs j hj;replace d0:=Ext.cell hB (aY _ _ d0);replace d1:=Ext.cell hB (aY _ _ d1);replace d2:=Ext.cell hB (aY _ _ d2);replace d3:=Ext.cell hB (aY _ _ d3);generalize vs[j]=u at*;rw[<-Nat.add_assoc]at d1 d2 d3;have hj1:decide ((j:Int)<0)=Z:=decide_eq_false zO;replace⟨hv,x3⟩:=zH2 hv x3;clear aY kv2 fv2 rv2 ri2 kc x2 hB z2;go_wp2_with fail;exact qcy (b:=w.heap.size+2) (u:=u) rfl rfl rfl (UX rv3 _ _ _ _) ⟨Je x3.out zO _ _ _ _,.inr ⟨vs,refs,nodes,hT.out.pool,hT.out.cnt,hT.out.enough,by rw[hv.out];rfl⟩⟩
 replace⟨hv,x3⟩:=zH2 hv x3;clear kv2 fv2 rv2 ri2 kc x2 hB z2;go_wp2_with fail;exact qcy (b:=w.heap.size+2) (u:=qdB) rfl rfl rfl (UX rv3 _ _ _ _) ⟨Je x3.out zO _ _ _ _,.inr ⟨vs,refs,nodes,hT.out.pool,hT.out.cnt,hT.out.enough,by rw[hv.out];rfl⟩⟩
theorem Tryz.info_bytes:(Tryz.prog.info? 26).map (λi=>(i.zero,i.size,i.bytes))=D (D (s M 0 0),1,24):=zQ
theorem Tryz.info_write:(Tryz.prog.info? 142).map (λi=>(i.zero,i.size,i.bytes))=D (D (.agg #[F J 0,s M 0 0]),2,32):=zQ
abbrev gB(_:List UInt8)(u:Q):List Q:=[u]
theorem Rd.keepN{B size lo n c:Nat}(h:Rd w B size A n xs)(hf:ZK lo (s A n c))(hk:∀q:Addr,lo<=q.block->q.block<B->W.cell? q=w.cell? q):Rd W B size A n xs:=
 ⟨h.1,λhn=>by obtain⟨b,off,e,hb,hc⟩:=h.2 hn;subst e;exact⟨b,off,rfl,hb,λj u hu=>(hk ⟨b,off+j,M⟩ (hf ⟨b,off,M⟩ n c rfl) hb).trans (hc j u hu)⟩⟩
theorem Bys.keepN(h:Bys w B v l)(hf:ZK lo v)(hk:∀q:Addr,lo<=q.block->q.block<B->W.cell? q=w.cell? q):Bys W B v l:=by obtain⟨A,c,e,hc,hm,hr⟩:=h;subst e;exact⟨A,c,rfl,hc,hm,hr.keepN hf hk⟩
def qfv(S:Sto)(root next:Int)(dead:List Int)(w:E)(e:Ending)(w':E):Prop:=Below w w w' /\
 ((e=O (F J 8)/\∀vs,QH S root next dead vs->∃refs nodes,Qu S (Qp root dead vs) refs nodes/\¬ZJ S refs) \/
  (e=O (F J 0)/\∃vs refs nodes,QH S root next dead vs/\Qu S (Qp root dead vs) refs nodes/\ZJ S refs))
theorem qdf(h2:a.tmps[2]?.getD undef=u)(hd:a.defers=[])(hR:R u W):bodyPost prog Tryz.f52 R .ret a W:=by refine bodyPost_ret (v:=u) ?_ hd hR;simp[results,results52,go_sem,h2]
set_option maxRecDepth 100000 in
theorem UW(A1 n1 c1 A2 n2 c2 A3 n3 c3 A4 n4 c4)(gen root next:Int)(A5 c5)(S:Sto)(dead:List Int)(w:E)(h:Qh w w (s A1 n1 c1) (s A2 n2 c2) (s A3 n3 c3) (s A4 n4 c4) S)(hd:ZS w w (s A5 dead.length c5) dead):Calls prog 52 #[.agg (qR (s A1 n1 c1) (s A2 n2 c2) (s A3 n3 c3) (s A4 n4 c4) gen root next (s A5 dead.length c5))] w (qfv S root next dead w):=by
 have HT:=zH (λW (hx:Ext w W)=>qae A1 n1 c1 A2 n2 c2 A3 n3 c3 A4 n4 c4 gen root next A5 c5 S dead W (h.ext hx) (by obtain⟨A,c,e,q1,q2,q3⟩:=hd;exact⟨A,c,e,q1,q2,(q3.below hx).more hx.size⟩));clear h hd;go_enter func52,ntmps52;go_wp2_with fail;generalize aA:U w _=w1;have x1:Ext w w1:=aA▸zN _ _;clear aA;refine(HT.out w1 x1).mono ?_;rintro e w2 ⟨hB,hQ⟩;have x2:Below w w w2:=Ext.trans x1 hB;rcases hQ with⟨rfl,aj⟩|⟨vs,refs,nodes,cb,ca,vv,rfl,hT⟩
 ·have HB:qfv S root next dead w (O (F J 8)) w2:=⟨x2,.inl ⟨rfl,aj⟩⟩
  replace HB:=zH HB;clear aj hB;go_wp2_with fail;exact qdf rfl rfl HB.out
 have HB:qfv S root next dead w (O (F J 0)) w2:=⟨x2,.inr ⟨rfl,vs,refs,nodes,hT.pool,hT.cnt,hT.enough⟩⟩
 replace HB:=zH HB;clear hT hB;go_wp2_with fail;exact qdf rfl rfl HB.out
theorem rowI_one(l:List Int):∀u∈Vq l,u.oneCell'=X:=by intro u hu;obtain⟨a,_,rfl⟩:=List.mem_map.1 hu;rfl
theorem ZS.of_own{l:List Int}(h:w.ownsRow base 3 1 v l.length (Vq l)):ZS w w v l:=by
 obtain⟨A,c,rfl,hc,hm⟩:=qC h;refine⟨A,c,rfl,hc,hm,zA3,λhn=>?_⟩;rcases h.2 with⟨_,h0⟩|⟨g,cap,cur,e,_,hr,_⟩
 omega;simp only[Value.slice.injEq]at e;obtain⟨rfl,-,rfl⟩:=e;exact⟨g,0,rfl,(zG.1 hr).1,λj u hu=>by have h5:=h.cells (g:=g) rfl j u hu;rw[Nat.zero_add];unfold Addr.add at h5;split at h5<;>simp_all⟩
theorem ZS.more{l:List Int}(h:ZS w B v l)(hb:B<=B'):ZS w B' v l:=by obtain⟨A,c,e,hc,hm,hr⟩:=h;exact⟨A,c,e,hc,hm,hr.more hb⟩
theorem ZS.ext_{l:List Int}(h:ZS w w v l)(hx:Ext w W):ZS W W v l:=by obtain⟨A,c,e,hc,hm,hr⟩:=h;exact⟨A,c,e,hc,hm,(hr.below hx).more hx.size⟩
set_option maxRecDepth 100000 in
theorem UO(v:Q)(l:List Int)(hl:l.length<1073741824)(w:E)(h:ZS w w v l):Calls prog 63 #[v] w (zZ (λu w'=>w'.ownsRow w 3 1 u l.length (Vq l)) w):=by
 obtain⟨i0,hi,aZ,aT,aX⟩:=info_parts Tryz.info_int;obtain⟨A,c,rfl,hc,hm,hr⟩:=h;have qn:∀(w:E)(a:OA)(n c n' c':Nat),(binOp .eql 30 (s a n c) (s M n' c')).run prog w=.ok (.bool a.isNone) w:=λw a n c n' c'=>Lib.run_eql_slice_nil w _ _ a n c n' c' underlying30;rcases A with _|⟨b,off,p⟩
 ·have h0:l=[]:=by
   rcases l with _|⟨x,r⟩
   rfl;obtain⟨b,off,h,_⟩:=hr.2 zA3;cases h
  subst h0;go_enter func63,ntmps63;go_wp2;go_ret;exact⟨_,rfl,World.ownsRow_nil _ _ _ _,Below.refl _ _⟩
 go_enter func63,ntmps63;go_wp2_with (at_builtin;refine qV ?_);refine Qm.go (QB _ rfl (.tmp 5) (.tmp 6) 30 rfl w.heap.size 3 i0 (F J 0) 1 8 underlying30 hi aZ aT aX rfl zA1 _ 0 [] rfl ?_ w.heap.size _ l.length c (Vq l) zE ?_ (rowI_one l) zO zA1 zA3 ?_);exact World.ownsRow_lit w #[] 0 (zM _) (by simp[maxLen]) rfl;exact hr.keep λp hp=>World.cell?_alloc_lt w _ p hp;intro v' w' aB _ hb _;simp only[Nat.zero_add,List.nil_append]at aB;go_wp2;go_ret;exact⟨_,rfl,aB,Below.trans ((Below.refl _ _).alloc (zM _) _) hb⟩



def js(S:Sto)(a:Nat):Nat:=(S.now[a]?.getD 0).toNat
def Jj(S:Sto)(a:Int):Int:=if qj S=X then(if 8<=a/\a<256 then(if js S a.toNat=0 then 6 else 0)else 2)else 8
theorem qgX(h:qj S=Z)(a:Int):Jj S a=8:=by unfold Jj;rw[h];simp
theorem qgY(h:qj S=X){a:Int}(ha:¬(8<=a/\a<256)):Jj S a=2:=by unfold Jj;rw[if_pos h,if_neg ha]
theorem TK(h:qj S=X){a:Nat}(ha:8<=a)(bC:a<256):Jj S (a:Int)=if js S a=0 then 6 else 0:=by unfold Jj;rw[if_pos h,if_pos zO,Int.toNat_natCast]
theorem qfC{a:Int}(h:Jj S a=0):qj S=X/\∃n:Nat,a=(n:Int)/\8<=n/\n<256/\js S n≠0:=by unfold Jj at h;split at h;rename_i hm;split at h;rename_i hr;split at h;cases h;rename_i hn;obtain⟨n,hna⟩:=Int.eq_ofNat_of_zero_le (show 0<=a by omega);subst hna;exact⟨hm,n,rfl,zO,zO,by simpa using hn⟩;cases h;cases h
theorem qcW(hS:qj S=X)(h:Bys w B v S.now):∃b o c,v=s (D ⟨b,o,M⟩) 256 c/\b<B/\∀a,a<256->w.cell? ⟨b,o+a,M⟩=D (F .u8 (js S a:Int)):=by obtain⟨-,-,hl,-⟩:=qZ hS;obtain⟨A,c,e,hc,hm,hr⟩:=h;obtain⟨b,o,rfl,hb,aF⟩:=hr.2 zO;rw[hl]at e;exact⟨b,o,c,e,hb,λa ha=>aF a _ (by rw[List.getElem?_map,zL zO];unfold js;rw[zL zO];rfl)⟩
set_option maxRecDepth 100000 in
theorem qkc(A1 n1 c1 A2 n2 c2 A3 n3 c3 A4 n4 c4)(S:Sto)(a:Int)(w:E)(h:Qh w w (s A1 n1 c1) (s A2 n2 c2) (s A3 n3 c3) (s A4 n4 c4) S):Calls prog 135 #[Qo A1 n1 c1 A2 n2 c2 A3 n3 c3 A4 n4 c4,a] w (Ret (F J (Jj S a)) w):=by
 have HC:=zH (λW (hx:Ext w W)=>vl A1 n1 c1 A2 n2 c2 A3 n3 c3 A4 n4 c4 S W (h.ext hx));replace h:=zH h;go_enter func135,ntmps135;go_wp2_with fail;generalize aA:(U w _)=w1;have x1:Ext w w1:=aA▸zN _ _;have r1:w1.heap[w.heap.size]?=D (I #[s A1 n1 c1,s A2 n2 c2,s A3 n3 c3,s A4 n4 c4] 28):=aA▸zI _ _ _ rfl;clear aA;refine(HC.out w1 x1).mono ?_;clear HC;rintro e w2 ⟨rfl,hB⟩;have x2:Ext w w2:=x1.trans hB;have r2:=qb r1 hB;clear hB r1 x1;rcases hS:qj S with _|_
 ·have hq:=zH (qgX hS a);replace hS:=zH hS;rw[vF rfl];go_wp2_with fail;go_ret;exact⟨by rw[hq.out];rfl,x2⟩
 rw[Vx rfl];by_cases hr:8<=a/\a<256
 ·obtain⟨n,hna⟩:=Int.eq_ofNat_of_zero_le (show 0<=a by omega);subst hna;have hn8:8<=n:=zO;have wJ:n<256:=zO;have hq:=TK hS hn8 wJ;obtain⟨b,o,c,e3,hb,aF⟩:=qcW hS h.out.now;have di:=Ext.cell x2 (aF n wJ);generalize js S n=nw at*;cases e3;have k2:=qa r2;have d1:decide ((n:Int)<8)=Z:=decide_eq_false zO;have d2:decide ((n:Int)≥256)=Z:=decide_eq_false zO;clear hr aF;replace hS:=zH hS;rcases Nat.eq_zero_or_pos nw with h0|h0
  ·have aT:((nw:Int)==0)=X:=by rw[beq_iff_eq];omega
   have aX:decide (nw=0)=X:=decide_eq_true h0;rw[if_pos h0]at hq;replace⟨hq,h0⟩:=zH2 hq h0;go_wp2_with fail;go_ret;exact⟨by rw[hq.out];rfl,x2⟩
  have aT:((nw:Int)==0)=Z:=by rw[beq_eq_false_iff_ne];omega
  have aX:decide (nw=0)=Z:=decide_eq_false zO;rw[if_neg zO]at hq;replace⟨hq,h0⟩:=zH2 hq h0;go_wp2_with fail;go_ret;exact⟨by rw[hq.out];rfl,x2⟩
 have hq:=zH (qgY hS hr);replace hS:=zH hS;by_cases h8:a<8
 ·have d1:decide (a<8)=X:=decide_eq_true h8;replace hr:=zH hr;go_wp2_with fail;go_ret;exact⟨by rw[hq.out];rfl,x2⟩
 have d1:decide (a<8)=Z:=decide_eq_false h8;have d2:decide (a≥256)=X:=decide_eq_true zO;replace hr:=zH hr;go_wp2_with fail;go_ret;exact⟨by rw[hq.out];rfl,x2⟩
set_option maxRecDepth 100000 in
theorem qhB(A1 n1 c1 A2 n2 c2 A3 n3 c3 A4 n4 c4)(S:Sto)(a:Int)(w:E)(h:Qh w w (s A1 n1 c1) (s A2 n2 c2) (s A3 n3 c3) (s A4 n4 c4) S):Calls prog 138 #[Qo A1 n1 c1 A2 n2 c2 A3 n3 c3 A4 n4 c4,a] w (Ret (F J (Jj S a)) w):=by
 have HC:=zH (λW (hx:Ext w W)=>vl A1 n1 c1 A2 n2 c2 A3 n3 c3 A4 n4 c4 S W (h.ext hx));replace h:=zH h;go_enter func138,ntmps138;go_wp2_with fail;generalize aA:(U w _)=w1;have x1:Ext w w1:=aA▸zN _ _;have r1:w1.heap[w.heap.size]?=D (I #[s A1 n1 c1,s A2 n2 c2,s A3 n3 c3,s A4 n4 c4] 28):=aA▸zI _ _ _ rfl;clear aA;refine(HC.out w1 x1).mono ?_;clear HC;rintro e w2 ⟨rfl,hB⟩;have x2:Ext w w2:=x1.trans hB;have r2:=qb r1 hB;clear hB r1 x1;rcases hS:qj S with _|_
 ·have hq:=zH (qgX hS a);replace hS:=zH hS;rw[vF rfl];go_wp2_with fail;go_ret;exact⟨by rw[hq.out];rfl,x2⟩
 rw[Vx rfl];by_cases hr:8<=a/\a<256
 ·obtain⟨n,hna⟩:=Int.eq_ofNat_of_zero_le (show 0<=a by omega);subst hna;have hn8:8<=n:=zO;have wJ:n<256:=zO;have hq:=TK hS hn8 wJ;obtain⟨b,o,c,e3,hb,aF⟩:=qcW hS h.out.now;have di:=Ext.cell x2 (aF n wJ);generalize js S n=nw at*;cases e3;have k2:=qa r2;have d1:decide ((n:Int)<8)=Z:=decide_eq_false zO;have d2:decide ((n:Int)≥256)=Z:=decide_eq_false zO;clear hr aF;replace hS:=zH hS;rcases Nat.eq_zero_or_pos nw with h0|h0
  ·have aT:((nw:Int)==0)=X:=by rw[beq_iff_eq];omega
   have aX:decide (nw=0)=X:=decide_eq_true h0;rw[if_pos h0]at hq;replace⟨hq,h0⟩:=zH2 hq h0;go_wp2_with fail;go_ret;exact⟨by rw[hq.out];rfl,x2⟩
  have aT:((nw:Int)==0)=Z:=by rw[beq_eq_false_iff_ne];omega
  have aX:decide (nw=0)=Z:=decide_eq_false zO;rw[if_neg zO]at hq;replace⟨hq,h0⟩:=zH2 hq h0;go_wp2_with fail;go_ret;exact⟨by rw[hq.out];rfl,x2⟩
 have hq:=zH (qgY hS hr);replace hS:=zH hS;by_cases h8:a<8
 ·have d1:decide (a<8)=X:=decide_eq_true h8;replace hr:=zH hr;go_wp2_with fail;go_ret;exact⟨by rw[hq.out];rfl,x2⟩
 have d1:decide (a<8)=Z:=decide_eq_false h8;have d2:decide (a≥256)=X:=decide_eq_true zO;replace hr:=zH hr;go_wp2_with fail;go_ret;exact⟨by rw[hq.out];rfl,x2⟩
def qfQ(S:Sto)(refs:Nat->Nat):Bool:=(List.range 256).all λa=>decide (refs a<=(S.now[a]?.getD 0).toNat)
theorem qhD(S:Sto)(refs:Nat->Nat):qfQ S refs=X↔ZJ S refs:=by unfold qfQ ZJ;rw[List.all_eq_true];exact⟨λh a ha=>of_decide_eq_true (h a (List.mem_range.2 ha)),λh a ha=>decide_eq_true (h a (List.mem_range.1 ha))⟩
theorem QH.same{root next:Int}(h:QH S root next dead vs)(h':QH S root next dead vs'):vs=vs':=by have:=h.vols;rw[h'.vols]at this;cases this;rfl

theorem qab(w:E)(g:Nat)(cs:Array Q):w.grownBy (w.setRow g cs) (D g):=
 ⟨rfl,rfl,rfl,zA3,λk _ hk=>setRow_other w g k _ (λe=>hk (by simp[e]))⟩
theorem GX(W:E)(dT sT ty elem:TypeId)(g o dLen dCap:Nat)(A c)(l:List UInt8)(cur:Array Q)(t:TypeId)(hu:P.underlying dT=D (.slice elem))(hs:(P.info? elem).map (·.size)=D 1)(hg:W.heap[g]?=D (I cur t))(h:Bys W B (s A l.length c) l)(hd:l.length<=dLen)(lF:o+l.length<=cur.size):(Builtin.copy_ #[dT,sT] ty #[s (g,o) dLen dCap,s A l.length c]).run P W=.ok (l.length:Int) (W.setRow g (cur.toList.take o++l.map bv++cur.toList.drop (o+l.length)).toArray):=by
 obtain⟨A',c',e,hc,hm,hr⟩:=h;simp only[Value.slice.injEq,true_and]at e;obtain⟨rfl,rfl⟩:=e;rcases A with _|ad
 have h0:l.length=0:=by
  rcases Nat.eq_zero_or_pos l.length with h0|h0
  exact h0;obtain⟨b,off,h,_⟩:=hr.2 h0;cases h
 obtain rfl:l=[]:=List.eq_nil_of_length_eq_zero h0;cases hq:P.info? elem with
 |none=>simp[hq]at hs
 |some i=>
  simp[Builtin.copy_,run_underlying hu,Builtin.lenOf,Builtin.firstCells,sizeOf,typeInfo,hq,storeCells];rw[setRow_self W g cur t (0,0) hg];exact⟨rfl,rfl⟩
 have fC:∀j v,(l.map bv)[j]?=D v->W.cell? (ad.add j)=D v:=by
  intro j v hv;rcases Nat.eq_zero_or_pos l.length with h0|h0
  obtain rfl:l=[]:=List.eq_nil_of_length_eq_zero h0;simp at hv;obtain⟨b,off,h,_⟩:=hr.2 h0;cases h;exact hr.adds h0 j v hv
 have:=run_copy_row P W dT sT ty elem g o dLen dCap ad l.length c cur t (l.map bv) hu hs hg (by simp[Nat.min_eq_left hd]) fC (by simpa using lF) (Gi l);rw[List.length_map]at this;exact this
def jH(cur:Array Q)(o:Nat)(l:List UInt8):Array Q:=(cur.toList.take o++l.map bv++cur.toList.drop (o+l.length)).toArray
theorem qbm(h:o+l.length<=cur.size):(jH cur o l).size=cur.size:=by simp[jH];omega
theorem qjJ(h:o+l.length<=cur.size)(hj:j<o\/o+l.length<=j):(jH cur o l)[j]?=cur[j]?:=by
 unfold jH;rw[List.getElem?_toArray];have az:cur.toList.length=cur.size:=zA3;rcases hj with hj|hj
 rw[List.append_assoc,List.getElem?_append_left (by rw[List.length_take];omega),List.getElem?_take,if_pos hj];simp;rw[List.getElem?_append_right (by rw[List.length_append,List.length_take,List.length_map];omega),List.getElem?_drop,List.length_append,List.length_take,List.length_map,az];rw[show o+l.length+(j-(min o cur.size+l.length))=j by omega];simp
theorem qjI(h:o+l.length<=cur.size)(hu:(l.map bv)[j]?=u):(jH cur o l)[o+j]?=u:=by
 have hj:j<l.length:=by have:=(List.getElem?_eq_some_iff.1 hu).1;simpa using this
 have az:cur.toList.length=cur.size:=zA3;unfold jH;rw[List.getElem?_toArray,List.append_assoc,List.getElem?_append_right (by rw[List.length_take];omega),List.length_take,az,show o+j-min o cur.size=j by omega,List.getElem?_append_left (by rw[List.length_map];exact hj)];exact hu
structure qer(hb g o n:Nat)(cur:Array Q)(w:E):Prop where
 box:w.heap[hb]?=D (I #[s (g,o) n n] 273)
 row:w.heap[g]?=D (I cur 5)
 ne:hb≠g
 fit:o+n<=cur.size
 few:n<1000000000000000
def CloneQ(hb g o n:Nat)(cur:Array Q)(l:List UInt8)(w:E)(e:Ending)(w':E):Prop:=∃o',e=O (s (g,o) l.length l.length)/\(0<n-l.length->o'=o+l.length)/\(n-l.length=0->o'=o)/\qer hb g o' (n-l.length) (jH cur o l) w' /\
 (w'.heap.size=w/\w'.os=w.os/\w'.tape=w.tape/\w'.output=w.output/\∀b,b≠hb->b≠g->w'.heap[b]?=w.heap[b]?)
set_option maxRecDepth 100000 in
theorem qcA(hb g o n:Nat)(cur:Array Q)(A c)(l:List UInt8)(hl:l.length<=n)(w:E)(H:qer hb g o n cur w)(h:Bys w w (s A l.length c) l):Calls prog 201 #[Y hb,s A l.length c] w (CloneQ hb g o n cur l w):=by
 have hsz:(Tryz.prog.info? 5).map (·.size)=D 1:=zQ;obtain⟨r1,r2,aH,lF,uy⟩:=H;have dU:=GX (P:=prog) w 273 26 3 5 g o n n A c l _ _ underlying273 hsz r2 h hl zO;have e1:(List.take o cur.toList++List.map bv l++List.drop (o+l.length) cur.toList).toArray=jH cur o l:=rfl;rw[e1]at dU;have r3:(w.setRow g (jH cur o l)).heap[hb]?=D (I #[s (g,o) n n] 273):=(setRow_other w g hb _ aH).trans r1;have r4:=setRow_heap w g _ (jH cur o l) _ _ r2;have h3:∀b,b≠g->(w.setRow g (jH cur o l)).heap[b]?=w.heap[b]?:=λb hb=>setRow_other w g b _ hb;have s3:(w.setRow g (jH cur o l)).heap.size=w:=zA3;have o3:(w.setRow g (jH cur o l)).os=w.os/\(w.setRow g (jH cur o l)).tape=w.tape/\(w.setRow g (jH cur o l)).output=w.output:=⟨rfl,rfl,rfl⟩
 generalize w.setRow g (jH cur o l)=w3 at*;have k1:=qa r1;have k3:=qa r3;have f3:=qe r3;clear h r1 r2 hsz e1;replace⟨h3,r4,o3⟩:=zH3 h3 r4 o3;have hll:=zH hl;have dP:(l.length:Int)<=(n:Int):=zO;have fin:Hid (∀o' n',n'=n-l.length->(0<n'->o'=o+l.length)->(n'=0->o'=o)->CloneQ hb g o n cur l w (O (s (g,o) l.length l.length)) (w3.setCell hb (s (D ⟨g,o',M⟩) n' n'))):=zH λo' n' e h1 h2=>by
  subst e;refine⟨o',rfl,h1,h2,⟨qi r3 0 _,(zJ _ _ _ _ (λe=>aH e.symm)).trans r4.out,aH,?_,zO⟩,by simpa using s3,o3.out.1,o3.out.2.1,o3.out.2.2,λb hb hbg=>(zJ _ _ _ _ hb).trans (h3.out b hbg)⟩;rw[qbm zO];rcases Nat.eq_zero_or_pos (n-l.length)with h0|h0
  have:=h2 h0;omega;have:=h1 h0;omega
 clear r3 r4 h3 o3 lF;go_enter func201,ntmps201;go_wp2_with fail
 ·subst h;go_ret;exact fin.out o 0 zO (λh=>zO) (λ_=>rfl)
 go_ret;exact fin.out (o+l.length) (n-l.length) rfl (λ_=>rfl) (λh=>zO)
end Go.Proofs.YtmeadnlmepcmbaaGreat
