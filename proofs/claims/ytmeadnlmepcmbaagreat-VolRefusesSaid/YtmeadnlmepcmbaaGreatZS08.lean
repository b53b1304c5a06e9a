/- Lemmas of the proof. -/
import Derived.ChangeKeysEq
import Derived.Test.YtmeadnlmepcmbaaGreatZS07
set_option linter.all false
set_option maxHeartbeats 8000000
open Go.Proofs.Tryz
open Go.Value renaming slice→s,int→F,pointer→Y,tuple→Jx
open Bool renaming true→D,false→U
open Option renaming some→E,none→I
open Go.IntKind renaming i64→J
open Go.Obj renaming cells→M
open Go renaming World→O,Value→X
open Go.World renaming alloc→Q
open Go.Ending renaming returned→Z
namespace Go.Proofs.YtmeadnlmepcmbaaGreat
open Go.RowKit
variable {v u y0 y1 y2 y3:Value}{R:Ending->World->Prop}{a:Act}{W w w' W' w0:World}{vs:List Vol}{id lvl:Int}{j base n lo B N h i:Nat}{q:Addr}{e ty:TypeId}{l:List UInt8}{A:OA}{S:Sto}{Φ:World->Prop}{fz:Nat×Nat}{ys zs xs:List It}{k:K3}{p:It->Bool}{y:It}
def outOn(lo B:Nat)(A1:OA)(n1 c1:Nat)(A2:OA)(n2:Nat)(n3:Nat)(A4:OA)(n4 c4:Nat)(S:Sto):Qd:=⟨Nat,λb=>Y b,λb W=>∃A3' c3',OnB lo b (s A1 n1 c1) (s A2 n2 n2) (s A3' n3 c3') (s A4 n4 c4) S W/\ZV lo (s A3' n3 c3')⟩
theorem qca(lo B:Nat)(A1:OA)(n1 c1:Nat)(A2:OA)(n2:Nat)(n3:Nat)(A4:OA)(n4 c4:Nat)(S:Sto)(b:Nat):(outOn lo B A1 n1 c1 A2 n2 n3 A4 n4 c4 S).f b=Y b:=rfl
theorem qgj(lo B:Nat)(A1:OA)(n1 c1:Nat)(A2:OA)(n2:Nat)(n3:Nat)(A4:OA)(n4 c4:Nat)(S:Sto):∀p,zy ((outOn lo B A1 n1 c1 A2 n2 n3 A4 n4 c4 S).φ p):=λp W W' he ⟨A,c,⟨h1,h2,h3⟩,h4⟩=>⟨A,c,⟨h1,qb h2 he,h3.ext he⟩,h4⟩
def qgi(lo:Nat):Qd:=⟨Nat,λb=>.map (E b),λb W=>lo<=b/\b<W/\Zu W b λ_=>I⟩
theorem GR(lo b:Nat):(qgi lo).f b=.map (E b):=rfl
theorem qed(lo:Nat):∀p,zy ((qgi lo).φ p):=λp W W' he ⟨h1,h2,h3⟩=>⟨h1,Nat.lt_of_lt_of_le h2 he.size,h3.of_heap (he.block p h2)⟩
theorem run_mm(t:TypeId)(W:O):(Instr.makeMap t I).run prog W=.ok (.map (E W.heap.size)) (W.alloc (.map #[] 0)):=rfl
theorem run_bx(cs:Array X)(t:TypeId)(W:O):(Instr.box t (.agg cs)).run prog W=.ok (Y W) (W.alloc (M cs t)):=rfl
theorem Uz{cs:Array X}{k:Nat}(hk:k<256)(hv:cs[k]?=v)(W:O):(Instr.index 94 (.agg cs) (F J (k:Int))).run prog W=.ok v W:=by obtain⟨i0,hi,hz0,hz1,hz2⟩:=info_parts Tryz.info_int;have hp:=run_part_plain (P:=prog) (w:=W) (e:=3) zQ hv;have h0:(0:Int)<=(k:Int)/\(k:Int)<256:=zO;simp[Instr.index,asIntOf,run_underlying underlying94,h0,sizeOf,typeInfo,hi,hz1,hp,Sem.run_bind];intro hge;omega
theorem KG(h2:a.tmps[2]?.getD undef=u)(h3:a.tmps[3]?.getD undef=v)(hd:a.defers=[])(hR:R (Z (Jx #[u,v])) W):bodyPost prog Tryz.f59 R .ret a W:=by refine bodyPost_ret (v:=Jx #[u,v]) ?_ hd hR;simp[results,results59,go_sem,h2,h3]
set_option maxRecDepth 100000 in
theorem YN(A1 n1 c1 A2 n2 c2 A3 n3 c3 A4 n4 c4)(gen root next:Int)(A5 c5)(S:Sto)(dead:List Int)(w:O)(h:Qi w w.heap.size (s A1 n1 c1) (s A2 n2 c2) (s A3 n3 c3) (s A4 n4 c4) S)(hd:ZM w w.heap.size (s A5 dead.length c5) dead):Calls prog 59 #[.agg (qQ (s A1 n1 c1) (s A2 n2 c2) (s A3 n3 c3) (s A4 n4 c4) gen root next (s A5 dead.length c5))] w (Ur S root next dead w):=by
 have HCK:=zH (λW (hx:Ext w W)=>vz A1 n1 c1 A2 n2 c2 A3 n3 c3 A4 n4 c4 S W (h.ext hx));have HNL:qk S=D->S.now.length<1073741824:=λhm=>by have:=(qZ hm).2.2.1;omega
 have HON:=zH (λ(hm:qk S=D) W (hx:Ext w W)=>qke A1 n1 c1 A2 n2 c2 A3 n3 c3 A4 n4 c4 S (HNL hm) W (h.ext hx));replace h:=zH h;replace hd:=zH hd;clear HNL;go_enter func59,ntmps59;go_wp2_with fail;generalize hw1:Q w _=w1;have x1:Ext w w1:=by rw[<-hw1];exact zN _ _
 have p1:w1.heap[w.heap.size]?=E (M (qQ (s A1 n1 c1) (s A2 n2 c2) (s A3 n3 c3) (s A4 n4 c4) gen root next (s A5 dead.length c5)) 32 (0,0)):=by rw[<-hw1];exact zI _ _ _ rfl
 clear hw1;refine(HCK.out w1 x1).mono ?_;rintro e w2 ⟨rfl,hB⟩;have x2:=x1.trans hB;have p2:=qb p1 hB;have k2:=qa p2;clear hB p1 x1 HCK;rcases hmay:qk S with _|_
 ·unfold JQ;have HB:=zH (Ur.bad (S:=S) (next:=next) (root:=root) (dead:=dead) x2 (λvs hp=>by have:=hp.may;rw[hmay]at this;cases this));replace hmay:=zH hmay;go_wp2_with fail;exact KG rfl rfl rfl HB.out
 ·unfold JQ;rcases Nat.lt_or_ge 40 dead.length with h40|h40
  ·have hq:decide ((dead.length:Int)>40)=D:=decide_eq_true zO;have HB:=zH (Ur.bad (S:=S) (next:=next) (root:=root) (dead:=dead) x2 (λvs hp=>by have:=hp.few;omega));replace hmay:=zH hmay;go_wp2_with fail;exact KG rfl rfl rfl HB.out
  ·have hq:decide ((dead.length:Int)>40)=U:=decide_eq_false zO;have hLP:=zH hmay;clear hmay;go_wp2_with fail;have gP:∀W,qp.r w2 W->∀i,W.cell? ⟨w.heap.size,i,I⟩=(qQ (s A1 n1 c1) (s A2 n2 c2) (s A3 n3 c3) (s A4 n4 c4) gen root next (s A5 dead.length c5))[i]?:=λW h=>qa (qb p2 h);have hz2:w.heap.size<w2.heap.size:=(zG.1 p2).1;refine qw zQ ?_;refine Qb (w:=w2) qp (qV [(4,outOn w2.heap.size w2.heap.size A1 n1 c1 A2 n2 n3 A4 n4 c4 S),(5,qgi w2.heap.size)])
    [D,D,D,D,D,D,D] 2 zQ zQ zQ zQ zQ zQ zQ ?st (Rel.drew _ _) ?walk
   case st=>exact ql (by simp only[List.forall_mem_cons];exact⟨λp=>QA (qgj _ _ _ _ _ _ _ _ _ _ _ _ p),λp=>QA (qed _ p),λ_ h=>by cases h⟩)
   case walk=>
    intro K hK;dsimp only[qA];repeat ((first|(refine qe ?_ zA0 zA0 (λW hW _=>⟨W,?_,Rel.refl _ W⟩) ?_;rotate_left;(go_simp<;>with_reducible rfl))|(refine qi zA0 ?_));try simp only[Act.put,qo,qf,qc,qh,qca,GR,zA,zB,zC])
    refine qH (outOn w2.heap.size w2.heap.size A1 n1 c1 A2 n2 n3 A4 n4 c4 S) zA0 zA0 (λW hW _=>?_) (λ(bb:Nat)=>?_)
    ·have hWx:Ext w2 W:=hW;refine Qh ?_ ((HON.out hLP.out W (x2.trans hWx)).mono λe w' h=>?_)
     ·go_simp
     ·obtain⟨u,rfl,⟨b,A3',c3',rfl,h1,h2⟩,h3⟩:=h;exact⟨b,rfl,⟨A3',c3',⟨Nat.le_trans hWx.size h1.1,h1.2⟩,h2.mono hWx.size⟩,h3⟩
    simp only[Act.put,qf,qc,qh,qca,GR,zA,zB,zC];refine qH (qgi w2.heap.size) zA0 zA0 (λW hW _=>?_) (λ(mb:Nat)=>?_)
    ·have hWx:Ext w2 W:=hW;have hmm:=run_mm 93 W;refine Jg (u:=.map (E W.heap.size)) (w':=W.alloc (.map #[] 0)) ?_ ⟨W.heap.size,rfl,⟨hWx.size,zA3,Zu.empty W⟩,zN _ _⟩;go_simp
    simp only[Act.put,qf,qc,qh,qca,GR,zA,zB,zC];refine qe (.agg (ca0 (s A1 n1 c1) (s A2 n2 c2) (s A3 n3 c3) (s A4 n4 c4) bb mb)) zA0 zA0 (λW hW _=>⟨W,?_,Rel.refl _ W⟩) ?_
    ·go_simp;exact ca_eq _ _ _ _ _ _
    simp only[Act.put,qf,qc,qh,qca,GR,zA,zB,zC];refine qF (hK _ _ λW hW hF=>?_);have hWx:Ext w2 W:=hW;have HO:=(hF 4).1;have HM:=(hF 5).1;clear hF hK gP;change ∃A3' c3',_ at HO;change w2.heap.size<=mb/\mb<W.heap.size/\Zu W mb _ at HM;obtain⟨A3',c3',hon,hfr⟩:=HO;obtain⟨hm1,hm2,hWG⟩:=HM;obtain⟨hb1,hAH,hst⟩:=hon;have xW:=x2.trans hWx;have pW:=qb p2 hWx;refine zB5 ?_;have hca:=ca0_ar (s A1 n1 c1) (s A2 n2 c2) (s A3 n3 c3) (s A4 n4 c4) bb mb;have hRS:∀i,i<6->(ca0 (s A1 n1 c1) (s A2 n2 c2) (s A3 n3 c3) (s A4 n4 c4) bb mb)[i]?=(#[s A1 n1 c1,s A2 n2 c2,s A3 n3 c3,s A4 n4 c4,Y (E ⟨bb,0,I⟩),.map (E mb)]:Array X)[i]?:=λi hi=>ca0_low _ _ _ _ _ _ hi;generalize(ca0 (s A1 n1 c1) (s A2 n2 c2) (s A3 n3 c3) (s A4 n4 c4) bb mb)=ca at*;have hbx:=run_bx ca;replace hca:=zH hca;replace hRS:=zH hRS;clear hW hWx x2 p2;go_wp2_with fail;refine Qt ?_;have hcc:W.heap.size=W.heap.size:=rfl;obtain⟨cb,hcb⟩:∃cb,cb=W.heap.size:=⟨_,rfl⟩
    generalize hw3:Q W _=w3;have x3:Ext W w3:=by rw[<-hw3];exact zN _ _
    have r3:w3.heap[cb]?=E (M ca 96 (0,0)):=by rw[<-hw3];exact zI _ _ _ hcb
    have z3:w3.heap.size=cb+1:=by rw[<-hw3,hcb];simp
    clear hw3 hcc;have hbb:bb<W.heap.size:=(zG.1 hAH).1;have xw3:=xW.trans x3;have C3:Cen ⟨S,w.heap.size,w3.heap.size,cb,bb,mb,ca,s A1 n1 c1,s A2 n2 c2,s A3 n3 c3,s A4 n4 c4,s A1 n1 c1,s A2 n2 n2,s A3' n3 c3',s A4 n4 c4⟩ w3 (λ_=>I):={
     row:=r3
     c0:=hRS.out 0 zO
     c1:=hRS.out 1 zO
     c2:=hRS.out 2 zO
     c3:=hRS.out 3 zO
     c4:=hRS.out 4 zO
     c5:=hRS.out 5 zO
     map:=hWG.of_heap (x3.block _ hm2)
     known:=λa v hv=>by cases hv
     sto:=h.out.below xw3
     on:=qb hAH x3
     onb:=(h.out.below xw3).bs
     onw:=(h.out.below xw3).ws.clip
     onl:=(h.out.below xw3).last
     onn:=(hst.now.below x3).more x3.size
     onf:=λA n c e=>by have hn:=(Bys.at_ hst.now).2.2.2;have hl:=(qZ hLP.out).2.2.1;have hn3:=(Bys.at_ hst.now).1;obtain⟨b,off,hA,hb⟩:=hn zO;have e':Value.slice A3' n3 c3'=s (E A) n c:=e;rw[hA]at e';simp only[Value.slice.injEq,Option.some.injEq]at e';rw[<-e'.1];show b≠cb;omega
     low:=by
      show cb<w3.heap.size/\bb<w3.heap.size/\mb<w3.heap.size/\cb≠mb/\bb≠mb/\w3.heap.size<=w3.heap.size/\w.heap.size<=cb/\w.heap.size<=bb/\w.heap.size<=mb/\cb≠bb;have hne:bb≠mb:=by rintro rfl;obtain⟨es,clock,h1,_⟩:=hWG;rw[hAH]at h1;cases h1
      omega
     may:=hLP.out}
    rw[<-hcb];have pw3:=qb pW x3;have hcw:w.heap.size<=cb:=zO;have hw3:w.heap.size<cb:=by have:=(zG.1 pW).1;omega
    generalize hpp:(⟨S,w.heap.size,w3.heap.size,cb,bb,mb,ca,s A1 n1 c1,s A2 n2 c2,s A3 n3 c3,s A4 n4 c4,s A1 n1 c1,s A2 n2 n2,s A3' n3 c3',s A4 n4 c4⟩:CP)=p at C3;have pS:p.S=S:=by rw[<-hpp]
    have pcb:p.cb=cb:=by rw[<-hpp]
    have pmb:p.mb=mb:=by rw[<-hpp]
    have plo:p.lo=w3.heap.size:=by rw[<-hpp]
    have pca:p.ca=ca:=by rw[<-hpp]
    have hmb:w.heap.size<mb:=by have:=(zG.1 pW).1;omega
    clear hpp hbx hWG hst hAH hfr pW x3 r3 z3 hb1 hm1 hm2 hbb hcb;have kp:=qa pw3;go_wp2_with fail;have HLR:=qcM p root w3 _ C3;rw[pcb]at HLR;refine HLR.mono ?_;rintro e w4 ⟨v,g,rfl,⟨lvl,A,n,c,fk,lk,rfl,hEY⟩,hgr,hm,hg,hn⟩;have C4:=C3.after hgr hm hg hn;rw[pS]at hEY⊢;have hz3:cb<w3.heap.size:=by rw[<-pcb];exact(zG.1 C3.row).1
    have x4:Below w.heap.size w w4:=xw3.grown hg zO (λq hq=>by cases hq;rw[pmb];omega);have pw4:=(hg.block w.heap.size zO zA2).trans pw3;have z4:=hg.size;have hcb4:cb<w4.heap.size:=by rw[<-pcb];exact(zG.1 C4.row).1
    rcases hok:okL S (-1) root with _|_
    ·have HB:=zH (λW (hx:Ext w4 W)=>Ur.bad (S:=S) (next:=next) (root:=root) (dead:=dead) (x4.trans (Below.mono hx zO)) (λvs hp=>by have:=hp.top;rw[hok]at this;cases this));replace C4:=zH C4;replace C3:=zH C3;replace hok:=zH hok;clear hEY hgr hm hg hn HLR kp pw3 pw4;go_wp2_with fail;exact KG rfl rfl rfl (HB.out _ (zN _ _))
    ·obtain⟨a,ha,hGQ⟩:=JE hok;have hga:=hEY hok;rw[hok]at hga;obtain⟨n9,lv,xs,A',c',fk',lk',b',e9,-,-,hnode,hv,hBE,hsp,hcl⟩:=C4.known _ _ hga;rw[pS]at hnode hsp;simp only[Value.agg.injEq,Array.mk.injEq,List.cons.injEq,Value.int.injEq,Value.bool.injEq,Value.slice.injEq,true_and,and_true]at hv;obtain⟨rfl,⟨rfl,rfl,rfl⟩,-,-,-,-,-,-,rfl⟩:=hv;have hYX:=(qJ hnode).1;have hxs:=λy hy=>((qJ hnode).2.1 y hy).1;have hlen:xs.length<=5:=by unfold Qq Jy at hYX;simp at hYX;omega
     have hvo:Gl S root next=jg next [] (qy S lv xs):=by
      unfold Gl;rw[e9,Int.toNat_natCast,hnode];show jg next [] (qy S (lv:Int).toNat xs)=_
      rw[Int.toNat_natCast]
     have hWP:(qC S lv xs).isSome=D:=hsp.1.symm;have hVZ:0<lv->∀y∈xs,(g y.r).isSome=D:=hcl rfl;replace C4:=zH C4;replace C3:=zH C3;replace hok:=zH hok;replace hBE:=zH hBE;replace hWP:=zH hWP;replace hVZ:=zH hVZ;replace hxs:=zH hxs;replace hvo:=zH hvo;replace hnode:=zH hnode;replace hGQ:=zH hGQ;replace hga:=zH hga;replace ha:=zH ha;replace e9:=zH e9;have kp4:=qa pw4;have hzw4:w.heap.size<w4.heap.size:=zO;clear hEY hgr hm hg hn HLR kp pw3 hsp hcl hYX;go_wp2_with fail;generalize hw5:Q w4 _=w5;have x45:Ext w4 w5:=by rw[<-hw5];exact zN _ _
     clear hw5;have x5:=x4.trans (Below.mono x45 zO);have pw5:=qb pw4 x45;have C5:=C4.out.ext x45;have hHF:=hBE.out.keep x45.size (λq _ hq=>Below.cell x45 hq);have I5:VolI p w5 w5 [] (s I 0 0) ca (λ_=>0) (λ_=>0):=by
      refine⟨⟨Off.refl (zM _),?_,hca.out,λi _=>by rw[pca],(zG.1 C5.row).1⟩,World.ownsRow_nil _ _ _ _⟩;have:=C5.row
      rwa [pca]at this
     have HV:=qiS p w5 g (λ_=>0) (λ_=>0) (s A1 n1 c1) (s A2 n2 c2) (s A3 n3 c3) (s A4 n4 c4) gen root next (s A5 dead.length c5) C5 lv xs A c [] (s I 0 0) ca w5 I5 zA3 hxs.out hlen hHF (by rw[pS];exact hWP.out) hVZ.out
     rw[pcb,pS]at HV;refine HV.mono ?_;rintro e w6 ⟨F6,hm6⟩;clear HV I5;have x6:Below w.heap.size w w6:=⟨F6.os.trans x5.os,F6.tape.trans x5.tape,F6.output.trans x5.output,Nat.le_trans x5.size F6.size,λk hk=>(F6.block k (Nat.lt_of_lt_of_le hk x5.size) zO (by simp[Value.ownBlock])).trans (x5.block k hk)⟩
     have hz5:w.heap.size<w5.heap.size:=by have:=x45.size;omega
     have hzw6:w.heap.size<w6.heap.size:=by have:=F6.size;omega
     have wBL:cb<w5.heap.size:=by have:=x45.size;omega
     have hmb5:mb<w5.heap.size:=by have h1:=C3.out.low.2.2.1;rw[pmb,plo]at h1;have:=x45.size;omega
     have hcb6:cb<w6.heap.size:=by have:=x45.size;have:=F6.size;omega
     have hmb6:mb<w6.heap.size:=by have h1:=C3.out.low.2.2.1;rw[pmb,plo]at h1;have:=x45.size;have:=F6.size;omega
     rcases hgo:jg next [] (qy S lv xs)with _|vs
     ·rw[hgo]at hm6;obtain rfl:e=Z (F J 8):=hm6;have HB:=zH (Ur.bad (S:=S) (next:=next) (root:=root) (dead:=dead) x6 (λvs hp=>by have:=hp.vols;rw[hvo.out,hgo]at this;cases this));clear kp4 pw4 pw5 F6 x45;replace C5:=zH C5;go_wp2_with fail;exact KG rfl rfl rfl HB.out
     ·rw[hgo]at hm6;obtain⟨rfl,vv,ca6,V6,N6⟩:=hm6;clear N6;have pw6:=(F6.block w.heap.size hz5 zO (by simp[Value.ownBlock])).trans pw5;have kp6:=qa pw6;clear kp4 pw4 pw5 F6 x45;replace C5:=zH C5;replace V6:=zH V6;replace hgo:=zH hgo;replace hHF:=zH hHF;obtain⟨i0,hi,hz0,hz1,hz2⟩:=info_parts Tryz.info_int;go_wp2_with (at_builtin;refine Qa ?_);have hda:Rd (w6.alloc (M #[F J root] 3)) w.heap.size 1 A5 dead.length (dead.map λ(a:Int)=>Value.int J a):=by obtain⟨A',c',e,_,_,hr⟩:=hd.out;cases e;exact(hr.below x6).alloc zO _
      have o7:(w6.alloc (M #[F J root] 3)).ownsRow w6.heap.size 3 1 (s (E ⟨w6.heap.size,0,I⟩) 1 1) 1 [F J root]:=World.ownsRow_lit (base:=w6.heap.size) (e:=3) (size:=1) w6 #[F J root] 1 (zM _) zA7 rfl;refine Qs.go (QG _ rfl (.tmp 48) (.tmp 50) 30 rfl w6.heap.size 3 i0 (F J 0) 1 8 underlying30 hi hz0 hz1 hz2 rfl zA1 _ 1 [F J root] rfl o7 w.heap.size A5 dead.length c5 (dead.map λ(a:Int)=>Value.int J a) rfl hda zA8 zO zA1 zA3 ?_);intro v7 w7 o8 g7 hB7 hv7;have x67:Ext w6 w7:=Below.trans (zN w6 _) hB7;have I1:R1 w6 root dead vs v7 (F J 0) w7:=⟨0,Nat.zero_le _,rfl,by
       have e:qaK (VE root dead vs 0)=[F J root]++dead.map λ(a:Int)=>Value.int J a:=by unfold VE qaK;simp
       rw[e];exact o8,x67⟩
      have V7:=V6.out.ext x67;obtain⟨AV,cV,rfl,wFJ,wFK⟩:=qM V7.own;have kc7:w7.cell? ⟨cb,518,I⟩=E (s AV vs.length cV):=by rw[<-pcb,qa V7.t.row];exact V7.t.ar.vol
      have hvs16:vs.length<=16:=KI next _ _ _ zA3 hgo.out
      replace I1:=zH I1;replace V7:=zH V7;replace x67:=zH x67;clear o7 o8 g7 hv7 hB7 hda hi hz0 hz1 hz2 wFJ wFK kp6;go_wp2_with fail;clear kc7;go_loopw [5,57] (λv i wr=>R1 w6 root dead vs v i wr) (λ_ i _=>vs.length-(intOf i).toNat)
      case atStart=>exact I1.out
      case round=>
       obtain⟨k,hk,rfl,own,xr⟩:=hrel.ex;clear I1;by_cases hlt:k<vs.length
       ·have hBP:=hlt;obtain⟨bv,offv,eA,hbv,hBZ⟩:=(Rd.of_own (V6.out.ext xr).own).2 zO;subst eA;obtain⟨d0,d1,d2,d3⟩:=TR vs k hBP;replace d0:=hBZ _ _ d0;replace d1:=hBZ _ _ d1;replace d2:=hBZ _ _ d2;replace d3:=hBZ _ _ d3;have HSU:=zH (qgx root dead vs hBP);generalize vs[k]=u at*;clear hBZ;rw[<-Nat.add_assoc]at d1 d2 d3;obtain⟨AR,cR,rfl,hYF,hYG⟩:=qM own;obtain⟨i0,hi,hz0,hz1,hz2⟩:=info_parts Tryz.info_int;replace own:=zH own;replace xr:=zH xr;clear hYF hYG;go_upto_region 11 with fail;generalize hw9:Q wr _=w9;have x9:Ext wr w9:=by rw[<-hw9];exact zN _ _
        have u9:w9.heap[wr.heap.size]?=E (M (vol4 u) 36 (0,0)):=by rw[<-hw9];exact zI _ _ _ rfl
        have ku9:=qa u9;clear hw9 d0 d1 d2 d3 u9;go_wp2_with (at_builtin;refine Qa ?_);refine Qs.go (ZB _ rfl (.tmp 61) (.tmp 64) 30 rfl w6.heap.size 3 i0 (F J 0) 1 8 underlying30 hi hz0 hz1 hz2 rfl zA1 _ _ _ rfl (zX own.out x9) #[F J u.root] rfl rfl zA8 zO zA1 (Nat.le_trans xr.out.size x9.size) ?_);intro v8 w8 own8 _ hB8 _;have IR:R1 w6 root dead vs v8 (F J ((k:Int)+1)) w8:=⟨k+1,hBP,rfl,by rw[HSU.out,qmE];exact own8,Below.trans (Below.trans xr.out (Below.mono x9 xr.out.size)) hB8⟩
        replace IR:=zH IR;clear own8 hB8 hi hz0 hz1 hz2;go_wp2_with fail;refine⟨IR.out,?_⟩;simp[intOf];omega
       ·have hke:k=vs.length:=zO;subst hke;have VW:=V6.out.ext xr;have CW:=VW.t.cen C5.out;have hRl:(ZF root dead vs).length=1+dead.length+vs.length:=by rw[<-qby];exact qiC root dead vs (zM _)
        rw[qby,<-hRl]at own;obtain⟨AR,cR,rfl,hYF,hYG⟩:=qM own;obtain⟨N,hN⟩:∃N,N=(ZF root dead vs).length:=⟨_,rfl⟩
        rw[<-hN]at own hRl⊢;have I2:R2 p wr (s AV vs.length cV) (ZF root dead vs) (F J 0) wr:=⟨0,g,ca6,λ_=>0,λ_=>0,Nat.zero_le _,rfl,CW,VW.t.ar,Qk.zero _,(λa ha=>by cases ha),(λr hr=>by cases hr),qbL.refl _ _ _⟩
        have xw:=x6.trans (Below.mono xr zO);have pwr:=qb pw6 xr;clear hYF hYG;replace I2:=zH I2;replace CW:=zH CW;replace VW:=zH VW;replace own:=zH own;replace hRl:=zH hRl;replace hN:=zH hN;replace xw:=zH xw;replace pwr:=zH pwr;clear hrel;generalize wr=w8 at*;go_wp2_with fail;go_loopw [2,3,69] (λu v i wq=>u=Y (E ⟨cb,0,I⟩)/\v=F J 0/\R2 p w8 (s AV vs.length cV) (ZF root dead vs) i wq) (λ_ _ i _=>N-(intOf i).toNat)
        case atStart=>exact⟨rfl,rfl,I2.out⟩
        case round=>
         obtain⟨rfl,rfl,hrel⟩:=hrel;obtain⟨k,g2,ca2,refs2,nodes2,hk2,rfl,C2,N2,M2,Q2,hCC,K2⟩:=hrel.ex;clear I2;have hRL:=hRl.out;have hN2:=hN.out;by_cases hlt2:k<(ZF root dead vs).length
         ·have hlt3:k<N:=zO;have hwk:wrap64 ((k:Int)+1)=(k:Int)+1:=IntWalk.wrap64_in _ zO;replace hwk:=zH hwk;obtain⟨br,offr,eR,hbr,hBZ⟩:=(Rd.of_own own.out).2 zO;have hbr2:=(zl own.out)
          subst eR;have hbr3:=hbr2 br rfl;have dk:=hBZ k _ (rowI_get _ k hlt2);replace dk:=(World.cell?_of_block (a:=⟨br,offr+k,I⟩) (K2.block br hbr (by rw[pcb];omega) (by rw[pmb];omega))).trans dk;have HTK:=zH (List.take_succ_eq_append_getElem hlt2);have HMM:=zH (List.getElem_mem hlt2);generalize(ZF root dead vs)[k]=r at*;have HT:=tree_any (p.put ca2) (((ZF root dead vs).take k).map Int.toNat) (by rw[List.length_map,List.length_take];omega) r wr g2 refs2 nodes2 _ C2 N2 M2 Q2;change Calls _ _ #[Y (E ⟨p.cb,0,I⟩),F J r] wr _ at HT;rw[pcb]at HT;replace C2:=zH C2;replace N2:=zH N2;replace M2:=zH M2;replace Q2:=zH Q2;replace hCC:=zH hCC;replace K2:=zH K2;replace hRL:=zH hRL;replace hN2:=zH hN2;replace hlt2:=zH hlt2;replace HT:=zH HT;clear hBZ hbr2 hbr3;go_wp2_with fail;refine HT.out.mono ?_;rintro e w9 ⟨hE,t1,t2,t3,t4,t5,t6⟩;have K9:qbL p.cb p.mb w8 w9:=K2.out.trans ⟨t1,t2,t3,t4,t5⟩;rcases hokr:okL p.S (-1) r with _|_
          ·have x9:=K9.below xw.out (by have:=(zG.1 pwr.out).1;omega) (by rw[pcb];omega) (by rw[pmb];omega);have HB:=zH (Ur.bad (S:=S) (next:=next) (root:=root) (dead:=dead) x9 (λvs' hp=>by have h1:=hp.vols;rw[hvo.out,hgo.out,Option.some.injEq]at h1;subst h1;have:=hp.ok r HMM.out;rw[pS]at hokr;rw[hokr]at this;cases this));obtain rfl:e=Z (F J 8):=hE.trans (by show Ending.returned (F J (if okL p.S (-1) r=D then 0 else 8))=_;rw[hokr];rfl);replace hokr:=zH hokr;clear t1 t2 t3 t4 t5 t6 K9 x9 hE;go_wp2_with fail;exact KG rfl rfl rfl HB.out
          ·obtain⟨ca3,g3,refs3,nodes3,C9,hg9,N9,M9,Q9⟩:=t6 hokr;have IR:R2 p w8 (s AV vs.length cV) (ZF root dead vs) (F J ((k:Int)+1)) w9:=by
            refine⟨k+1,g3,ca3,refs3,nodes3,hlt2.out,rfl,C9,N9,?_,?_,?_,K9⟩
            ·rw[HTK.out,List.map_append];exact M9
            ·rw[HTK.out,List.map_append];exact Q9
            ·intro r' hr';rw[HTK.out]at hr';rcases List.mem_append.1 hr' with h1|h1
             ·exact hCC.out r' h1
             ·rw[List.mem_singleton.1 h1];exact hokr
           replace IR:=zH IR;obtain rfl:e=Z (F J 0):=hE.trans (by show Ending.returned (F J (if okL p.S (-1) r=D then 0 else 8))=_;rw[hokr];rfl);replace hokr:=zH hokr;clear hE t1 t2 t3 t4 t5 t6 K9 C9 hg9 N9 M9 Q9;go_wp2_with fail;rw[hwk.out];refine⟨⟨rfl,rfl,IR.out⟩,?_⟩;simp[intOf];omega
         ·have wGC:k=(ZF root dead vs).length:=zO;have hlt3:¬k<N:=zO;rw[wGC,List.take_length]at M2 Q2 hCC;have k9:=qa C2.row;have hkN:k=N:=zO;replace wGC:=zH wGC;replace hCC:=zH hCC;replace C2:=zH C2;replace M2:=zH M2;replace Q2:=zH Q2;replace K2:=zH K2;replace N2:=zH N2;clear hrel hk2 hlt2 hRL hN2;have hz8:w.heap.size<w8.heap.size:=(zG.1 pwr.out).1;have x9:Below w.heap.size w wr:=K2.out.below xw.out zO (by rw[pcb];omega) (by rw[pmb];omega);have pw9:=(K2.out.block w.heap.size hz8 (by rw[pcb];omega) (by rw[pmb];omega)).trans pwr.out;have kp9:=qa pw9;have rc9:=C2.out.row;change wr.heap[p.cb]?=E (M ca2 _ _)at rc9;rw[pcb]at rc9;have hcc:∀j v,(XZ refs2)[j]?=E v->wr.cell? ⟨cb,6+j,I⟩=E v:=λj v hj=>by obtain⟨h1,rfl⟩:=qkI hj;rw[qa rc9];exact N2.out.ref j h1
          have hst9:=h.out.below x9;obtain⟨A'',c'',e3,hlc,hmc,hr3⟩:=hst9.now;have hl3:S.now.length=256:=(qZ hLP.out).2.2.1;have wGR:∃b3 o3,(Value.slice A3 n3 c3)=s (E ⟨b3,o3,I⟩) 256 c3/\∀j,j<256->wr.cell? ⟨b3,o3+j,I⟩=E (F .u8 ((S.now[j]?.getD 0).toNat:Int)):=by rw[Value.slice.injEq]at e3;obtain⟨rfl,hn3,rfl⟩:=e3;obtain⟨b3,o3,hA3,_,wKN⟩:=hr3.2 zO;refine⟨b3,o3,by rw[hA3,hn3,hl3],λj hj=>?_⟩;exact wKN j _ (by rw[List.getElem?_map,zL zO];rfl)
          obtain⟨b3,o3,eN,hcN⟩:=wGR;rw[eN]at kp9;replace hcN:=zH hcN;replace x9:=zH x9;clear hst9 hr3 hlc hmc pw9 rc9;replace e3:=zH e3;replace eN:=zH eN;go_upto_region 20 with fail;go_wp2_with (refine YV rfl 94 (.tmp 82) rfl cb 6 rfl (XZ refs2) _ hcc underlying94 rfl (by rw[show(XZ refs2).length=256 by simp[XZ]];kernel_rfl) ?_);clear hcc;replace hkN:=zH hkN;go_loopw [2,3,84] (λu v i wq=>u=Y (E ⟨cb,0,I⟩)/\v=F J 0/\R3 S refs2 wr i wq) (λ_ _ i _=>256-(intOf i).toNat)
          case atStart=>exact⟨rfl,rfl,0,zO,rfl,λa h=>absurd h (Nat.not_lt_zero _),rfl⟩
          case round=>
           obtain⟨rfl,rfl,hrel⟩:=hrel;obtain⟨q,hq3,rfl,hle,rfl⟩:=hrel.ex;clear hrel;have hKQ:Qk S (Qo root dead vs) refs2 nodes2:=by have:=M2.out;rw[pS]at this;exact this
           have hSI:Qy S root next dead vs:=⟨hLP.out,h40,hok.out,hvo.out.trans hgo.out,λr hr=>by have:=hCC.out r hr;rwa [pS]at this⟩
           by_cases hl4:q<256
           ·have dN:=hcN.out q hl4;have hix:=Uz (cs:=(XZ refs2).toArray) hl4 (v:=F J (refs2 q)) (by rw[List.getElem?_toArray];exact qcn refs2 hl4);generalize hnv:(S.now[q]?.getD 0).toNat=nv at*;have hnv2:nv<256:=by rw[<-hnv];exact UInt8.toNat_lt _
            have hwq:=zH (IntWalk.wrap64_in ((q:Int)+1) zO);replace hnv:=zH hnv;replace hle:=zH hle;replace hKQ:=zH hKQ;replace hSI:=zH hSI;rcases Nat.lt_or_ge nv (refs2 q)with hg|hg
            ·have hc1:decide ((refs2 q:Int)>(nv:Int))=D:=decide_eq_true zO;have hc2:decide (nv<refs2 q)=D:=decide_eq_true hg;have HB:Ur S root next dead w (Z (Jx #[Y I,F J 8])) wr:=⟨x9.out,.inl ⟨rfl,λvs' hp=>by have h1:=hp.vols;rw[hvo.out,hgo.out,Option.some.injEq]at h1;subst h1;exact⟨refs2,nodes2,hKQ.out,λhe=>by have:=he q hl4;rw[hnv.out]at this;omega⟩⟩⟩
             replace HB:=zH HB;replace hg:=zH hg;generalize(XZ refs2).toArray=arr at*;go_wp2_with fail;exact KG rfl rfl rfl HB.out
            ·have hc1:decide ((refs2 q:Int)>(nv:Int))=U:=decide_eq_false zO;have hc2:decide (nv<refs2 q)=U:=decide_eq_false zO;have IR:R3 S refs2 wr (F J ((q:Int)+1)) wr:=⟨q+1,hl4,rfl,λa ha=>by
              rcases Nat.lt_or_ge a q with h1|h1
              ·exact hle.out a h1
              ·obtain rfl:a=q:=zO;rw[hnv.out];exact hg,rfl⟩
             replace IR:=zH IR;replace hg:=zH hg;generalize(XZ refs2).toArray=arr at*;go_wp2_with fail;refine⟨⟨rfl,rfl,IR.out⟩,?_⟩;simp[intOf];omega
           ·have hen:QQ S refs2:=λa ha=>hle a zO;have HT:Ur S root next dead w (Z (Jx #[Y (E ⟨cb,0,I⟩),F J 0])) wr:=⟨x9.out,.inr ⟨vs,refs2,nodes2,cb,ca2,s AV vs.length cV,rfl,⟨hSI,hKQ,hen,hcw,by rw[<-pcb];exact C2.out.row,N2.out,QM (own_kept VW.out.own K2.out (by rw[pcb];exact wBL) (by rw[pmb];exact hmb5)) zO⟩⟩⟩
            replace HT:=zH HT;replace hKQ:=zH hKQ;replace hSI:=zH hSI;replace hen:=zH hen;replace hle:=zH hle;go_wp2_with fail;exact KG rfl rfl rfl HT.out
def zF(vs:List Vol)(id:Int):Option Vol:=vs.find? λv=>decide (v.id=id)
abbrev Un:Vol:=⟨0,0,U,0⟩
def volQ:Option Vol->X
 |none=>Jx #[Ve Un,F J 6]
 |some v=>Jx #[Ve v,F J 0]
def VolIx(vs:List Vol)(id:Int)(u:X):Prop:=(∃(j:Nat)(hj:j<vs.length),u=F J (j:Int)/\zF vs id=E vs[j])\/(u=F J (-1)/\zF vs id=I)
theorem qiR(hj:j<vs.length)(he:vs[j].id=id)(hn:∀i (hi:i<vs.length),i<j->vs[i].id≠id):VolIx vs id (j:Int):=by refine .inl ⟨j,hj,rfl,?_⟩;unfold zF;rw[List.find?_eq_some_iff_getElem];exact⟨by simp[he],j,hj,rfl,λi hi=>by simp[hn i zO hi]⟩
theorem qdH(hn:∀i (hi:i<vs.length),vs[i].id≠id):VolIx vs id (F J (-1)):=by refine .inr ⟨rfl,?_⟩;unfold zF;rw[List.find?_eq_none];intro v hv;obtain⟨i,hi,rfl⟩:=List.mem_iff_getElem.1 hv;simp[hn i hi]
set_option maxRecDepth 100000 in
theorem vol1_any(v:Vol)(bi:Nat)(id:Int)(w:O)(h:w.heap[bi]?=E (M #[F .u32 id] 29)):Calls prog 61 #[Ve v,Y bi] w (Ret (.bool (decide (v.id=id))) w):=by
 have ki:=qa h;have zi:bi<w:=(zG.1 h).1;clear h;go_enter func61,ntmps61;by_cases he:v.id=id
 ·have h1:(v.id==id)=D:=by rw[beq_iff_eq];exact he
  rw[decide_eq_true he];replace he:=zH he;go_wp2;go_ret;exact⟨rfl,zN _ _⟩
 have h1:(v.id==id)=U:=by rw[beq_eq_false_iff_ne];exact he
 rw[decide_eq_false he];replace he:=zH he;go_wp2;go_ret;exact⟨rfl,zN _ _⟩
set_option maxRecDepth 100000 in
theorem vidx_any(A c)(vs:List Vol)(hl:vs.length<=16)(bi:Nat)(id:Int)(w:O)(h:w.heap[bi]?=E (M #[F .u32 id] 29))(hr:Rd w w 4 A vs.length (jO vs)):Calls prog 60 #[s A vs.length c,.func (.func 61) #[] #[Y bi]] w (zv (λu _=>VolIx vs id u) w):=by
 replace hr:=zH hr;go_enter func60,ntmps60;go_wp2_with fail;go_loopw [8] (λi wr=>∃k:Nat,k<=vs.length/\i=F J (k:Int)/\Ext w wr/\∀j (hj:j<vs.length),j<k->vs[j].id≠id) (λi _=>vs.length-(intOf i).toNat)
 case atStart=>exact⟨0,Nat.zero_le _,rfl,Ext.refl _,λj _ hj=>absurd hj (Nat.not_lt_zero _)⟩
 case round=>
  obtain⟨k,hk,rfl,xr,hno⟩:=hrel;replace hno:=zH hno;by_cases hlt:k<vs.length
  ·obtain⟨bv,offv,rfl,hbv,hBZ⟩:=hr.out.2 zO;obtain⟨d0,d1,d2,d3⟩:=TR vs k hlt;replace d0:=Ext.cell xr (hBZ _ _ d0);replace d1:=Ext.cell xr (hBZ _ _ d1);replace d2:=Ext.cell xr (hBZ _ _ d2);replace d3:=Ext.cell xr (hBZ _ _ d3);have HAT:=zH (λhe=>qiR (id:=id) hlt he λi hi hik=>hno.out i hi hik);have HNO:=zH (λ(he:vs[k].id≠id) j (hj:j<vs.length) (hjk:j<k+1)=>by
    rcases Nat.lt_or_ge j k with h1|h1
    exact hno.out j hj h1
    ·obtain rfl:j=k:=zO;exact he)
   generalize vs[k]=u at*;rw[<-Nat.add_assoc]at d1 d2 d3;clear hBZ;have hLF:=zH (IntWalk.wrap64_in ((k:Int)+1) zO);have hV:=vol1_any u bi id wr (qb h xr);go_wp2_with fail;refine hV.mono ?_;rintro e w2 ⟨rfl,hB⟩;clear d0 d1 d2 d3 hV;by_cases he:u.id=id
   ·rw[decide_eq_true he];have HQ:=zH (HAT.out he);clear HAT HNO;replace he:=zH he;go_wp2_with fail;refine bodyPost_ret (v:=F J (k:Int)) ?_ rfl ⟨_,rfl,HQ.out,Ext.trans xr hB⟩;simp[results,results60,go_sem]
   rw[decide_eq_false he];have HQ:=zH (HNO.out he);clear HAT HNO;replace he:=zH he;have hw1:=hLF.out;go_wp2_with fail;refine⟨⟨k+1,hlt,rfl,Ext.trans xr hB,λj hj hjk=>HQ.out j hj hjk⟩,?_⟩;simp[intOf];omega
  obtain rfl:k=vs.length:=zO;have HQ:=zH (qdH (id:=id) λi hi=>hno.out i hi hi);go_wp2_with fail;refine bodyPost_ret (v:=F J (-1)) ?_ rfl ⟨_,rfl,HQ.out,xr⟩;simp[results,results60,go_sem]
def thawO:Obj->Obj
 |.cells c t f=>if f=(0,0)then M c t f else .coro I
 |o=>o
def thaw(W:O):O:={W with heap:=W.heap.map thawO}
theorem YP(W:O):(thaw W).heap.size=W:=by simp[thaw]
theorem Ki(W:O)(k:Nat):(thaw W).heap[k]?=(W.heap[k]?).map thawO:=by simp[thaw]
theorem thaw_row{b:Nat}{cs:Array X}{t:TypeId}(h:W.heap[b]?=E (M cs t)):(thaw W).heap[b]?=E (M cs t):=by rw[Ki,h];rfl
theorem jz(h:w'.heap[q.block]?=w.heap[q.block]?):(thaw w').cell? q=(thaw w).cell? q:=
 World.cell?_of_block (by rw[Ki,Ki,h])
theorem qaP(h:(thaw W).cell? q=v):W.cell? q=v/\W.frozen? q=U:=by
 unfold World.cell? at h;rw[Ki]at h;unfold World.cell? World.frozen?;cases hb:W.heap[q.block]? with
 |none=>rw[hb]at h;cases h
 |some o=>
  rw[hb]at h;cases o with
  |cells c e f=>
   simp only[Option.map_some,thawO]at h;by_cases hf:f=(0,0)
   subst hf;rw[if_pos rfl]at h;exact⟨h,zA3⟩;rw[if_neg hf]at h;cases h
  |_=>simp only[Option.map_some,thawO]at h;cases h
theorem YO{b:Nat}{cs:Array X}{t:TypeId}(h:W.heap[b]?=E (M cs t))(j:Nat):(thaw W).cell? (b,j)=W.cell? (b,j):=by rw[qa h,qa (thaw_row h)]
def Thaw(W:O)(v:X):Prop:=∀a n c,v=s (E a) n c->0<n->∃cs t,W.heap[a.block]?=E (M cs t)
theorem Thaw.of_own{base n size:Nat}{xs:List X}(h:w.ownsRow base e size v n xs):Thaw w v:=by
 intro a n' c ev hn;rcases h.2 with⟨rfl,rfl⟩|⟨g,cap,cur,rfl,_,hg,_⟩
 cases ev;cases ev;exact⟨_,_,hg⟩
def NewB(lo:Nat)(v:X)(l:List UInt8)(W:O):Prop:=Bys W W v l/\ZV lo v/\Thaw W v
theorem NewB.of_own(h:w.ownsRow base e 1 v n (l.map bv)):NewB base v l w:=⟨Bys.of_own h,ZV.of_own h,Thaw.of_own h⟩
theorem NewB.thaw(h:NewB lo v l W):Bys (thaw W) W v l:=by obtain⟨⟨A,c,e,hc,hm,hr⟩,_,ht⟩:=h;refine⟨A,c,e,hc,hm,hr.1,λhn=>?_⟩;obtain⟨b,off,e2,hb,hcs⟩:=hr.2 hn;obtain⟨cs,t,hAH⟩:=ht ⟨b,off,I⟩ l.length c (by rw[e,e2]) hn;exact⟨b,off,e2,hb,λj u hu=>(YO hAH _).trans (hcs j u hu)⟩
theorem NewB.from(h:NewB lo v l W):ZV lo v:=h.2.1
section
variable {base:Nat} {e:TypeId} {size lo:Nat} {v:Value} {n:Nat} {xs:List Value} {f:Value->List Value} {l:List UInt8}
end
section
variable {α:Type} {base lo:Nat} {e:TypeId} {size:Nat} {g:α->Value->List Value} {by_:α->List UInt8}
end
theorem Rd.some_{B size n:Nat}{xs:List X}(h:Rd w B size A n xs)(hk:∀p v,w.cell? p=E v->w'.cell? p=E v):Rd w' B size A n xs:=
 ⟨h.1,λhn=>by obtain⟨b,off,e,hb,hc⟩:=h.2 hn;exact⟨b,off,e,hb,λj u hu=>hk _ _ (hc j u hu)⟩⟩
theorem Bys.some_(h:Bys w B v l)(hk:∀p v,w.cell? p=E v->w'.cell? p=E v):Bys w' B v l:=by obtain⟨A,c,e,hc,hm,hr⟩:=h;exact⟨A,c,e,hc,hm,hr.some_ hk⟩
theorem Qi.some_{v1 v2 v3 v4:X}(h:Qi w B v1 v2 v3 v4 S)(hk:∀p v,w.cell? p=E v->w'.cell? p=E v):Qi w' B v1 v2 v3 v4 S:=by obtain⟨⟨vs,A,c,e,h1,h2,h3,h4⟩,⟨ps,e',⟨A',c',e1,e2,e3,hr⟩,hp⟩,h5,h6⟩:=h;exact⟨⟨vs,A,c,e,h1,h2,h3.some_ hk,λi u l hu hl=>(h4 i u l hu hl).some_ hk⟩,⟨ps,e',⟨A',c',e1,e2,e3,hr.some_ hk⟩,λp h=>⟨(hp p h).1,(hp p h).2.some_ hk⟩⟩,h5.some_ hk,h6.some_ hk⟩
def mixW(lo N:Nat)(W C:O):O:={C with heap:=Array.ofFn (n:=max N C) λk=>if lo<=k.1/\k.1<N then W.heap[k.1]?.getD (.deferred I)else C.heap[k.1]?.getD (.deferred I)}
theorem qib(lo N:Nat)(W C:O)(q:Addr):(mixW lo N W C).cell? q=if lo<=q.block/\q.block<N then W.cell? q else C.cell? q:=by
 unfold World.cell?;have e:(mixW lo N W C).heap[q.block]?=if q.block<max N C then E (if lo<=q.block/\q.block<N then W.heap[q.block]?.getD (.deferred I)else C.heap[q.block]?.getD (.deferred I))else I:=by simp only[mixW,Array.getElem?_ofFn];split<;>rfl
 rw[e];by_cases h:lo<=q.block/\q.block<N;rw[if_pos zO,if_pos h];simp only[if_pos h];cases W.heap[q.block]?<;>rfl;simp only[if_neg h];split;rename_i h1;split at h1;cases hq:C.heap[q.block]? with
 |none=>rw[hq]at h1;cases h1
 |some o=>rw[hq]at h1;simp only[Option.getD_some,Option.some.injEq]at h1;subst h1;rfl
 cases h1;rename_i h1;split at h1;cases hq:C.heap[q.block]? with
 |none=>rfl
 |some o=>
  cases o with
  |cells c e f=>exact absurd (by rw[hq];rfl) (h1 c e f)
  |_=>rfl
 rename_i h2;rw[Array.getElem?_eq_none zO]
theorem qmw(hm:∀A C:O,(∀q v,A.cell? q=E v->C.cell? q=E v)->Φ A->Φ C)(h:∀W2:O,(∀q:Addr,lo<=q.block->q.block<N->W2.cell? q=W.cell? q)->Φ W2):∀C:O,(∀q v,lo<=q.block->q.block<N->W.cell? q=E v->C.cell? q=E v)->Φ C:=λC h3=>
 hm (mixW lo N W C) C (λq v hq=>by
  rw[qib]at hq;split at hq;rename_i h1;exact h3 q v h1.1 h1.2 hq
  ·exact hq) (h _ λq h1 h2=>by rw[qib,if_pos ⟨h1,h2⟩])
structure Qj(W W':O):Prop where
 size:W.heap.size<=W'
 same:∀(k:Nat)(o:Obj),W.heap[k]?=o->o.isCells=D->W'.heap[k]?=o
theorem Qj.refl(W:O):Qj W W:=⟨zM _,λ_ _ h _=>h⟩
theorem Qj.row(h:Qj W W'){b:Nat}{cs:Array X}(hr:W.heap[b]?=E (M cs ty fz)):W'.heap[b]?=E (M cs ty fz):=h.same b _ hr rfl
theorem Qj.cell(h:Qj W W')(hq:W.cell? q=v):W'.cell? q=v:=by
 unfold World.cell? at*;cases hb:W.heap[q.block]? with
 |none=>rw[hb]at hq;cases hq
 |some o=>
  cases o with
  |cells c e f=>
   rw[hb]at hq;rw[h.row hb];exact hq
  |_=>rw[hb]at hq;cases hq
theorem Qj.grown{Wb:O}{row:Option Nat}(h:Qj Wb W)(hg:W.grownBy W' row)(hr:∀r,row=E r->∃o:Obj,W.heap[r]?=o/\o.isCells=U):Qj Wb W':=⟨Nat.le_trans h.size hg.size,λk o hk ho=>by have h1:=h.same k o hk ho;refine(hg.block k (zG.1 h1).1 λe=>?_).trans h1;obtain⟨o',h2,h3⟩:=hr k e.symm;rw[h1]at h2;cases h2;rw[ho]at h3;cases h3⟩
def PosZ(lo:Nat)(W W':O):Prop:=∀(q:Addr)(v:X),lo<=q.block->q.block<W->(thaw W).cell? q=v->W'.cell? q=v
theorem Ext.thaw(h:Ext w w'):Ext (thaw w) (Go.Proofs.YtmeadnlmepcmbaaGreat.thaw w'):=⟨h.os,h.tape,h.output,by rw[YP,YP];exact h.size,λk hk=>by rw[YP]at hk;rw[Ki,Ki,h.block k hk]⟩
theorem Bys.of_ownT(h:w.ownsRow base e 1 v n (l.map bv)):Bys (thaw w) w v l:=(NewB.of_own h).thaw
def NewSto(lo:Nat)(S:Sto)(u:X)(W:O):Prop:=∃A1 c1 A2 c2 A3 c3 A4 c4,u=Qp A1 S.bs.length c1 A2 S.ws.length c2 A3 S.now.length c3 A4 S.last.length c4 /\
 ∀C:O,PosZ lo W C->Qi C W (s A1 S.bs.length c1) (s A2 S.ws.length c2) (s A3 S.now.length c3) (s A4 S.last.length c4) S
theorem jU(h:∀k,lo<=k->k<W.heap.size->W'.heap[k]?=W.heap[k]?):PosZ lo W W':=λq v h1 h2 h3=>(World.cell?_of_block (h q.block h1 h2)).trans (qaP h3).1
theorem Zv{B b:Nat}(h:Below B w0 w)(hb:B<=b)(x0 x1 x2 x3:X):Below B w0 ((((w.setCell b x0).setCell (b,1) x1).setCell (b,2) x2).setCell (b,3) x3):=
 Below.setCell (Below.setCell (Below.setCell (Below.setCell h (p:=⟨b,0,I⟩) hb _) (p:=⟨b,1,I⟩) hb _) (p:=⟨b,2,I⟩) hb _) (p:=⟨b,3,I⟩) hb _
theorem KO{b:Nat}(h:w.heap[b]?=E (M #[y0,y1,y2,y3] ty))(x0 x1 x2 x3:X):((((w.setCell b x0).setCell (b,1) x1).setCell (b,2) x2).setCell (b,3) x3).heap[b]?=E (M #[x0,x1,x2,x3] ty):=qj (qj (qj (qj h 0 x0) 1 x1) 2 x2) 3 x3
theorem VV{b:Nat}{y4 y5 y6 y7:X}(h:w.heap[b]?=E (M #[y0,y1,y2,y3,y4,y5,y6,y7] ty))(x0 x1 x2 x3 x4 x5 x6 x7:X):((((((((w.setCell b x0).setCell (b,1) x1).setCell (b,2) x2).setCell (b,3) x3).setCell (b,4) x4).setCell (b,5) x5).setCell (b,6) x6).setCell (b,7) x7).heap[b]?=E (M #[x0,x1,x2,x3,x4,x5,x6,x7] ty):=by have h1:=qj (qj (qj (qj h 0 x0) 1 x1) 2 x2) 3 x3;exact qj (qj (qj (qj (cs:=#[x0,x1,x2,x3,y4,y5,y6,y7]) h1 4 x4) 5 x5) 6 x6) 7 x7
theorem jM{B b:Nat}(h:Below B w0 w)(hb:B<=b)(x0 x1 x2 x3 x4 x5 x6 x7:X):Below B w0 ((((((((w.setCell b x0).setCell (b,1) x1).setCell (b,2) x2).setCell (b,3) x3).setCell (b,4) x4).setCell (b,5) x5).setCell (b,6) x6).setCell (b,7) x7):=
 Below.setCell (Below.setCell (Below.setCell (Below.setCell (Zv h hb x0 x1 x2 x3) (p:=⟨b,4,I⟩) hb _) (p:=⟨b,5,I⟩) hb _) (p:=⟨b,6,I⟩) hb _) (p:=⟨b,7,I⟩) hb _
theorem jY{b k:Nat}(hk:k≠b)(x0 x1 x2 x3 x4 x5 x6 x7:X):((((((((w.setCell b x0).setCell (b,1) x1).setCell (b,2) x2).setCell (b,3) x3).setCell (b,4) x4).setCell (b,5) x5).setCell (b,6) x6).setCell (b,7) x7).heap[k]?=w.heap[k]?:=by have hs:=λ(A:O)(j:Nat)(v:X)=>zJ A ⟨b,j,I⟩ v k hk;rw[hs,hs,hs,hs,hs,hs,hs,hs]
def VolFQ(S:Sto)(root next:Int)(dead:List Int)(id:Int)(w:O)(e:Ending)(w':O):Prop:=Below w w w' /\
 ((e=Z (Jx #[Ve Un,F J 8])/\∀vs,Qy S root next dead vs->∃refs nodes,Qk S (Qo root dead vs) refs nodes/\¬QQ S refs) \/
  ∃vs refs nodes,Qy S root next dead vs/\Qk S (Qo root dead vs) refs nodes/\QQ S refs/\e=Z (volQ (zF vs id)))
theorem qcD{b:Nat}{u:Vol}(h4:a.tmps[4]?.getD undef=Y b)(h5:a.tmps[5]?.getD undef=v)(hd:a.defers=[])(hAH:W.heap[b]?=E (M #[F .u32 u.id,F J u.root,.bool u.fz,F .u32 u.frm] 36))(hR:R (Z (Jx #[Ve u,v])) W):bodyPost prog Tryz.f17 R .ret a W:=by refine bodyPost_ret (v:=Jx #[Ve u,v]) ?_ hd hR;have k:=qa hAH;simp[results,results17,go_sem,h4,h5,k]
set_option maxRecDepth 100000 in
theorem qcC(A1 n1 c1 A2 n2 c2 A3 n3 c3 A4 n4 c4)(gen root next:Int)(A5 c5)(S:Sto)(dead:List Int)(id:Int)(w:O)(h:Qi w w (s A1 n1 c1) (s A2 n2 c2) (s A3 n3 c3) (s A4 n4 c4) S)(hd:ZM w w (s A5 dead.length c5) dead):Calls prog 17 #[.agg (qQ (s A1 n1 c1) (s A2 n2 c2) (s A3 n3 c3) (s A4 n4 c4) gen root next (s A5 dead.length c5)),F .u32 id] w (VolFQ S root next dead id w):=by
 have HT:=zH (λW (hx:Ext w W)=>YN A1 n1 c1 A2 n2 c2 A3 n3 c3 A4 n4 c4 gen root next A5 c5 S dead W (h.ext hx) (by obtain⟨A,c,e,q1,q2,q3⟩:=hd;exact⟨A,c,e,q1,q2,(q3.below hx).more hx.size⟩));clear h hd;go_enter func17,ntmps17;go_wp2_with fail;generalize hw1:(Q (Q (Q w _) _) _)=w1;have x1:Ext w w1:=by rw[<-hw1];exact((zN _ _).trans (zN _ _)).trans (zN _ _)
 have ri1:w1.heap[w.heap.size+1]?=E (M #[F .u32 id] 29):=by rw[<-hw1];exact(zK _ _ _ zA3).trans (zI _ _ _ zA3)
 have rv1:w1.heap[w.heap.size+2]?=E (M #[F .u32 0,F J 0,.bool U,F .u32 0] 36):=hw1▸zI _ _ _ zA3;clear hw1;refine(HT.out w1 x1).mono ?_;clear HT;rintro e w2 ⟨hB,hQ⟩;have x2:Ext w w2:=Ext.trans x1 hB;have ri2:=qb ri1 hB;have rv2:=qb rv1 hB;have z2:w.heap.size+2<w2:=(zG.1 rv2).1;have kv2:=qa rv2;have fv2:=qd rv2;rcases hQ with⟨rfl,hno⟩|⟨vs,refs,nodes,cb,ca,vv,rfl,hT⟩
 ·replace hno:=zH hno;clear hB x1 ri1 rv1;go_wp2_with fail;exact qcD (b:=w.heap.size+2) (u:=Un) rfl rfl rfl (KO rv2 _ _ _ _) ⟨Zv x2 zO _ _ _ _,.inl ⟨rfl,hno.out⟩⟩
 have hvs:vs.length<=16:=by have hv:=hT.pool.vols;unfold Gl at hv;split at hv;cases hv;exact KI _ _ _ _ zA3 hv
 obtain⟨AV,cV,rfl,wFJ,wFK⟩:=qM hT.own;have hrd:=Rd.of_own hT.own;have kc:w2.cell? (cb,518)=E (s AV vs.length cV):=by rw[qa hT.row];exact hT.ar.vol
 have HIX:=zH (vidx_any AV cV vs hvs (w.heap.size+1) id w2 ri2 hrd);have HR:=zH hrd;replace hT:=zH hT;clear hB x1 ri1 rv1 hrd;go_wp2_with fail;refine HIX.out.mono ?_;clear HIX;rintro e w3 ⟨u,rfl,hu,hB⟩;have x3:Ext w w3:=Ext.trans x2 hB;have rv3:=qb rv2 hB;have kv3:=qa rv3;have fv3:=qd rv3;have kc3:=Ext.cell hB kc;rcases hu with⟨j,hj,rfl,hv⟩|⟨rfl,hv⟩
 ·obtain⟨bv,offv,rfl,hbv,hBZ⟩:=HR.out.2 zO;obtain⟨d0,d1,d2,d3⟩:=TR vs j hj;replace d0:=Ext.cell hB (hBZ _ _ d0);replace d1:=Ext.cell hB (hBZ _ _ d1);replace d2:=Ext.cell hB (hBZ _ _ d2);replace d3:=Ext.cell hB (hBZ _ _ d3);generalize vs[j]=u at*;rw[<-Nat.add_assoc]at d1 d2 d3;have hj1:decide ((j:Int)<0)=U:=decide_eq_false zO;replace⟨hv,x3⟩:=zH2 hv x3;clear hBZ kv2 fv2 rv2 ri2 kc x2 hB z2;go_wp2_with fail;exact qcD (b:=w.heap.size+2) (u:=u) rfl rfl rfl (KO rv3 _ _ _ _) ⟨Zv x3.out zO _ _ _ _,.inr ⟨vs,refs,nodes,hT.out.pool,hT.out.cnt,hT.out.enough,by rw[hv.out];rfl⟩⟩
 replace⟨hv,x3⟩:=zH2 hv x3;clear kv2 fv2 rv2 ri2 kc x2 hB z2;go_wp2_with fail;exact qcD (b:=w.heap.size+2) (u:=Un) rfl rfl rfl (KO rv3 _ _ _ _) ⟨Zv x3.out zO _ _ _ _,.inr ⟨vs,refs,nodes,hT.out.pool,hT.out.cnt,hT.out.enough,by rw[hv.out];rfl⟩⟩
theorem TY(a b:K3):Qm a b=D↔(a.1<b.1\/(a.1=b.1/\(a.2.1<b.2.1\/(a.2.1=b.2.1/\a.2.2<b.2.2)))):=by simp[Qm,YE]
theorem YF(a b:K3):Qm a b=U↔¬(a.1<b.1\/(a.1=b.1/\(a.2.1<b.2.1\/(a.2.1=b.2.1/\a.2.2<b.2.2)))):=by rw[<-Bool.not_eq_true,TY]
def leK(a b:K3):Prop:=Qm b a=U
theorem GD(a:K3):leK a a:=by unfold leK;rw[YF];omega
theorem qcK{a b c:K3}(h:leK a b)(h':Qm b c=D):Qm a c=D:=by unfold leK at h;rw[YF]at h;rw[TY]at*;omega
theorem Gb{a b c:K3}(h:Qm a b=D)(h':leK b c):Qm a c=D:=by unfold leK at h';rw[YF]at h';rw[TY]at*;omega
theorem Kf{a b:K3}(h:Qm a b=D):leK a b:=by unfold leK;rw[YF];rw[TY]at h;omega
theorem vU{a b c:K3}(h:Qm a b=D)(h':Qm b c=D):Qm a c=D:=Gb h (Kf h')
theorem Xl(a:K3):Qm a a=U:=GD a
theorem qfX{a b:K3}(h:leK a b)(h':leK b a):a=b:=by obtain⟨a1,a2,a3⟩:=a;obtain⟨b1,b2,b3⟩:=b;unfold leK at*;rw[YF]at*;simp only[Prod.mk.injEq]at*;omega
structure Srt(f l:K3)(ys:List It):Prop where
 ord:ys.Pairwise λa b=>Qm (qz a) (qz b)=D
 low:∀x∈ys,leK f (qz x)
 high:∀x∈ys,leK (qz x) l
 le:leK f l
theorem Srt.append{f l f' l':K3}(h:Srt f l ys)(h':Srt f' l' zs)(hl:Qm l f'=D):Srt f l' (ys++zs):=
 ⟨List.pairwise_append.2 ⟨h.ord,h'.ord,λa ha b hb=>qcK (h.high a ha) (Gb hl (h'.low b hb))⟩,
  λx hx=>(List.mem_append.1 hx).elim (h.low x) λhx=>Kf (qcK h.le (Gb hl (h'.low x hx))),
  λx hx=>(List.mem_append.1 hx).elim (λhx=>Kf (qcK (h.high x hx) (Gb hl h'.le))) (h'.high x),
  Kf (qcK h.le (Gb hl h'.le))⟩
theorem Srt.one(x:It){l:K3}(h:leK (qz x) l):Srt (qz x) l [x]:=
 ⟨List.pairwise_singleton _ _,λy hy=>by rw[List.mem_singleton.1 hy];exact GD _,λy hy=>by rw[List.mem_singleton.1 hy];exact h,h⟩
theorem Qc:∀(h:Nat)(xs ys:List It),qy S h (xs++ys)=qy S h xs++qy S h ys
 |0,_,_=>rfl
 |h+1,xs,ys=>by rw[ZG,ZG,ZG,List.flatMap_append]
theorem UC(S:Sto)(h:Nat)(H1:∀y f l,ju S h y=E (f,l)->Srt f l (qy S h [y]))(xs:List It):∀(k:Nat)(_:k<=xs.length)(p:K3×K3),qC S h (xs.take k)=E (E p)->Srt p.1 p.2 (qy S h (xs.take k))/\Srt p.1 p.2 (xs.take k):=by
 intro k;induction k with
 |zero=>intro _ p e;rw[List.take_zero]at e;cases e
 |succ k ih=>
  intro hk p e;have hlt:k<xs.length:=hk;rw[vC hlt]at e;unfold Jf at e;rw[List.take_succ_eq_append_getElem hlt,Qc];rcases hO:ju S h xs[k]with _|⟨f,l⟩
  rw[hO]at e;rcases hA:qC S h (xs.take k)with _|a
  rw[hA]at e;cases e;rw[hA]at e;cases e;have h1:=H1 _ _ _ hO;rw[hO]at e;rcases hA:qC S h (xs.take k)with _|_|q
  rw[hA]at e;cases e;obtain rfl:k=0:=by
   rcases Nat.eq_zero_or_pos k with h0|h0
   exact h0;exact absurd hA (ZS h0 zO)
  rw[hA]at e;simp only at e;split at e;rename_i hf;cases e;subst hf;rw[List.take_zero,JN];exact⟨h1,Srt.one _ h1.le⟩;cases e;obtain⟨i1,i2⟩:=ih zO q hA;rw[hA]at e;simp only at e;split at e;rename_i hf;split at e;rename_i hl;cases e;subst hf;exact⟨i1.append h1 hl,i2.append (Srt.one _ h1.le) hl⟩;cases e;cases e
theorem qge(S:Sto):∀(h:Nat)(y:It)(f l:K3),ju S h y=E (f,l)->Srt f l (qy S h [y])
 |0,y,f,l,e=>by unfold ju at e;split at e;cases e;exact Srt.one y (GD _);cases e
 |h+1,y,f,l,e=>by
  rw[Ji]at e;unfold vT at e;split at e;rcases hn:qm S y.r.toNat with _|⟨lvl,xs⟩
  rw[hn]at e;cases e;rw[hn]at e;simp only at e;split at e;rcases hs:qC S h xs with _|_|q
  rw[hs]at e;cases e;rw[hs]at e;cases e;rw[hs]at e;cases e;have:=(UC S h (qge S h) xs xs.length (zM _) _ (by rw[List.take_length];exact hs)).1;rw[List.take_length]at this;rw[ZG];simp only[List.flatMap_cons,List.flatMap_nil,List.append_nil,hn];exact this;cases e;cases e
theorem qdB{p:K3×K3}(hs:qC S h xs=E (E p)):Srt p.1 p.2 (qy S h xs)/\Srt p.1 p.2 xs:=by
 have:=UC S h (qge S h) xs xs.length (zM _) p (by rw[List.take_length];exact hs)
 rwa [List.take_length]at this
theorem jd(hs:(qC S h xs).isSome=D):(qy S h xs).Pairwise (λa b=>Qm (qz a) (qz b)=D)/\xs.Pairwise (λa b=>Qm (qz a) (qz b)=D):=by
 rcases hq:qC S h xs with _|_|p
 rw[hq]at hs;cases hs;rcases Nat.eq_zero_or_pos xs.length with h0|h0
 obtain rfl:=List.eq_nil_of_length_eq_zero h0;rw[JN];exact⟨List.Pairwise.nil,List.Pairwise.nil⟩;exact absurd (by rw[List.take_length];exact hq) (ZS (S:=S) (h:=h) h0 (zM xs.length));exact⟨(qdB hq).1.ord,(qdB hq).2.ord⟩
theorem Yq(h:xs.Pairwise λa b=>Qm (qz a) (qz b)=D)(hij:i<j)(hj:j<xs.length):Qm (qz (xs[i]'(by omega))) (qz xs[j])=D:=List.pairwise_iff_getElem.1 h i j _ hj hij
theorem KE(hs:(qC S h xs).isSome=D)(k:Nat):(qC S h (xs.take k)).isSome=D:=by
 rcases hq:qC S h (xs.take k)with _|q
 rw[qfp hq]at hs;cases hs;rfl
def qD(xs:List It)(k:K3):Nat:=(xs.filter λx=>Qm (qz x) k).length
theorem JI(xs:List It)(k:K3):qD xs k<=xs.length:=List.length_filter_le _ _
theorem qkh(h:i<xs.length):qD (xs.take (i+1)) k=qD (xs.take i) k+(if Qm (qz xs[i]) k=D then 1 else 0):=by unfold qD;rw[List.take_succ_eq_append_getElem h,List.filter_append,List.length_append];congr 1;by_cases hl:Qm (qz xs[i]) k=D;rw[if_pos hl];simp[hl];rw[if_neg hl];simp[hl]
theorem JH:∀{xs:List It}{k:K3},xs.Pairwise (λa b=>Qm (qz a) (qz b)=D)->∀i (h:i<xs.length),(Qm (qz xs[i]) k=D↔i<qD xs k)
 |[],_,_,i,h=>absurd h (Nat.not_lt_zero _)
 |x::r,k,ho,i,h=>by
  rw[List.pairwise_cons]at ho;by_cases hx:Qm (qz x) k=D;have e:qD (x::r) k=qD r k+1:=by simp[qD,hx]
  cases i with
  |zero=>simp[hx,e]
  |succ i=>rw[e];have:=JH (k:=k) ho.2 i (by simpa using h);simpa using this
  have hCC:∀y∈r,Qm (qz y) k=U:=λy hy=>by
   rcases hz:Qm (qz y) k with _|_
   rfl;exact absurd (vU (ho.1 y hy) hz) hx
  have e:qD (x::r) k=0:=by
   unfold qD;have:r.filter (λx=>Qm (qz x) k)=[]:=by rw[List.filter_eq_nil_iff];intro y hy;simp[hCC y hy]
   simp[hx,this]
  rw[e];cases i with
  |zero=>simp[hx]
  |succ i=>
   have hi:i<r.length:=by simpa using h
   simp[hCC r[i] (List.getElem_mem hi)]
theorem qdo(h:i<xs.length)(hp:p xs[i]=D)(hn:∀j (hj:j<xs.length),i<j->p xs[j]=U):xs.reverse.find? p=E xs[i]:=by
 have e:xs=xs.take i++xs[i]::xs.drop (i+1):=by rw[<-List.drop_eq_getElem_cons h,List.take_append_drop]
 have e2:xs.reverse=(xs.drop (i+1)).reverse++xs[i]::(xs.take i).reverse:=by
  conv=>lhs;rw[e]
  simp
 rw[e2,List.find?_append];have e3:(xs.drop (i+1)).reverse.find? p=I:=by rw[List.find?_eq_none];intro y hy;rw[List.mem_reverse]at hy;obtain⟨j,hj,rfl⟩:=List.mem_iff_getElem.1 hy;rw[List.length_drop]at hj;rw[List.getElem_drop];simp[hn (i+1+j) zO zO]
 rw[e3,List.find?_cons_of_pos hp];rfl
theorem qiB(hn:∀j (hj:j<xs.length),p xs[j]=U):xs.reverse.find? p=I:=by rw[List.find?_eq_none];intro y hy;rw[List.mem_reverse]at hy;obtain⟨j,hj,rfl⟩:=List.mem_iff_getElem.1 hy;simp[hn j hj]
def kI(xs:List It)(k:K3):Option It:=xs.reverse.find? λx=>!Qm k (qz x)
def qhT(xs:List It)(k:K3):Option It:=xs.reverse.find? λx=>decide (qz x=k)
def oneT(S:Sto)(k:K3):Nat->List It->Option It
 |0,xs=>qhT xs k
 |h+1,xs=>match kI xs k with
  |none=>I
  |some y=>match qm S y.r.toNat with
   |none=>I
   |some (_,ys)=>oneT S k h ys
theorem qim(S:Sto)(k:K3)(xs:List It):oneT S k 0 xs=qhT xs k:=rfl
theorem Kw(hd:kI xs k=y)(hn:qm S y.r.toNat=E (lvl,ys)):oneT S k (h+1) xs=oneT S k h ys:=by show(match kI xs k with|none=>I|some y=>match qm S y.r.toNat with|none=>I|some (_,ys)=>oneT S k h ys)=_;rw[hd];simp only;rw[hn]
theorem qil(hd:kI xs k=I):oneT S k (h+1) xs=I:=by show(match kI xs k with|none=>I|some y=>match qm S y.r.toNat with|none=>I|some (_,ys)=>oneT S k h ys)=_;rw[hd]
section
variable {xs:List It} {k:K3} (ho:xs.Pairwise fun a b=>Qm (qz a) (qz b)=true)
include ho
theorem leaf_is(hp:qD xs k<xs.length)(he:qz (xs[qD xs k]'hp)=k):qhT xs k=E xs[qD xs k]:=by refine qdo hp (by simp[he]) λj hj hlt=>?_;have:=Yq ho hlt hj;rw[he]at this;rw[decide_eq_false_iff_not];intro h;rw[h,Xl]at this;cases this
theorem qlc(hn:∀hp:qD xs k<xs.length,qz (xs[qD xs k]'hp)≠k):qhT xs k=I:=by
 refine qiB λj hj=>?_;rw[decide_eq_false_iff_not];intro h;have h1:¬j<qD xs k:=λhl=>by have:=(JH (k:=k) ho j hj).2 hl;rw[h,Xl]at this;cases this
 have h2:¬qD xs k<j:=λhl=>by have h3:=Yq ho hl hj;rw[h]at h3;exact absurd ((JH (k:=k) ho _ zO).1 h3) (Nat.lt_irrefl _)
 have h4:qD xs k=j:=zO;subst h4;exact hn hj h
theorem qkT(hp:qD xs k<xs.length)(he:qz (xs[qD xs k]'hp)=k):kI xs k=E xs[qD xs k]:=by refine qdo hp (by simp[he,Xl]) λj hj hlt=>?_;have:=Yq ho hlt hj;rw[he]at this;simp[this]
theorem qkU(h0:qD xs k=0)(hn:∀hp:qD xs k<xs.length,qz (xs[qD xs k]'hp)≠k):kI xs k=I:=by
 refine qiB λj hj=>?_;have h1:Qm (qz xs[j]) k=U:=by
  rcases hz:Qm (qz xs[j]) k with _|_
  rfl;have:=(JH ho j hj).1 hz;omega
 rcases hz:Qm k (qz xs[j])with _|_
 have he:qz xs[j]=k:=qfX hz h1;rcases Nat.eq_zero_or_pos j with hj0|hj0
 subst hj0;exact absurd (by simpa [h0]using he) (hn zO);have h3:=Yq ho (i:=0) hj0 hj;rw[he]at h3;have:=(JH ho 0 zO).1 h3;omega;simp
theorem qbc(h0:0<qD xs k)(hn:∀hp:qD xs k<xs.length,qz (xs[qD xs k]'hp)≠k):kI xs k=E (xs[qD xs k-1]'(by have:=JI xs k;omega)):=by
 have hle:=JI xs k;refine qdo zO ?_ λj hj hlt=>?_;have:=(JH (k:=k) ho (qD xs k-1) zO).2 zO;have h2:Qm k (qz (xs[qD xs k-1]'(by omega)))=U:=Kf this;simp[h2];have h1:Qm (qz xs[j]) k=U:=by
  rcases hz:Qm (qz xs[j]) k with _|_
  rfl;have:=(JH ho j hj).1 hz;omega
 rcases hz:Qm k (qz xs[j])with _|_
 have he:qz xs[j]=k:=qfX hz h1;by_cases hjp:qD xs k=j;subst hjp;exact absurd he (hn hj);have h3:=Yq ho (show qD xs k<j by omega) hj;rw[he]at h3;have:=(JH ho _ zO).1 h3;omega;simp
end
def kD(xs:List It)(k:K3):Bool:=match xs[qD xs k]? with
 |none=>U
 |some x=>decide (qz x=k)
theorem vn(h:qD xs k<xs.length):kD xs k=decide (qz xs[qD xs k]=k):=by unfold kD;rw[zL h]
theorem kO(h:¬qD xs k<xs.length):kD xs k=U:=by unfold kD;rw[List.getElem?_eq_none zO]
theorem key_if(x:It)(k i o:Int)(W:O):(if x.k=k then if x.i=i then if x.o=o then Result.ok (Next.value (Value.bool D)) W else Result.ok (Next.value (Value.bool U)) W else Result.ok (Next.value (Value.bool U)) W else Result.ok (Next.value (Value.bool U)) W)=Result.ok (Next.value (Value.bool (decide (qz x=(k,i,o))))) W:=by
 have e:(qz x=(k,i,o))↔(x.k=k/\x.i=i/\x.o=o):=by unfold qz;simp only[Prod.mk.injEq]
 by_cases h1:x.k=k;by_cases h2:x.i=i;by_cases h3:x.o=o;rw[if_pos h1,if_pos h2,if_pos h3,decide_eq_true (e.2 ⟨h1,h2,h3⟩)];rw[if_pos h1,if_pos h2,if_neg h3,decide_eq_false (λh=>h3 (e.1 h).2.2)];rw[if_pos h1,if_neg h2,decide_eq_false (λh=>h2 (e.1 h).2.1)];rw[if_neg h1,decide_eq_false (λh=>h1 (e.1 h).1)]
theorem qff(h2:a.tmps[4]?.getD undef=u)(h3:a.tmps[5]?.getD undef=v)(hd:a.defers=[])(hR:R (Z (Jx #[u,v])) W):bodyPost prog Tryz.f146 R .ret a W:=by refine bodyPost_ret (v:=Jx #[u,v]) ?_ hd hR;simp[results,results146,go_sem,h2,h3]
set_option maxRecDepth 100000 in
theorem qdk(lvl:Int)(A c)(xs:List It)(k i o:Int)(w:O)(hl:xs.length<=5)(h:Its w w (s A xs.length c) xs):Calls prog 146 #[Jc lvl A xs.length c,Xk k i o] w (Ret (Jx #[F J ((qD xs (k,i,o):Nat):Int),.bool (kD xs (k,i,o))]) w):=by
 obtain⟨-,hc1,hc2,hA⟩:=h.at_;have HI:=zH h;clear h;go_enter func146,ntmps146;go_wp2_with fail;generalize hw1:(Q (Q w _) _)=w1;have x1:Ext w w1:=by rw[<-hw1];exact(zN _ _).trans (zN _ _)
 have rn:w1.heap[w.heap.size]?=E (M #[F J lvl,s A xs.length c] 113 (0,0)):=by rw[<-hw1];exact(zK _ _ _ zA3).trans (zI _ _ _ rfl)
 have rk:w1.heap[w.heap.size+1]?=E (M #[F .u8 k,F .u32 i,F .u32 o] 49 (0,0)):=hw1▸zI _ _ _ zA3;clear hw1;go_loopw [4,11] (λp j wr=>∃n:Nat,n<=xs.length/\j=F J (n:Int)/\p=F J ((qD (xs.take n) (k,i,o):Nat):Int)/\Ext w1 wr) (λ_ j _=>xs.length-(intOf j).toNat)
 case atStart=>exact⟨0,Nat.zero_le _,rfl,rfl,Ext.refl _⟩
 case round=>
  obtain⟨n,hn,rfl,rfl,xr⟩:=hrel;have xwr:=x1.trans xr;have kn:=qa (qb rn xr);have kk:=qa (qb rk xr);have zk:w.heap.size+1<wr.heap.size:=(zG.1 (qb rk xr)).1;by_cases hlt:n<xs.length
  ·obtain⟨b,off,rfl,hb⟩:=hA zO;obtain⟨A',c',d0,d1,d2,d3,d4,-⟩:=HI.out.item n hlt;replace d0:=Ext.cell xwr d0;replace d1:=Ext.cell xwr d1;replace d2:=Ext.cell xwr d2;replace d3:=Ext.cell xwr d3;replace d4:=Ext.cell xwr d4;have HP:=zH (qkh (k:=(k,i,o)) hlt);have hpl:=JI (xs.take n) (k,i,o);rw[List.length_take]at hpl;generalize qD (xs.take n) (k,i,o)=pl at*;generalize xs[n]=x at*;go_wp2_with fail;generalize hwa:(Q wr _)=wa;have xa:Ext wr wa:=hwa▸zN _ _;clear hwa;refine(Tq x.k x.i x.o k i o wa).mono ?_;rintro e wl ⟨rfl,hB⟩;have xl:Ext w1 wl:=xr.trans (xa.trans hB);clear kn kk d0 d1 d2 d3 d4;rcases hls:YE x.k x.i x.o k i o with _|_
   ·have hz:qD (xs.take (n+1)) (k,i,o)=pl:=by rw[HP.out,if_neg (show ¬Qm (qz x) (k,i,o)=D from(λh=>by rw[show Qm (qz x) (k,i,o)=U from hls]at h;cases h))];rfl
    replace hz:=zH hz;go_wp2_with fail;refine⟨⟨n+1,hlt,rfl,by rw[hz.out],xl⟩,?_⟩;simp[intOf];omega
   have hz:qD (xs.take (n+1)) (k,i,o)=pl+1:=by rw[HP.out,if_pos (show Qm (qz x) (k,i,o)=D from hls)]
   replace hz:=zH hz;go_wp2_with fail;refine⟨⟨n+1,hlt,rfl,by rw[hz.out];rfl,xl⟩,?_⟩;simp[intOf];omega
  obtain rfl:n=xs.length:=zO;rw[List.take_length];have hpl:=JI xs (k,i,o);go_wp2_with fail;by_cases hp:qD xs (k,i,o)<xs.length
  ·have hia:=vn hp;obtain⟨b,off,rfl,hb⟩:=hA zO;obtain⟨A',c',d0,d1,d2,-,-,-⟩:=HI.out.item _ hp;replace d0:=Ext.cell xwr d0;replace d1:=Ext.cell xwr d1;replace d2:=Ext.cell xwr d2;generalize xs[qD xs (k,i,o)]=x at*;generalize qD xs (k,i,o)=pl at*;generalize hie:kD xs (k,i,o)=ie at*;have gN:∀W,qp.r wr W->∀i,W.cell? ⟨w,i,I⟩=#[F J lvl,s (b,off) xs.length c][i]?:=λW h=>qa (qb (qb rn xr) h);have gK:∀W,qp.r wr W->∀j,W.cell? ⟨w.heap.size+1,j,I⟩=#[F .u8 k,F .u32 i,F .u32 o][j]?:=λW h=>qa (qb (qb rk xr) h);have gD:∀W,qp.r wr W->W.cell? (b,off+pl*5)=E (F .u8 x.k)/\W.cell? (b,off+pl*5+1)=E (F .u32 x.i)/\W.cell? (b,off+pl*5+2)=E (F .u32 x.o):=λW h=>⟨Ext.cell h d0,Ext.cell h d1,Ext.cell h d2⟩
   have gD0:=λW h=>(gD W h).1;have gD1:=λW h=>(gD W h).2.1;have gD2:=λW h=>(gD W h).2.2;replace hia:=zH hia;clear d0 d1 d2 gD;refine qw zQ ?_;refine Qb (w:=wr) qp (qV []) [D,D,D,D,D,D,D,D,D,D,D,D,D,D,D,D,D] 1 zQ zQ zQ zQ zQ zQ zQ ?st (Rel.drew _ _) ?walk
   case st=>exact ql (λ_ h=>by cases h)
   case walk=>
    intro K hK;dsimp only[qA];refine zB6 ?_;refine qe (.bool ie) zA0 zA0 (λW hW _=>⟨W,?_,Rel.refl _ W⟩) ?_
    ·go_simp;rw[hia.out];exact key_if x k i o W
    refine zB6 ?_;refine qF (hK _ _ λW hW hF=>?_);clear hF hK gN gK gD0 gD1 gD2;have hW':Ext wr W:=hW;refine zB5 ?_;go_wp2;refine Qt ?_;go_wp2_with fail;exact qff rfl rfl rfl ⟨rfl,xwr.trans hW'⟩
  have hia:=kO hp;have gN:∀W,qp.r wr W->∀i,W.cell? ⟨w,i,I⟩=#[F J lvl,s A xs.length c][i]?:=λW h=>qa (qb (qb rn xr) h);generalize qD xs (k,i,o)=pl at*;generalize hie:kD xs (k,i,o)=ie at*;replace hia:=zH hia;refine qw zQ ?_;refine Qb (w:=wr) qp (qV []) [D,D,D,D,D,D,D,D,D,D,D,D,D,D,D,D,D] 1 zQ zQ zQ zQ zQ zQ zQ ?st (Rel.drew _ _) ?walk
  case st=>exact ql (λ_ h=>by cases h)
  case walk=>intro K hK;dsimp only[qA];refine zB6 ?_;refine qF (hK _ _ λW hW hF=>?_);clear hF hK gN;have hW':Ext wr W:=hW;refine zB5 ?_;go_wp2;refine Qt ?_;go_wp2_with fail;exact qff rfl rfl rfl ⟨by rw[hia.out];rfl,xwr.trans hW'⟩
theorem qaI(lvl:Int)(A c)(xs:List It)(k i o:Int)(lo:Nat)(w:O)(hl:xs.length<=5)(h:jr lo w (s A xs.length c) xs):Calls prog 146 #[Jc lvl A xs.length c,Xk k i o] w (Ret (Jx #[F J ((qD xs (k,i,o):Nat):Int),.bool (kD xs (k,i,o))]) w):=qdk lvl A c xs k i o w hl h.its
end Go.Proofs.YtmeadnlmepcmbaaGreat
