/- Lemmas of the proof. -/
import Derived.Test.YtmeadnlmepcmbaaGreatZG23
set_option linter.all false
set_option maxHeartbeats 8000000
open Go.Proofs.Tryz
namespace Go.Proofs.YtmeadnlmepcmbaaGreat
open Go.RowKit
def unE(S:Sto)(root id:Int):Except Int (Nat×Sto):=match qk S root.toNat with
 |none=>.error 8
 |some (lvl,xs)=>Xs S lvl.toNat xs root.toNat (1,id,0)
def UnErr(S:Sto)(root next:Int)(dead:List Int)(id er:Int):Prop:=(er=8/\ZC S root next dead)\/∃vs,jq S root next dead vs/\((er=6/\jf vs id=none)\/∃v,jf vs id=some v/\unE S root id=.error er)
def qhQ(S:Sto)(gen root next:Int)(dead:List Int)(id:Int)(w:World)(e:Ending)(w':World):Prop:=Below w.heap.size w w' /\
 ((∃er,er≠0/\e=.returned (.tuple #[qaK,.int .i64 er])/\UnErr S root next dead id er) \/
  ∃vs v r S' u,jq S root next dead vs/\jf vs id=some v/\unE S root id=.ok (r,S')/\e=.returned (.tuple #[u,.int .i64 0])/\Xo w.heap.size S' gen (r:Int) next dead u w')
set_option maxRecDepth 100000 in
theorem qbG(A1 n1 c1 A2 n2 c2 A3 n3 c3 A4 n4 c4)(gen root next:Int)(A5 c5)(S:Sto)(dead:List Int)(id:Int)(w:World)(h:Qq w w.heap.size (.slice A1 n1 c1) (.slice A2 n2 c2) (.slice A3 n3 c3) (.slice A4 n4 c4) S)(hd:jH w w.heap.size (.slice A5 dead.length c5) dead):Calls prog 18 #[.agg (Qk (.slice A1 n1 c1) (.slice A2 n2 c2) (.slice A3 n3 c3) (.slice A4 n4 c4) gen root next (.slice A5 dead.length c5)),.int .u32 id] w (qhQ S gen root next dead id w):=by
 have HV:=zH (λW (hx:Ext w W)=>UF A1 n1 c1 A2 n2 c2 A3 n3 c3 A4 n4 c4 gen root next A5 c5 S dead id W (h.ext hx) (hd.ext_ hx));have HD:=zH (λ(hS:qm S=true)(a lvl:Nat) xs ha ha2 hn hsp W (hx:Ext w W)=>del_any A1 n1 c1 A2 n2 c2 A3 n3 c3 A4 n4 c4 S hS a lvl xs ha ha2 hn hsp 1 id 0 W (h.ext hx));have HI:=zH (λ(hdl:dead.length<1073741824) W (hW:Ext w W)=>qbL (.slice A5 dead.length c5) dead hdl W (hd.ext_ hW));clear h hd;go_enter func18,ntmps18;go_wp2_with fail;generalize hw1:World.alloc (World.alloc w _) _=w1;have x1:Ext w w1:=by rw[<-hw1];exact(zN _ _).trans (zN _ _)
 have rp1:w1.heap[w.heap.size]?=some (.cells (Qk (.slice A1 n1 c1) (.slice A2 n2 c2) (.slice A3 n3 c3) (.slice A4 n4 c4) gen root next (.slice A5 dead.length c5)) 32 (0,0)):=by rw[<-hw1];exact(zK _ _ _ zA3).trans (zI _ _ _ rfl)
 have r1:w1.heap[w.heap.size+1]?=some (.cells (Qk (.slice none 0 0) (.slice none 0 0) (.slice none 0 0) (.slice none 0 0) 0 0 0 (.slice none 0 0)) 32 (0,0)):=by rw[<-hw1];exact zI _ _ _ zA3
 clear hw1;refine(HV.out w1 x1).mono ?_;clear HV;rintro e w2 ⟨hB,hQ⟩;have x2:Ext w w2:=x1.trans hB;have rp2:=qb rp1 hB;have r2:=qb r1 hB;clear hB r1 rp1 x1;have hBU:(∃er,er≠0/\e=.returned (.tuple #[VR vol0,.int .i64 er])/\UnErr S root next dead id er)\/∃vs v,jq S root next dead vs/\jf vs id=some v/\e=.returned (.tuple #[VR v,.int .i64 0]):=by
  rcases hQ with⟨rfl,hno⟩|⟨vs,refs,nodes,hp,hc,he,rfl⟩
  ·exact .inl ⟨8,zA1,rfl,.inl ⟨rfl,hno⟩⟩
  ·rcases hv:jf vs id with _|v
   ·exact .inl ⟨6,zA1,rfl,.inr ⟨vs,⟨refs,nodes,hp,hc,he⟩,.inl ⟨rfl,hv⟩⟩⟩
   ·exact .inr ⟨vs,v,⟨refs,nodes,hp,hc,he⟩,hv,rfl⟩
 clear hQ;rcases hBU with⟨er,her,rfl,hun⟩|⟨vs,v,hok,hv,rfl⟩
 ·have k2:=qa r2;have f2:=qg r2;have z2:=(zG.1 r2).1;have hne:(er != 0)=true:=by rw[bne_iff_ne];exact her
  replace⟨her,hun⟩:=zH2 her hun;clear HD HI rp2;unfold VR vol0;go_wp2_with fail;exact Uc (b:=w.heap.size+1) rfl rfl rfl (qb (row8 r2 _ _ _ _ _ _ _ _) (zN _ _)) ⟨Below.alloc (Yy x2 zO _ _ _ _ _ _ _ _) (by have:=x2.size;simpa using this) _,.inl ⟨er,her.out,rfl,hun.out⟩⟩
 ·have hUY:=hok;obtain⟨refs,nodes,hp,hc,he⟩:=hUY;obtain⟨a,ha,h8,h256,lvl,xs,hn,hsp⟩:=Zs hp.top;have hse:unE S root id=Xs S lvl xs a (1,id,0):=by unfold unE;rw[ha,Int.toNat_natCast,hn];rfl
  have HD2:=zH (HD.out hp.may a lvl xs h8 h256 hn hsp);have hpm:=zH (λr S' (he:Xs S lvl xs a (1,id,0)=.ok (r,S'))=>qgq hp.may h8 hn hsp he);have hpe:=zH (λer (he:Xs S lvl xs a (1,id,0)=.error er)=>delY_err he);rw[<-hse]at HD2 hpm hpe;rw[<-ha]at HD2;have HI2:=zH (HI.out (by have:=hp.few;omega));replace⟨hok,hv⟩:=zH2 hok hv;clear HD HI hse hp hc he hn hsp ha h8 h256;unfold VR;go_upto_region 4 with fail;generalize hw3:World.alloc w2 _=w3;have x23:Ext w2 w3:=by rw[<-hw3];exact zN _ _
  have x3:Ext w w3:=x2.trans x23;have rp3:=qb rp2 x23;have r3:=qb r2 x23;have kp3:=qa rp3;have zr3:w.heap.size+1<w3.heap.size:=(zG.1 r3).1;clear hw3 rp2 r2 x23 x2;go_wp2_with fail;refine(HD2.out w3 x3).mono ?_;clear HD2;rintro e w4 ⟨u,rfl,hT,hB⟩;have x4:Ext w w4:=x3.trans hB;have rp4:=qb rp3 hB;have r4:=qb r3 hB;have z34:=hB.size;clear hB rp3 r3 kp3;rcases hq:unE S root id with er|⟨f,SF⟩
  ·rw[hq]at hT;obtain rfl:=hT;have hWM:=hpe.out er hq;have hne:(er != 0)=true:=by rw[bne_iff_ne];exact hWM
   have k2:=qa r4;have f2:=qg r4;have z2:=(zG.1 r4).1;have z24:=x4.size;replace⟨hWM,hq⟩:=zH2 hWM hq;clear rp4 HI2;go_wp2_with fail;exact Uc (b:=w.heap.size+1) rfl rfl rfl (qb (row8 r4 _ _ _ _ _ _ _ _) (zN _ _)) ⟨Below.alloc (Yy x4 zO _ _ _ _ _ _ _ _) (by simpa using z24) _,.inl ⟨er,hWM.out,rfl,.inr ⟨vs,hok.out,.inr ⟨v,hv.out,hq.out⟩⟩⟩⟩
  ·rw[hq]at hT;obtain⟨v4,rfl,hT⟩:=hT;have hmay:=hpm.out f SF hq;have hsh:Uv SF:=jF hmay.1;replace hq:=zH hq;obtain⟨BB,WW,gg,A3',c3',A4',c4',rfl,-⟩:=(show _ from hT)
   have hns:=GO (hT.newSto hsh);replace hns:=zH hns;clear hT;go_upto_region 7 with fail;generalize hw5:World.alloc w4 _=w5;have x45:Ext w4 w5:=by rw[<-hw5];exact zN _ _
   have x5:Ext w w5:=x4.trans x45;have rs5:w5.heap[w4.heap.size]?=some (.cells #[.slice (some ⟨BB,0,none⟩) SF.bs.length SF.bs.length,.slice (some ⟨WW,0,none⟩) SF.ws.length (SF.ws.length+1),.slice A3' SF.now.length c3',.slice A4' SF.last.length c4'] 28 (0,0)):=by rw[<-hw5];exact zI _ _ _ rfl
   have rp5:=qb rp4 x45;have r5:=qb r4 x45;have z45:=x45.size;clear hw5 rp4 r4;have gP:∀W,qj.r w5 W->∀i,W.cell? ⟨w.heap.size,i,none⟩=(Qk (.slice A1 n1 c1) (.slice A2 n2 c2) (.slice A3 n3 c3) (.slice A4 n4 c4) gen root next (.slice A5 dead.length c5))[i]?:=λW h=>qa (qb rp5 h);obtain⟨nb,hnb⟩:∃nb,SF.bs.length=nb:=⟨_,rfl⟩
   obtain⟨nw,hnw⟩:∃nw,SF.ws.length=nw:=⟨_,rfl⟩
   obtain⟨nn,hnn⟩:∃nn,SF.now.length=nn:=⟨_,rfl⟩
   obtain⟨nl,hnl⟩:∃nl,SF.last.length=nl:=⟨_,rfl⟩
   rw[hnb,hnw,hnn,hnl]at hns rs5⊢;have hHK:=zH (And.intro hnb (And.intro hnw (And.intro hnn hnl)));clear hnb hnw hnn hnl;have gS:∀W,qj.r w5 W->∀i,W.cell? ⟨w4.heap.size,i,none⟩=#[.slice (some ⟨BB,0,none⟩) nb nb,.slice (some ⟨WW,0,none⟩) nw (nw+1),.slice A3' nn c3',.slice A4' nl c4'][i]?:=λW h=>qa (qb rs5 h);refine qt zQ ?_;refine Zo 1 10 (.int .i64 (f:Int)) zQ zA6 zQ zQ zQ zA0 (λW=>?_) ?_
   ·go_simp
   simp only[Act.put,ql,qe,qc,qf,ZU,zA,zB,zC];refine qX (w:=w5) qj (qQ [(4,outN w5.heap.size dead.length dead)]) [true,false,true,true,true,true] 5 zQ zQ zQ zQ zQ zQ zQ ?st (Rel.drew _ _) ?walk
   case st=>exact qi (by simp only[List.forall_mem_cons];exact⟨λp=>Qo (qaJ _ _ _ p),λ_ h=>by cases h⟩)
   case walk=>
    intro K hK;dsimp only[qw,List.replicate];refine zD1 ?_;refine qH (outN w5.heap.size dead.length dead) zA0 zA0 (λW hW _=>?_) (λp=>?_)
    ·have hW:Ext w5 W:=hW;refine Qi ?_ ((HI2.out W (x5.trans hW)).mono λe w' h=>?_)
     ·go_simp
     obtain⟨u,rfl,hu,hB⟩:=h;obtain⟨A',c',rfl,_,_⟩:=qG hu;exact⟨(A',c'),rfl,⟨jH.of_ownT hu,(Zw.of_own hu).mono hW.size⟩,hB⟩
    obtain⟨B5,d5⟩:=p;refine zD1 ?_;refine qD (hK _ _ λV hV hF=>?_);have hI:jH (thaw V) V.heap.size (.slice B5 dead.length d5) dead/\Zw w5.heap.size (.slice B5 dead.length d5):=(hF 4).1;clear hF hK gP gS HI2;have hV:Ext w5 V:=hV;refine zC4 ?_;have rp6:=qb rp5 hV;have r6:=qb r5 hV;have kp6:=qa rp6;have fp6:=qg rp6;have zp6:w.heap.size<V.heap.size:=(zG.1 rp6).1;replace hI:=zH hI;clear rp5 r5 rs5;go_wp2;refine Qn ?_;generalize hw6:World.setCell (World.setCell (World.setCell (World.setCell (World.setCell (World.setCell V _ _) _ _) _ _) _ _) _ _) _ _=w6;obtain⟨rp7,o7,z7,b7⟩:=qhq rp6 hw6.symm;clear hw6 kp6 fp6;have r7:=(o7 (w.heap.size+1) zO).trans r6;have x7:Below w.heap.size w w6:=b7 (zM _) (Below.trans x5 (Below.mono hV x5.size));have hzV:=hV.size;have kp7:=qa rp7;have ko7:=qa r7;have fo7:=qg r7;have zo7:w.heap.size+1<w6.heap.size:=(zG.1 r7).1;have z3:=x3.size;clear rp6 r6;go_wp2_with fail;refine Uc (b:=w.heap.size+1) rfl rfl rfl (row8 r7 _ _ _ _ _ _ _ _) ⟨Yy x7 zO _ _ _ _ _ _ _ _,.inr ⟨vs,v,f,SF,_,hok.out,hv.out,hq.out,rfl,some ⟨BB,0,none⟩,nb,some ⟨WW,0,none⟩,nw+1,A3',c3',A4',c4',B5,d5,?_,λC hC=>?_⟩⟩
    ·rw[hHK.out.1,hHK.out.2.1,hHK.out.2.2.1,hHK.out.2.2.2]
    ·rw[hHK.out.1,hHK.out.2.1,hHK.out.2.2.1,hHK.out.2.2.2];rw[qeq];have hs:=λ(k:Nat)(hk:k≠w.heap.size+1)=>qiL (w:=w6) hk (.slice (some ⟨BB,0,none⟩) nb nb) (.slice (some ⟨WW,0,none⟩) nw (nw+1)) (.slice A3' nn c3') (.slice A4' nl c4') (.int .u32 gen) (.int .i64 (f:Int)) (.int .u32 next) (.slice B5 dead.length d5);have q1:=hns.out C λq u h1 h2 h3=>hC q u zO (by rw[qeq];omega) ((JJ ((hs q.block zO).trans ((o7 q.block zO).trans ((hV.block q.block zO).trans (x45.block q.block h2))))).trans h3);have q2:=hI.out.1.pos hI.out.2 (C:=C) λq u h1 h2 h3=>hC q u zO (by rw[qeq];omega) ((JJ ((hs q.block zO).trans (o7 q.block zO))).trans h3);exact⟨q1.more zO,q2.more zO⟩
theorem UL(S:Sto)(a b:Nat)(h:b∈Zh S a):b∈QO S a:=by
 unfold Zh at h;split at h
 ·cases h
 ·split at h
  ·exact h
  ·cases h
theorem YU{rs rs':Nat->List Nat}{M:Nat->Bool}(h:∀a,M a=true->rs' a=rs a)(b:Nat):∀n,Ju rs' M b n=Ju rs M b n
 |0=>rfl
 |n+1=>by
  unfold Ju;rw[YU h b n];by_cases hn:M n=true
  ·rw[if_pos hn,if_pos hn,h n hn]
  ·rw[if_neg hn,if_neg hn]
structure ZA(S:Sto)(R:List Nat)(M:Nat->Bool):Prop where
 cov:Cov (Zh S) (QO S) S.now R M
 nd:∀a,M a=true->(qk S a).isSome=true
theorem Tk{S S':Sto}{a:Nat}(h:qk S' a=qk S a):QO S' a=QO S a/\Zh S' a=Zh S a:=by
 have e:QO S' a=QO S a:=by unfold QO;rw[h]
 refine⟨e,?_⟩;unfold Zh;rw[h,e]
theorem ZA.perm{S:Sto}{R R':List Nat}{M:Nat->Bool}(h:ZA S R M)(hc:∀b,0<b->R'.count b<=R.count b):ZA S R' M:=⟨h.cov.perm hc,h.nd⟩
theorem ZA.fell{S:Sto}{R:List Nat}{M:Nat->Bool}{t:List UInt8}(h:Cov (Zh S) (QO S) t R M)(hn:∀a,M a=true->(qk S a).isSome=true)(hle:∀a,qP t a<=qP S.now a):ZA (qv S t) R M:=by have he:∀a,M a=true->qk (qv S t) a=qk S a:=λa ha=>qcg (h.live a ha) (hle a);refine⟨⟨λa ha b hb=>h.kid a ha b (by rw[<-(Tk (he a ha)).2];exact hb),UL _,λb hb=>?_,h.live,h.low⟩,λa ha=>by rw[he a ha];exact hn a ha⟩;rw[YU (λa ha=>(Tk (he a ha)).1)];exact h.cnt b hb
theorem ZA.leave{S:Sto}{R:List Nat}{M:Nat->Bool}{a:Nat}{t:List UInt8}(h:ZA S (a::R) M)(hM:M a=true)(e:QC S (-1) S.now a=some t):∃M',ZA (qv S t) R M'/\Yx R M M':=by obtain⟨M',h1,h2⟩:=Cov.leaveF 7 (-1) h.cov hM e;exact⟨M',ZA.fell h1 (λa ha=>h.nd a (h2.le a ha)) (Yg S 7 (-1) S.now a t e),h2⟩
theorem ZA.make{S S':Sto}{R:List Nat}{M:Nat->Bool}{h f:Nat}{p:List It}(hc:ZA S R M)(hS:qm S=true)(hio:∀x∈p,QY x)(hsp:(qz S h p).isSome=true)(hk:0<h->∀r∈qB p,M r=true)(e:zX S (h:Int) p=.ok (f,S')):ZA S' (f::R) (vz M f)/\SM S S':=by
 obtain⟨hsm,hmay,-,hn,h8,hf⟩:=Yl hS hio hsp e;obtain⟨t,hm,ht,hw,-,-,hfb,rfl,htm⟩:=qca hS e;have hl:=Up htm;have hsh:=Un ht;have h0:qP t f=0:=by unfold Jv at hfb;simp only[Bool.and_eq_true,decide_eq_true_eq]at hfb;exact hfb.2.1
 have hcn:∀b,qP (vl (qv S t) f (Zi (Qx (h:Int) p))).now b=if b=f then 1 else qP t b:=λb=>by show qP (t.set f 1) b=_;rw[Kv t zO];rfl
 have hMf:M f=false:=by
  rcases hx:M f with _|_
  ·rfl
  ·have h1:=hc.cov.live f hx;have h2:=hsh f zO;omega
 have hne:∀a,M a=true->a≠f:=λa ha e=>by rw[e,hMf]at ha;cases ha
 have wFP:∀a,M a=true->qk (vl (qv S t) f (Zi (Qx (h:Int) p))) a=qk S a:=λa ha=>by obtain⟨nd,hnd⟩:=Option.isSome_iff_exists.1 (hc.nd a ha);rw[hnd];exact hsm.node a nd hnd
 have wFC:∀a,vz M f a=true->a=f\/M a=true:=λa ha=>by
  unfold vz at ha;split at ha
  ·rename_i e;exact .inl e
  ·exact .inr ha
 have hin:∀a,M a=true->vz M f a=true:=λa ha=>by unfold vz;rw[if_neg (hne a ha)];exact ha
 refine⟨⟨⟨λa ha b hb=>?_,UL _,λb hb=>?_,λa ha=>?_,λa ha=>?_⟩,λa ha=>?_⟩,hsm⟩
 ·rcases wFC a ha with rfl|ha
  ·obtain⟨h1,y,hy,e,hb0⟩:=qbP hn hb;exact hin b (hk h1 b (by rw[e];exact List.mem_map.2 ⟨y,hy,rfl⟩))
  ·exact hin b (hc.cov.kid a ha b (by rw[<-(Tk (wFP a ha)).2];exact hb))
 ·rw[Tn hMf,if_pos hf,YU (λa ha=>(Tk (wFP a ha)).1),<-YT hn hb,hcn b];have h1:=hc.cov.cnt b hb;have h2:=hsh b zO;by_cases e:b=f
  ·subst e;rw[List.count_cons_self,if_pos rfl];omega
  ·rw[List.count_cons_of_ne (λx=>e x.symm),if_neg e];omega
 ·rw[hcn a];rcases wFC a ha with rfl|ha
  ·rw[if_pos rfl];omega
  ·rw[if_neg (hne a ha)];have h1:=hc.cov.live a ha;have h2:=hsh a (by have:=(hc.cov.low a ha).1;omega);omega
 ·rcases wFC a ha with rfl|ha
  ·omega
  ·exact hc.cov.low a ha
 ·rcases wFC a ha with rfl|ha
  ·rw[hn];rfl
  ·rw[wFP a ha];exact hc.nd a ha
section
variable {ks rs:Nat->List Nat} {R:List Nat} {M:Nat->Bool}
theorem Cov.loose'{t:List UInt8}{b:Nat}(h:Cov ks rs t (b::R) M)(hb:0<b)(hp:0<Ju rs M b 256):Cov ks rs (vM t b) R M:=by
 have h1:=h.cnt b hb;rw[List.count_cons_self]at h1;have hne:qP t b≠0:=zO;refine⟨h.kid,h.sub,λc hc=>?_,λc hcM=>?_,h.low⟩
 ·rw[kZ hne c];split
  ·rename_i e;subst e;omega
  ·rename_i e;have:=h.cnt c hc
   rwa [List.count_cons_of_ne (λx=>e x.symm)]at this
 ·rw[kZ hne c];split
  ·rename_i e;subst e;omega
  ·exact h.live c hcM
theorem Cov.looseL':∀{l:List Nat}{t t':List UInt8},Cov ks rs t (l++R) M->(∀b∈l,b≠0->0<Ju rs M b 256)->Go.Proofs.YtmeadnlmepcmbaaGreat.looseL l t=.ok t'->Cov ks rs t' R M
 |[],t,t',h,_,e=>by cases e;exact h
 |a::l,t,t',h,hp,e=>by
  by_cases ha:a=0
  ·subst ha;rw[jb]at e;exact Cov.looseL' (h.perm λb hb=>by rw[List.cons_append,List.count_cons_of_ne zO];exact zM _) (λb hb=>hp b (List.mem_cons_of_mem _ hb)) e
  ·by_cases h0:qP t a=0
   ·rw[jB ha h0]at e;cases e
   ·rw[ja ha h0]at e;exact Cov.looseL' (Cov.loose' (R:=l++R) h zO (hp a List.mem_cons_self ha)) (λb hb=>hp b (List.mem_cons_of_mem _ hb)) e
end
theorem Yo{S:Sto}{f h:Nat}{p:List It}(hn:qk S f=some ((h:Int),p)){r:Nat}(hr:r∈qB p)(h0:r≠0):r∈QO S f:=by have:=YT hn (show 0<r by omega);have hp:=List.count_pos_iff.2 hr;exact List.count_pos_iff.1 zO
theorem ZA.makeL{h:Nat}:∀{ps:List (List It)}{S S':Sto}{up:List It}{R:List Nat}{M:Nat->Bool},(∀p∈ps,(∀x∈p,QY x)/\(qz S h p).isSome=true)->(0<h->∀p∈ps,∀r∈qB p,M r=true)->qm S=true->ZA S R M->Go.Proofs.YtmeadnlmepcmbaaGreat.makeL (h:Int) ps S=.ok (up,S') -> ∃M',ZA S' (qB up++R) M'/\(∀a,M a=true->M' a=true)/\(∀r∈qB up,M' r=true)/\SM S S'/\qm S'=true/\∀p∈ps,∀r∈qB p,r≠0->∃f,M' f=true/\r∈QO S' f
 |[],S,S',up,R,M,_,_,hS,hc,e=>by cases e;exact⟨M,hc,λ_ h=>h,λr hr=>by simp[qB]at hr,⟨λ_ _ e=>e,λ_ e=>e⟩,hS,λp hp=>by cases hp⟩
 |p::ps,S,S',up,R,M,hp,hk,hS,hc,e=>by
  simp only[Go.Proofs.YtmeadnlmepcmbaaGreat.makeL]at e;split at e
  ·cases e
  ·rename_i f S1 e1;obtain⟨hio,hsp⟩:=hp p List.mem_cons_self;obtain⟨m1,hS1,-,hn1,h8,hf⟩:=Yl hS hio hsp e1;obtain⟨hc1,-⟩:=hc.make hS hio hsp (λh0=>hk h0 p List.mem_cons_self) e1;split at e
   ·cases e
   ·rename_i up1 S2 e2;cases e;have hin:∀a,M a=true->vz M f a=true:=λa ha=>by unfold vz;split<;>simp_all
    obtain⟨M2,h2,k2,r2,m2,hS2,q2⟩:=ZA.makeL (λq hq=>⟨(hp q (List.mem_cons_of_mem _ hq)).1,m1.spanOk (hp q (List.mem_cons_of_mem _ hq)).2⟩) (λh0 q hq r hr=>hin r (hk h0 q (List.mem_cons_of_mem _ hq) r hr)) hS1 hc1 e2;have hfM:M2 f=true:=k2 f (by simp[vz]);have hrf:(jk (jj p) f).r.toNat=f:=by show((f:Int)).toNat=f;omega
    refine⟨M2,h2.perm λb _=>?_,λa ha=>k2 a (hin a ha),λr hr=>?_,m1.trans m2,hS2,λq hq r hr h0=>?_⟩
    ·simp only[qB,List.map_cons,hrf,List.cons_append,List.count_append,List.count_cons];omega
    ·simp only[qB,List.map_cons,hrf,List.mem_cons]at hr;rcases hr with rfl|hr
     ·exact hfM
     ·exact r2 r hr
    ·rcases List.mem_cons.1 hq with rfl|hq
     ·exact⟨f,hfM,Yo (m2.node _ _ hn1) hr h0⟩
     ·exact q2 q hq r hr h0
theorem qeh{l p:List It}(hp:p∈Zl l):∃a b,l=a++p++b:=by
 unfold Zl at hp;split at hp
 ·simp only[List.mem_cons,List.not_mem_nil,or_false]at hp;rcases hp with rfl|rfl
  ·exact⟨[],l.drop 3,zA3⟩
  ·exact⟨l.take 3,[],zA3⟩
 ·simp only[List.mem_cons,List.not_mem_nil,or_false]at hp;subst hp;exact⟨[],[],zA3⟩
theorem ZA.build{S S':Sto}{h:Nat}{l held up:List It}{R:List Nat}{M:Nat->Bool}(hc:ZA S (qB held++R) M)(hS:qm S=true)(hl:∀x∈l,QY x)(hsp:(qz S h l).isSome=true)(wEF:∀r∈qB held,r∈qB l)(hk:0<h->∀r∈qB l,M r=true)(e:Qs S (h:Int) l held=.ok (up,S')):∃M',ZA S' (qB up++R) M'/\(∀a,M a=true->M' a=true)/\(∀r∈qB up,M' r=true):=by
 unfold Qs at e;split at e
 ·cases e
 ·rename_i up1 S1 e1;split at e
  ·cases e
  ·rename_i t e2;cases e;obtain⟨M1,h1,k1,r1,m1,hS1,q1⟩:=ZA.makeL (λp hp=>by
    obtain⟨a,b,rfl⟩:=qeh hp;exact⟨λx hx=>hl x (by simp[hx]),VG hsp⟩) (λh0 p hp r hr=>by
    obtain⟨a,b,rfl⟩:=qeh hp;exact hk h0 r (by unfold qB at*;simp only[List.map_append,List.mem_append];exact .inl (.inr hr))) hS hc e1
   have h1':ZA S1 (qB held++(qB up++R)) M1:=h1.perm λb _=>by simp only[List.count_append];omega
   have h2:=h1'.cov.looseL' (λb hb h0=>by have hbl:=wEF b hb;rw[<-qcn l]at hbl;obtain⟨x,hx,ex⟩:=List.mem_map.1 hbl;obtain⟨p,hp,hxp⟩:=List.mem_flatten.1 hx;obtain⟨f,hf1,hf2⟩:=q1 p hp b (List.mem_map.2 ⟨x,hxp,ex⟩) h0;exact qcz hf1 hf2 (h1.cov.low f hf1).2) e2;exact⟨M1,ZA.fell h2 h1.nd (kI e2).2,k1,r1⟩


section
variable {W C:World} {b:Nat} {u0 u1 u2 u3 u4 u5 u6 u7 x0 x1 x2 x3 x4 x5 x6 x7 y0 y1 y2 y3 z ev q0:Value} {tyP tyV ty2 ty3:TypeId} {cs ds:Array Value}
end

theorem Vs.stack{ks rs:Nat->List Nat}{R:List Nat}{M:Nat->Bool}{refs:Nat->Nat}{s s':List Nat}(h:Vs ks rs R M refs s)(hs:∀x,x∈s↔x∈s'):Vs ks rs R M refs s':=
 ⟨h.reach,λa ha=>h.stk a ((hs a).2 ha),λa ha=>(h.root a ha).imp id (hs a).1,λa ha b hb=>(h.kids a ha b hb).imp id (hs b).1,h.sum⟩
def qaU(S:Sto):Nat->List Nat->List Nat->List Nat->Option (List Nat×List Nat)
 |_,[],met,refs=>some (met,refs)
 |0,_::_,_,_=>none
 |f+1,a::s,met,refs=>if met.contains a then qaU S f s met refs else if a<256 then qaU S f (Zh S a++s) (a::met) (QO S a++refs)else none
def qcd(met:List Nat):Nat->Bool:=λa=>met.contains a
theorem qkO(a:Nat)(met:List Nat):qcd (a::met)=vz (qcd met) a:=by
 funext b;unfold qcd vz;by_cases h:b=a
 ·subst h;simp
 ·rw[if_neg h];simp[h]
theorem qcO{S:Sto}{R:List Nat}:∀(f:Nat)(s met refs:List Nat){met' refs':List Nat},Vs (Zh S) (QO S) R (qcd met) (λb=>refs.count b) s->qaU S f s met refs=some (met',refs')->Vs (Zh S) (QO S) R (qcd met') (λb=>refs'.count b) []
 |0,[],met,refs,met',refs',h,e=>by simp only[qaU,Option.some.injEq,Prod.mk.injEq]at e;obtain⟨rfl,rfl⟩:=e;exact h
 |f+1,[],met,refs,met',refs',h,e=>by simp only[qaU,Option.some.injEq,Prod.mk.injEq]at e;obtain⟨rfl,rfl⟩:=e;exact h
 |0,_::_,met,refs,met',refs',h,e=>by cases e
 |f+1,a::s,met,refs,met',refs',h,e=>by
  have h1:Vs (Zh S) (QO S) R (qcd met) (λb=>refs.count b) (s++[a]):=h.stack λx=>by simp[or_comm]
  simp only[qaU]at e;split at e
  ·rename_i hm;exact qcO f s met refs (h1.again hm) e
  ·rename_i hm;split at e
   ·rename_i hl;have h2:=h1.new (refs':=λb=>(QO S a++refs).count b) (by unfold qcd;simpa using hm) hl (λb=>by simp only[List.count_append];omega);rw[<-qkO]at h2;exact qcO f _ _ _ (h2.stack λx=>by simp[or_comm]) e
   ·cases e
theorem Vs.start(ks rs:Nat->List Nat)(R:List Nat):Vs ks rs R (qcd []) (λb=>R.count b) R:=by
 have h0:∀b n,Ju rs (qcd []) b n=0:=λb n=>by
  induction n with
  |zero=>rfl
  |succ n ih=>unfold Ju;rw[ih];rfl
 exact {reach:=λa h=>(by cases h),stk:=λa ha=>.base ha,root:=λa ha=>.inr ha,kids:=λa h=>(by cases h),sum:=λb=>by rw[h0];rfl}
def Uh(met:List Nat):Nat->Nat:=λa=>if met.contains a then 1 else 0
theorem qiG(met:List Nat):vA (Uh met)=qcd met:=by funext a;unfold vA Uh qcd;cases met.contains a<;>rfl
theorem qhZ{S:Sto}{R met refs:List Nat}{f:Nat}(hR:R≠[])(h:qaU S f R [] R=some (met,refs)):Qz S R (λb=>refs.count b) (Uh met):=by
 have h1:=qcO f R [] R (Vs.start _ _ R) h;refine⟨Jy.walk.2 (by rw[qiG];exact h1),λa=>?_⟩;have h2:=qcM (vA (Uh met)) 256;have h3:Uh met a<=1:=by unfold Uh;split<;>omega
 have h4:0<R.length:=List.length_pos_iff.2 hR;omega
def qhc(S:Sto)(root next:Int)(dead:List Int):Option (List Vol×List Nat×List Nat):=
 if qm S&&decide (dead.length<=40)&&okL S (-1) root then match vI S root next with
  |none=>none
  |some vs=>if(zl root dead vs).all (λr=>okL S (-1) r)then match qaU S 2000 (QJ root dead vs) [] (QJ root dead vs) with
   |none=>none
   |some (met,refs)=>if qeP S (λb=>refs.count b)then some (vs,met,refs)else none
   else none
 else none
theorem qcq{S:Sto}{root next:Int}{dead:List Int}{vs:List Vol}{met refs:List Nat}(h:qhc S root next dead=some (vs,met,refs)):QR S root next dead vs/\Qz S (QJ root dead vs) (λb=>refs.count b) (Uh met)/\ZS S (λb=>refs.count b):=by
 unfold qhc at h;split at h
 ·rename_i h1;simp only[Bool.and_eq_true,decide_eq_true_eq]at h1;split at h
  ·cases h
  ·rename_i vs' hv;split at h
   ·rename_i h2;split at h
    ·cases h
    ·rename_i met' refs' hw;split at h
     ·rename_i h3;simp only[Option.some.injEq,Prod.mk.injEq]at h;obtain⟨rfl,rfl,rfl⟩:=h;exact⟨⟨h1.1.1,h1.1.2,h1.2,hv,λr hr=>List.all_eq_true.1 h2 r hr⟩,qhZ (by unfold QJ zl;simp) hw,(qgv _ _).1 h3⟩
     ·cases h
   ·cases h
 ·cases h
theorem QR.unique{S:Sto}{root next:Int}{dead:List Int}{vs vs':List Vol}{refs nodes refs' nodes':Nat->Nat}(h:QR S root next dead vs)(hc:Qz S (QJ root dead vs) refs nodes)(h':QR S root next dead vs')(hc':Qz S (QJ root dead vs') refs' nodes'):vs'=vs/\refs'=refs/\vA nodes'=vA nodes:=by obtain rfl:=QR.same h h';obtain⟨e1,e2⟩:=Jy.same hc'.mkd hc.mkd;exact⟨rfl,e2,e1⟩

theorem GW{rs:Nat->List Nat}{M:Nat->Bool}{b:Nat}(h:∀a,M a=true->b∉rs a):∀n,Ju rs M b n=0
 |0=>rfl
 |n+1=>by
  unfold Ju;rw[GW h n];split
  ·rename_i hn;rw[List.count_eq_zero.2 (h n hn)]
  ·rfl
theorem qem{S:Sto}{a b:Nat}(h:b∈QO S a):0<b/\b<256:=by
 unfold QO at h;split at h
 ·cases h
 ·rename_i lvl xs hn;obtain⟨h1,h2⟩:=List.mem_filter.1 h;have:=(Ym hn b h1).2;simp only[bne_iff_ne,ne_eq]at h2;omega
theorem node_cnt{S:Sto}{a:Nat}(h:(qk S a).isSome=true):qP S.now a≠0:=λe=>by
 have e2:qk S a=if qP S.now a=0 then none else QK (jW S a):=rfl
 rw[e2,if_pos e]at h;cases h
theorem ZA.of{S:Sto}{root next:Int}{dead:List Int}{vs:List Vol}{refs nodes:Nat->Nat}(hp:QR S root next dead vs)(hc:Qz S (QJ root dead vs) refs nodes)(he:ZS S refs):ZA S (QJ root dead vs) (vA nodes):=by
 have htr:∀a,vA nodes a=true->jT S a:=λa ha=>qiU (R:=(· ∈ QJ root dead vs)) hp.trees (hc.mkd.reach a ha);have hnd:∀a,vA nodes a=true->(qk S a).isSome=true:=λa ha=>by obtain⟨-,-,lvl,xs,hn,-⟩:=htr a ha;rw[hn];rfl
 refine⟨⟨hc.mkd.kids,UL S,λb hb=>?_,λa ha=>node_cnt (hnd a ha),λa ha=>?_⟩,hnd⟩
 ·rw[<-hc.mkd.sum b];by_cases h2:b<256
  ·exact he b h2
  ·have h1:(QJ root dead vs).count b=0:=List.count_eq_zero.2 λh=>by have:=(hp.trees b h).2.1;omega
   have h3:Ju (QO S) (vA nodes) b 256=0:=GW (λa _ h=>by have:=(qem h).2;omega) _;rw[hc.mkd.sum b];omega
 ·obtain⟨h8,h256,-⟩:=htr a ha;omega
theorem ZA.enough{S:Sto}{R R0:List Nat}{M:Nat->Bool}{refs nodes:Nat->Nat}(h:ZA S R M)(hR:∀b,0<b->R0.count b<=R.count b)(hin:∀a∈R0,M a=true)(hc:Qz S R0 refs nodes):ZS S refs:=λa ha=>by
 by_cases h0:a=0
 ·subst h0;have h1:R0.count 0=0:=List.count_eq_zero.2 λh1=>by have:=(h.cov.low 0 (hin 0 h1)).1;omega
  have h3:Ju (QO S) (vA nodes) 0 256=0:=GW (λa _ h=>by have:=(qem h).1;omega) _;rw[hc.mkd.sum 0];omega
 ·have wEF:∀b,vA nodes b=true->M b=true:=λb hb=>(hc.mkd.reach b hb).closed (M:=λa=>M a=true) hin h.cov.kid;have h1:=h.cov.cnt a zO;have h2:=hR a zO;have h3:=To (rs:=QO S) wEF a 256;rw[hc.mkd.sum a];show _<=qP S.now a;omega
theorem qbD{α β:Type}{f g:β->α->β}:∀(l:List α)(a:β),(∀a,∀b∈l,f a b=g a b)->l.foldl f a=l.foldl g a
 |[],_,_=>rfl
 |x::l,a,h=>by rw[List.foldl_cons,List.foldl_cons,h a x List.mem_cons_self];exact qbD l _ λa b hb=>h a b (List.mem_cons_of_mem _ hb)
theorem qgG{S:Sto}{R:List Nat}{M:Nat->Bool}{h a:Nat}{xs:List It}(hc:ZA S R M)(hM:M a=true)(hn:qk S a=some (((h+1:Nat):Int),xs))(hsp:(qz S (h+1) xs).isSome=true):∀y∈xs,M y.r.toNat=true:=λy hy=>hc.cov.kid a hM _ (by rw[qbi hn zO];obtain⟨c,f1,f8,-⟩:=QE (QG hsp y hy);exact Yo hn (List.mem_map.2 ⟨y,hy,rfl⟩) (by rw[f1,Int.toNat_natCast];omega))
theorem qhi{l:List It}{M:Nat->Bool}(h:∀y∈l,M y.r.toNat=true):∀r∈qB l,M r=true:=λr hr=>by obtain⟨y,hy,rfl⟩:=List.mem_map.1 hr;exact h y hy
theorem qdE{l hs:List It}(h:∀b,b≠0->(qB hs).count b<=(qB l).count b){r:Nat}(h0:r≠0)(hr:r∈qB hs):r∈qB l:=List.count_pos_iff.1 (Nat.lt_of_lt_of_le (List.count_pos_iff.2 hr) (h r h0))
theorem qkR{S S1:Sto}{h:Nat}{xs:List It}{R:List Nat}{M:Nat->Bool}(hs:(qz S (h+1) xs).isSome=true)(m:SM S S1)(hc:ZA S1 R M)(hx:∀y∈xs,M y.r.toNat=true)(i:Nat)(h0:0<h):∀y∈ZJ S1 xs i,M y.r.toNat=true:=by
 rcases Nat.lt_or_ge i xs.length with hi|hi
 ·obtain⟨b,e1,-,-,zs,e4,e5⟩:=QE (QG hs _ (List.getElem_mem hi));have hn:qk S xs[i].r.toNat=some ((h:Int),zs):=by rw[e1,Int.toNat_natCast];exact e4
  have hn1:=m.node _ _ hn;have e:ZJ S1 xs i=zs:=by unfold ZJ;rw[zL hi];simp only[hn1]
  rw[e];obtain⟨h',rfl⟩:∃h',h=h'+1:=⟨h-1,zO⟩
  exact qgG hc (hx _ (List.getElem_mem hi)) hn1 (m.spanOk e5)
 ·have e:ZJ S1 xs i=[]:=by unfold ZJ;rw[List.getElem?_eq_none hi]
  rw[e];intro y hy;cases hy
theorem join_met{S S1:Sto}{h:Nat}{xs l:List It}{p:Nat}{R:List Nat}{M:Nat->Bool}(hs:(qz S (h+1) xs).isSome=true)(m:SM S S1)(hc:ZA S1 R M)(hx:∀y∈xs,M y.r.toNat=true)(h0:0<h)(hl:∀y∈l,M y.r.toNat=true):∀y∈(Zr S1 xs p l).1,M y.r.toNat=true:=by
 have hN:=λi=>qkR hs m hc hx i h0;unfold Zr;intro y hy;split at hy
 ·split at hy
  ·exact hl y hy
  ·split at hy
   ·exact hl y hy
   ·exact(List.mem_append.1 hy).elim (hN _ y) (hl y)
 ·split at hy
  ·exact hl y hy
  ·exact(List.mem_append.1 hy).elim (hl y) (hN _ y)
theorem qgo{S:Sto}{k:K3}{R:List Nat}(hS:qm S=true):∀(h:Nat){a:Nat}{xs l hs:List It}{S':Sto}{M:Nat->Bool},qk S a=some ((h:Int),xs)->(qz S h xs).isSome=true->(Vc S k h xs).isSome=true->ZA S R M->M a=true->qbA k (jl S k h xs).reverse S=.ok (l,hs,S') -> ∃M',ZA S' (qB hs++R) M'/\(∀a,M a=true->M' a=true)/\(0<h->∀y∈l,M' y.r.toNat=true)/\∀r∈qB hs,r≠0
 |0,a,xs,l,hs,S',M,hn,hsp,h1,hc,hM,e=>by rw[Ko,List.reverse_singleton]at e;simp only[qbA,List.tail_cons,jz,qbR]at e;cases e;exact⟨M,hc,λ_ h=>h,λh=>absurd h (Nat.lt_irrefl 0),λr hr=>by cases hr⟩
 |h+1,a,xs,l,hs,S',M,hn,hsp,h1,hc,hM,e=>by
  have h0:=Vm (qF hn).1 zO;have hlt:=QT (k:=k) h0;obtain⟨b,e1,-,-,zs,e4,e5⟩:=QE (QG hsp _ (List.getElem_mem hlt));have hnb:qk S (xs[Qy xs k].r).toNat=some ((h:Int),zs):=by rw[e1,Int.toNat_natCast];exact e4
  have hd:=(Tp (ZN hsp).2 h0 (Tj h1)).1;rw[XL hd hnb]at h1;have hxm:=qgG hc hM hn hsp;have hMb:M b=true:=by
   have:=hxm _ (List.getElem_mem hlt)
   rwa [e1,Int.toNat_natCast]at this
  rw[JK (zL hlt) hnb,List.reverse_cons]at e;obtain⟨s,r,hr⟩:∃s r,(jl S k h zs).reverse=s::r:=by
   rcases hq:(jl S k h zs).reverse with _|⟨s,r⟩
   ·have:=congrArg List.length hq;rw[List.length_reverse,km h (qF e4).1 e5]at this;cases this
   ·exact⟨s,r,rfl⟩
  have e':qbA k (jl S k h zs).reverse S=jz r (qbR (s::r)) [] S:=by rw[hr];rfl
  rw[hr]at e;have e'':jz (r++[(h+1,xs,Qy xs k)]) (qbR (s::r)) [] S=.ok (l,hs,S'):=e;rw[vq]at e'';split at e''
  ·cases e''
  ·rename_i l1 hs1 S1 hg;rw[GE]at e'';have hI:=Ka hS h e4 e5 h1 (e'.trans hg);obtain⟨M1,c1,k1,r1,z1⟩:=qgo hS h e4 e5 h1 hc hMb (e'.trans hg);obtain⟨hA,hC⟩:=Uo (k:=k) hsp zO;have hmx:=(qF hn).2.1;have hB:qu S (h+1) [xs[Qy xs k]]=qu S h zs:=by simp only[qu,List.flatMap_cons,List.flatMap_nil,List.append_nil,hnb]
   clear e e' hd hnb e1;generalize Qy xs k=p at*;have hx1:∀y∈xs,M1 y.r.toNat=true:=λy hy=>k1 _ (hxm y hy);unfold JQ at e'';split at e''
   ·rename_i hl;cases e'';refine⟨M1,c1.perm λb _=>by simp only[List.count_append,qB,List.map_nil,List.count_nil];omega,k1,λ_ y hy=>?_,λr hr=>by cases hr⟩;rcases List.mem_append.1 hy with hy|hy
    ·rcases List.mem_append.1 hy with hy|hy
     ·exact hx1 y (List.mem_of_mem_take hy)
     ·cases hy
    ·exact hx1 y (List.mem_of_mem_drop hy)
   ·rename_i hl;split at e''
    ·cases e''
    ·rename_i up S3 hb;simp only[Except.ok.injEq,Prod.mk.injEq]at e'';obtain⟨f1,f2,f3⟩:=e'';subst f1 f2 f3;have hi:=hI.items;rw[<-hB]at hi;obtain⟨A,X,C,j1,j2,j3,j4,j5,j6,j7,j8,j9,j10,j11,j12,j13⟩:=qbO (k:=k) hsp hlt hI.sm hI.span hi hA hC hI.ok hI.len;simp only at hb;rw[show(((h+1:Nat):Int)-1)=(h:Int)by omega]at hb;obtain⟨M2,c2,k2,r2⟩:=c1.build (h:=h) hI.may (λy hy=>(j8 y hy).1) j6 (λr hr=>qdE (λb hb=>Nat.le_trans (hI.sub b hb) (j9 b)) (z1 r hr) hr) (λh0=>qhi (join_met hsp hI.sm c1 hx1 h0 (r1 h0))) hb;have hmay:=jZ (λy hy=>(j8 y hy).1) hI.held hI.may hb;refine⟨M2,c2,λa ha=>k2 a (k1 a ha),λ_ y hy=>?_,λr hr=>?_⟩
     ·rcases List.mem_append.1 hy with hy|hy
      ·rcases List.mem_append.1 hy with hy|hy
       ·exact k2 _ (hx1 y (List.mem_of_mem_take hy))
       ·exact r2 _ (List.mem_map.2 ⟨y,hy,rfl⟩)
      ·exact k2 _ (hx1 y (List.mem_of_mem_drop hy))
     ·obtain⟨y,hy,rfl⟩:=List.mem_map.1 hr;have:=(hmay.2.2.2 y hy).1;omega
theorem ZA.share{S:Sto}{R:List Nat}{M:Nat->Bool}{a:Nat}{t:List UInt8}(h:ZA S R M)(hl:S.now.length=256)(h0:a≠0)(ha:a<256)(e:ZG S.now a=.ok t):ZA (qv S t) (a::R) M/\SM S (qv S t)/\∀b,qP t b=qP S.now b+if b=a then 1 else 0:=by
 unfold ZG at e;rw[if_neg h0]at e;split at e
 ·cases e
 ·rename_i h1;split at e
  ·cases e
  ·rename_i wCT;cases e;have hcn:∀b,qP (QZ S.now a 1) b=qP S.now b+if b=a then 1 else 0:=λb=>by
    unfold QZ;rw[Kv _ zO];split
    ·rename_i e;subst e;have h2:=Tf S.now b;rw[UInt8.toNat_ofNat'];omega
    ·rfl
   have hsm:SM S (qv S (QZ S.now a 1)):=qiZ λr hr=>by have:=hcn r;unfold qP at this;omega
   refine⟨⟨⟨λc hc b hb=>h.cov.kid c hc b ?_,UL _,λb hb=>?_,λc hc=>?_,h.cov.low⟩,λc hc=>?_⟩,hsm,hcn⟩
   ·obtain⟨nd,hn⟩:=Option.isSome_iff_exists.1 (h.nd c hc);rw[<-(Tk ((hsm.node c nd hn).trans hn.symm)).2];exact hb
   ·rw[YU (rs:=QO S) (rs':=QO (qv S (QZ S.now a 1))) (λc hc=>by obtain⟨nd,hn⟩:=Option.isSome_iff_exists.1 (h.nd c hc);exact(Tk ((hsm.node c nd hn).trans hn.symm)).1)];have h3:=h.cov.cnt b hb;have h4:=hcn b;show _<=qP (QZ S.now a 1) b;rw[h4,List.count_cons];by_cases e:b=a
    ·subst e;simp only[beq_self_eq_true,if_true];omega
    ·rw[if_neg e,if_neg (by simpa using λx=>e x.symm)];omega
   ·have h3:=h.cov.live c hc;have h4:=hcn c;show qP (QZ S.now a 1) c≠0;omega
   ·obtain⟨nd,hn⟩:=Option.isSome_iff_exists.1 (h.nd c hc);rw[hsm.node c nd hn];rfl
theorem XY{S:Sto}{a:Nat}(h:jT S a):okL S (-1) (a:Int)=true:=by obtain⟨h8,h256,lvl,xs,hn,hs⟩:=h;unfold okL;rw[if_pos zO,Int.toNat_natCast,hn];simp[hs]
theorem sm_pos{S:Sto}{t:List UInt8}(h:∀j,qP t j≠0->qP S.now j≠0):SM (qv S t) S where
 node r nd e:=by
  unfold qk at e⊢;split at e
  ·cases e
  ·rename_i h1;rw[if_neg (show ¬(S.now[r]?.getD 0).toNat=0 from h r h1)];exact e
 pos r e:=by have:=h r (by unfold qP;simp only[qv]at e;omega);unfold qP at this;omega
theorem SM.refl_(S:Sto):SM S S:=⟨λ_ _ h=>h,λ_ h=>h⟩
theorem UT{T:Sto}:∀{n:Nat}{S S':Sto}{f r H:Nat}{its:List It},qm S=true->8<=f->SM S T->qk S f=some ((H:Int),its)->Xd S H its->(qz T H its).isSome=true->Zx n S f=.ok (r,S') -> ∃(H':Nat)(ys:List It),qk T r=some ((H':Int),ys)/\(qz T H' ys).isSome=true/\qu T H' ys=qu T H its/\SM S' T
 |0,S,S',f,r,H,its,hS,h8,m,hn,hl,hs,e=>by cases e;exact⟨H,its,m.node _ _ hn,hs,rfl,m⟩
 |n+1,S,S',f,r,H,its,hS,h8,m,hn,hl,hs,e=>by
  simp only[Zx,hn]at e;split at e
  ·rename_i y;split at e
   ·cases e;exact⟨H,[y],m.node _ _ hn,hs,rfl,m⟩
   ·rename_i h0;obtain⟨h,rfl⟩:∃h,H=h+1:=⟨H-1,zO⟩
    split at e
    ·cases e
    ·rename_i t ht;split at e
     ·cases e
     ·rename_i t' ht';obtain⟨b,zs,e1,k8,k256,kb,kt,kt',et,hb,hlb,hk⟩:=Ug hS h8 hn hl ht ht';obtain⟨ys,g1,g2,g3⟩:=UW hs;have hzs:ys=zs:=by have h1:=m.node _ _ hb;rw[e1,Int.toNat_natCast,h1]at g1;simp only[Option.some.injEq,Prod.mk.injEq,true_and]at g1;exact g1.symm
      subst hzs;have hm1:SM (qv S t') S:=sm_pos λj hj=>by
       have h1:=Yg (qv S t) 7 _ _ _ _ ht' j;by_cases hjb:j=b
       ·subst hjb;exact GP hb
       ·have h2:qP t j=qP S.now j:=by rw[et];unfold QZ;rw[Kv _ (by have:=(Qb hS).2.2.1;omega),if_neg hjb]
        omega
      rw[e1,Int.toNat_natCast]at e;obtain⟨H',ys',f1,f2,f3,f4⟩:=UT kt' k8 (hm1.trans m) (hk b _ _ kb hb) (US h (λr l nd hlt hr=>hk r l nd (λe=>by subst e;rw[hn]at hr;simp only[Option.some.injEq,Prod.mk.injEq]at hr;omega) hr) hlb) g2 e;exact⟨H',ys',f1,f2,f3.trans g3.symm,f4⟩
  ·cases e;exact⟨H,_,m.node _ _ hn,hs,rfl,m⟩
theorem qbV{R:List Nat}:∀{n:Nat}{S S':Sto}{f r H:Nat}{its:List It}{M:Nat->Bool},qm S=true->8<=f->qk S f=some ((H:Int),its)->Xd S H its->ZA S (f::R) M->M f=true->Zx n S f=.ok (r,S') -> ∃M',ZA S' (r::R) M'/\M' r=true/\∀b∈R,M b=true->M' b=true
 |0,S,S',f,r,H,its,M,hS,h8,hn,hl,hc,hM,e=>by cases e;exact⟨M,hc,hM,λ_ _ h=>h⟩
 |n+1,S,S',f,r,H,its,M,hS,h8,hn,hl,hc,hM,e=>by
  simp only[Zx,hn]at e;split at e
  ·rename_i y;split at e
   ·cases e;exact⟨M,hc,hM,λ_ _ h=>h⟩
   ·rename_i h0;obtain⟨h,rfl⟩:∃h,H=h+1:=⟨H-1,zO⟩
    split at e
    ·cases e
    ·rename_i t ht;split at e
     ·cases e
     ·rename_i t' ht';obtain⟨b,zs,e1,k8,k256,kb,kt,kt',et,hb,hlb,hk⟩:=Ug hS h8 hn hl ht ht';have hMb:M b=true:=hc.cov.kid f hM b (by rw[qbi hn zO];exact Yo hn (by simp[qB,e1]) zO);rw[e1,Int.toNat_natCast]at e ht;obtain⟨c1,-,-⟩:=hc.share (Qb hS).2.2.1 zO k256 ht;have c2:ZA (qv S t) (f::b::R) M:=c1.perm λc _=>by simp only[List.count_cons];omega
      obtain⟨M1,c3,l3⟩:=c2.leave hM ht';obtain⟨M2,c4,r4,k4⟩:=qbV kt' k8 (hk b _ _ kb hb) (US h (λr l nd hlt hr=>hk r l nd (λe=>by subst e;rw[hn]at hr;simp only[Option.some.injEq,Prod.mk.injEq]at hr;omega) hr) hlb) c3 (l3.keep b List.mem_cons_self hMb) e;exact⟨M2,c4,r4,λc hc hMc=>k4 c hc (l3.keep c (List.mem_cons_of_mem _ hc) hMc)⟩
  ·cases e;exact⟨M,hc,hM,λ_ _ h=>h⟩
theorem Gg{S S3:Sto}{L a g:Nat}{xs:List It}{k:K3}(hS:qm S=true)(hn:qk S a=some ((L:Int),xs))(hsp:(qz S L xs).isSome=true)(h1:(Vc S k L xs).isSome=true)(e:KZ S L xs k=.ok (g,S3)):∃(l hs:List It)(S1 S2:Sto)(f:Nat),qbA k (jl S k L xs).reverse S=.ok (l,hs,S1)/\DelI S L k (qu S L xs) l hs S1/\Qs S1 (if l=[]then 0 else(L:Int)) l hs=.ok ([jk (jj l) f],S2)/\8<=f/\f<256/\qm S2=true/\Zx 7 S2 f=.ok (g,S3):=by
 have hwl:=km (k:=k) L (qF hn).1 hsp;unfold KZ at e;split at e
 ·cases e
 ·rename_i l hs S1 hg;have hI:=Ka hS L hn hsp h1 hg;have hLV:(((jl S k L xs).length-1:Nat):Int)=(L:Int):=zO;rw[hLV]at e;split at e
  ·cases e
  ·rename_i up S2 hb;have hf:=vU (S:=S1) (lvl:=if l=[]then 0 else(L:Int)) (hs:=hs) hI.len;have:∃f:Nat,up=[jk (jj l) f]:=by
    rw[hb]at hf;split at hf
    ·cases hf
    ·split at hf
     ·cases hf
     ·cases hf;exact⟨_,rfl⟩
   obtain⟨f,rfl⟩:=this;have hmay:=jZ (λx hx=>(hI.ok x hx).1) hI.held hI.may hb;have h8:=hmay.2.2.2 _ List.mem_cons_self;unfold jk at h8;simp only at h8;exact⟨l,hs,S1,S2,f,hg,hI,hb,zO,zO,hmay.1,e⟩
theorem qgr{S S1 S2:Sto}{h f:Nat}{k:K3}{all l hs:List It}(hI:DelI S h k all l hs S1)(e:Qs S1 (if l=[]then 0 else(h:Int)) l hs=.ok ([jk (jj l) f],S2)):∃(H:Nat)(its:List It),SM S1 S2/\qk S2 f=some ((H:Int),its)/\(qz S2 H its).isSome=true/\qu S2 H its=qu S1 h l:=by
 by_cases hl:l=[]
 ·subst hl;have hz:∀r∈qB hs,r=0:=λr hr=>Classical.byContradiction λh0=>by have h1:(qB hs).count r<=0:=hI.sub r h0;have h2:=List.count_pos_iff.2 hr;omega
  rw[if_pos rfl,vU zA3]at e;rcases hm:zX S1 0 []with er|⟨f',S'⟩
  ·rw[hm]at e;cases e
  ·rw[hm]at e;simp only[YM _ hz]at e;obtain⟨m,-,-,hn,-⟩:=Yl (h:=0) hI.may zA3 zA0 hm;simp only[Except.ok.injEq,Prod.mk.injEq,List.cons.injEq,and_true]at e;obtain⟨e1,rfl⟩:=e;obtain rfl:f'=f:=by unfold jk at e1;simp only[It.mk.injEq]at e1;omega
   refine⟨0,[],m,hn,rfl,?_⟩;cases h<;>rfl
 ·rw[if_neg hl]at e;obtain⟨m,-,h3,h4,-⟩:=vV hI.may (λx hx=>(hI.ok x hx).1) hI.held hI.sub hl hI.span e;obtain⟨ys,g1,g2,g3⟩:=UW h3;have:(jk (jj l) f).r.toNat=f:=by unfold jk;simp
  rw[this]at g1;exact⟨h,ys,m,g1,g2,g3.symm.trans h4⟩
theorem qkr{S S':Sto}{L a r:Nat}{xs:List It}{k:K3}(hS:qm S=true)(hn:qk S a=some ((L:Int),xs))(hsp:(qz S L xs).isSome=true)(e:Xs S L xs a k=.ok (r,S')):(Vc S k L xs).isSome=true/\∃(S2:Sto)(H:Nat)(ys:List It),SM S S2/\SM S' S2/\qk S2 r=some ((H:Int),ys)/\(qz S2 H ys).isSome=true/\qu S2 H ys=JH k (qu S L xs):=by
 unfold Xs at e;split at e
 ·rename_i h1;refine⟨h1,?_⟩;unfold delX at e;split at e
  ·cases e
  ·rename_i g S3 e3;obtain⟨l,hs,S1,S2,f,hg,hI,hb,h8,h256,hS2,hlw⟩:=Gg hS hn hsp h1 e3;obtain⟨H,its,m,q1,q2,q3⟩:=qgr hI hb;obtain⟨H',ys,f1,f2,f3,f4⟩:=UT hS2 h8 (SM.refl_ S2) q1 (qeW H q2) q2 hlw;split at e
   ·cases e
   ·rename_i t ht;cases e;have hle:=Yg S3 7 _ _ _ _ ht;exact⟨S2,H',ys,hI.sm.trans m,(qjX hle).trans f4,f1,f2,f3.trans (q3.trans hI.items)⟩
 ·cases e
theorem del_cov{S S':Sto}{L a r:Nat}{xs:List It}{k:K3}{R:List Nat}{M:Nat->Bool}(hS:qm S=true)(hn:qk S a=some ((L:Int),xs))(hsp:(qz S L xs).isSome=true)(hc:ZA S (a::R) M)(hM:M a=true)(e:Xs S L xs a k=.ok (r,S')):∃M',ZA S' (r::R) M'/\M' r=true/\∀b∈R,M b=true->M' b=true:=by
 unfold Xs at e;split at e
 ·rename_i h1;unfold delX at e;split at e
  ·cases e
  ·rename_i g S3 e3;obtain⟨l,hs,S1,S2,f,hg,hI,hb,h8,h256,hS2,hlw⟩:=Gg hS hn hsp h1 e3;obtain⟨H,its,m,q1,q2,q3⟩:=qgr hI hb;obtain⟨M1,c1,k1,r1,z1⟩:=qgo hS L hn hsp h1 hc hM hg;have hrf:qB [jk (jj l) f]=[f]:=by simp[qB,jk]
   have h2:∃M2,ZA S2 (f::a::R) M2/\(∀b,M1 b=true->M2 b=true)/\M2 f=true:=by
    by_cases hl:l=[]
    ·subst hl;have hh:qB hs=[]:=List.eq_nil_iff_forall_not_mem.2 λr hr=>by have g0:=z1 r hr;have g1:(qB hs).count r<=0:=hI.sub r g0;have g2:=List.count_pos_iff.2 hr;omega
     rw[hh,List.nil_append]at c1;rw[if_pos rfl,vU zA3,hh]at hb;rcases hm:zX S1 0 []with er|⟨f',S4⟩
     ·rw[hm]at hb;cases hb
     ·rw[hm]at hb;simp only[looseL,Except.ok.injEq,Prod.mk.injEq,List.cons.injEq,and_true]at hb;obtain⟨e1,rfl⟩:=hb;obtain rfl:f'=f:=by unfold jk at e1;simp only[It.mk.injEq]at e1;omega
      obtain⟨c2,-⟩:=ZA.make (h:=0) c1 hI.may zA3 zA0 (λh=>absurd h (Nat.lt_irrefl 0)) hm;exact⟨_,c2,λb hb=>by simp[vz,hb],by simp[vz]⟩
    ·rw[if_neg hl]at hb;obtain⟨M2,c2,k2,r2⟩:=c1.build (h:=L) hI.may (λy hy=>(hI.ok y hy).1) hI.span (λr hr=>qdE hI.sub (z1 r hr) hr) (λh0=>qhi (r1 h0)) hb;rw[hrf]at c2 r2;exact⟨M2,c2,k2,r2 f zA3⟩
   obtain⟨M2,c2,k2,hf⟩:=h2;obtain⟨M3,c3,r3,k3⟩:=qbV hS2 h8 q1 (qeW H q2) c2 hf hlw;split at e
   ·cases e
   ·rename_i t ht;cases e;have c4:ZA S3 (a::r::R) M3:=c3.perm λb _=>by simp only[List.count_cons];omega
    obtain⟨M4,c5,l5⟩:=c4.leave (k3 a List.mem_cons_self (k2 a (k1 a hM))) ht;exact⟨M4,c5,l5.keep r List.mem_cons_self r3,λb hb hMb=>l5.keep b (List.mem_cons_of_mem _ hb) (k3 b (List.mem_cons_of_mem _ hb) (k2 b (k1 b hMb)))⟩
 ·cases e



section
variable {gb:Nat} {c0 c1 c2 c3 c4 c5 c6 c7:Value} {er:Int}
end
abbrev X3:Type:=It×OA×Nat
abbrev JL(x:X3):Value:=.slice x.2.1 x.1.val.length x.2.2
abbrev encX(x:X3):Value:=.agg (YI x.1 x.2.1 x.2.2)
structure ZX(M:World->Nat->Prop)(W W':World):Prop where
 os:W'.os=W.os
 tape:W'.tape=W.tape
 output:W'.output=W.output
 size:W.heap.size<=W'.heap.size
 same:∀b,b<W.heap.size->¬M W b->W'.heap[b]?=W.heap[b]?/\¬M W' b
theorem ZX.refl(M:World->Nat->Prop)(W:World):ZX M W W:=⟨rfl,rfl,rfl,zM _,λ_ _ h=>⟨rfl,h⟩⟩
theorem ZX.trans{M:World->Nat->Prop}{A B C:World}(h:ZX M A B)(k:ZX M B C):ZX M A C:=
 ⟨k.os.trans h.os,k.tape.trans h.tape,k.output.trans h.output,Nat.le_trans h.size k.size,λb hb hm=>by obtain⟨e1,m1⟩:=h.same b hb hm;obtain⟨e2,m2⟩:=k.same b (Nat.lt_of_lt_of_le hb h.size) m1;exact⟨e2.trans e1,m2⟩⟩
theorem ZX.row{M:World->Nat->Prop}{W W':World}(h:ZX M W W'){b:Nat}{o:Obj}(hm:¬M W b)(hr:W.heap[b]?=some o):W'.heap[b]?=some o:=(h.same b (zG.1 hr).1 hm).1.trans hr
theorem ZX.cell{M:World->Nat->Prop}{W W':World}(h:ZX M W W'){p:Addr}(hb:p.block<W.heap.size)(hm:¬M W p.block):W'.cell? p=W.cell? p:=World.cell?_of_block (h.same _ hb hm).1
theorem ZX.below{M:World->Nat->Prop}{W W':World}{B:Nat}(h:ZX M W W')(hB:B<=W.heap.size)(hl:∀b,b<B->¬M W b):Below B W W':=⟨h.os,h.tape,h.output,h.size,λk hk=>(h.same k zO (hl k hk)).1⟩
structure FctX(M:World->Nat->Prop)(lo:Nat)(x:X3)(W:World):Prop where
 by_:Bys W W.heap.size (JL x) x.1.val
 fr:Zw lo (JL x)
 own:∀b o,x.2.1=some ⟨b,o,none⟩->0<x.1.val.length->¬M W b
 nz:Nz W (JL x)
theorem FctX.kept{M:World->Nat->Prop}{lo:Nat}{x:X3}{W W':World}(h:FctX M lo x W)(hk:ZX M W W'):FctX M lo x W':=by
 have hblk:∀b o,x.2.1=some ⟨b,o,none⟩->0<x.1.val.length->b<W.heap.size:=λb o e hp=>by obtain⟨A,c,e1,e2,e3,hr⟩:=h.by_;obtain⟨b',off,e4,e5,-⟩:=hr.2 hp;simp only[JL,Value.slice.injEq]at e1;rw[e,e4]at e1;simp only[Option.some.injEq,Addr.mk.injEq]at e1;omega
 refine⟨?_,h.fr,λb o e hp=>(hk.same b (hblk b o e hp) (h.own b o e hp)).2,λa n c e hn=>?_⟩
 case refine_2=>
  obtain⟨cs,ty,hr⟩:=h.nz a n c e hn;obtain⟨A,c',e1,e2,e3,h4⟩:=h.by_;simp only[JL,Value.slice.injEq]at e e1;obtain⟨b',off,e4,-,-⟩:=h4.2 zO;have e5:a=⟨b',off,none⟩:=by
   have:some a=some ⟨b',off,none⟩:=by rw[<-e.1,e1.1,e4]
   exact Option.some.inj this
  subst e5;exact⟨cs,ty,(hk.row (h.own b' off e.1 zO) hr)⟩
 obtain⟨A,c,e1,e2,e3,hr⟩:=h.by_;refine⟨A,c,e1,e2,e3,hr.1,λhp=>?_⟩;obtain⟨b',off,e4,e5,e6⟩:=hr.2 hp;have e7:x.2.1=A:=by simp only[JL,Value.slice.injEq]at e1;exact e1.1
 refine⟨b',off,e4,by have:=hk.size;omega,λj u hu=>?_⟩;rw[hk.cell (p:=⟨b',off+j,none⟩) e5 (h.own b' off (e7.trans e4) hp)];exact e6 j u hu
structure Uu(lo:Nat)(M:World->Nat->Prop)(J Jx:List X3->World->Prop)(l N:Nat):Prop where
 low:∀W b,M W b->lo<=b
 lt:∀pre W b,J pre W->M W b->b<W.heap.size
 ext:∀pre W W',J pre W->Ext W W'->J pre W'/\∀b,M W' b->M W b
 yld:∀m pre x W,J pre W->FctX M lo x W->pre.length<N->YieldAt Fence.wide m prog l #[encX x] W λe W'=>(e=.returned (.bool true)/\J (pre++[x]) W'/\ZX M W W')\/(e=.returned (.bool false)/\Jx (pre++[x]) W')
theorem Uu.kept{lo l N:Nat}{M:World->Nat->Prop}{J Jx:List X3->World->Prop}(H:Uu lo M J Jx l N){pre:List X3}{W W':World}(hJ:J pre W)(hx:Ext W W'):ZX M W W':=
 ⟨hx.os,hx.tape,hx.output,hx.size,λb hb hm=>⟨hx.block b hb,λh=>hm ((H.ext pre W W' hJ hx).2 b h)⟩⟩
theorem Uu.new{lo l N:Nat}{M:World->Nat->Prop}{J Jx:List X3->World->Prop}(H:Uu lo M J Jx l N){pre:List X3}{W W':World}(hJ:J pre W)(hx:Ext W W'){b:Nat}(hb:W.heap.size<=b):¬M W' b:=λh=>by have:=H.lt pre W b hJ ((H.ext pre W W' hJ hx).2 b h);omega
structure EnvX(S:Sto)(K:K3)(M:World->Nat->Prop)(l bB bF bY bD bb:Nat)(v1 v2 v3 v4:Value)(W:World):Prop where
 b:W.heap[bB]?=some (.cells #[.pointer (some ⟨bb,0,none⟩)] 92 (0,0))
 f:W.heap[bF]?=some (.cells #[.int .u8 K.1,.int .u32 K.2.1,.int .u32 K.2.2] 49 (0,0))
 y:W.heap[bY]?=some (.cells #[.func (.yield l) #[] #[]] 249 (0,0))
 d:W.heap[bD]?=some (.cells #[.func (.func 179) #[] #[.pointer (some ⟨bB,0,none⟩),.pointer (some ⟨bF,0,none⟩),.pointer (some ⟨bY,0,none⟩),.pointer (some ⟨bD,0,none⟩)]] 250 (0,0))
 on:OnB 0 bb v1 v2 v3 v4 S W
def qfK(M:World->Nat->Prop)(J Jx:List X3->World->Prop)(pre:List X3)(zs:List It)(W:World)(e:Ending)(W':World):Prop:=
 (e=.returned (.bool true)/\∃ys:List X3,ys.map (·.1)=zs/\J (pre++ys) W'/\ZX M W W')\/(e=.returned (.bool false)/\∃(ys:List X3)(rest:List It),ys.map (·.1)++rest=zs/\Jx (pre++ys) W')
def DownC(S:Sto)(K:K3)(M:World->Nat->Prop)(J Jx:List X3->World->Prop)(N bB bF bY bD:Nat)(E:World->Prop)(h:Nat):Prop:=
 ∀(a:Nat)(xs:List It)(pre:List X3)(W:World),8<=a->a<256->qk S a=some ((h:Int),xs)->(qz S h xs).isSome=true->J pre W->E W->pre.length+(QS S h K xs).length<=N ->
  Calls prog 179 #[.int .i64 (a:Int),.pointer (some ⟨bB,0,none⟩),.pointer (some ⟨bF,0,none⟩),.pointer (some ⟨bY,0,none⟩),.pointer (some ⟨bD,0,none⟩)] W (qfK M J Jx pre (QS S h K xs) W)
theorem qkz(S:Sto)(K:K3)(x:It):QS S 0 K [x]=if qV (qp x) K=true then []else [x]:=by
 unfold QS;show [x].filter _=_;by_cases h:qV (qp x) K=true
 ·rw[if_pos h];simp[h]
 ·rw[if_neg h];simp[h]
theorem qkA{S:Sto}{K:K3}{h:Nat}{x:It}{lvl:Int}{ys:List It}(hn:qk S x.r.toNat=some (lvl,ys)):QS S (h+1) K [x]=QS S h K ys:=by unfold QS;rw[zu];simp[hn]
theorem qkC{S:Sto}{h:Nat}{K:K3}{xs:List It}{k:Nat}(hk:k<xs.length):QS S h K (xs.take (k+1))=QS S h K (xs.take k)++QS S h K [xs[k]]:=by rw[List.take_succ_eq_append_getElem hk,qas]
theorem qik{S:Sto}{h:Nat}{K:K3}{xs:List It}(k:Nat):∃r,QS S h K (xs.take k)++r=QS S h K xs:=⟨QS S h K (xs.drop k),by rw[<-qas,List.take_append_drop]⟩
theorem from_nil(S:Sto)(h:Nat)(K:K3):QS S h K []=[]:=by unfold QS;rw[jQ];rfl
theorem its_fct{w:World}{lo b off n c:Nat}{xs:List It}(h:ZB lo w (.slice (some ⟨b,off,none⟩) n c) xs)(hz:NzI w (.slice (some ⟨b,off,none⟩) n c))(i:Nat)(hi:i<xs.length):∃A' c',ItAt w w.heap.size b (off+i*5) xs[i] A' c'/\Zw lo (.slice A' xs[i].val.length c')/\Nz w (.slice A' xs[i].val.length c'):=by
 have hn:n=xs.length:=h.its.at_.1;obtain⟨ps,rfl,⟨A,c1,e,_,_,hr⟩,hp,hf,hg⟩:=h;cases e;have hi':i<ps.length:=by simpa using hi
 obtain⟨b',off',e,hb,hc⟩:=hr.2 zO;cases e;obtain⟨c0,c1,c2,c3,c4⟩:=JX ps i hi';have hgi:=hg ps[i] (List.getElem_mem hi');obtain⟨⟨A',c',e5⟩,hby⟩:=hp ps[i] (List.getElem_mem hi');rw[e5]at c4 hby hgi;simp only[List.getElem_map];have c4':=hc _ _ c4;rw[<-Nat.add_assoc]at c4';refine⟨A',c',⟨hc _ _ c0,?_,?_,?_,c4',hby⟩,hgi,hz b off _ _ i _ rfl zO c4'⟩
 ·rw[Nat.add_assoc];exact hc _ _ c1
 ·rw[Nat.add_assoc];exact hc _ _ c2
 ·rw[Nat.add_assoc];exact hc _ _ c3
end Go.Proofs.YtmeadnlmepcmbaaGreat
namespace Go.Proofs.YtmeadnlmepcmbaaGreat
open Go.RowKit Go.Shelf
attribute [local go_sem] Oper.semAt_some
theorem UD{R:Ending->World->Prop}{a:Act}{W:World}{b:Bool}(h6:a.tmps[6]?.getD undef=.bool b)(hd:a.defers=[])(hR:R (.returned (.bool b)) W):bodyPost prog Tryz.f179 R .ret a W:=by refine bodyPost_ret (v:=.bool b) ?_ hd hR;simp[results,results179,go_sem,h6]
theorem qlu{k j:Nat}(hj:j=k+1)(hk:k<1000):wrap64 ((k:Int)+1)=(j:Int)/\IntKind.i64.wrap ((k:Int)+1)=(j:Int):=
 ⟨by rw[IntWalk.wrap64_in _ zO,hj];rfl,by rw[IntWalk.i64_in _ zO,hj];rfl⟩
set_option maxRecDepth 100000 in
theorem qgt(S:Sto)(hS:qm S=true)(k i o:Int)(lo l N bB bF bY bD bb:Nat)(M:World->Nat->Prop)(J Jx:List X3->World->Prop)(A1 n1 c1 A2 n2 c2 A3 n3 c3 A4 n4 c4)(E:World->Prop)(HC:Uu lo M J Jx l N)(HE:∀W,E W->EnvX S (k,i,o) M l bB bF bY bD bb (.slice A1 n1 c1) (.slice A2 n2 c2) (.slice A3 n3 c3) (.slice A4 n4 c4) W)(HEk:∀W W',E W->ZX M W W'->E W')(HEl:∀W,E W->lo<=W.heap.size)(h:Nat)(HW:∀h':Nat,h=h'+1->DownC S (k,i,o) M J Jx N bB bF bY bD E h'):DownC S (k,i,o) M J Jx N bB bF bY bD E h:=by
 intro a xs pre w ha ha2 hn hsp hJ hE hN;have hUF:=HE w hE;have hBN:=qbv 0 bb A1 n1 c1 A2 n2 c2 A3 n3 c3 A4 n4 c4 S hS a ha ha2 w hUF.on;rw[hn]at hBN;obtain⟨hm1,hm2,-⟩:=qF hn;have hyl:xs.length<=5:=by unfold Qj ZZ at hm1;simp at hm1;omega
 have kB:=qa hUF.b;have HP:=zH (λj (hj:j+1<xs.length) (hl:qV (k,i,o) (qp xs[j+1])=false)=>qkB hsp hj hl);have HT:=zH (λh' (e:h=h'+1) y (hy:y∈xs)=>QE (S:=S) (h:=h') (y:=y) (by have:=QG hsp y hy;rw[e]at this;exact this));replace⟨hsp,HC,HE,HEk⟩:=zH4 hsp HC HE HEk;replace HEl:=zH (HEl w hE);replace⟨HW,hJ,hE,hN⟩:=zH4 HW hJ hE hN;clear hm1 hm2 hn hUF;go_enter func179,ntmps179;go_wp2_with fail;refine hBN.mono ?_;clear hBN kB;rintro e w1 ⟨u,rfl,⟨A9,c9,rfl,hBC,nzi⟩,hB⟩;have x1:Ext w w1:=hB;have hA:=hBC.its.at_.2.2.2;have wJX:∀b off n c,Value.slice A9 xs.length c9=.slice (some ⟨b,off,none⟩) n c->0<n->b<w1.heap.size:=λb off n c e hn=>by simp only[Value.slice.injEq]at e;obtain⟨b6,o6,e6,e7⟩:=hA zO;rw[e.1]at e6;simp only[Option.some.injEq,Addr.mk.injEq]at e6;omega
 replace⟨wJX,nzi,hBC,x1⟩:=zH4 wJX nzi hBC x1;clear hB;go_wp2_with fail;generalize hw2:(World.alloc w1 _)=w2;have x2:Ext w w2:=by rw[<-hw2];exact x1.out.trans (zN _ _)
 have rn2:w2.heap[w1.heap.size]?=some (.cells #[.int .i64 h,.slice A9 xs.length c9] 113 (0,0)):=by rw[<-hw2];exact zI _ _ _ rfl
 have wAZ:ZB w.heap.size w2 (.slice A9 xs.length c9) xs:=by rw[<-hw2];exact hBC.out.ext (zN _ _)
 have nzi2:NzI w2 (.slice A9 xs.length c9):=by rw[<-hw2];exact nzi.out.ext (zN _ _) wJX.out
 have hsz:w.heap.size<=w1.heap.size:=x1.out.size;have hz2:w2.heap.size=w1.heap.size+1:=by rw[<-hw2];simp
 have J2:=zH ((HC.out.ext _ _ _ hJ.out x2).1);have K2:=zH (HC.out.kept hJ.out x2);have E2:=zH (HEk.out _ _ hE.out K2.out);have N2:=zH (λb (hb:w.heap.size<=b)=>HC.out.new hJ.out x2 hb);have kn2:=qa rn2;replace⟨wAZ,nzi2,hsz,hz2,rn2,x2⟩:=zH6 wAZ nzi2 hsz hz2 rn2 x2;clear hw2;go_wp2_with fail;go_loopw [21] (λiv wr=>∃(kk:Nat)(ys:List X3),kk<=xs.length/\iv=.int .i64 (kk:Int)/\ys.map (·.1)=QS S h (k,i,o) (xs.take kk)/\J (pre++ys) wr/\E wr/\ZX M w2 wr) (λiv _=>xs.length-(intOf iv).toNat)
 case atStart=>exact⟨0,[],zO,rfl,by rw[List.take_zero,from_nil];rfl,by rw[List.append_nil];exact J2.out,E2.out,ZX.refl _ _⟩
 case round=>
  obtain⟨kk,ys,hk,rfl,hys,hJr,hEr,hKr⟩:=hrel;clear kn2;by_cases hlt:kk<xs.length
  ·have hCB:=hlt;obtain⟨b,off,rfl,hb⟩:=hA zO;have hbl:w.heap.size<=b:=XF wAZ.out b off xs.length c9 0 rfl zO;have hnb:=N2.out b hbl;have hbs:b<w2.heap.size:=by have:=hz2.out;omega
   obtain⟨A',c',⟨d0,d1,d2,d3,d4,hby⟩,hfr,hnz⟩:=its_fct wAZ.out nzi2.out kk hCB;have hcl:∀j,wr.cell? ⟨b,j,none⟩=w2.cell? ⟨b,j,none⟩:=λj=>hKr.cell (p:=⟨b,j,none⟩) hbs hnb;rw[<-hcl]at d0 d1 d2 d3 d4;have hF:FctX M lo (xs[kk],A',c') wr:=FctX.kept ⟨hby,hfr.mono HEl.out,λb' o' e _=>N2.out b' (hfr ⟨b',o',none⟩ _ _ (by rw[show A'=some ⟨b',o',none⟩from e])),hnz⟩ hKr;have hrn:=hKr.row (N2.out _ hsz.out) rn2.out;have hUF:=HE.out wr hEr;have hsu:=qkC (S:=S) (h:=h) (K:=(k,i,o)) hCB;obtain⟨rest,hQK⟩:=qik (S:=S) (h:=h) (K:=(k,i,o)) (xs:=xs) (kk+1);have hlen:=hN.out;rw[<-hQK,hsu,List.length_append,List.length_append,<-hys,List.length_map]at hlen;have hTx:=λh' e=>HT.out h' e xs[kk] (List.getElem_mem hCB);have hPx:=HP.out kk;have kn:=qa hrn;have kf:=qa hUF.f;have zn:w1.heap.size<wr.heap.size:=(zG.1 hrn).1;have zf:bF<wr.heap.size:=(zG.1 hUF.f).1;replace hUF:=zH hUF;have HCL:=zH hcl;clear hcl hby hfr hnz hnb hbs hbl;replace⟨hTx,hPx,hsu,hQK,hlen,hF⟩:=zH6 hTx hPx hsu hQK hlen hF;replace⟨hys,hJr,hEr,hKr,hrn⟩:=zH5 hys hJr hEr hKr hrn;rcases Nat.eq_zero_or_pos h with h0|h0
   ·have hh1:((h:Int)==0)=true:=by rw[beq_iff_eq];omega
    have hone:=qkz S (k,i,o) xs[kk];rw[<-h0]at hone;clear hPx hTx HW HP HT;generalize xs[kk]=x at*;replace⟨hone,h0⟩:=zH2 hone h0;have hkx:qV (qp x) (k,i,o)=JD x.k x.i x.o k i o:=rfl;rw[hkx]at hone;have HLS:=zH (λW=>Vy x.k x.i x.o k i o W);refine(wpIn_wide (n:=3)).1 ?_;generalize JD x.k x.i x.o k i o=L at*;cases L
    ·replace hone:=zH hone
     gi_wp2_with fail
     refine⟨trivial,(callsIn_wide.2 (HLS.out _)).mono ?_⟩;rintro e w4 ⟨rfl,hB4⟩;have xr4:Ext wr w4:=(zN _ _).trans hB4;have ky:=qa (qb hUF.out.y xr4);have kx:=qa (qb (zI wr _ _ rfl) hB4);have J4:=(HC.out.ext _ _ _ hJr.out xr4).1;have K4:=HC.out.kept hJr.out xr4;obtain⟨fn,tm,asg,bdy,hy,hR⟩:=HC.out.yld (3-1) (pre++ys) (x,A',c') w4 J4 (hF.out.kept K4) (by have:=hlen.out;rw[hone.out]at this;simp at this⊢;omega);replace⟨J4,K4⟩:=zH2 J4 K4
     gi_wp2_with fail
     refine hR.mono ?_;clear hR hy;rintro e w5 (⟨rfl,hJ5,hk5⟩|⟨rfl,hUL⟩)
     ·have hPK:=K4.out.trans hk5;have E5:=HEk.out _ _ hEr.out hPK;have hy5:(ys++[(x,A',c')]).map (·.1)=QS S h (k,i,o) (xs.take (kk+1)):=by rw[hsu.out,hone.out,List.map_append,hys.out];simp
      have hQU:=zH (IntWalk.wrap64_in ((kk:Int)+1) zO);rw[List.append_assoc]at hJ5;replace⟨hJ5,E5,hy5,hPK⟩:=zH4 hJ5 E5 hy5 hPK;clear hk5
      gi_wp2_with fail
      refine⟨⟨kk+1,ys++[(x,A',c')],hCB,rfl,hy5.out,hJ5.out,E5.out,hKr.out.trans hPK.out⟩,?_⟩;simp[intOf];omega
     ·rw[List.append_assoc]at hUL;have hNW:qfK M J Jx pre (QS S h (k,i,o) xs) w (.returned (.bool false)) w5:=.inr ⟨rfl,ys++[(x,A',c')],rest,by rw[<-hQK.out,hsu.out,hone.out,List.map_append,hys.out];simp,hUL⟩;replace hNW:=zH hNW;clear hUL
      gi_wp2_with fail
      exact UD rfl rfl hNW.out
    ·replace hone:=zH hone
     gi_wp2_with fail
     refine⟨trivial,(callsIn_wide.2 (HLS.out _)).mono ?_⟩;rintro e w4 ⟨rfl,hB4⟩;have xr4:Ext wr w4:=(zN _ _).trans hB4;have J4:=zH ((HC.out.ext _ _ _ hJr.out xr4).1);have K4:=zH (HC.out.kept hJr.out xr4);have E4:=zH (HEk.out _ _ hEr.out K4.out);have hy4:ys.map (·.1)=QS S h (k,i,o) (xs.take (kk+1)):=by rw[hsu.out,hone.out,hys.out];simp
     replace hy4:=zH hy4
     gi_wp2_with fail
     refine⟨λ_ h=>(by cases h),?_⟩
     gi_wp2_with fail
     refine⟨⟨kk+1,ys,hCB,rfl,hy4.out,J4.out,E4.out,hKr.out.trans K4.out⟩,?_⟩;simp[intOf];omega
   ·have hh1:((h:Int)==0)=false:=by rw[beq_eq_false_iff_ne];omega
    obtain⟨h',hh⟩:∃h',h=h'+1:=⟨h-1,zO⟩
    obtain⟨r,hr,hr8,hSY,zs,wNZ,hsz2⟩:=hTx.out h' hh;have hnr:qk S xs[kk].r.toNat=some ((h':Int),zs):=by rw[hr,Int.toNat_natCast];exact wNZ
    have hone:=qkA (S:=S) (K:=(k,i,o)) (h:=h') hnr;rw[<-hh]at hone;obtain⟨j,hj⟩:∃j,j=kk+1:=⟨_,rfl⟩
    have hww:=zH (qlu hj zO);have HDN:=zH (λW (hJ':J (pre++ys) W) (hE':E W) (hl:(pre++ys).length+(QS S h' (k,i,o) zs).length<=N)=>HW.out h' hh r zs (pre++ys) W hr8 hSY wNZ hsz2 hJ' hE' hl);have hll:(pre++ys).length+(QS S h' (k,i,o) zs).length<=N:=by have:=hlen.out;rw[hone]at this;rw[List.length_append];omega
    generalize hxx:xs[kk]=x at*;rw[hr]at d3;replace⟨hone,h0,hh,hxx,hll,hr⟩:=zH6 hone h0 hh hxx hll hr;replace wNZ:=zH wNZ;clear hTx HW HT HP hnr hsz2;go_wp2_with fail;generalize hwa:(World.alloc wr _)=wa;have xa:Ext wr wa:=by rw[<-hwa];exact zN _ _
    have ra:wa.heap[wr.heap.size]?=some (.cells #[.int .u8 x.k,.int .u32 x.i,.int .u32 x.o,.int .i64 r,.slice A' x.val.length c'] 51 (0,0)):=by rw[<-hwa];exact zI _ _ _ rfl
    have rna:=qb hrn.out xa;have rfa:=qb hUF.out.f xa;have rda:=zH (qb hUF.out.d xa);have gN:∀W,Ext wa W->W.cell? ⟨w1.heap.size,1,none⟩=some (.slice (some ⟨b,off,none⟩) xs.length c9):=λW h=>by rw[qa (qb rna h)];rfl
    have gF:∀W,Ext wa W->∀i',W.cell? ⟨bF,i',none⟩=#[.int .u8 k,.int .u32 i,.int .u32 o][i']?:=λW h=>qa (qb rfa h);replace ra:=zH ra;by_cases hl:j<xs.length
    ·obtain⟨A2',c2',g0,g1,g2,-⟩:=wAZ.out.its.item j hl;rw[<-HCL.out]at g0 g1 g2;have wFM:qV (k,i,o) (qp xs[j])=false->QS S h (k,i,o) [x]=[]:=λhq=>by have:=hPx.out zO (by simpa only[<-hj]using hq);rw[hxx.out]at this;exact this
     have hkp:qV (k,i,o) (qp xs[j])=JD k i o xs[j].k xs[j].i xs[j].o:=rfl;rw[hkp]at wFM;generalize xs[j]=y at*;clear hkp;have HL:=zH (λW=>Vy k i o y.k y.i y.o W);generalize JD k i o y.k y.i y.o=L at*;have p0:∀W,Ext wa W->W.cell? ⟨b,off+j*5,none⟩=some (.int .u8 y.k):=λW h=>Ext.cell (xa.trans h) g0;have p1:∀W,Ext wa W->W.cell? ⟨b,off+j*5+1,none⟩=some (.int .u32 y.i):=λW h=>Ext.cell (xa.trans h) g1;have p2:∀W,Ext wa W->W.cell? ⟨b,off+j*5+2,none⟩=some (.int .u32 y.o):=λW h=>Ext.cell (xa.trans h) g2;replace⟨xa,wFM,hj⟩:=zH3 xa wFM hj;clear g0 g1 g2 hwa rna rfa kn kf;refine za (qQ [(15,one (.bool L))]) 18 zQ zQ zQ zA1 zQ zQ ?st ?walk
     case st=>exact zo (by simp only[List.forall_mem_cons];exact⟨Zy _,λ_ h=>by cases h⟩)
     case walk=>
      intro K hK;dsimp only[List.take];have wST:=hww.out.2;refine zB1 ?_;clear wST
      first
       |(refine qU (.pointer (some ⟨b,off+j*5,none⟩)) zA0 zA0 (λW hW _=>⟨W,?_,Ext.refl W⟩) ?_
         ·go_simp;rw[IntWalk.i64_in (j:Int) zO,if_pos zO];simp
         simp only[Act.put,ql,qe,qc,qf,zA,zB,zC])
       |skip
      refine zB1 ?_;refine QH (one (.bool L)) zA0 zA0 (λW hW _=>?_) (λp=>?_)
      ·refine QW ?_ ((HL.out W).mono λe w' h=>⟨(),h.1,trivial,h.2⟩);go_simp
      cases p;simp only[Act.put,ql,qc,qf,zA,zB,zC];clear p0 p1 p2 HL;cases L
      ·repeat ((first|(refine qU ?_ zA0 zA0 (λW hW _=>⟨W,?_,Ext.refl W⟩) ?_;rotate_left;(go_simp<;>with_reducible rfl))|(refine Qf zA0 ?_));try simp only[Act.put,ql,qe,qc,qf,zA,zB,zC])
       refine Zq (hK _ _ λW hW hF=>?_);clear hF hK;dsimp only[List.drop];have JW:=zH ((HC.out.ext _ _ _ hJr.out (xa.out.trans hW)).1);have KW:=zH (HC.out.kept hJr.out (xa.out.trans hW));have EW:=zH (HEk.out _ _ hEr.out KW.out);have hyW:ys.map (·.1)=QS S h (k,i,o) (xs.take (kk+1)):=by rw[hsu.out,wFM.out rfl,hys.out];simp
       replace hyW:=zH hyW;clear hW gN gF;go_wp2_with fail;refine⟨⟨kk+1,ys,hCB,rfl,hyW.out,JW.out,EW.out,hKr.out.trans KW.out⟩,?_⟩;have:=hj.out;simp[intOf];omega
      ·repeat ((first|(refine qU ?_ zA0 zA0 (λW hW _=>⟨W,?_,Ext.refl W⟩) ?_;rotate_left;(go_simp<;>with_reducible rfl))|(refine Qf zA0 ?_));try simp only[Act.put,ql,qe,qc,qf,zA,zB,zC])
       refine Zq (hK _ _ λW hW hF=>?_);clear hF hK;dsimp only[List.drop];have JW:=zH ((HC.out.ext _ _ _ hJr.out (xa.out.trans hW)).1);have KW:=zH (HC.out.kept hJr.out (xa.out.trans hW));have EW:=zH (HEk.out _ _ hEr.out KW.out);have kd:=qa (qb rda.out hW);have kx:=qa (qb ra.out hW);clear hW gN gF;go_wp2_with fail;refine(HDN.out W JW.out EW.out hll.out).mono ?_;rintro e w5 (⟨rfl,zs',hz1,hJ5,hk5⟩|⟨rfl,zs',rest',hz1,hUL⟩)
       ·have hPK:=KW.out.trans hk5;have E5:=HEk.out _ _ hEr.out hPK;have hy5:(ys++zs').map (·.1)=QS S h (k,i,o) (xs.take (kk+1)):=by rw[hsu.out,hone.out,List.map_append,hys.out,hz1]
        rw[List.append_assoc]at hJ5;replace⟨hJ5,E5,hy5,hPK,hz1⟩:=zH5 hJ5 E5 hy5 hPK hz1;clear hk5 kd kx;go_wp2_with fail;refine⟨⟨kk+1,ys++zs',hCB,rfl,hy5.out,hJ5.out,E5.out,hKr.out.trans hPK.out⟩,?_⟩;have:=hj.out;simp[intOf];omega
       ·rw[List.append_assoc]at hUL;have hNW:qfK M J Jx pre (QS S h (k,i,o) xs) w (.returned (.bool false)) w5:=.inr ⟨rfl,ys++zs',rest'++rest,by rw[<-hQK.out,hsu.out,hone.out,List.map_append,hys.out,<-hz1];simp,hUL⟩;replace⟨hNW,hz1⟩:=zH2 hNW hz1;clear hUL kd kx;go_wp2_with fail;exact UD rfl rfl hNW.out
    ·replace⟨xa,hj⟩:=zH2 xa hj;clear hwa rna rfa kn kf;refine za (qQ []) 18 zQ zQ zQ zA1 zQ zQ ?st ?walk
     case st=>exact zo (λ_ h=>by cases h)
     case walk=>
      intro K hK;dsimp only[List.take];have wST:=hww.out.2;refine zB1 ?_;clear wST;refine Zq (hK _ _ λW hW hF=>?_);clear hF hK;dsimp only[List.drop];have JW:=zH ((HC.out.ext _ _ _ hJr.out (xa.out.trans hW)).1);have KW:=zH (HC.out.kept hJr.out (xa.out.trans hW));have EW:=zH (HEk.out _ _ hEr.out KW.out);have kd:=qa (qb rda.out hW);have kx:=qa (qb ra.out hW);clear hW gN gF;go_wp2_with fail;refine(HDN.out W JW.out EW.out hll.out).mono ?_;rintro e w5 (⟨rfl,zs',hz1,hJ5,hk5⟩|⟨rfl,zs',rest',hz1,hUL⟩)
      ·have hPK:=KW.out.trans hk5;have E5:=HEk.out _ _ hEr.out hPK;have hy5:(ys++zs').map (·.1)=QS S h (k,i,o) (xs.take (kk+1)):=by rw[hsu.out,hone.out,List.map_append,hys.out,hz1]
       rw[List.append_assoc]at hJ5;replace⟨hJ5,E5,hy5,hPK,hz1⟩:=zH5 hJ5 E5 hy5 hPK hz1;clear hk5 kd kx;go_wp2_with fail;refine⟨⟨kk+1,ys++zs',hCB,rfl,hy5.out,hJ5.out,E5.out,hKr.out.trans hPK.out⟩,?_⟩;have:=hj.out;simp[intOf];omega
      ·rw[List.append_assoc]at hUL;have hNW:qfK M J Jx pre (QS S h (k,i,o) xs) w (.returned (.bool false)) w5:=.inr ⟨rfl,ys++zs',rest'++rest,by rw[<-hQK.out,hsu.out,hone.out,List.map_append,hys.out,<-hz1];simp,hUL⟩;replace⟨hNW,hz1⟩:=zH2 hNW hz1;clear hUL kd kx;go_wp2_with fail;exact UD rfl rfl hNW.out
  ·obtain rfl:kk=xs.length:=zO;rw[List.take_length]at hys;have hNW:qfK M J Jx pre (QS S h (k,i,o) xs) w (.returned (.bool true)) wr:=.inl ⟨rfl,ys,hys,hJr,K2.out.trans hKr⟩;replace⟨hNW,hys,hJr,hEr,hKr⟩:=zH5 hNW hys hJr hEr hKr;go_wp2_with fail;exact UD rfl rfl hNW.out
theorem qgs(S:Sto)(hS:qm S=true)(k i o:Int)(lo l N bB bF bY bD bb:Nat)(M:World->Nat->Prop)(J Jx:List X3->World->Prop)(A1 n1 c1 A2 n2 c2 A3 n3 c3 A4 n4 c4)(E:World->Prop)(HC:Uu lo M J Jx l N)(HE:∀W,E W->EnvX S (k,i,o) M l bB bF bY bD bb (.slice A1 n1 c1) (.slice A2 n2 c2) (.slice A3 n3 c3) (.slice A4 n4 c4) W)(HEk:∀W W',E W->ZX M W W'->E W')(HEl:∀W,E W->lo<=W.heap.size):∀h:Nat,DownC S (k,i,o) M J Jx N bB bF bY bD E h
 |0=>qgt S hS k i o lo l N bB bF bY bD bb M J Jx A1 n1 c1 A2 n2 c2 A3 n3 c3 A4 n4 c4 E HC HE HEk HEl 0 λ_ e=>zO
 |h+1=>qgt S hS k i o lo l N bB bF bY bD bb M J Jx A1 n1 c1 A2 n2 c2 A3 n3 c3 A4 n4 c4 E HC HE HEk HEl (h+1) λh' e=>by obtain rfl:h=h':=zO;exact qgs S hS k i o lo l N bB bF bY bD bb M J Jx A1 n1 c1 A2 n2 c2 A3 n3 c3 A4 n4 c4 E HC HE HEk HEl h
end Go.Proofs.YtmeadnlmepcmbaaGreat
