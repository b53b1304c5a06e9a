/- Texts SetL, RoomyD, Chg, VOpen, ForW, ForW2, PoolC, joined. -/
import Derived.Test.YtpbniokljofedaaGreatZG06
import Derived.Test.YtpbniokljofedaaGreatZG10
import Derived.Test.YtpbniokljofedaaGreatZG15
import Derived.Test.YtpbniokljofedaaGreatZG19
import Derived.Test.YtpbniokljofedaaGreatZG20
import Derived.Test.YtpbniokljofedaaGreatZG23
import Derived.Test.YtpbniokljofedaaGreatZG29
set_option linter.unusedSimpArgs false
set_option linter.unusedVariables false
set_option maxHeartbeats 8000000
open Go.Proofs.Tryz
namespace Go.Proofs.YtpbniokljofedaaGreat
open Go.RowKit
theorem qiC {f:List UInt8->Nat->Option (List UInt8)} (hf:∀ t r t',f t r=some t'->∀ j,qZ t' j<=qZ t j):∀ (rs:List Nat) (o:Option (List UInt8)) (t':List UInt8),rs.foldl (fun acc r=>acc.bind fun t=>f t r) o=some t'->∃ t,o=some t/\∀ j,qZ t' j<=qZ t j
 | [],o,t',h=>⟨t',h,fun _=>zM _⟩
 |r :: rs,o,t',h=>by
  rw[List.foldl_cons] at h;obtain⟨t1,h1,h2⟩:=qiC hf rs _ t' h;cases o with
  |none=>cases h1
  |some t =>
   exact⟨t,rfl,fun j=>Nat.le_trans (h2 j) (hf t r t1 h1 j)⟩
theorem qcU (S:Sto):∀ (h:Nat) (lvl:Int) (t:List UInt8) (a:Nat) (t':List UInt8),Vb S h lvl t a=some t'->∀ j,qZ t' j<=qZ t j
 |0,lvl,t,a,t',e=>by cases e
 |h+1,lvl,t,a,t',e=>by
  rw[vJ] at e;split at e
  ·cases e
  ·split at e
   ·cases e;exact fun j=>qdI t a j
   ·split at e
    ·cases e
    ·rename_i l xs _;split at e
     ·cases e
     ·split at e
      ·obtain⟨t0,h0,h1⟩:=qiC (fun t r t'=>qcU S h (l-1) t r t') _ _ _ e;cases h0;exact fun j=>Nat.le_trans (h1 j) (zero_le t a j)
      ·split at e
       ·cases e
       ·rename_i t1 hl;cases e;exact fun j=>Nat.le_trans ((Kx hl).2 j) (zero_le t a j)
theorem sm_left {S:Sto} {t:List UInt8} (h:∀ j,qZ t j<=qZ S.now j):SM (qy S t) S where
 node r nd e:=by
  unfold qu at e ⊢;split at e
  ·cases e
  ·rename_i h1;rw[if_neg (by have:=h r;unfold qZ at this;simp only[qy] at h1;omega)];exact e
 pos r e:=by have:=h r;unfold qZ at this;simp only[qy] at e;omega
def XH (v:Vol) (vs:List Vol):List Vol:=(vs.filter fun u=>decide (u.id<v.id))++[v]++vs.filter fun u=>decide (v.id<u.id)
theorem ins_same (v:Vol) (vs:List Vol):Qr (XH v vs) v.id=some v:=by unfold Qr XH;rw[List.find?_append,List.find?_append,List.find?_filter];have e1:vs.find? (fun u=>decide (decide (u.id<v.id)=true/\decide (u.id=v.id)=true))=none:=List.find?_eq_none.2 fun u _=>zA1;rw[e1];simp
theorem qjU {v:Vol} {id:Int} (h:id≠v.id) (vs:List Vol):Qr (XH v vs) id=Qr vs id:=by
 unfold Qr XH;rw[List.find?_append,List.find?_append,List.find?_filter,List.find?_filter];have ev:[v].find? (fun u=>decide (u.id=id))=none:=zA1;rw[ev];rcases Int.lt_or_gt_of_ne h with hl|hl
 ·have e1:(fun u:Vol=>decide (decide (u.id<v.id)=true/\decide (u.id=id)=true))=fun u=>decide (u.id=id):=by
   funext u;by_cases hu:u.id=id
   ·simp[hu,hl]
   ·simp[hu]
  have e2:vs.find? (fun u=>decide (decide (v.id<u.id)=true/\decide (u.id=id)=true))=none:=List.find?_eq_none.2 fun u _=>zA1;rw[e1,e2];simp
 ·have e1:(fun u:Vol=>decide (decide (v.id<u.id)=true/\decide (u.id=id)=true))=fun u=>decide (u.id=id):=by
   funext u;by_cases hu:u.id=id
   ·simp[hu];omega
   ·simp[hu]
  have e2:vs.find? (fun u=>decide (decide (u.id<v.id)=true/\decide (u.id=id)=true))=none:=List.find?_eq_none.2 fun u _=>zA1;rw[e1,e2];simp
theorem qjt {y:It} (h:VB y=true):qo y=(1,y.i,0):=by unfold VB at h;simp only[Bool.and_eq_true] at h;have h2:=h.2;unfold Yv at h2;simp only[decide_eq_true_eq] at h2;obtain⟨h1,-,h3,-⟩:=h2;unfold qo;rw[<-h1,<-h3]
theorem volAt_it {v:Vol} (h:vD v):jg (Xm v)=v:=by
 obtain⟨⟨a0,a1⟩,⟨b0,b1⟩,⟨c0,c1⟩⟩:=h;obtain⟨id,root,fz,frm⟩:=v;obtain⟨root,rfl⟩:=Int.eq_ofNat_of_zero_le b0;obtain⟨frm,rfl⟩:=Int.eq_ofNat_of_zero_le c0;simp only at a0 a1 b0 b1 c0 c1;have hlen:(Qk ⟨id,(root:Int),fz,(frm:Int)⟩).length=7:=JV _;have d0:(Qk ⟨id,(root:Int),fz,(frm:Int)⟩).drop 0=qB root 2++([if fz then 1 else 0]++qB frm 4):=by simp[Qk]
 have d2:(Qk ⟨id,(root:Int),fz,(frm:Int)⟩).drop (0+2)=[if fz then 1 else 0]++qB frm 4:=Vr d0 (Qy _ _);have d3:(Qk ⟨id,(root:Int),fz,(frm:Int)⟩).drop (0+2+1)=qB frm 4++[]:=by rw[List.append_nil];exact Vr d2 rfl
 have e2:(Qk ⟨id,(root:Int),fz,(frm:Int)⟩)[2]?=some (if fz then 1 else 0):=by
  have:(Qk ⟨id,(root:Int),fz,(frm:Int)⟩)[2]?=((Qk ⟨id,(root:Int),fz,(frm:Int)⟩).drop (0+2))[0]?:=by rw[List.getElem?_drop]
  rw[this,d2];rfl
 unfold jg Xm;simp only;rw[Xd d0 rfl zO zO,Xd d3 rfl zO zO,e2];cases fz <;> rfl
theorem ins_map {v:Vol} (hv:vD v):∀ {l:List It},(∀ y∈l,VB y=true)->(YA (qo (Xm v)) (Xm v) l).map jg=XH v (l.map jg):=fun {l} h=>by
 have k:qo (Xm v)=(1,v.id,0):=rfl;unfold YA XH;rw[k,List.map_append,List.map_append,List.filter_map,List.filter_map];have f1:(l.filter fun y=>qM (qo y) (1,v.id,0))=l.filter ((fun u:Vol=>decide (u.id<v.id)) ∘ jg):=List.filter_congr fun y hy=>by rw[qjt (h y hy),Bool.eq_iff_iff];simp[qM,Jh,jg];exact decide_eq_true_iff.symm
 have f2:(l.filter fun y=>qM (1,v.id,0) (qo y))=l.filter ((fun u:Vol=>decide (v.id<u.id)) ∘ jg):=List.filter_congr fun y hy=>by rw[qjt (h y hy),Bool.eq_iff_iff];simp[qM,Jh,jg];exact decide_eq_true_iff.symm
 rw[f1,f2];simp[volAt_it hv]
theorem XF {next:Int} {l:List It} {vs:List Vol} (h:Zs next [] l=some vs):(∀ y∈l,VB y=true)/\vs=l.map jg:=by
 rw[Yp next l [] zA2] at h;split at h
 ·rename_i hc;cases h;refine⟨fun y hy=>?_,zA2⟩;have:=List.all_eq_true.1 hc.1 y hy;unfold ZO at this;simp only[Bool.and_eq_true] at this;exact this.1
 ·cases h
theorem kz.vols {S S':Sto} {root next:Int} {dead:List Int} {v:Vol} {r:Nat} {vs':List Vol} (h:kz S root next dead v r S' vs') (hv:vD v) : ∃ vs S2,Qg S root next dead vs/\Qg S' (r:Int) next dead vs'/\vs'=XH v vs/\SM S S2/\SM S' S2:=by
 obtain⟨vs,refs,nodes,hp,-,-,-,eH,⟨refs',nodes',gm,-⟩⟩:=h;obtain⟨a,ha,h8,h256,lvl,xs,hn,hs⟩:=ZY hp.top;subst ha;unfold setE at eH;rw[Int.toNat_natCast,hn] at eH;simp only[Int.toNat_natCast] at eH;unfold Tx at eH;split at eH
 ·rename_i hask;obtain⟨S2,t,H,ys,rfl,m,hS2,hn2,hs2,hi2,hl⟩:=qkn hp.may (qeE.of (qgy hv) hask) hn hs eH;have ml:SM (qy S2 t) S2:=sm_left (qcU S2 7 _ _ _ _ hl);have hv2:=ml.vols gm.top gm.vols;have hv1:=hp.vols;unfold vt at hv1 hv2;rw[Int.toNat_natCast,hn] at hv1;rw[Int.toNat_natCast,hn2] at hv2;simp only[Int.toNat_natCast] at hv1 hv2;rw[hi2] at hv2;obtain⟨g1,e1⟩:=XF hv1;obtain⟨g2,e2⟩:=XF hv2;refine⟨vs,S2,hp,gm,?_,m,ml⟩;rw[e2,e1,ins_map hv g1]
 ·cases eH
theorem qhr {S S' S2:Sto} (m:SM S S2) (m':SM S' S2) {a lvl sO:Nat} {xs xs':List It} (hn:qu S a=some ((lvl:Int),xs)) (hs:(qD S lvl xs).isSome=true) (hn':qu S' a=some ((sO:Int),xs')) (hs':(qD S' sO xs').isSome=true):sO=lvl/\xs'=xs/\qC S' sO xs'=qC S lvl xs:=by
 have e1:=m.node _ _ hn;have e2:=m'.node _ _ hn';rw[e1] at e2;simp only[Option.some.injEq,Prod.mk.injEq] at e2;obtain⟨h1,rfl⟩:=e2;obtain rfl:lvl=sO:=zO;exact⟨rfl,rfl,by rw[<-m.items _ _ hs,<-m'.items _ _ hs']⟩
set_option maxRecDepth 100000 in
theorem qhV (bp be:Nat) (aG:bp≠be) (A1:Option Addr) (n1 c1:Nat) (A2:Option Addr) (n2 c2:Nat) (A3:Option Addr) (n3 c3:Nat) (A4:Option Addr) (n4 c4:Nat) (gen root next:Int) (v5:Value) (e:Int) (S:Sto) (u:FrameMode) (w:World) (hp:w.heap[bp]?=some (.cells (qF (.slice A1 n1 c1) (.slice A2 n2 c2) (.slice A3 n3 c3) (.slice A4 n4 c4) gen root next v5) 32 (0,0))) (he:w.heap[be]?=some (.cells #[.int .i64 e] 36 (0,0))) (h:e=0->qU w w.heap.size (.slice A1 n1 c1) (.slice A2 n2 c2) (.slice A3 n3 c3) (.slice A4 n4 c4) S):CallsD prog 127 #[.pointer (some ⟨bp,0,none⟩),.pointer (some ⟨be,0,none⟩)] u w (fun x u' w'=>u'=u/\x=.returned (.tuple #[])/\RoomyQ bp be (qF (.slice A1 n1 c1) (.slice A2 n2 c2) (.slice A3 n3 c3) (.slice A4 n4 c4) gen root next v5) e S w w'):=by
 have kp:=qa hp;have ke:=qa he;have fp:=qe hp;have fe:=qe he;by_cases h0:e=0
 ·subst h0;have HF:=Gh A1 n1 c1 A2 n2 c2 A3 n3 c3 A4 n4 c4 S w (h rfl);clear h;go_enter_d func127,ntmps127;go_wp2_with fail;refine HF.mono ?_;rintro x w2 ⟨hB,hQ⟩;have x2:Ext w w2:=hB;have dS:=qb hp x2;have fJ:=qb he x2;have uy:=qa dS;have ke2:=qa fJ;have fp2:=qe dS;have fe2:=qe fJ;clear kp ke fp fe hB HF hp he;rcases hQ with ⟨hm,rfl⟩|⟨hm,v,rfl,aB⟩
  ·have hE:zt S=9:=by unfold zt;rw[hm];rfl
   replace hE:=zH hE;replace hm:=zH hm;have rq:¬be=bp:=fun e=>aG e.symm;go_wp2_with fail;go_end0;exact⟨rfl,(Two.of_ext x2).trans ((Two.setE _ _ _).trans (Two.set8 _ _ _ _ _ _ _ _ _)),.inr ⟨9,zD,.inl ⟨rfl,hE.out.symm⟩,jG ((zJ _ _ _ _ aG).trans dS) _ _ _ _ _ _ _ _,(jz rq _ _ _ _ _ _ _ _).trans (qi fJ 0 _)⟩⟩
  ·obtain⟨A,c,rfl,-,-⟩:=qz aB;clear aB;by_cases hl:(Zb S).length<16
   ·have hE:zt S=9:=by unfold zt;rw[if_neg zO]
    replace hE:=zH hE;have d1:decide (((Zb S).length:Int)<16)=true:=decide_eq_true zO;replace hl:=zH hl;replace hm:=zH hm;have rq:¬be=bp:=fun e=>aG e.symm;go_wp2_with fail;go_end0;exact⟨rfl,(Two.of_ext x2).trans ((Two.setE _ _ _).trans (Two.set8 _ _ _ _ _ _ _ _ _)),.inr ⟨9,zD,.inl ⟨rfl,hE.out.symm⟩,jG ((zJ _ _ _ _ aG).trans dS) _ _ _ _ _ _ _ _,(jz rq _ _ _ _ _ _ _ _).trans (qi fJ 0 _)⟩⟩
   ·have hE:zt S=0:=by unfold zt;rw[if_pos ⟨hm,zO⟩]
    replace hE:=zH hE;have d1:decide (((Zb S).length:Int)<16)=false:=decide_eq_false zO;replace hl:=zH hl;replace hm:=zH hm;go_wp2_with fail;go_end0;exact⟨rfl,Two.of_ext x2,.inl ⟨rfl,hE.out,dS,fJ⟩⟩
 ·have b0:(e == 0)=false:=by rw[beq_eq_false_iff_ne];exact h0
  have b1:(e != 0)=true:=by rw[bne_iff_ne];exact h0
  replace h0:=zH h0;replace aG:=zH aG;clear h;go_enter_d func127,ntmps127;go_wp2_with fail;go_end0;exact⟨rfl,Two.set8 _ _ _ _ _ _ _ _ _,.inr ⟨e,h0.out,.inr ⟨h0.out,rfl⟩,jG hp _ _ _ _ _ _ _ _,(jz (fun x=>aG.out x.symm) _ _ _ _ _ _ _ _).trans he⟩⟩
def qap (S:Sto) (a:Nat) (x:It):Except Int (Nat×Sto):=match qu S a with
 |none=>.error 8
 |some (lvl,xs)=>Tx S lvl.toNat xs a x
def QE (S:Sto) (a:Int):Sto:=qy S (jo S.now a.toNat 1)
def GX (v:Vol) (r:Nat):Vol:=⟨v.id,(r:Int),v.fz,v.frm⟩
def YE (S:Sto) (root next:Int) (dead:List Int) (v:Vol) (P:Except Int (Nat×Sto)) (er:Int):Prop:=QO S v.root=er\/(QO S v.root=0/\(P=.error er\/∃ r2 S2,P=.ok (r2,S2) /\
 (YJ S2 root next dead (GX v r2) er\/∃ r3 S3 vs3,kz S2 root next dead (GX v r2) r3 S3 vs3/\(Jd S3 v.root=.error er\/∃ S4,Jd S3 v.root=.ok S4/\zt S4=er))))
def ChgQ (S:Sto) (gen root next:Int) (dead:List Int) (v:Vol) (P:Except Int (Nat×Sto)) (w:World) (e:Ending) (w':World):Prop:=Below w.heap.size w w' /\
 ((∃ er,er≠0/\e=.returned (.tuple #[JG,.int .i64 er])/\YE S root next dead v P er) \/
  ∃ r2 S2 r3 S3 vs3 S4 u,QO S v.root=0/\P=.ok (r2,S2)/\kz S2 root next dead (GX v r2) r3 S3 vs3/\Jd S3 v.root=.ok S4/\zt S4=0 /\
   e=.returned (.tuple #[u,.int .i64 0])/\Jf w.heap.size S4 gen (r3:Int) next dead u w')
theorem qiE {R:Ending->World->Prop} {tmps:Array Value} {W:World} {b:Nat} {x0 x1 x2 x3 x4 x5 x6 x7 z:Value} (h4:tmps[8]?.getD undef=.pointer (some ⟨b+1+1+1,0,none⟩)) (h5:tmps[9]?.getD undef=.pointer (some ⟨b+1+1+1+1,0,none⟩)) (r4:W.heap[b+3]?=some (.cells #[x0,x1,x2,x3,x4,x5,x6,x7] 32 (0,0))) (r6:W.heap[b+4]?=some (.cells #[z] 36 (0,0))) (hR:R (.returned (.tuple #[.agg #[x0,x1,x2,x3,x4,x5,x6,x7],z])) W):Leaves prog Tryz.f74 tmps R [] .returning W:=by
 have k4:=qa r4;have k6:=qa r6;refine⟨.tuple #[.agg #[x0,x1,x2,x3,x4,x5,x6,x7],z],?_,hR⟩;simp[results,results74,go_sem,h4,h5,k4,k6]
theorem qfg {R:Ending->World->Prop} {tmps:Array Value} {W:World} {b:Nat} (A1:Option Addr) (n1 c1:Nat) (A2:Option Addr) (n2 c2:Nat) (A3:Option Addr) (n3 c3:Nat) (A4:Option Addr) (n4 c4:Nat) (gen root next:Int) (v5:Value) (e:Int) (S:Sto) (h4:tmps[8]?.getD undef=.pointer (some ⟨b+1+1+1,0,none⟩)) (h5:tmps[9]?.getD undef=.pointer (some ⟨b+1+1+1+1,0,none⟩)) (r4:W.heap[b+3]?=some (.cells (qF (.slice A1 n1 c1) (.slice A2 n2 c2) (.slice A3 n3 c3) (.slice A4 n4 c4) gen root next v5) 32 (0,0))) (r6:W.heap[b+4]?=some (.cells #[.int .i64 e] 36 (0,0))) (h:e=0->qU W W.heap.size (.slice A1 n1 c1) (.slice A2 n2 c2) (.slice A3 n3 c3) (.slice A4 n4 c4) S) (hR1:e=0->zt S=0->∀ W',Two (b+3) (b+4) W W'->R (.returned (.tuple #[.agg (qF (.slice A1 n1 c1) (.slice A2 n2 c2) (.slice A3 n3 c3) (.slice A4 n4 c4) gen root next v5),.int .i64 0])) W') (hR2:∀ e' W',e'≠0->((e=0/\e'=zt S)\/(e≠0/\e'=e))->Two (b+3) (b+4) W W'->R (.returned (.tuple #[JG,.int .i64 e'])) W'):bodyPostD prog Tryz.f74 R .ret { tmps:=tmps,defers:=[{ target:=.fn (.func 127) #[],args:=#[.pointer (some ⟨b+1+1+1,0,none⟩),.pointer (some ⟨b+1+1+1+1,0,none⟩)] }] } W:=by
 refine leaves_cons (f:=127) (args:=#[.pointer (some ⟨b+1+1+1,0,none⟩),.pointer (some ⟨b+1+1+1+1,0,none⟩)]) zA2 (by simp[go_sem]) ?_;refine(qhV (b+3) (b+4) zO A1 n1 c1 A2 n2 c2 A3 n3 c3 A4 n4 c4 gen root next v5 e S .returning W r4 r6 h).mono ?_;rintro x u' w' ⟨rfl,rfl,hT,⟨h0,hE,g4,g6⟩|⟨e',h0,hE,g4,g6⟩⟩
 ·exact qiE h4 h5 g4 g6 (hR1 h0 hE w' hT)
 ·exact qiE h4 h5 g4 g6 (hR2 e' w' h0 hE hT)
theorem qat {tmps:Array Value} {w W:World} {S:Sto} {gen root next:Int} {dead:List Int} {v:Vol} {P:Except Int (Nat×Sto)} {er:Int} {E1 E2 E3 E4:Option Addr} {m1 e1 m2 e2 m3 e3 m4 e4:Nat} {g9 t9 n9:Int} {v5:Value} (aG:er≠0) (hc:YE S root next dead v P er) (h4:tmps[8]?.getD undef=.pointer (some ⟨w.heap.size+1+1+1,0,none⟩)) (h5:tmps[9]?.getD undef=.pointer (some ⟨w.heap.size+1+1+1+1,0,none⟩)) (r4:W.heap[w.heap.size+3]?=some (.cells (qF (.slice E1 m1 e1) (.slice E2 m2 e2) (.slice E3 m3 e3) (.slice E4 m4 e4) g9 t9 n9 v5) 32 (0,0))) (r6:W.heap[w.heap.size+4]?=some (.cells #[.int .i64 er] 36 (0,0))) (hB:Ext w W):bodyPostD prog Tryz.f74 (ChgQ S gen root next dead v P w) .ret { tmps:=tmps,defers:=[{ target:=.fn (.func 127) #[],args:=#[.pointer (some ⟨w.heap.size+1+1+1,0,none⟩),.pointer (some ⟨w.heap.size+1+1+1+1,0,none⟩)] }] } W:=by
 refine qfg E1 m1 e1 E2 m2 e2 E3 m3 e3 E4 m4 e4 g9 t9 n9 v5 er S h4 h5 r4 r6 (fun h=>absurd h aG) (fun h=>absurd h aG) (fun e' W' h0 hE hT=>?_);obtain rfl:e'=er:=by
  rcases hE with ⟨h,_⟩|⟨_,h⟩
  ·exact absurd h aG
  ·exact h
 have z:=(zG.1 r4).1;exact⟨hT.below hB zO zO zO,.inl ⟨e',aG,rfl,hc⟩⟩
section
variable {W C:World} {b:Nat} {u0 u1 u2 u3 u4 u5 u6 u7 x0 x1 x2 x3 x4 x5 x6 x7 y0 y1 y2 y3 z ev q0:Value} {tyP tyV oL iU:TypeId} {cs ds:Array Value}
theorem st5 (rp:W.heap[b]?=some (.cells #[u0,u1,u2,u3,u4,u5,u6,u7] tyP (0,0))) (re:W.heap[b+4]?=some (.cells #[q0] iU (0,0))) (hC:((((W.setCell ⟨b,0,none⟩ x0).setCell ⟨b,1,none⟩ x1).setCell ⟨b,2,none⟩ x2).setCell ⟨b,3,none⟩ x3).setCell ⟨b+1+1+1+1,0,none⟩ ev=C):C.heap[b]?=some (.cells #[x0,x1,x2,x3,u4,u5,u6,u7] tyP (0,0))/\C.heap[b+4]?=some (.cells #[ev] iU (0,0))/\C.heap.size=W.heap.size/\(∀ {w0:World},w0.heap.size<=b->Ext w0 W->Ext w0 C)/\∀ k,k≠b->k≠b+4->C.heap[k]?=W.heap[k]?:=by
 subst hC;have hs:=fun (A:World) (b j:Nat) (v:Value) (k:Nat) (hk:k≠b)=>zJ A ⟨b,j,none⟩ v k hk;have r1:=qi (qi (qi (qi rp 0 x0) 1 x1) 2 x2) 3 x3;have o1:∀ k,k≠b->((((W.setCell ⟨b,0,none⟩ x0).setCell ⟨b,1,none⟩ x1).setCell ⟨b,2,none⟩ x2).setCell ⟨b,3,none⟩ x3).heap[k]?=W.heap[k]?:=fun k hk=>by rw[hs _ _ _ _ _ hk,hs _ _ _ _ _ hk,hs _ _ _ _ _ hk,hs _ _ _ _ _ hk]
 refine⟨?_,qi (t:=iU) (cs:=#[q0]) ((o1 _ zO).trans re) 0 ev,zA2,fun hb hx=>?_,fun k h1 h2=>by rw[hs _ _ _ _ _ zO,o1 k h1]⟩
 ·rw[hs _ _ _ _ _ zO];exact r1
 ·exact Below.setCell (Zf hx (b:=b) hb _ _ _ _) (p:=⟨b+1+1+1+1,0,none⟩) zA1 _
theorem st6 (rp:W.heap[b]?=some (.cells #[u0,u1,u2,u3,u4,u5,u6,u7] tyP (0,0))) (rv:W.heap[b+1]?=some (.cells #[y0,y1,y2,y3] tyV (0,0))) (re:W.heap[b+4]?=some (.cells #[q0] iU (0,0))) (hC:(((((W.setCell ⟨b,0,none⟩ x0).setCell ⟨b,1,none⟩ x1).setCell ⟨b,2,none⟩ x2).setCell ⟨b,3,none⟩ x3).setCell ⟨b+1,1,none⟩ z).setCell ⟨b+1+1+1+1,0,none⟩ ev=C):C.heap[b]?=some (.cells #[x0,x1,x2,x3,u4,u5,u6,u7] tyP (0,0))/\C.heap[b+1]?=some (.cells #[y0,z,y2,y3] tyV (0,0))/\C.heap[b+4]?=some (.cells #[ev] iU (0,0))/\C.heap.size=W.heap.size/\(∀ {w0:World},w0.heap.size<=b->Ext w0 W->Ext w0 C)/\∀ k,k≠b->k≠b+1->k≠b+4->C.heap[k]?=W.heap[k]?:=by
 subst hC;have hs:=fun (A:World) (b j:Nat) (v:Value) (k:Nat) (hk:k≠b)=>zJ A ⟨b,j,none⟩ v k hk;have r1:=qi (qi (qi (qi rp 0 x0) 1 x1) 2 x2) 3 x3;have o1:∀ k,k≠b->((((W.setCell ⟨b,0,none⟩ x0).setCell ⟨b,1,none⟩ x1).setCell ⟨b,2,none⟩ x2).setCell ⟨b,3,none⟩ x3).heap[k]?=W.heap[k]?:=fun k hk=>by rw[hs _ _ _ _ _ hk,hs _ _ _ _ _ hk,hs _ _ _ _ _ hk,hs _ _ _ _ _ hk]
 refine⟨?_,?_,?_,zA2,fun hb hx=>?_,fun k h1 h2 h3=>by rw[hs _ _ _ _ _ zO,hs _ _ _ _ _ h2,o1 k h1]⟩
 ·rw[hs _ _ _ _ _ zO,hs _ _ _ _ _ zO];exact r1
 ·rw[hs _ _ _ _ _ zO];exact qi (t:=tyV) (cs:=#[y0,y1,y2,y3]) ((o1 _ zO).trans rv) 1 z
 ·exact qi (t:=iU) (cs:=#[q0]) (by rw[hs _ _ _ _ _ zO];exact(o1 _ zO).trans re) 0 ev
 ·exact Below.setCell (Below.setCell (Zf hx (b:=b) hb _ _ _ _) (p:=⟨b+1,1,none⟩) zA1 _) (p:=⟨b+1+1+1+1,0,none⟩) zA1 _
theorem st9 {p:Nat} (hp4:p≠b+4) (hbp:b<=p) (rp:W.heap[p]?=some (.cells #[u0,u1,u2,u3,u4,u5,u6,u7] tyP (0,0))) (re:W.heap[b+4]?=some (.cells #[q0] iU (0,0))) (hC:((((((((W.setCell ⟨p,0,none⟩ x0).setCell ⟨p,1,none⟩ x1).setCell ⟨p,2,none⟩ x2).setCell ⟨p,3,none⟩ x3).setCell ⟨p,4,none⟩ x4).setCell ⟨p,5,none⟩ x5).setCell ⟨p,6,none⟩ x6).setCell ⟨p,7,none⟩ x7).setCell ⟨b+1+1+1+1,0,none⟩ ev=C):C.heap[p]?=some (.cells #[x0,x1,x2,x3,x4,x5,x6,x7] tyP (0,0))/\C.heap[b+4]?=some (.cells #[ev] iU (0,0))/\C.heap.size=W.heap.size/\(∀ {w0:World},w0.heap.size<=b->Ext w0 W->Ext w0 C)/\∀ k,k≠p->k≠b+4->C.heap[k]?=W.heap[k]?:=by
 subst hC;have hs:=fun (A:World) (b j:Nat) (v:Value) (k:Nat) (hk:k≠b)=>zJ A ⟨b,j,none⟩ v k hk;refine⟨?_,?_,zA2,fun hb hx=>?_,fun k h1 h2=>by rw[hs _ _ _ _ _ zO,jz h1]⟩
 ·rw[hs _ _ _ _ _ zO];exact jG rp _ _ _ _ _ _ _ _
 ·exact qi (t:=iU) (cs:=#[q0]) (by rw[jz zO];exact re) 0 ev
 ·exact Below.setCell (zl hx (b:=p) zO _ _ _ _ _ _ _ _) (p:=⟨b+1+1+1+1,0,none⟩) zA1 _
end
theorem qhA {S S':Sto} {a:Int} (hS:qm S=true) (h:Jd S a=.ok S'):qm S'=true:=by
 unfold Jd at h;split at h
 ·rename_i h0;obtain⟨_,m,rfl,h8,h256,-⟩:=Xp h0;rw[Int.toNat_natCast] at h;unfold VE at h;split at h
  ·cases h
  ·rename_i t ht;cases h;exact qE.2 ⟨(qE.1 hS).1,Ya h8 (qE.1 hS).2.1 ht,(qE.1 hS).2.2⟩
 ·cases h
set_option maxRecDepth 100000 in
theorem qgu (A1:Option Addr) (n1 c1:Nat) (A2:Option Addr) (n2 c2:Nat) (A3:Option Addr) (n3 c3:Nat) (A4:Option Addr) (n4 c4:Nat) (gen root next:Int) (A5:Option Addr) (c5:Nat) (S:Sto) (dead:List Int) (v:Vol) (uu:vD v) (x:It) (tK:Zm x) (Ax:Option Addr) (cx:Nat) (htr:QO S v.root=0->VU (QE S v.root) v.root.toNat) (hT2:QO S v.root=0->∀ r2 S2,qap (QE S v.root) v.root.toNat x=.ok (r2,S2)->okL S2 (-1) (r2:Int)=true) (w:World) (h:qU w w.heap.size (.slice A1 n1 c1) (.slice A2 n2 c2) (.slice A3 n3 c3) (.slice A4 n4 c4) S) (hd:Zw w w.heap.size (.slice A5 dead.length c5) dead) (hxv:Bys w w.heap.size (.slice Ax x.val.length cx) x.val):Calls prog 74 #[.agg (qF (.slice A1 n1 c1) (.slice A2 n2 c2) (.slice A3 n3 c3) (.slice A4 n4 c4) gen root next (.slice A5 dead.length c5)),jB v,.func (.func 54) #[] #[],itV x Ax cx] w (ChgQ S gen root next dead v (qap (QE S v.root) v.root.toNat x) w):=by
 have HS:=zH (fun W (hx:Ext w W)=>qbC A1 n1 c1 A2 n2 c2 A3 n3 c3 A4 n4 c4 S v.root W (h.ext hx));obtain⟨P,hP⟩:∃ P,qap (QE S v.root) v.root.toNat x=P:=⟨_,rfl⟩
 rw[hP] at hT2 ⊢;replace hP:=zH hP;replace h:=zH h;replace hd:=zH hd;replace hxv:=zH hxv;replace htr:=zH htr;replace hT2:=zH hT2;replace tK:=zH tK;replace uu:=zH uu;go_enter_defers func74,ntmps74;go_wp2_with fail;generalize aA:World.alloc _ _=w1;have x1:Ext w w1:=by rw[<-aA];exact((((zN _ _).trans (zN _ _)).trans (zN _ _)).trans (zN _ _)).trans (zN _ _)
 have lQ:w1.heap[w.heap.size]?=some (.cells (qF (.slice A1 n1 c1) (.slice A2 n2 c2) (.slice A3 n3 c3) (.slice A4 n4 c4) gen root next (.slice A5 dead.length c5)) 32 (0,0)):=by rw[<-aA];exact(zK _ _ _ zA3).trans ((zK _ _ _ zA3).trans ((zK _ _ _ zA3).trans ((zK _ _ _ zA3).trans (zI _ _ _ rfl))))
 have wX:w1.heap[w.heap.size+1]?=some (.cells #[.int .u32 v.id,.int .i64 v.root,.bool v.fz,.int .u32 v.frm] 40 (0,0)):=by rw[<-aA];exact(zK _ _ _ zA3).trans ((zK _ _ _ zA3).trans ((zK _ _ _ zA3).trans (zI _ _ _ zA2)))
 have rx1:w1.heap[w.heap.size+2]?=some (.cells #[.int .u8 x.k,.int .u32 x.i,.int .u32 x.o,.int .i64 x.r,.slice Ax x.val.length cx] 68 (0,0)):=by rw[<-aA];exact(zK _ _ _ zA3).trans ((zK _ _ _ zA3).trans (zI _ _ _ zA2))
 have iP:w1.heap[w.heap.size+3]?=some (.cells Kl 32 (0,0)):=by rw[<-aA];exact(zK _ _ _ zA3).trans (zI _ _ _ zA2)
 have re1:w1.heap[w.heap.size+4]?=some (.cells #[.int .i64 0] 36 (0,0)):=by rw[<-aA];exact zI _ _ _ zA2
 have s1:w1.heap.size=w.heap.size+5:=by rw[<-aA];simp
 clear aA;refine(HS.out w1 x1).mono ?_;clear HS;rintro e w2 ⟨u,rfl,hQ,hB⟩;have x2:Ext w w2:=x1.trans hB;have eP:=qb lQ hB;have pI:=qb wX hB;have rx2:=qb rx1 hB;have dA:=qb iP hB;have re2:=qb re1 hB;have z12:=hB.size;have uy:=qa eP;have kv2:=qa pI;have kx2:=qa rx2;have ko2:=qa dA;have ke2:=qa re2;have fp2:=qe eP;have fv2:=qe pI;have fo2:=qe dA;have fe2:=qe re2;clear hB lQ wX rx1 iP re1 x1;rcases hQ with ⟨aG,rfl⟩|⟨h0,vv,rfl,hT⟩
 ·obtain⟨er,lu⟩:∃ er,QO S v.root=er:=⟨_,rfl⟩
  rw[lu] at aG ⊢;have lL:(er != 0)=true:=by rw[bne_iff_ne];exact aG
  replace aG:=zH aG;replace lu:=zH lu;go_wp2_with fail;obtain⟨nX,re3,z3,xe3,o3⟩:=st5 (b:=w.heap.size) (x0:=.slice none 0 0) (x1:=.slice none 0 0) (x2:=.slice none 0 0) (x3:=.slice none 0 0) (ev:=.int .i64 er) eP re2 rfl;obtain⟨fE,re4,z4,xe4,o4⟩:=st9 (b:=w.heap.size) (p:=w.heap.size+3) zO zO ((o3 _ zO zO).trans dA) re3 rfl;exact qat aG.out (.inl lu.out) rfl rfl fE re4 (xe4 (zM _) (xe3 (zM _) x2))
 ·obtain⟨a,lvl,xs,hra,ha8,hSA,hn,aN⟩:∃ (a lvl:Nat) (xs:List It),v.root=(a:Int)/\8<=a/\a<256/\qu (QE S v.root) a=some ((lvl:Int),xs)/\(qD (QE S v.root) lvl xs).isSome=true:=by obtain⟨h8,h256,lvl,xs,h1,h2⟩:=htr.out h0;exact⟨v.root.toNat,lvl,xs,zO,h8,h256,h1,h2⟩
  have tu:qm (QE S v.root)=true:=by
   obtain⟨hS,m,hm,h8,h256,-⟩:=Xp (show JJ S v.root=0 by
    unfold QO at h0;split at h0
    ·rename_i hh;exact absurd h0 hh
    ·rename_i hh;exact Classical.not_not.1 hh)
   exact qE.2 ⟨(qE.1 hS).1,(show Qn (jo S.now v.root.toNat 1)=true by rw[hm,Int.toNat_natCast];exact ZQ (qE.1 hS).2.1 h8 _),(qE.1 hS).2.2⟩
  change QP w1.heap.size (QE S v.root) vv w2 at hT;obtain⟨S1,xx⟩:∃ S1,QE S v.root=S1:=⟨_,rfl⟩
  have hP1:=hP.out;rw[xx] at hT hn aN tu hP1;replace xx:=zH xx;have hPe:P=Tx S1 lvl xs a x:=by rw[<-hP1];unfold qap;rw[hra,Int.toNat_natCast,hn];rfl
  obtain⟨BB,WW,gg,B3,d3,B4,d4,rfl,-⟩:=id hT;have pX:=zH (Vu (hT.newSto (zu tu)));have HPx:=zH (fun W aI hb=>qje (some ⟨BB,0,none⟩) S1.bs.length S1.bs.length (some ⟨WW,0,none⟩) S1.ws.length (S1.ws.length+1) B3 S1.now.length d3 B4 S1.last.length d4 S1 tu a lvl xs ha8 hSA hn aN x tK.out Ax cx W aI hb);rw[<-hPe] at HPx;have af:=zH (fun r S' (he:P=.ok (r,S'))=>qgd tu ha8 hn aN tK.out (hPe ▸ he));have wO:=zH (fun er (he:P=.error er)=>qgc (hPe ▸ he));have iV:=zH h0;have hraH:=zH hra;rw[<-hra] at HPx;clear hT h0 hn aN hPe tu hP1 hra;go_wp2_with fail;generalize aO:World.setCell (World.setCell (World.setCell (World.setCell (World.setCell w2 _ _) _ _) _ _) _ _) _ _=w3;obtain⟨nX,re3,z3,xe3,o3⟩:=st5 (b:=w.heap.size) eP re2 aO;have x3:=xe3 (zM _) x2;have rv3:=(o3 (w.heap.size+1) zO zO).trans pI;have dY:=(o3 (w.heap.size+3) zO zO).trans dA;have hEF:=(pX.out w3 (JH fun k h1 h2=>o3 k zO zO)).more (show w2.heap.size<=w3.heap.size by omega);have HP2:=HPx.out w3 hEF ((hxv.out.below x3).more x3.size);clear aO eP pI rx2 dA re2 uy kv2 kx2 ko2 ke2 fp2 fv2 fo2 fe2 xe3 hEF pX HPx o3;refine HP2.mono ?_;clear HP2;rintro e w4 ⟨u,rfl,hM,hB⟩;have x4:Ext w w4:=x3.trans hB;have nY:=qb nX hB;have pJ:=qb rv3 hB;have fE:=qb dY hB;have re4:=qb re3 hB;have z34:=hB.size;have kp4:=qa nY;have kv4:=qa pJ;have ko4:=qa fE;have ke4:=qa re4;have fp4:=qe nY;have fv4:=qe pJ;have fo4:=qe fE;have fe4:=qe re4;replace q0:w.heap.size<w4.heap.size:=zO;replace q1:w.heap.size+1<w4.heap.size:=zO;replace q3:w.heap.size+1+1+1<w4.heap.size:=zO;replace q4:w.heap.size+1+1+1+1<w4.heap.size:=zO;clear hB nX rv3 dY re3;rcases hq:P with er|⟨r2,S2⟩
  ·rw[hq] at hM;obtain rfl:=hM;have aG:=wO.out er hq;have lL:(er != 0)=true:=by rw[bne_iff_ne];exact aG
   have yY:Hid (YE S root next dead v P er):=zH (.inr ⟨iV.out,.inl hq⟩);replace aG:=zH aG;replace hq:=zH hq;go_wp2_with fail;obtain⟨sS,yI,re5,z5,xe5,o5⟩:=st6 (b:=w.heap.size) (x0:=.slice none 0 0) (x1:=.slice none 0 0) (x2:=.slice none 0 0) (x3:=.slice none 0 0) (z:=.int .i64 0) (ev:=.int .i64 er) nY pJ re4 rfl;obtain⟨gJ,re6,z6,xe6,o6⟩:=st9 (b:=w.heap.size) (p:=w.heap.size+3) zO zO ((o5 _ zO zO zO).trans fE) re5 rfl;exact qat aG.out yY.out rfl rfl gJ re6 (xe6 (zM _) (xe5 (zM _) x4))
  ·rw[hq] at hM;obtain⟨vv,rfl,hT⟩:=hM;obtain⟨BB2,WW2,gg2,C3,g3,C4,g4,rfl,-⟩:=id hT;have pX:=zH (Vu (hT.newSto (zu (af.out r2 S2 hq).1)));have dW:=zH (hT2.out iV.out r2 S2 hq);have pg:=(af.out r2 S2 hq).2;have lX:=zH hq;clear hT hq;go_wp2_with fail;generalize aV:World.setCell (World.setCell (World.setCell (World.setCell (World.setCell (World.setCell w4 _ _) _ _) _ _) _ _) _ _) _ _=w5;obtain⟨sS,yI,re5,z5,xe5,o5⟩:=st6 (b:=w.heap.size) nY pJ re4 aV;have x5:=xe5 (zM _) x4;have xg:=(o5 (w.heap.size+3) zO zO zO).trans fE;have uk:=(pX.out w5 (JH fun k h1 h2=>o5 k zO zO zO)).more (show w4.heap.size<=w5.heap.size by omega);have sN:vD (GX v r2):=⟨uu.out.1,by simp only[GX];omega,uu.out.2.2⟩
   have HS:=qaX (some ⟨BB2,0,none⟩) S2.bs.length S2.bs.length (some ⟨WW2,0,none⟩) S2.ws.length (S2.ws.length+1) C3 S2.now.length g3 C4 S2.last.length g4 gen root next A5 c5 S2 dead (GX v r2) sN (fun _ _ _=>dW.out) w5 uk (hd.out.ext_ x5)
   clear aV nY pJ fE re4 kp4 kv4 ko4 ke4 fp4 fv4 fo4 fe4 xe5 uk pX dW sN o5;refine HS.mono ?_;clear HS;intro e w6 hQS;obtain⟨dC,hS6⟩:=hQS.split;have x6:Ext w w6:=x5.trans dC;have rp6:=qb sS dC;have gJ:=qb xg dC;have re6:=qb re5 dC;have z56:=dC.size;have kp6:=qa rp6;have ko6:=qa gJ;have ke6:=qa re6;have fp6:=qe rp6;have fo6:=qe gJ;have fe6:=qe re6;replace q0:w.heap.size<w6.heap.size:=zO;replace q3:w.heap.size+1+1+1<w6.heap.size:=zO;replace q4:w.heap.size+1+1+1+1<w6.heap.size:=zO;clear hQS dC sS yI xg re5 q1;rcases hS6 with ⟨er,aG,rfl,hE⟩|⟨r3,S3,vs3,u,hO,rfl,hN⟩
   ·have lL:(er != 0)=true:=by rw[bne_iff_ne];exact aG
    have yY:Hid (YE S root next dead v P er):=zH (.inr ⟨iV.out,.inr ⟨r2,S2,lX.out,.inl hE⟩⟩);replace aG:=zH aG;clear hE;go_wp2_with fail;obtain⟨rp7,re7,z7,xe7,o7⟩:=st9 (b:=w.heap.size) (p:=w.heap.size) (x0:=.slice none 0 0) (x1:=.slice none 0 0) (x2:=.slice none 0 0) (x3:=.slice none 0 0) (x4:=.int .u32 0) (x5:=.int .i64 0) (x6:=.int .u32 0) (x7:=.slice none 0 0) (ev:=.int .i64 er) zO zO rp6 re6 rfl;obtain⟨ro8,re8,z8,xe8,o8⟩:=st9 (b:=w.heap.size) (p:=w.heap.size+3) zO zO ((o7 _ zO zO).trans gJ) re7 rfl;exact qat aG.out yY.out rfl rfl ro8 re8 (xe8 (zM _) (xe7 (zM _) x6))
   ·obtain⟨E1,e1,E2,e2,E3,e3,E4,e4,E5,e5,rfl,ai⟩:=id hN;go_wp2_with fail;generalize gp:World.setCell (World.setCell (World.setCell (World.setCell (World.setCell (World.setCell (World.setCell (World.setCell (World.setCell w6 _ _) _ _) _ _) _ _) _ _) _ _) _ _) _ _) _ _=w7;obtain⟨rp7,re7,z7,xe7,o7⟩:=st9 (b:=w.heap.size) (p:=w.heap.size) zO zO rp6 re6 gp;have x7:=xe7 (zM _) x6;have ro7:=(o7 (w.heap.size+3) zO zO).trans gJ;obtain⟨hst7,hin7⟩:=ai w7 (JH fun k h1 h2=>o7 k zO zO);have HLv:=qgZ E1 _ e1 E2 _ e2 E3 _ e3 E4 _ e4 S3 v.root w7 (hst7.more zO);have hclH:=zH ai;have o7H:=zH o7;clear gp rp6 gJ re6 kp6 ko6 ke6 fp6 fo6 fe6 xe7 o7 hst7 hin7 ai;replace hN:=zH hN;replace hO:=zH hO;refine HLv.mono ?_;clear HLv;rintro e w8 ⟨u,rfl,hL,hB⟩;have x78:Ext w7 w8:=hB;have x8:Ext w w8:=x7.trans hB;have rp8:=qb rp7 hB;have ro8:=qb ro7 hB;have re8:=qb re7 hB;have z78:=hB.size;have kp8:=qa rp8;have ko8:=qa ro8;have ke8:=qa re8;have fp8:=qe rp8;have fo8:=qe ro8;have fe8:=qe re8;replace q0:w.heap.size<w8.heap.size:=zO;replace q3:w.heap.size+1+1+1<w8.heap.size:=zO;replace q4:w.heap.size+1+1+1+1<w8.heap.size:=zO;clear hB rp7 ro7 re7;rcases hl:Jd S3 v.root with er|S4
    ·rw[hl] at hL;obtain rfl:=hL;have aG:er≠0:=by
      unfold Jd at hl;split at hl
      ·unfold VE at hl;split at hl
       ·cases hl;decide
       ·cases hl
      ·rename_i hh;cases hl;exact hh
     have yY:Hid (YE S root next dead v P er):=zH (.inr ⟨iV.out,.inr ⟨r2,S2,lX.out,.inr ⟨r3,S3,vs3,hO.out,.inl hl⟩⟩⟩);replace aG:=zH aG;replace hl:=zH hl;go_wp2_with fail;obtain⟨rp9,re9,z9,xe9,o9⟩:=st5 (b:=w.heap.size) (x0:=.slice none 0 0) (x1:=.slice none 0 0) (x2:=.slice none 0 0) (x3:=.slice none 0 0) (ev:=.int .i64 er) rp8 re8 rfl;obtain⟨roA,reA,zA,xeA,oA⟩:=st9 (b:=w.heap.size) (p:=w.heap.size+3) zO zO ((o9 _ zO zO).trans ro8) re9 rfl;exact qat aG.out yY.out rfl rfl roA reA (xeA (zM _) (xe9 (zM _) x8))
    ·rw[hl] at hL;obtain⟨vv,rfl,hT⟩:=hL;obtain⟨BB4,WW4,gg4,G3,h3,G4,h4,rfl,-⟩:=id hT;have hJJ:qm S4=true:=by obtain⟨_,_,_,_,_,_,_,_,hWX,hOA,hp9,_⟩:=hO.out;exact qhA hp9.may hl
     have hns4:=zH (Vu (hT.newSto (zu hJJ)));replace hl:=zH hl;clear hT hJJ;go_wp2_with fail;obtain⟨rp9,re9,z9,xe9,o9⟩:=st5 (b:=w.heap.size) (x0:=.slice (some ⟨BB4,0,none⟩) S4.bs.length S4.bs.length) (x1:=.slice (some ⟨WW4,0,none⟩) S4.ws.length (S4.ws.length+1)) (x2:=.slice G3 S4.now.length h3) (x3:=.slice G4 S4.last.length h4) (ev:=.int .i64 0) rp8 re8 rfl;have roP:=(o9 (w.heap.size+3) zO zO).trans ro8;generalize yF:World.setCell (World.setCell (World.setCell (World.setCell (World.setCell w8 _ _) _ _) _ _) _ _) _ _=w9 at *;generalize aY:World.setCell (World.setCell (World.setCell (World.setCell (World.setCell (World.setCell (World.setCell (World.setCell (World.setCell w9 _ _) _ _) _ _) _ _) _ _) _ _) _ _) _ _) _ _=Wf;obtain⟨roA,reA,zA,xeA,oA⟩:=st9 (b:=w.heap.size) (p:=w.heap.size+3) zO zO roP re9 aY;have yf:=xeA (zM _) (xe9 (zM _) x8);clear aY yF;have hk8:∀ k,w7.heap.size<=k->k<w8.heap.size->Wf.heap[k]?=w8.heap[k]?:=fun k h1 h2=>(oA k zO zO).trans (o9 k zO zO);have hk6:∀ k,w5.heap.size<=k->k<w6.heap.size->Wf.heap[k]?=w6.heap[k]?:=fun k h1 h2=>(oA k zO zO).trans ((o9 k zO zO).trans ((Below.block x78 k zO).trans (o7H.out k zO zO)));have x5s:=x5.size;have hN4:Jf w5.heap.size S4 gen (r3:Int) next dead (.agg (qF (.slice (some ⟨BB4,0,none⟩) S4.bs.length S4.bs.length) (.slice (some ⟨WW4,0,none⟩) S4.ws.length (S4.ws.length+1)) (.slice G3 S4.now.length h3) (.slice G4 S4.last.length h4) gen (r3:Int) next (.slice E5 dead.length e5))) Wf:=
      ⟨_,_,_,_,_,_,_,_,_,_,rfl,fun C hC=>⟨(hns4.out C fun q v h1 h2 h3=>hC q v zO zO ((Jn (hk8 q.block h1 h2)).trans h3)).more zO,((hclH.out C fun q v h1 h2 h3=>hC q v zO zO ((Jn (hk6 q.block h1 h2)).trans h3)).2.more zO)⟩⟩
     refine qfg _ _ _ _ _ _ _ _ _ _ _ _ gen (r3:Int) next (.slice E5 dead.length e5) 0 S4 rfl rfl roA reA (fun _=>?_) (fun _ hE W' hT=>?_) (fun e' W' h0 hE hT=>?_)
     ·obtain⟨F1,f1,F2,f2,F3,f3,F4,f4,F5,f5,ee,aI,hin⟩:=hN4.sto;simp only[qF,Value.agg.injEq,Array.mk.injEq,List.cons.injEq,Value.slice.injEq,true_and,and_true] at ee;obtain⟨⟨rfl,rfl⟩,⟨rfl,rfl⟩,⟨rfl,rfl⟩,⟨rfl,rfl⟩,rfl,rfl⟩:=ee;exact aI
     ·exact⟨hT.below yf zO zO zO,.inr ⟨r2,S2,r3,S3,vs3,S4,_,iV.out,lX.out,hO.out,hl.out,hE,rfl,hN4.keep x5s hT.size fun k h1 h2=>hT.same k h2 zO zO⟩⟩
     ·refine⟨hT.below yf zO zO zO,.inl ⟨e',h0,rfl,.inr ⟨iV.out,.inr ⟨r2,S2,lX.out,.inr ⟨r3,S3,vs3,hO.out,.inr ⟨S4,hl.out,?_⟩⟩⟩⟩⟩⟩;rcases hE with ⟨_,h⟩|⟨h,_⟩
      ·exact h.symm
      ·exact absurd rfl h
def openV:Option Vol->Value
 |none=>.tuple #[jB XI,.int .i64 6]
 |some v=>.tuple #[jB v,.int .i64 (if v.fz=true then 170 else 0)]
def OpenQ (S:Sto) (root next:Int) (dead:List Int) (id:Int) (w:World) (e:Ending) (w':World):Prop:=Below w.heap.size w w' /\
 ((e=.returned (.tuple #[jB XI,.int .i64 8])/\zj S root next dead) \/
  ∃ vs refs nodes,Qg S root next dead vs/\qX S (Qs root dead vs) refs nodes/\QF S refs/\e=.returned (openV (Qr vs id)))
theorem qbp {R:Ending->World->Prop} {a:Act} {W:World} {b:Nat} {x0 x1 x2 x3 v:Value} (h4:a.tmps[4]?.getD undef=.pointer (some ⟨b,0,none⟩)) (h5:a.tmps[5]?.getD undef=v) (hd:a.defers=[]) (aF:W.heap[b]?=some (.cells #[x0,x1,x2,x3] 40 (0,0))) (hR:R (.returned (.tuple #[.agg #[x0,x1,x2,x3],v])) W):bodyPost prog Tryz.f71 R .ret a W:=by
 refine bodyPost_ret (v:=.tuple #[.agg #[x0,x1,x2,x3],v]) ?_ hd hR;have k:=qa aF;simp[results,results71,go_sem,h4,h5,k]
set_option maxRecDepth 100000 in
theorem qkJ (A1:Option Addr) (n1 c1:Nat) (A2:Option Addr) (n2 c2:Nat) (A3:Option Addr) (n3 c3:Nat) (A4:Option Addr) (n4 c4:Nat) (gen root next:Int) (A5:Option Addr) (c5:Nat) (S:Sto) (dead:List Int) (id:Int) (w:World) (h:qU w w.heap.size (.slice A1 n1 c1) (.slice A2 n2 c2) (.slice A3 n3 c3) (.slice A4 n4 c4) S) (hd:Zw w w.heap.size (.slice A5 dead.length c5) dead):Calls prog 71 #[.agg (qF (.slice A1 n1 c1) (.slice A2 n2 c2) (.slice A3 n3 c3) (.slice A4 n4 c4) gen root next (.slice A5 dead.length c5)),.int .u32 id] w (OpenQ S root next dead id w):=by
 have HV:=zH (fun W (hx:Ext w W)=>Kr A1 n1 c1 A2 n2 c2 A3 n3 c3 A4 n4 c4 gen root next A5 c5 S dead id W (h.ext hx) (hd.ext_ hx));clear h hd;go_enter func71,ntmps71;go_wp2_with fail;generalize aA:World.alloc (World.alloc w _) _=w1;have x1:Ext w w1:=by rw[<-aA];exact(zN _ _).trans (zN _ _)
 have r1:w1.heap[w.heap.size+1]?=some (.cells #[.int .u32 0,.int .i64 0,.bool false,.int .u32 0] 40 (0,0)):=by rw[<-aA];exact zI _ _ _ zA2
 clear aA;refine(HV.out w1 x1).mono ?_;clear HV;rintro e w2 ⟨hB,hQ⟩;have x2:Ext w w2:=x1.trans hB;have r2:=qb r1 hB;have k2:=qa r2;have f2:=qe r2;have z2:=(zG.1 r2).1;clear hB r1;obtain⟨u,er,rfl,hu⟩:∃ (u:Vol) (er:Int),e=.returned (.tuple #[jB u,.int .i64 er])/\((er=8/\u=XI/\zj S root next dead)\/∃ vs refs nodes,Qg S root next dead vs/\qX S (Qs root dead vs) refs nodes/\QF S refs/\((er=6/\u=XI/\Qr vs id=none)\/(er=0/\Qr vs id=some u))):=by
  rcases hQ with ⟨rfl,hb⟩|⟨vs,refs,nodes,hp,hc,he,rfl⟩
  ·exact⟨XI,8,rfl,.inl ⟨rfl,rfl,hb⟩⟩
  ·rcases hv:Qr vs id with _|u
   ·exact⟨XI,6,rfl,.inr ⟨vs,refs,nodes,hp,hc,he,.inl ⟨rfl,rfl,hv⟩⟩⟩
   ·exact⟨u,0,rfl,.inr ⟨vs,refs,nodes,hp,hc,he,.inr ⟨rfl,hv⟩⟩⟩
 clear hQ;obtain⟨ui,ur,uf,um⟩:=u;unfold jB;by_cases h0:er=0
 ·subst h0;obtain⟨vs,refs,nodes,hp,hc,he,hv⟩:∃ vs refs nodes,Qg S root next dead vs/\qX S (Qs root dead vs) refs nodes/\QF S refs/\Qr vs id=some ⟨ui,ur,uf,um⟩:=by
   rcases hu with ⟨h,_⟩|⟨vs,refs,nodes,hp,hc,he,⟨h,_⟩|⟨_,hv⟩⟩
   ·cases h
   ·cases h
   ·exact⟨vs,refs,nodes,hp,hc,he,hv⟩
  replace hp:=zH hp;replace hc:=zH hc;replace he:=zH he;replace hv:=zH hv;clear hu;cases uf
  ·go_wp2_with fail;exact qbp (b:=w.heap.size+1) rfl rfl rfl (qb (Vm r2 _ _ _ _) (zN _ _)) ⟨Below.alloc (Zf x2 zO _ _ _ _) (by have:=x2.size;simpa using this) _,.inr ⟨vs,refs,nodes,hp.out,hc.out,he.out,by rw[hv.out];rfl⟩⟩
  ·go_wp2_with fail;exact qbp (b:=w.heap.size+1) rfl rfl rfl (qb (Vm r2 _ _ _ _) (zN _ _)) ⟨Below.alloc (Zf x2 zO _ _ _ _) (by have:=x2.size;simpa using this) _,.inr ⟨vs,refs,nodes,hp.out,hc.out,he.out,by rw[hv.out];rfl⟩⟩
 ·have hb:(er == 0)=false:=by rw[beq_eq_false_iff_ne];exact h0
  have bZ:decide (er=0)=false:=decide_eq_false h0;replace h0:=zH h0;replace hu:=zH hu;go_wp2_with fail;refine qbp (b:=w.heap.size+1) rfl rfl rfl (qb (Vm r2 _ _ _ _) (zN _ _)) ⟨Below.alloc (Zf x2 zO _ _ _ _) (by have:=x2.size;simpa using this) _,?_⟩;rcases hu.out with ⟨rfl,he,hb⟩|⟨vs,refs,nodes,hp,hc,he,⟨rfl,hu,hv⟩|⟨h,_⟩⟩
  ·cases he;exact .inl ⟨rfl,hb⟩
  ·cases hu;exact .inr ⟨vs,refs,nodes,hp,hc,he,by rw[hv];rfl⟩
  ·exact absurd h h0.out
theorem qcQ {x:It} (h:VB x=true):qo x=(1,x.i,0)/\x.r=0:=by unfold VB Yv at h;simp only[Bool.and_eq_true,decide_eq_true_eq] at h;obtain⟨_,h1,_,h3,h4,_⟩:=h;exact⟨by unfold qo;rw[<-h1,<-h3],h4.symm⟩
theorem qhR {S:Sto} {root next:Int} {dead:List Int} {vs:List Vol} (h:Qg S root next dead vs):∃ its:List It,vs=its.map jg/\its.length<=16/\(∀ x∈its,ZO next x=true)/\its.Pairwise (fun a b=>qM (qo a) (qo b)=true):=by
 obtain⟨a,rfl,h8,h256,lvl,xs,hn,hs⟩:=ZY h.top;have hv:=h.vols;unfold vt at hv;rw[show ((a:Nat):Int).toNat=a from rfl,hn] at hv;simp only[Int.toNat_natCast] at hv;rw[Yp _ _ _ zA2] at hv;split at hv
 ·rename_i hc;simp only[Option.some.injEq,List.nil_append] at hv;exact⟨qC S lvl xs,hv.symm,by simpa using hc.2,fun x hx=>List.all_eq_true.1 hc.1 x hx,(VR hs).1⟩
 ·cases hv
structure VolsL (S:Sto) (root next:Int) (vs:List Vol) (refs:Nat->Nat):Prop where
 len:vs.length<=16
 rise:vs.Pairwise fun a b=>a.id<b.id
 num:∀ v∈vs,1<=v.id/\v.id<next
 at_:∀ v∈vs,∃ r:Nat,v.root=(r:Int)/\8<=r/\r<256/\1<=refs r
 top:∃ r:Nat,root=(r:Int)/\8<=r/\r<256/\1<=refs r
 now:∀ a,a<256->refs a<=(S.now[a]?.getD 0).toNat
theorem qgw (x:It):(jg x).id=x.i:=rfl
theorem pool_law {S:Sto} {root next:Int} {dead:List Int} {vs:List Vol} {refs nodes:Nat->Nat} (h:Qg S root next dead vs) (hc:qX S (Qs root dead vs) refs nodes) (he:QF S refs) (h0:∀ v∈vs,0<=v.id):VolsL S root next vs refs:=by
 obtain⟨its,rfl,hl,hg,ho⟩:=qhR h;have pq:∀ r∈Zl root dead (its.map jg),∃ n:Nat,r=(n:Int)/\8<=n/\n<256/\1<=refs n:=fun r hr=>by obtain⟨n,e,h1,h2,_⟩:=ZY (h.ok r hr);refine⟨n,e,h1,h2,?_⟩;rw[hc.mkd.sum n];have:1<=(Qs root dead (its.map jg)).count n:=List.one_le_count_iff.2 (List.mem_map.2 ⟨r,hr,by rw[e];rfl⟩);omega
 refine⟨by simpa using hl,?_,fun v hv=>?_,fun v hv=>pq _ (List.mem_append_right _ (List.mem_map_of_mem hv)),pq _ (List.mem_append_left _ List.mem_cons_self),he⟩
 ·rw[List.pairwise_map];refine(List.Pairwise.and_mem.1 ho).imp ?_;rintro a b ⟨ha,hb,hlt⟩;have ka:=(qcQ (x:=a) (by have:=hg a ha;unfold ZO at this;simp only[Bool.and_eq_true] at this;exact this.1)).1;have kb:=(qcQ (x:=b) (by have:=hg b hb;unfold ZO at this;simp only[Bool.and_eq_true] at this;exact this.1)).1;rw[ka,kb,Ku] at hlt;simp only[qgw];simp only at hlt;omega
 ·obtain⟨x,hx,rfl⟩:=List.mem_map.1 hv;have:=hg x hx;have iV:=h0 _ hv;unfold ZO at this;simp only[Bool.and_eq_true,decide_eq_true_eq] at this;rw[qgw] at iV ⊢;omega
theorem find_id {vs:List Vol} (h:vs.Pairwise fun a b=>a.id<b.id) {v:Vol} (hv:v∈vs):(vs.find? fun x=>decide (x.id=v.id))=some v:=by
 induction vs with
 |nil=>cases hv
 |cons a r ih =>
  rw[List.pairwise_cons] at h;rcases List.mem_cons.1 hv with rfl|hv
  ·simp
  ·have:=h.1 v hv;rw[List.find?_cons,decide_eq_false zO];exact ih h.2 hv
theorem qcS {S:Sto}:∀ (h:Nat) (xs:List It),(∀ x∈xs,Zm x)->∀ y∈qC S h xs,Zm y
 |0,xs,hx,y,hy=>hx y hy
 |h+1,xs,_,y,hy=>by
  rw[zo] at hy;obtain⟨z,hz,hy⟩:=List.mem_flatMap.1 hy;rcases hn:qu S z.r.toNat with _|⟨lvl,ys⟩
  ·rw[hn] at hy;cases hy
  ·rw[hn] at hy;exact qcS h ys (fun x hx=>((qN hn).2.1 x hx).1) y hy
theorem UG {S:Sto} {root next:Int} {dead:List Int} {vs:List Vol} (h:Qg S root next dead vs):∀ v∈vs,vD v:=fun v hv=>by
 obtain⟨a,rfl,h8,h256,lvl,xs,hn,hs⟩:=ZY h.top;have hvs:=h.vols;unfold vt at hvs;rw[show ((a:Nat):Int).toNat=a from rfl,hn] at hvs;simp only[Int.toNat_natCast] at hvs;rw[Yp _ _ _ zA2] at hvs;split at hvs
 ·rename_i hc;simp only[Option.some.injEq,List.nil_append] at hvs;rw[<-hvs] at hv;obtain⟨x,hx,rfl⟩:=List.mem_map.1 hv;have h1:=qcS (S:=S) lvl xs (fun y hy=>((qN hn).2.1 y hy).1) x hx;have h2:=List.all_eq_true.1 hc.1 x hx;unfold ZO VB at h2;simp only[Bool.and_eq_true,decide_eq_true_eq] at h2;exact qgx h1 zO
 ·cases hvs
theorem zj.no {S:Sto} {root next:Int} {dead:List Int} {vs:List Vol} {refs nodes:Nat->Nat} (h:zj S root next dead) (hp:Qg S root next dead vs) (hc:qX S (Qs root dead vs) refs nodes) (he:QF S refs):False:=by obtain⟨r,n,h1,h2⟩:=h vs hp;obtain⟨_,e⟩:=jI.same h1.mkd hc.mkd;subst e;exact h2 he
theorem Gf {S:Sto} {root next:Int} {dead:List Int} {vs:List Vol} {refs nodes:Nat->Nat} (h:Qg S root next dead vs) (hc:qX S (Qs root dead vs) refs nodes) (he:QF S refs):VolsL S root next vs refs:=pool_law h hc he fun v hv=>(UG h v hv).1.1
theorem vE.stack {ks rs:Nat->List Nat} {R:List Nat} {M:Nat->Bool} {refs:Nat->Nat} {s s':List Nat} (h:vE ks rs R M refs s) (hs:∀ x,x∈s↔x∈s'):vE ks rs R M refs s':=
 ⟨h.reach,fun a ha=>h.stk a ((hs a).2 ha),fun a ha=>(h.root a ha).imp id (hs a).1,fun a ha b hb=>(h.kids a ha b hb).imp id (hs b).1,h.sum⟩
def qaf (S:Sto):Nat->List Nat->List Nat->List Nat->Option (List Nat×List Nat)
 |_,[],met,refs=>some (met,refs)
 |0,_ :: _,_,_=>none
 |f+1,a :: s,met,refs=>if met.contains a then qaf S f s met refs else if a<256 then qaf S f (VD S a++s) (a :: met) (VK S a++refs) else none
def qbj (met:List Nat):Nat->Bool:=fun a=>met.contains a
theorem qke (a:Nat) (met:List Nat):qbj (a :: met)=Xa (qbj met) a:=by
 funext b;unfold qbj Xa;by_cases h:b=a
 ·subst h;simp
 ·rw[if_neg h];simp[h]
theorem qbQ {S:Sto} {R:List Nat}:∀ (f:Nat) (s met refs:List Nat) {met' refs':List Nat},vE (VD S) (VK S) R (qbj met) (fun b=>refs.count b) s->qaf S f s met refs=some (met',refs')->vE (VD S) (VK S) R (qbj met') (fun b=>refs'.count b) []
 |0,[],met,refs,met',refs',h,e=>by simp only[qaf,Option.some.injEq,Prod.mk.injEq] at e;obtain⟨rfl,rfl⟩:=e;exact h
 |f+1,[],met,refs,met',refs',h,e=>by simp only[qaf,Option.some.injEq,Prod.mk.injEq] at e;obtain⟨rfl,rfl⟩:=e;exact h
 |0,_ :: _,met,refs,met',refs',h,e=>by cases e
 |f+1,a :: s,met,refs,met',refs',h,e=>by
  have h1:vE (VD S) (VK S) R (qbj met) (fun b=>refs.count b) (s++[a]):=h.stack fun x=>by simp[or_comm]
  simp only[qaf] at e;split at e
  ·rename_i hm;exact qbQ f s met refs (h1.again hm) e
  ·rename_i hm;split at e
   ·rename_i hl;have h2:=h1.new (refs':=fun b=>(VK S a++refs).count b) (by unfold qbj;simpa using hm) hl (fun b=>by simp only[List.count_append];omega);rw[<-qke] at h2;exact qbQ f _ _ _ (h2.stack fun x=>by simp[or_comm]) e
   ·cases e
theorem vE.start (ks rs:Nat->List Nat) (R:List Nat):vE ks rs R (qbj []) (fun b=>R.count b) R:=by
 have h0:∀ b n,Gk rs (qbj []) b n=0:=fun b n=>by
  induction n with
  |zero=>rfl
  |succ n ih=>unfold Gk;rw[ih];rfl
 exact { reach:=fun a h=>(by cases h),stk:=fun a ha=>.base ha,root:=fun a ha=>.inr ha,kids:=fun a h=>(by cases h),sum:=fun b=>by rw[h0];rfl }
def Tt (met:List Nat):Nat->Nat:=fun a=>if met.contains a then 1 else 0
theorem qhJ (met:List Nat):VF (Tt met)=qbj met:=by funext a;unfold VF Tt qbj;cases met.contains a <;> rfl
theorem qgT {S:Sto} {R met refs:List Nat} {f:Nat} (hR:R≠[]) (h:qaf S f R [] R=some (met,refs)):qX S R (fun b=>refs.count b) (Tt met):=by
 have h1:=qbQ f R [] R (vE.start _ _ R) h;refine⟨jI.walk.2 (by rw[qhJ];exact h1),fun a=>?_⟩;have h2:=qbO (VF (Tt met)) 256;have h3:Tt met a<=1:=by unfold Tt;split <;> omega
 have h4:0<R.length:=List.length_pos_iff.2 hR;omega
def KA (S:Sto) (root next:Int) (dead:List Int):Option (List Vol×List Nat×List Nat):=
 if qm S && decide (dead.length<=40) && okL S (-1) root then match vt S root next with
  |none=>none
  |some vs=>if (Zl root dead vs).all (fun r=>okL S (-1) r) then match qaf S 2000 (Qs root dead vs) [] (Qs root dead vs) with
   |none=>none
   |some (met,refs)=>if qdJ S (fun b=>refs.count b) then some (vs,met,refs) else none
   else none
 else none
theorem vR {S:Sto} {root next:Int} {dead:List Int} {vs:List Vol} {met refs:List Nat} (h:KA S root next dead=some (vs,met,refs)):Qg S root next dead vs/\qX S (Qs root dead vs) (fun b=>refs.count b) (Tt met)/\QF S (fun b=>refs.count b):=by
 unfold KA at h;split at h
 ·rename_i h1;simp only[Bool.and_eq_true,decide_eq_true_eq] at h1;split at h
  ·cases h
  ·rename_i vs' hv;split at h
   ·rename_i h2;split at h
    ·cases h
    ·rename_i met' refs' hw;split at h
     ·rename_i h3;simp only[Option.some.injEq,Prod.mk.injEq] at h;obtain⟨rfl,rfl,rfl⟩:=h;exact⟨⟨h1.1.1,h1.1.2,h1.2,hv,fun r hr=>List.all_eq_true.1 h2 r hr⟩,qgT (by unfold Qs Zl;simp) hw,(qfs _ _).1 h3⟩
     ·cases h
   ·cases h
 ·cases h
theorem Qg.unique {S:Sto} {root next:Int} {dead:List Int} {vs vs':List Vol} {refs nodes refs' nodes':Nat->Nat} (h:Qg S root next dead vs) (hc:qX S (Qs root dead vs) refs nodes) (h':Qg S root next dead vs') (uF:qX S (Qs root dead vs') refs' nodes'):vs'=vs/\refs'=refs/\VF nodes'=VF nodes:=by obtain rfl:=Qg.same h h';obtain⟨e1,e2⟩:=jI.same uF.mkd hc.mkd;exact⟨rfl,e2,e1⟩
end Go.Proofs.YtpbniokljofedaaGreat
