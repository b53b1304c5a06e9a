/- Texts LooseR, VolS, Unset0, Bch, IWrite, Pad, Seal, NWrite, joined. -/
import Derived.Test.YtpbniokljofedaaGreatZI15
set_option linter.unusedSimpArgs false
set_option linter.unusedVariables false
set_option maxHeartbeats 8000000
open Go.Proofs.Tryz
namespace Go.Proofs.YtpbniokljofedaaGreat
open Go.RowKit
def ZL (t:List UInt8) (a:Nat):List UInt8:=t.set a (UInt8.ofNat (qT t a-1))
theorem qdo (t:List UInt8) (a:Nat):(ZL t a).length=t.length:=by unfold ZL;simp
theorem qcu {n:Nat} (h:0<n) (h2:n<256):IntKind.u8.wrap ((n:Int)-1)=(((UInt8.ofNat (n-1)).toNat:Nat):Int):=by rw[<-qgH];congr 1;omega
theorem YZ {R:Ending->World->Prop} {a:Act} {W:World} {v:Value} (h4:a.tmps[4]?.getD undef=v) (hd:a.defers=[]) (hR:R (.returned v) W):bodyPost prog Tryz.f133 R .ret a W:=by refine bodyPost_ret (v:=v) ?_ hd hR;simp[results,results133,go_sem,h4]
set_option maxRecDepth 100000 in
theorem qeL (b lo:Nat) (v1 v2 v4:Value) (g c3:Nat) (t:List UInt8) (a:Nat) (ha:a<256) (w:World) (hr:w.heap[b]?=some (.cells #[v1,v2,.slice (some ⟨g,0,none⟩) 256 c3,v4] 191 (0,0))) (ho:w.ownsRow lo 5 1 (.slice (some ⟨g,0,none⟩) 256 c3) 256 (t.map bv)) (hbg:b≠g) (h0:0<qT t a):Calls prog 133 #[.pointer (some ⟨b,0,none⟩),.int .i64 (a:Int)] w fun e W=>e=.returned (.int .i64 0)/\Below lo w W/\(∀ k,k≠g->W.heap[k]?=w.heap[k]?)/\W.heap.size=w.heap.size/\W.ownsRow lo 5 1 (.slice (some ⟨g,0,none⟩) 256 c3) 256 ((ZL t a).map bv):=by
 obtain⟨hk,hf,uo,hzg⟩:=zm ho;have hka:=hk a ha;have hfa:=hf a;have kr:=qa hr;have oC:=zH (UP ho ha (UInt8.ofNat (qT t a-1)));have hc:qT t a=(t[a]?.getD 0).toNat:=rfl;have az:=(t[a]?.getD 0).toNat_lt;rw[<-hc] at hka az;have hT:Hid (ZL t a=t.set a (UInt8.ofNat (qT t a-1))):=rfl;have hwv:=qcu h0 az;generalize qT t a=nv at *;have aV:((nv:Int) == 0)=false:=by rw[beq_eq_false_iff_ne];omega
 clear hk hf hc az ho;go_enter func133,ntmps133;go_wp2_with fail;refine YZ rfl rfl ⟨rfl,Below.setCell (Below.refl _ _) (p:=⟨g,a,none⟩) uo _,fun k hk=>zJ _ _ _ _ hk,zA3,?_⟩;rw[hT.out];exact oC.out
theorem qgS {R:Ending->World->Prop} {a:Act} {W:World} {b:Nat} {x0 x1 x2 x3 v:Value} (h4:a.tmps[4]?.getD undef=.pointer (some ⟨b,0,none⟩)) (h5:a.tmps[5]?.getD undef=v) (hd:a.defers=[]) (aC:W.heap[b]?=some (.cells #[x0,x1,x2,x3] 28 (0,0))) (hR:R (.returned (.tuple #[.agg #[x0,x1,x2,x3],v])) W):bodyPost prog Tryz.f130 R .ret a W:=by
 refine bodyPost_ret (v:=.tuple #[.agg #[x0,x1,x2,x3],v]) ?_ hd hR;have k:=qa aC;simp[results,results130,go_sem,h4,h5,k]
theorem Gb {R:Ending->World->Prop} {a:Act} {W:World} {b:Nat} {x0 x1 x2 x3 v:Value} (h4:a.tmps[4]?.getD undef=.pointer (some ⟨b,0,none⟩)) (h5:a.tmps[5]?.getD undef=v) (hd:a.defers=[]) (aC:W.heap[b]?=some (.cells #[x0,x1,x2,x3] 28 (0,0))) (hR:R (.returned (.tuple #[.agg #[x0,x1,x2,x3],v])) W):bodyPost prog Tryz.f76 R .ret a W:=by
 refine bodyPost_ret (v:=.tuple #[.agg #[x0,x1,x2,x3],v]) ?_ hd hR;have k:=qa aC;simp[results,results76,go_sem,h4,h5,k]
theorem QF.set4 {lo lo' b:Nat} {S:Sto} {u:Value} {W:World} (h:QF lo S u W) (hl:lo'<=lo) (hb:b<lo) (x0 x1 x2 x3:Value):QF lo' S u ((((W.setCell ⟨b,0,none⟩ x0).setCell ⟨b,1,none⟩ x1).setCell ⟨b,2,none⟩ x2).setCell ⟨b,3,none⟩ x3):=
 h.keep hl zA3 fun b' lu _=>(zJ _ _ _ _ zA2).trans ((zJ _ _ _ _ zA2).trans ((zJ _ _ _ _ zA2).trans (zJ _ _ _ _ zA2)))
set_option maxRecDepth 100000 in
theorem qdl (bat b lo:Nat) (v1 v2 v4:Value) (g c3:Nat) (t:List UInt8) (a:Nat) (ha:a<256) (w:World) (dQ:w.heap[bat]?=some (.cells #[.int .i64 (a:Int)] 3 (0,0))) (hr:w.heap[b]?=some (.cells #[v1,v2,.slice (some ⟨g,0,none⟩) 256 c3,v4] 191 (0,0))) (ho:w.ownsRow lo 5 1 (.slice (some ⟨g,0,none⟩) 256 c3) 256 (t.map bv)) (hbg:b≠g) (h0:0<qT t a):Calls prog 132 #[.pointer (some ⟨b,0,none⟩),.pointer (some ⟨bat,0,none⟩)] w fun e W=>e=.returned (.int .i64 0)/\Below lo w W/\(∀ k,k≠g->W.heap[k]?=w.heap[k]?)/\W.heap.size=w.heap.size/\W.ownsRow lo 5 1 (.slice (some ⟨g,0,none⟩) 256 c3) 256 ((ZL t a).map bv):=by
 have HB:=zH (qeL b lo v1 v2 v4 g c3 t a ha w hr ho hbg h0);have ka:=qa dQ;clear hr ho h0;go_enter func132,ntmps132;go_wp2_with fail;refine HB.out.mono ?_;clear HB;rintro e W ⟨rfl,h1,h2,h3,h4⟩;replace h1:=zH h1;replace h2:=zH h2;replace h3:=zH h3;replace h4:=zH h4;go_wp2_with fail;go_ret;exact⟨rfl,h1.out,h2.out,h3.out,h4.out⟩
set_option maxRecDepth 100000 in
theorem qgR (A1:Option Addr) (n1 c1:Nat) (A2:Option Addr) (n2 c2:Nat) (A3:Option Addr) (n3 c3:Nat) (A4:Option Addr) (n4 c4:Nat) (S:Sto) (hS:qo S=true) (a:Nat) (ha:a<256) (h0:0<qT S.now a) (bat:Nat) (w:World) (dQ:w.heap[bat]?=some (.cells #[.int .i64 (a:Int)] 3 (0,0))) (h:qU w w.heap.size (.slice A1 n1 c1) (.slice A2 n2 c2) (.slice A3 n3 c3) (.slice A4 n4 c4) S):Calls prog 130 #[Qd A1 n1 c1 A2 n2 c2 A3 n3 c3 A4 n4 c4,.func (.func 132) #[] #[.pointer (some ⟨bat,0,none⟩)]] w (QV (fun u W=>∃ v,u=.tuple #[v,.int .i64 0]/\QF w.heap.size (qu S (ZL S.now a)) v W) w):=by
 obtain⟨oM,um,nJ,hl4⟩:=qQ hS;have HON:=zH (fun W (hx:Ext w W)=>GE A1 n1 c1 A2 n2 c2 A3 n3 c3 A4 n4 c4 S zO W (h.ext hx));have wZ:n3=256:=by have:=h.now.at_.1;omega
 have gm:qU w w.heap.size (.slice A1 n1 c1) (.slice A2 n2 n2) (.slice A3 n3 c3) (.slice A4 n4 c4) S:=⟨h.bs,h.ws.clip,h.now,h.last⟩
 have iy:=zH (za hS);have aH:=zH gm;subst wZ;clear h gm oM um nJ hl4;replace hS:=zH hS;go_enter func130,ntmps130;go_wp2_with fail;generalize aA:(World.alloc (World.alloc w _) _)=w1;have x1:Ext w w1:=by rw[<-aA];exact(zN _ _).trans (zN _ _)
 have yj:w1.heap[w.heap.size+1]?=some (.cells #[.slice none 0 0,.slice none 0 0,.slice none 0 0,.slice none 0 0] 28 (0,0)):=by rw[<-aA];exact zI _ _ _ zA3
 clear aA;refine(HON.out w1 x1).mono ?_;clear HON;rintro e w2 ⟨u,rfl,⟨bb,A3',c3',rfl,cO,xG,aB⟩,hB⟩;have x2:Ext w w2:=x1.trans hB;have lT:=qb yj hB;have xH:w.heap.size+1<w1.heap.size:=(zG.1 yj).1;have hAu:∃ g,A3'=some ⟨g,0,none⟩:=by
  rcases aB.2 with ⟨e,h0⟩|⟨g,cap,cur,e,_⟩
  ·cases e
  ·cases e;exact⟨g,rfl⟩
 obtain⟨g,rfl⟩:=hAu;obtain⟨hk,hf,uo,hgz⟩:=zm aB;have hbg:bb≠g:=by
  rintro rfl;rcases aB.2 with ⟨e,h0⟩|⟨g',cap,cur,e,hg',hrg,dV,az,sO,hc4⟩
  ·cases e
  ·cases e;rw[xG] at hrg;simp only[Option.some.injEq,Obj.cells.injEq] at hrg;exact absurd hrg.2.1 zA1
 have HL:=qdl bat bb w1.heap.size (.slice A1 n1 c1) (.slice A2 n2 n2) (.slice A4 n4 c4) g c3' S.now a ha w2 (qb dQ x2) xG aB hbg h0;clear hB yj x1 hk hf;replace aB:=zH aB;replace xG:=zH xG;go_wp2_with fail;refine HL.mono ?_;clear HL;rintro e w3 ⟨rfl,pJ,ig,hs3,dL⟩;have pI:=(ig (w.heap.size+1) zO).trans lT;have hrb3:=(ig bb hbg).trans xG.out;have x3:Ext w w3:=Below.trans x2 (Below.mono pJ zO);have hFF:=(aH.out.below x3).more x3.size;have HST:=vH bb A1 n1 c1 A2 n2 n2 (some ⟨g,0,none⟩) 256 c3' A4 n4 c4 (qu S (ZL S.now a)) ⟨iy.out.bs,iy.out.ws,iy.out.be,iy.out.we,by rw[qdo];exact iy.out.now,iy.out.last⟩ w3 hrb3 ⟨hFF.bs,hFF.ws,Bys.of_own dL,hFF.last⟩;have zo3:w.heap.size+1<w3.heap.size:=(zG.1 pI).1;clear pJ ig dL hFF lT x2 hrb3;go_wp2_with fail;refine HST.mono ?_;clear HST;rintro e w4 ⟨u,rfl,hu,hB⟩;have x4:Ext w w4:=x3.trans hB;have ro4:=qb pI hB;have ko4:=qa ro4;have fo4:=qe ro4;have hK:=fun x0 x1 x2 x3'=>hu.set4 (b:=w.heap.size+1) (show w.heap.size<=w3.heap.size by omega) zo3 x0 x1 x2 x3';obtain⟨BB,WW,gg,B3,d3,B4,d4,rfl,hD,hN,hL⟩:=hu;replace hK:=zH hK;clear hB hD hN hL pI x3;go_wp2_with fail;exact qgS (b:=w.heap.size+1) rfl rfl rfl (Xn ro4 _ _ _ _) ⟨_,rfl,⟨_,rfl,hK.out _ _ _ _⟩,ZY x4 zO _ _ _ _⟩
set_option maxRecDepth 100000 in
theorem Ga (A1:Option Addr) (n1 c1:Nat) (A2:Option Addr) (n2 c2:Nat) (A3:Option Addr) (n3 c3:Nat) (A4:Option Addr) (n4 c4:Nat) (S:Sto) (a:Int) (w:World) (h:qU w w.heap.size (.slice A1 n1 c1) (.slice A2 n2 c2) (.slice A3 n3 c3) (.slice A4 n4 c4) S):Calls prog 76 #[Qd A1 n1 c1 A2 n2 c2 A3 n3 c3 A4 n4 c4,.int .i64 a] w (QV (StoQ (ZQ S a) (qu S (ZL S.now a.toNat)) w.heap.size) w):=by
 have HA:=zH (fun W (hx:Ext w W)=>qdp A1 n1 c1 A2 n2 c2 A3 n3 c3 A4 n4 c4 S a W (h.ext hx));replace h:=zH h;go_enter func76,ntmps76;go_wp2_with fail;generalize aA:(World.alloc (World.alloc (World.alloc w _) _) _)=w1;have x1:Ext w w1:=by rw[<-aA];exact((zN _ _).trans (zN _ _)).trans (zN _ _)
 have uX:w1.heap[w.heap.size]?=some (.cells #[.slice A1 n1 c1,.slice A2 n2 c2,.slice A3 n3 c3,.slice A4 n4 c4] 28 (0,0)):=by rw[<-aA];exact(zK _ _ _ (by simp;try omega)).trans ((zK _ _ _ zA3).trans (zI _ _ _ rfl))
 have wK:w1.heap[w.heap.size+1]?=some (.cells #[.int .i64 a] 3 (0,0)):=by rw[<-aA];exact(zK _ _ _ zA3).trans (zI _ _ _ zA3)
 have yj:w1.heap[w.heap.size+2]?=some (.cells #[.slice none 0 0,.slice none 0 0,.slice none 0 0,.slice none 0 0] 28 (0,0)):=by rw[<-aA];exact zI _ _ _ zA3
 have kk1:=qa wK;have ks1:=qa uX;clear aA;go_wp2_with fail;refine(HA.out w1 x1).mono ?_;clear HA;rintro e w2 ⟨rfl,hB⟩;have x2:Ext w w2:=x1.trans hB;have rs2:=qb uX hB;have rO:=qb wK hB;have lT:=qb yj hB;clear hB uX yj x1 ks1 kk1 wK;by_cases h0:ZQ S a=0
 ·obtain⟨hS,m,rfl,hm8,hQV,nz⟩:=qbC h0;have HD:=qgR A1 n1 c1 A2 n2 c2 A3 n3 c3 A4 n4 c4 S hS m hQV (Nat.pos_of_ne_zero nz) (w.heap.size+1) w2 rO (h.out.ext x2);have ks2:=qa rs2;have h0':=zH h0;rw[h0];replace hS:=zH hS;clear nz h0;go_wp2_with fail;refine HD.mono ?_;clear HD;rintro e w3 ⟨u,rfl,⟨v,rfl,hT⟩,hB⟩;have x3:Ext w w3:=x2.trans hB;have pI:=qb lT hB;have zo2:w.heap.size+2<w2.heap.size:=(zG.1 lT).1;have hK:=fun x0 x1 x2 x3'=>hT.set4 (b:=w.heap.size+2) (show w.heap.size<=w2.heap.size by omega) zo2 x0 x1 x2 x3';obtain⟨BB,WW,gg,B3,d3,B4,d4,rfl,hD,hN,hL⟩:=hT;have ko3:=qa pI;have fo3:=qe pI;replace hK:=zH hK;clear hB hD hN hL ks2 rs2 rO lT x2;go_wp2_with fail;exact Gb (b:=w.heap.size+2) rfl rfl rfl (Xn pI _ _ _ _) ⟨_,rfl,.inr ⟨h0'.out,_,rfl,hK.out _ _ _ _⟩,ZY x3 zO _ _ _ _⟩
 ·have hq:=zH h0;have hE:Hid (ZQ S a=ZQ S a):=rfl;obtain⟨er,yR⟩:∃ er,ZQ S a=er:=⟨_,rfl⟩
  rw[yR] at h0 ⊢;have he:(er != 0)=true:=by rw[bne_iff_ne];exact h0
  have ko2:=qa lT;have fo2:=qe lT;replace yR:=zH yR;clear h0;go_wp2_with fail;exact Gb (b:=w.heap.size+2) rfl rfl rfl (Xn lT _ _ _ _) ⟨_,rfl,.inl ⟨hq.out,by rw[yR.out];rfl⟩,ZY x2 zO _ _ _ _⟩
abbrev vN:Value:=.agg (qB (.slice none 0 0) (.slice none 0 0) (.slice none 0 0) (.slice none 0 0) 0 0 0 (.slice none 0 0))
def Jg (lo:Nat) (S:Sto) (gen root next:Int) (dead:List Int) (u:Value) (W:World):Prop:=∃ A1 c1 A2 c2 A3 c3 A4 c4 A5 c5,u=.agg (qB (.slice A1 S.bs.length c1) (.slice A2 S.ws.length c2) (.slice A3 S.now.length c3) (.slice A4 S.last.length c4) gen root next (.slice A5 dead.length c5)) /\
 ∀ C:World,PosZ lo W C->qU C W.heap.size (.slice A1 S.bs.length c1) (.slice A2 S.ws.length c2) (.slice A3 S.now.length c3) (.slice A4 S.last.length c4) S/\Zk C W.heap.size (.slice A5 dead.length c5) dead
theorem Rd.pos {w C:World} {B size lo n c:Nat} {A:Option Addr} {xs:List Value} (h:Rd w B size A n xs) (hf:Ze lo (.slice A n c)) (hk:∀ (q:Addr) (v:Value),lo<=q.block->q.block<B->w.cell? q=some v->C.cell? q=some v):Rd C B size A n xs:=
 ⟨h.1,fun hn=>by obtain⟨b,off,rfl,hb,hc⟩:=h.2 hn;exact⟨b,off,rfl,hb,fun j u hu=>hk _ _ (hf ⟨b,off,none⟩ n c rfl) hb (hc j u hu)⟩⟩
theorem Zk.pos {w C:World} {B lo:Nat} {v:Value} {l:List Int} (h:Zk w B v l) (hf:Ze lo v) (hk:∀ (q:Addr) (v:Value),lo<=q.block->q.block<B->w.cell? q=some v->C.cell? q=some v):Zk C B v l:=by obtain⟨A,c,e,hc,hm,hr⟩:=h;subst e;exact⟨A,c,rfl,hc,hm,Rd.pos hr hf hk⟩
theorem QF.newSto {lo:Nat} {S:Sto} {u:Value} {W:World} (h:QF lo S u W) (hS:Xs S):NewSto lo S u W:=by obtain⟨BB,WW,g,A3,c3,A4,c4,e,h1,h2,h3⟩:=h;refine⟨_,_,_,_,A3,c3,A4,c4,e,qhs (W:=thaw W) (Φ:=fun C=>qU C W.heap.size _ _ _ _ S) (fun A C hAC hA=>hA.some_ hAC) fun W2 hk=>?_⟩;obtain⟨k1,k2⟩:=h1.readsT hS.bs hS.ws hS.be hS.we W2 hk;exact⟨k1,k2,(Bys.of_ownT h2).keepN (Ze.of_own h2) hk,(Bys.of_ownT h3).keepN (Ze.of_own h3) hk⟩
theorem Zk.of_ownT {w:World} {base:Nat} {v:Value} {l:List Int} (h:w.ownsRow base 3 1 v l.length (vQ l)):Zk (thaw w) w.heap.size v l:=by obtain⟨A,c,e,hc,hm,hr⟩:=Zk.of_own h;refine⟨A,c,e,hc,hm,hr.1,fun hn=>?_⟩;obtain⟨b,off,e2,hb,bV⟩:=hr.2 hn;obtain⟨cs,t,aC⟩:=Thaw.of_own h ⟨b,off,none⟩ l.length c (by rw[e,e2]) hn;exact⟨b,off,e2,hb,fun j u hu=>(VZ aC _).trans (bV j u hu)⟩
def outN (lo n:Nat) (l:List Int):qS:=⟨Option Addr×Nat,fun p=>.slice p.1 n p.2,fun p W=>Zk (thaw W) W.heap.size (.slice p.1 n p.2) l/\Ze lo (.slice p.1 n p.2)⟩
theorem jb (lo n:Nat) (l:List Int) (A:Option Addr) (c:Nat):(outN lo n l).f (A,c)=.slice A n c:=rfl
theorem qdV (lo n:Nat) (l:List Int):∀ p,QJ ((outN lo n l).φ p):=fun p W W' he h=>⟨by have h1:=h.1;rw[<-kj W] at h1;have h2:=h1.ext_ (Ext.thaw he);rw[kj] at h2;exact h2,h.2⟩
theorem qfb {R:Ending->World->Prop} {a:Act} {W:World} {b:Nat} {x0 x1 x2 x3 x4 x5 x6 x7 v:Value} (h4:a.tmps[4]?.getD undef=.pointer (some ⟨b,0,none⟩)) (h5:a.tmps[5]?.getD undef=v) (hd:a.defers=[]) (aC:W.heap[b]?=some (.cells #[x0,x1,x2,x3,x4,x5,x6,x7] 32 (0,0))) (hR:R (.returned (.tuple #[.agg #[x0,x1,x2,x3,x4,x5,x6,x7],v])) W):bodyPost prog Tryz.f25 R .ret a W:=by
 refine bodyPost_ret (v:=.tuple #[.agg #[x0,x1,x2,x3,x4,x5,x6,x7],v]) ?_ hd hR;have k:=qa aC;simp[results,results25,go_sem,h4,h5,k]
def Qa (X:Nat->Prop) (w C:World):Prop:=∀ (q:Addr) (v:Value),¬X q.block->w.cell? q=some v->C.cell? q=some v
section
variable {X Y:Nat->Prop} {w W C:World}
theorem Qa.refl (X:Nat->Prop) (w:World):Qa X w w:=fun _ _ _ h=>h
theorem Qa.of_ext (h:Ext w C):Qa X w C:=fun _ _ _ hv=>Ext.cell h hv
theorem Qa.trans (h:Qa X w W) (h':Qa Y W C) (hY:∀ k,k<w.heap.size->Y k->X k):Qa X w C:=fun q v hX hv=>h' q v (fun hy=>hX (hY _ (World.block_lt_of_cell? w q hv) hy)) (h q v hX hv)
theorem Qa.mono (h:Qa X w C) (hX:∀ k,k<w.heap.size->X k->Y k):Qa Y w C:=fun q v hY hv=>h q v (fun hx=>hY (hX _ (World.block_lt_of_cell? w q hv) hx)) hv
theorem Qa.of_heap (h:∀ k,k<w.heap.size->¬X k->C.heap[k]?=w.heap[k]?):Qa X w C:=fun q v hX hv=>(World.cell?_of_block (h _ (World.block_lt_of_cell? w q hv) hX)).trans hv
theorem Rd.keepX {B size n:Nat} {A:Option Addr} {xs:List Value} (h:Rd w B size A n xs) (hs:0<size) (hk:Qa X w C) (hX:∀ k,k<B->¬X k):Rd C C.heap.size size A n xs:=⟨h.1,fun hn=>by
 obtain⟨b,off,e,hb,hc⟩:=h.2 hn;refine⟨b,off,e,?_,fun j u hu=>hk _ _ (hX b hb) (hc j u hu)⟩;have hl:0<xs.length:=by rw[h.1];exact Nat.mul_pos hn hs
 exact World.block_lt_of_cell? C ⟨b,off+0,none⟩ (hk _ _ (hX b hb) (hc 0 _ (zL hl)))⟩
theorem Bys.keepX {B:Nat} {v:Value} {l:List UInt8} (h:Bys w B v l) (hk:Qa X w C) (hX:∀ k,k<B->¬X k):Bys C C.heap.size v l:=by obtain⟨A,c,e,hc,hm,hr⟩:=h;exact⟨A,c,e,hc,hm,hr.keepX zO hk hX⟩
end
def JZ (X:Nat->Prop) (w:World) (v:Value) (xs:List It):Prop:=∀ C,Qa X w C->Its C C.heap.size v xs
theorem JZ.now {X:Nat->Prop} {w:World} {v:Value} {xs:List It} (h:JZ X w v xs):Its w w.heap.size v xs:=h w (Qa.refl _ _)
theorem JZ.trans {X Y:Nat->Prop} {w W:World} {v:Value} {xs:List It} (h:JZ X w v xs) (hk:Qa X w W) (hY:∀ k,k<w.heap.size->Y k->X k):JZ Y W v xs:=fun C hC=>h C (hk.trans hC hY)
theorem QA {w w':World} {base size n:Nat} {e:TypeId} {v:Value} {xs:List Value} (h:w.ownsRow base e size v n xs) (hk:∀ q,v.ownBlock=some q->w'.heap[q]?=w.heap[q]?):w'.ownsRow base e size v n xs:=
 ⟨h.1,h.2.imp id fun ⟨g,cap,cur,e1,h3,h4,h5⟩=>⟨g,cap,cur,e1,h3,(hk g (by rw[e1];rfl)).trans h4,h5⟩⟩
theorem Zl {w:World} {base size n:Nat} {e:TypeId} {v:Value} {xs:List Value} (h:w.ownsRow base e size v n xs) {q:Nat} (hq:v.ownBlock=some q):∃ cur,w.heap[q]?=some (.cells cur e (0,0)):=by
 rcases h.2 with ⟨e1,_⟩|⟨g,cap,cur,e1,_,hg,_⟩
 ·rw[e1] at hq;cases hq
 ·rw[e1] at hq;cases hq;exact⟨cur,hg⟩
def B3 (b g:Nat) (k:Option Nat) (q:Nat):Prop:=q=b\/q=g\/k=some q
def YS (B:Nat) (D:Nat->Prop) (q:Nat):Prop:=B<=q/\¬D q
theorem YS.keep {B:Nat} {D:Nat->Prop} {w W:World} (h:∀ q,q<w.heap.size->q<B\/D q->W.heap[q]?=w.heap[q]?):Qa (YS B D) w W:=Qa.of_heap fun q hq hX=>h q hq (by
 by_cases hB:q<B
 ·exact .inl hB
 ·right;by_cases hD:D q
  ·exact hD
  ·exact absurd ⟨zO,hD⟩ hX)
def Ks (n:Nat) (D D':Nat->Prop):Prop:=∀ q,D' q->D q\/n<=q
theorem Ks.refl (n:Nat) (D:Nat->Prop):Ks n D D:=fun _ h=>.inl h
theorem Ks.mono {n n':Nat} {D D':Nat->Prop} (h:Ks n D D') (hn:n'<=n):Ks n' D D':=fun q hq=>(h q hq).imp id fun h=>zO
theorem Ks.trans {n n':Nat} {D D' D'':Nat->Prop} (h:Ks n D D') (h':Ks n' D' D'') (hn:n<=n'):Ks n D D'':=fun q hq=>(h' q hq).elim (fun h1=>h q h1) fun h1=>.inr zO
structure qY (lo b g:Nat) (k:Option Nat) (w W:World):Prop where
 below:Below lo w W
 rows:∀ q,q<w.heap.size->¬B3 b g k q->W.heap[q]?=w.heap[q]?
def Zf (n:Nat) (k k':Option Nat):Prop:=∀ q,k'=some q->k=some q\/n<=q
theorem Zf.refl (n:Nat) (k:Option Nat):Zf n k k:=fun _ h=>.inl h
theorem Zf.mono {n n':Nat} {k k':Option Nat} (h:Zf n k k') (hn:n'<=n):Zf n' k k':=fun q hq=>(h q hq).imp id fun h=>zO
theorem Zf.trans {n n':Nat} {k k' k'':Option Nat} (h:Zf n k k') (h':Zf n' k' k'') (hn:n<=n'):Zf n k k'':=fun q hq=>(h' q hq).elim (fun h1=>h q h1) fun h1=>.inr zO
section
variable {lo b g:Nat} {k k':Option Nat} {w W C:World}
theorem qY.refl (lo b g:Nat) (k:Option Nat) (w:World):qY lo b g k w w:=⟨Below.refl _ _,fun _ _ _=>rfl⟩
theorem qY.of_ext (h:Ext w W) (hl:lo<=w.heap.size):qY lo b g k w W:=⟨Below.mono h hl,fun q hq _=>Below.block h q hq⟩
theorem qY.trans (h:qY lo b g k w W) (h':qY lo b g k' W C) (hk:Zf w.heap.size k k'):qY lo b g k w C:=⟨h.below.trans h'.below,fun q hq hn=>(h'.rows q (by have:=h.below.size;omega) fun hx=>hn (by
 rcases hx with e|e|e
 ·exact .inl e
 ·exact .inr (.inl e)
 ·exact(hk q e).elim (fun h=>.inr (.inr h)) fun h=>zO)).trans (h.rows q hq hn)⟩
theorem qY.keepX (h:qY lo b g k w W):Qa (B3 b g k) w W:=Qa.of_heap fun q hq hX=>h.rows q hq hX
theorem qY.own (h:qY lo b g k w W) {base n size:Nat} {e:TypeId} {v:Value} {xs:List Value} (ho:w.ownsRow base e size v n xs) (hn:∀ q,v.ownBlock=some q->¬B3 b g k q):W.ownsRow base e size v n xs:=QA ho fun q hq=>h.rows q (Ql ho q hq).2 (hn q hq)
theorem qY.row (h:qY lo b g k w W) {q:Nat} {o:Obj} (hr:w.heap[q]?=some o) (hn:¬B3 b g k q):W.heap[q]?=some o:=(h.rows q (zG.1 hr).1 hn).trans hr
theorem B3.of_new (hk:Zf w.heap.size k k'):∀ q,q<w.heap.size->B3 b g k' q->B3 b g k q:=fun q hq hx=>by
 rcases hx with e|e|e
 ·exact .inl e
 ·exact .inr (.inl e)
 ·exact(hk q e).elim (fun h=>.inr (.inr h)) fun h=>zO
end
def WsB (D:Nat->Prop) (B lo b g:Nat) (k:Option Nat) (v:Value) (ws:List (Int×List UInt8)) (w:World):Prop:=∃ ps:List ((Int×List UInt8)×Value),ps.map (·.1)=ws /\
 ((k=none/\ws.length<=maxLen/\∃ A,v=.slice A ws.length ws.length/\Rd w B 2 A ws.length (ZA ps))\/(∃ q,k=some q/\v.ownBlock=some q/\w.ownsRow lo 130 2 v ws.length (ZA ps))) /\
 ∀ p∈ps,(∃ A c,p.2=.slice A p.1.2.length c)/\∀ C,Qa (YS B D) w C->Bys C C.heap.size p.2 p.1.2
theorem WsB.ext {D:Nat->Prop} {B lo b g:Nat} {k:Option Nat} {v:Value} {ws:List (Int×List UInt8)} {w W:World} (h:WsB D B lo b g k v ws w) (hx:Ext w W) (hB:B<=w.heap.size):WsB D B lo b g k v ws W:=by
 obtain⟨ps,e,hw,hp⟩:=h;refine⟨ps,e,?_,fun p ai=>⟨(hp p ai).1,fun C hC=>(hp p ai).2 C ((Qa.of_ext hx).trans hC fun _ _ h=>h)⟩⟩;rcases hw with ⟨e,hm,A,e2,hr⟩|⟨q,e,e2,how⟩
 ·exact .inl ⟨e,hm,A,e2,hr.below (Below.mono hx hB)⟩
 ·exact .inr ⟨q,e,e2,QA how fun q' oU=>Below.block hx q' (Ql how q' oU).2⟩
theorem WsB.mono {D D':Nat->Prop} {B lo b g:Nat} {k:Option Nat} {v:Value} {ws:List (Int×List UInt8)} {w:World} (h:WsB D B lo b g k v ws w) (hD:∀ q,D q->D' q):WsB D' B lo b g k v ws w:=by obtain⟨ps,e,hw,hp⟩:=h;exact⟨ps,e,hw,fun p ai=>⟨(hp p ai).1,fun C hC=>(hp p ai).2 C (hC.mono fun q _ hx=>⟨hx.1,fun h=>hx.2 (hD q h)⟩)⟩⟩
structure Bch (D:Nat->Prop) (B lo b g:Nat) (k:Option Nat) (S:Sto) (w:World):Prop where
 lob:lo<=b
 blo:B<=lo
 dB:∀ q,D q->lo<=q/\q<w.heap.size/\¬B3 b g k q
 ex:∃ A1 n1 c1 v2 c3 A4 c4,w.heap[b]?=some (.cells #[.slice A1 n1 c1,v2,.slice (some ⟨g,0,none⟩) 256 c3,.slice A4 256 c4] 191 (0,0))/\w.ownsRow lo 5 1 (.slice (some ⟨g,0,none⟩) 256 c3) 256 (S.now.map bv) /\
  WsB D B lo b g k v2 S.ws w/\Bls w B (.slice A1 n1 c1) S.bs/\Bys w B (.slice A4 256 c4) S.last
section
variable {D:Nat->Prop} {B lo b g:Nat} {k:Option Nat} {S:Sto} {w W:World}
theorem Bch.size (h:Bch D B lo b g k S w):lo<=b/\b<w.heap.size/\lo<=g/\g<w.heap.size/\g≠b/\lo<=w.heap.size/\∀ q,k=some q->lo<=q/\q<w.heap.size/\q≠b/\q≠g:=by
 have h1:=h.lob;obtain⟨A1,n1,c1,v2,c3,A4,c4,hr,ho,⟨ps,_,hw,_⟩,_,_⟩:=h.ex;have hb:=(zG.1 hr).1;obtain⟨_,_,uo,hzg⟩:=zm ho;obtain⟨cur,hg⟩:=Zl ho (q:=g) rfl;refine⟨h1,hb,uo,hzg,qN hg hr zA1,zO,fun q hq=>?_⟩;rcases hw with ⟨e,_⟩|⟨q',e,e2,how⟩
 ·rw[e] at hq;cases hq
 ·rw[e] at hq;cases hq;obtain⟨cur2,nK⟩:=Zl how e2;have:=Ql how _ e2;exact⟨this.1,this.2,qN nK hr zA1,qN nK hg zA1⟩
theorem Bch.b3 (h:Bch D B lo b g k S w):∀ q,B3 b g k q->lo<=q/\q<w.heap.size:=fun q hq=>by
 obtain⟨h1,h2,h3,h4,_,_,h5⟩:=h.size;rcases hq with rfl|rfl|e
 ·exact⟨h1,h2⟩
 ·exact⟨h3,h4⟩
 ·exact⟨(h5 q e).1,(h5 q e).2.1⟩
theorem Bch.off (h:Bch D B lo b g k S w):∀ q,q<B->¬B3 b g k q:=fun q hq hx=>by have h1:=h.blo;have:=(h.b3 q hx).1;omega
theorem Bch.offk (h:Bch D B lo b g k S w):∀ q,B3 b g k q->¬(q<B\/D q):=fun q hx hq=>hq.elim (fun h1=>h.off q h1 hx) fun h1=>(h.dB q h1).2.2 hx
theorem Bch.keep (h:Bch D B lo b g k S w) (hB:Below B w W) (hr:∀ q,B3 b g k q\/D q->W.heap[q]?=w.heap[q]?):Bch D B lo b g k S W:=by
 have hs:=hB.size;have hx:Qa (YS B D) w W:=YS.keep fun q hq h1=>h1.elim (fun h1=>hB.block q h1) fun h1=>hr q (.inr h1);obtain⟨A1,n1,c1,v2,c3,A4,c4,mY,ho,⟨ps,e,hw,hp⟩,h1,h4⟩:=h.ex;refine⟨h.lob,h.blo,fun q hq=>⟨(h.dB q hq).1,by have:=(h.dB q hq).2.1;omega,(h.dB q hq).2.2⟩,A1,n1,c1,v2,c3,A4,c4,(hr _ (.inl (.inl rfl))).trans mY,QA ho (fun q hq=>by cases hq;exact hr _ (.inl (.inr (.inl rfl)))),⟨ps,e,?_,fun p ai=>⟨(hp p ai).1,fun C hC=>(hp p ai).2 C (hx.trans hC fun _ _ h=>h)⟩⟩,h1.below hB,h4.below hB⟩;rcases hw with ⟨e,hm,A,e2,hr⟩|⟨q,e,e2,how⟩
 ·exact .inl ⟨e,hm,A,e2,hr.below hB⟩
 ·exact .inr ⟨q,e,e2,QA how fun q' oU=>by rw[e2] at oU;cases oU;exact hr q (.inl (.inr (.inr e)))⟩
theorem Bch.ext (h:Bch D B lo b g k S w) (hx:Ext w W):Bch D B lo b g k S W:=by have h6:=h.size.2.2.2.2.2.1;have h1:=h.blo;exact h.keep (Below.mono hx zO) fun q hq=>Below.block hx q (hq.elim (fun h2=>(h.b3 q h2).2) fun h2=>(h.dB q h2).2.1)
theorem Bch.keepX {X:Nat->Prop} (h:Bch D B lo b g k S w) (hB:Below B w W) (hr:∀ q,q<w.heap.size->¬X q->W.heap[q]?=w.heap[q]?) (hX:∀ q,B3 b g k q\/D q->¬X q):Bch D B lo b g k S W:=
 h.keep hB fun q hq=>hr q (hq.elim (fun h2=>(h.b3 q h2).2) fun h2=>(h.dB q h2).2.1) (hX q hq)
theorem Bch.mono {D':Nat->Prop} (h:Bch D B lo b g k S w) (hD:∀ q,D q->D' q) (hB:∀ q,D' q->lo<=q/\q<w.heap.size/\¬B3 b g k q):Bch D' B lo b g k S w:=by obtain⟨A1,n1,c1,v2,c3,A4,c4,mY,ho,hw,h1,h4⟩:=h.ex;exact⟨h.lob,h.blo,hB,A1,n1,c1,v2,c3,A4,c4,mY,ho,hw.mono hD,h1,h4⟩
theorem Bch.count (h:Bch D B lo b g k S w) {a:Nat} (ha:a<256) (x:UInt8):Bch D B lo b g k (qu S (S.now.set a x)) (w.setCell ⟨g,a,none⟩ (bv x))/\qY lo b g k w (w.setCell ⟨g,a,none⟩ (bv x)):=by
 obtain⟨ik,_,uo,_,rY,_,h5⟩:=h.size;have cO:=h.blo;have hkd:=h.offk;obtain⟨A1,n1,c1,v2,c3,A4,c4,hr,ho,⟨ps,e,hw,hp⟩,h1,h4⟩:=h.ex;have hK:qY lo b g k w (w.setCell ⟨g,a,none⟩ (bv x)):=⟨Below.setCell (Below.refl _ _) (p:=⟨g,a,none⟩) uo _,fun q _ hn=>zJ _ _ _ _ fun e=>hn (.inr (.inl e))⟩
 have hX:Qa (YS B D) w (w.setCell ⟨g,a,none⟩ (bv x)):=YS.keep fun q _ hq=>zJ _ _ _ _ fun e=>hkd g (.inr (.inl rfl)) (by have e':q=g:=e;exact e' ▸ hq);have hB:Below B w (w.setCell ⟨g,a,none⟩ (bv x)):=Below.setCell (Below.refl _ _) (p:=⟨g,a,none⟩) (by show B<=g;omega) _;refine⟨⟨ik,cO,fun q hq=>by simpa using h.dB q hq,A1,n1,c1,v2,c3,A4,c4,(zJ _ _ _ _ fun e=>rY e.symm).trans hr,UP ho ha x,⟨ps,e,?_,fun p ai=>⟨(hp p ai).1,fun C hC=>(hp p ai).2 C (hX.trans hC fun _ _ h=>h)⟩⟩,h1.below hB,h4.below hB⟩,hK⟩;rcases hw with ⟨e,hm,A,e2,hr⟩|⟨q,e,e2,how⟩
 ·exact .inl ⟨e,hm,A,e2,hr.below hB⟩
 ·exact .inr ⟨q,e,e2,QA how fun q' oU=>by rw[e2] at oU;cases oU;exact zJ _ _ _ _ (h5 q e).2.2.2⟩
theorem qdb (ps:List ((Int×List UInt8)×Value)) (p:(Int×List UInt8)×Value):ZA (ps++[p])=ZA ps++[.int .i64 p.1.1,p.2]:=by
 induction ps with
 |nil=>rfl
 |cons a r ih=>simp[ZA,ih]
theorem Bch.sto (h:Bch D B lo b g k S w):∃ A1 n1 c1 A2 n2 c2 c3 A4 c4,w.heap[b]?=some (.cells #[.slice A1 n1 c1,.slice A2 n2 c2,.slice (some ⟨g,0,none⟩) 256 c3,.slice A4 256 c4] 191 (0,0))/\qU w w.heap.size (.slice A1 n1 c1) (.slice A2 n2 c2) (.slice (some ⟨g,0,none⟩) 256 c3) (.slice A4 256 c4) S:=by
 have h6:=h.size.2.2.2.2.2.1;have cO:=h.blo;obtain⟨A1,n1,c1,v2,c3,A4,c4,hr,ho,⟨ps,e,hw,hp⟩,h1,h4⟩:=h.ex;have hv:∃ A2 n2 c2,v2=.slice A2 n2 c2/\Wrs w w.heap.size (.slice A2 n2 c2) S.ws:=by
  rcases hw with ⟨_,hm,A,rfl,oV⟩|⟨q,_,_,how⟩
  ·exact⟨A,_,_,rfl,ps,e,⟨A,_,rfl,zM _,hm,oV.more zO⟩,fun p ai=>⟨(hp p ai).1,(hp p ai).2 w (Qa.refl _ _)⟩⟩
  ·obtain⟨A,c,rfl,dV,az⟩:=qy how;exact⟨A,_,_,rfl,ps,e,⟨A,c,rfl,dV,az,Rd.of_own how⟩,fun p ai=>⟨(hp p ai).1,(hp p ai).2 w (Qa.refl _ _)⟩⟩
 obtain⟨A2,n2,c2,rfl,hW⟩:=hv;exact⟨A1,n1,c1,A2,n2,c2,c3,A4,c4,hr,h1.more zO,hW,Bys.of_own ho,h4.more zO⟩
end
set_option maxRecDepth 100000 in
theorem qfm (x:It) (hx:jq x) (hb:itB x.r x.val.length=true) (A:Option Addr) (c:Nat) (w:World) (h:Bys w w.heap.size (.slice A x.val.length c) x.val):Calls prog 177 #[Vd x.k x.i x.o x.r A x.val.length c] w (QV (IsB0 w.heap.size (12+x.val.length) (jZ x)) w):=by
 have HC:=zH (fun W=>Jn x.k x.i x.o x.r A x.val.length c W);rw[hb,show Jh true=0 from rfl] at HC;obtain⟨kk,ki,ko,kr,l⟩:=x;obtain⟨⟨hk1,hk2⟩,⟨yT,dD⟩,⟨ho1,ho2⟩,⟨mX,hr2⟩,hl⟩:=hx;dsimp only at *;clear hb;obtain⟨k,rfl⟩:=Int.eq_ofNat_of_zero_le hk1;obtain⟨i,rfl⟩:=Int.eq_ofNat_of_zero_le yT;obtain⟨o,rfl⟩:=Int.eq_ofNat_of_zero_le ho1;obtain⟨r,rfl⟩:=Int.eq_ofNat_of_zero_le mX;have HB:Hid (jZ ⟨k,i,o,r,l⟩=[[UInt8.ofNat k],qA i 4,qA o 4,qA r 2,[UInt8.ofNat l.length],l].flatten):=by refine zH ?_;simp[jZ]
 have bQ:bv (UInt8.ofNat k)=.int .u8 (k:Int):=by simp[bv];omega
 have ik:bv (UInt8.ofNat l.length)=.int .u8 ((l.length:Nat):Int):=by simp[bv];omega
 have HL:Hid ([[UInt8.ofNat k],qA i 4,qA o 4,qA r 2,[UInt8.ofNat l.length],l].flatten.length=12+l.length):=by refine zH ?_;simp[zZ];omega
 have hcv:IntKind.u8.wrap ((l.length:Nat):Int)=((l.length:Nat):Int):=by simp[IntKind.wrap,IntKind.bits,IntKind.signed];omega
 replace bQ:=zH bQ;replace ik:=zH ik;replace h:=zH h;rw[HB.out];clear HB;generalize hFL:[[UInt8.ofNat k],qA i 4,qA o 4,qA r 2,[UInt8.ofNat l.length],l]=FL at *;go_enter func177,ntmps177;go_wp2_with fail;generalize aA:World.alloc w _=w1;have x1:Ext w w1:=by rw[<-aA];exact zN _ _
 have r1:w1.heap[w.heap.size]?=some (.cells #[.int .u8 k,.int .u32 i,.int .u32 o,.int .i64 r,.slice A l.length c] 68 (0,0)):=by rw[<-aA];exact zI _ _ _ rfl
 clear aA;refine(HC.out w1).mono ?_;rintro e w2 ⟨rfl,hB⟩;have x2:Ext w w2:=Ext.trans x1 hB;have r2:=qb r1 hB;have k2:=qa r2;clear hB r1 x1 HC;go_wp2_with fail;refine(qct r zO _).mono ?_;rintro e w3 ⟨u,rfl,⟨u2,rfl,A2,c2,rfl,bI,hf2⟩,hB⟩;have x3:Ext w w3:=Ext.trans x2 hB;have r3:=qb r2 hB;clear hB k2 r2 x2;go_wp2_with fail;have hE:∀ W,Ext w3 W->∀ j,W.cell? ⟨w.heap.size,j,none⟩=#[.int .u8 k,.int .u32 i,.int .u32 o,.int .i64 r,.slice A l.length c][j]?:=fun W h=>qa (qb r3 h);refine zl (qD [(3,jm w3.heap.size 1 5 #[.int .u8 k]),(7,Kw w3.heap.size 4 (qA i 4)),(11,Kw w3.heap.size 4 (qA o 4)),(17,jm w3.heap.size 1 5 #[.int .u8 (l.length:Nat)]),(20,vl w3.heap.size 6 26 (JC FL)),(21,Kw w3.heap.size (12+l.length) FL.flatten)]) 22 zQ zQ zQ zA1 zQ zQ ?st ?walk
 case st=>exact Zb (by simp only[List.forall_mem_cons];exact⟨Jy _ _ _ _,jl _ _ _,jl _ _ _,Jy _ _ _ _,vL (JC.stable _),jl _ _ _,fun _ h=>by cases h⟩)
 case walk =>
  intro K hK;dsimp only[List.take];repeat ((first|(refine qM ?_ zA0 zA0 (fun W hW _=>⟨W,?_,Ext.refl W⟩) ?_;rotate_left;(go_simp<;>with_reducible rfl))|(refine qV zA0 ?_));try simp only[Act.put,ql,qf,qc,qg,qO,Qj,qf,zA,zB,zC])
  refine Qx (jm w3.heap.size 1 5 #[.int .u8 k]) zA0 zA0 (fun W hW _=>?_) (fun (p3:Nat)=>?_)
  ·refine kK ?_ hW.size;go_simp
  simp only[Act.put,qf,qc,qg,qO,Qj,qf,zA,zB,zC];repeat ((first|(refine qM ?_ zA0 zA0 (fun W hW _=>⟨W,?_,Ext.refl W⟩) ?_;rotate_left;(go_simp<;>with_reducible rfl))|(refine qV zA0 ?_));try simp only[Act.put,ql,qf,qc,qg,qO,Qj,qf,zA,zB,zC])
  refine Qx (Kw w3.heap.size 4 (qA i 4)) zA0 zA0 (fun W hW _=>?_) (fun p7=>?_)
  ·refine QP ?_ ((KE i zO W).mono fun e w' h=>?_)
   ·go_simp
   obtain⟨u,rfl,⟨A,c,rfl,h1,h2⟩,h3⟩:=h;exact⟨(A,c),rfl,⟨h1,h2.mono hW.size⟩,h3⟩
  obtain⟨A7,c7⟩:=p7;simp only[Act.put,qf,qc,qg,qO,Qj,qf,zA,zB,zC];repeat ((first|(refine qM ?_ zA0 zA0 (fun W hW _=>⟨W,?_,Ext.refl W⟩) ?_;rotate_left;(go_simp<;>with_reducible rfl))|(refine qV zA0 ?_));try simp only[Act.put,ql,qf,qc,qg,qO,Qj,qf,zA,zB,zC])
  refine Qx (Kw w3.heap.size 4 (qA o 4)) zA0 zA0 (fun W hW _=>?_) (fun p11=>?_)
  ·refine QP ?_ ((KE o zO W).mono fun e w' h=>?_)
   ·go_simp
   obtain⟨u,rfl,⟨A,c,rfl,h1,h2⟩,h3⟩:=h;exact⟨(A,c),rfl,⟨h1,h2.mono hW.size⟩,h3⟩
  obtain⟨A11,c11⟩:=p11;simp only[Act.put,qf,qc,qg,qO,Qj,qf,zA,zB,zC];repeat ((first|(refine qM ?_ zA0 zA0 (fun W hW _=>⟨W,?_,Ext.refl W⟩) ?_;rotate_left;(go_simp<;>with_reducible rfl))|(refine qV zA0 ?_));try simp only[Act.put,ql,qf,qc,qg,qO,Qj,qf,zA,zB,zC])
  refine Qx (jm w3.heap.size 1 5 #[.int .u8 (l.length:Nat)]) zA0 zA0 (fun W hW _=>?_) (fun (p17:Nat)=>?_)
  ·refine kK ?_ hW.size;go_simp
  simp only[Act.put,qf,qc,qg,qO,Qj,qf,zA,zB,zC];repeat ((first|(refine qM ?_ zA0 zA0 (fun W hW _=>⟨W,?_,Ext.refl W⟩) ?_;rotate_left;(go_simp<;>with_reducible rfl))|(refine qV zA0 ?_));try simp only[Act.put,ql,qf,qc,qg,qO,Qj,qf,zA,zB,zC])
  refine Qx (vl w3.heap.size 6 26 (JC FL)) zA0 zA0 (fun W hW hp=>?_) (fun (p20:Nat)=>?_)
  ·obtain⟨f3,_⟩:W.heap[p3]?=some (.cells #[.int .u8 k] 5 (0,0))/\w3.heap.size<=p3:=(hp 3 zA1).1;obtain⟨f7,_⟩:Bys W W.heap.size (.slice A7 4 c7) (qA i 4)/\_:=(hp 7 zA1).1;obtain⟨f11,_⟩:Bys W W.heap.size (.slice A11 4 c11) (qA o 4)/\_:=(hp 11 zA1).1;obtain⟨f17,_⟩:W.heap[p17]?=some (.cells #[.int .u8 (l.length:Nat)] 5 (0,0))/\w3.heap.size<=p17:=(hp 17 zA1).1;have hR:JC FL [.slice (some ⟨p3,0,none⟩) 1 1,.slice A7 4 c7,.slice A11 4 c11,.slice A2 2 c2,.slice (some ⟨p17,0,none⟩) 1 1,.slice A l.length c] W:=by
    subst hFL;rw[<-bQ.out] at f3;rw[<-ik.out] at f17;refine⟨rfl,fun j v m hv hl=>?_⟩;rcases j with _|_|_|_|_|_|j
    ·cases hv;cases hl;exact Bys.lit (l:=[UInt8.ofNat k]) f3 (by simp[maxLen])
    ·cases hv;cases hl;exact f7
    ·cases hv;cases hl;exact f11
    ·cases hv;cases hl;exact(bI.below hW).more hW.size
    ·cases hv;cases hl;exact Bys.lit (l:=[UInt8.ofNat l.length]) f17 (by simp[maxLen])
    ·cases hv;cases hl;exact(h.out.below (Ext.trans x3 hW)).more (Ext.trans x3 hW).size
    ·simp at hv
   refine KI (cs:=#[.slice (some ⟨p3,0,none⟩) 1 1,.slice A7 4 c7,.slice A11 4 c11,.slice A2 2 c2,.slice (some ⟨p17,0,none⟩) 1 1,.slice A l.length c]) ?_ hW.size rfl ?_
   ·go_simp
   ·exact JC.stable _ _ _ _ (zN _ _) hR
  simp only[Act.put,qf,qc,qg,qO,Qj,qf,zA,zB,zC];refine Qx (Kw w3.heap.size (12+l.length) FL.flatten) zA0 zA0 (fun W hW hp=>?_) (fun p21=>?_)
  ·obtain⟨_,cs,bV,aC,hR⟩:=(hp 20 zA1).1;have hFn:FL.length=6:=by rw[<-hFL];rfl
   refine QP ?_ ((Va (some ⟨p20,0,none⟩) 6 6 cs.toList FL (by simpa using bV) hFn W (Rd.row aC 6 bV) (fun i v l h1 h2=>hR.2 i v l h1 h2) zO (by rw[HL.out];omega)).mono fun e w' h=>?_)
   ·go_simp
   rw[HL.out] at h;exact KR h hW.size
  obtain⟨A21,c21⟩:=p21;simp only[Act.put,qf,qc,qg,qO,Qj,qf,zA,zB,zC];repeat ((first|(refine qM ?_ zA0 zA0 (fun W hW _=>⟨W,?_,Ext.refl W⟩) ?_;rotate_left;(go_simp<;>with_reducible rfl))|(refine qV zA0 ?_));try simp only[Act.put,ql,qf,qc,qg,qO,Qj,qf,zA,zB,zC])
  refine Zp (hK _ _ fun W hW hF=>?_);obtain⟨f21,g21⟩:Bys W W.heap.size (.slice A21 (12+l.length) c21) FL.flatten/\Ze w3.heap.size (.slice A21 (12+l.length) c21):=(hF 21).1;clear hF hK hE;have x4:Ext w W:=x3.trans hW;dsimp only[List.drop];go_wp2;refine bodyPost_ret (v:=.tuple #[.slice A21 (12+l.length) c21,.int .i64 0]) (by simp[results,results177,go_sem]) rfl ⟨_,rfl,⟨_,rfl,A21,c21,rfl,f21,g21.mono (by have:=x3.size;omega)⟩,x4⟩
def XY (n:Nat) (b:List UInt8):List UInt8:=b++List.replicate (n-b.length) 0
theorem VV {n:Nat} {b:List UInt8} (h:b.length<=n):(XY n b).length=n:=by simp[XY];omega
theorem pad_row (n:Nat) (b:List UInt8):List.take 0 (List.map bv (List.replicate n 0)).toArray.toList++List.map bv b++List.drop (0+b.length) (List.map bv (List.replicate n 0)).toArray.toList=(XY n b).map bv:=by simp[XY,List.map_replicate,List.drop_replicate]
def jf (b:List UInt8):List UInt8:=qA (crc (XY 124 b)) 4++XY 124 b
theorem vD {b:List UInt8} (h:b.length<=124):(jf b).length=128:=by unfold jf;rw[List.length_append,zZ,VV h]
set_option maxRecDepth 100000 in
theorem seal_any (A:Option Addr) (c:Nat) (b:List UInt8) (hl:b.length<=124) (w:World) (h:Bys w w.heap.size (.slice A b.length c) b):Calls prog 178 #[.slice A b.length c] w (QV (IsB0 w.heap.size 128 (jf b)) w):=by
 have hmk:∀ w,(Instr.makeSlice 26 (.int .i64 124) (.int .i64 124)).run prog w=.ok (.slice (some ⟨w.heap.size,0,none⟩) 124 124) (w.alloc (.cells ((List.replicate 124 (0:UInt8)).map bv).toArray 5)):=fun _=>zQ;have hsz:(Tryz.prog.info? 5).map (·.size)=some 1:=zQ;have hcr:crc (XY 124 b)<4294967296:=crc_lt _;have hd:decide ((b.length:Int)>124)=false:=decide_eq_false zO;replace h:=zH h;go_enter func178,ntmps178;go_wp2_with fail;generalize aA:World.alloc w _=w1;have x1:Ext w w1:=by rw[<-aA];exact zN _ _
 have r1:w1.heap[w.heap.size]?=some (.cells ((List.replicate 124 (0:UInt8)).map bv).toArray 5 (0,0)):=by rw[<-aA];exact zI _ _ _ rfl
 clear aA hmk;have eU:=Td (P:=prog) w1 26 26 3 5 w.heap.size 0 124 124 A c b _ _ underlying26 hsz r1 (h.out.below x1) hl zA2;rw[eU];clear eU;have r2:=setRow_heap w1 w.heap.size _ (List.take 0 (List.map bv (List.replicate 124 0)).toArray.toList++List.map bv b++List.drop (0+b.length) (List.map bv (List.replicate 124 0)).toArray.toList).toArray _ _ r1;have x2:Below w.heap.size w (w1.setRow w.heap.size (List.take 0 (List.map bv (List.replicate 124 0)).toArray.toList++List.map bv b++List.drop (0+b.length) (List.map bv (List.replicate 124 0)).toArray.toList).toArray):=
  Below.grown x1 (Tf _ _ _) x1.size (fun g e=>by cases e;exact zM _)
 generalize dA:w1.setRow w.heap.size (List.take 0 (List.map bv (List.replicate 124 0)).toArray.toList++List.map bv b++List.drop (0+b.length) (List.map bv (List.replicate 124 0)).toArray.toList).toArray=w2 at *;rw[pad_row] at r2;have hp:∀ W,Ext w2 W->Bys W W.heap.size (.slice (some ⟨w.heap.size,0,none⟩) 124 124) (XY 124 b):=fun W hW=>by
  refine⟨_,124,by rw[VV hl],Nat.le_of_eq (VV hl),zA7,by rw[VV hl];simp[VV hl],fun _=>⟨w.heap.size,0,rfl,?_,fun j u hu=>?_⟩⟩
  ·have:=(zG.1 (qb r2 hW)).1;omega
  ·rw[Nat.zero_add,qa (qb r2 hW)];simpa using hu
 clear dA r1 x1;have HO:=zH (fun W (hW:Ext w2 W)=>qbu _ (XY 124 b) W (hp W hW) (by rw[VV hl];omega));replace hp:=zH hp;replace r2:=zH r2;go_wp2_with fail;refine(HO.out _ (Ext.refl _)).mono ?_;rintro e w3 ⟨rfl,pJ⟩;have x3:Ext w2 w3:=pJ;clear pJ;have HF:=zH (KE (crc (XY 124 b)) hcr w3);go_wp2_with fail;refine HF.out.mono ?_;rintro e w4 ⟨u4,rfl,⟨A4,c4,rfl,hu4,hf4⟩,dG⟩;have x4:Ext w2 w4:=x3.trans dG;clear HF dG;go_wp2_with fail;generalize aK:World.alloc w4 _=w5;have af:Ext w4 w5:=by rw[<-aK];exact zN _ _
 have r5:w5.heap[w4.heap.size]?=some (.cells #[.slice A4 4 c4,.slice (some ⟨w.heap.size,0,none⟩) 124 124] 26 (0,0)):=by rw[<-aK];exact zI _ _ _ rfl
 clear aK;have x5:=x4.trans af;have hfl:[qA (crc (XY 124 b)) 4,XY 124 b].flatten=jf b:=by simp[jf]
 have HC:=Va (some ⟨w4.heap.size,0,none⟩) 2 2 [.slice A4 4 c4,.slice (some ⟨w.heap.size,0,none⟩) 124 124] [qA (crc (XY 124 b)) 4,XY 124 b] rfl rfl w5 ⟨rfl,fun _=>⟨w4.heap.size,0,rfl,(zG.1 r5).1,fun j u hu=>by rw[Nat.zero_add,qa r5];simpa using hu⟩⟩
  (fun i v l hv wY=>by
   rcases i with _|_|i
   ·cases hv;cases wY;exact(hu4.below af).more af.size
   ·cases hv;cases wY;exact hp.out w5 x5
   ·simp at hv) zO (by rw[hfl,vD hl];omega)
 rw[hfl,vD hl] at HC;replace HC:=zH HC;replace hu4:=zH hu4;go_wp2_with fail;refine HC.out.mono ?_;rintro e w6 ⟨u6,rfl,aB,eQ⟩;have x6:Below w.heap.size w w6:=x2.trans (Below.mono (Ext.trans x5 eQ) x2.size);have HI:=zH ((IsB.of_own aB));go_wp2_with fail;refine bodyPost_ret (v:=.tuple #[u6,.int .i64 0]) (by simp[results,results178,go_sem]) rfl ⟨_,rfl,⟨u6,rfl,?_⟩,x6⟩;obtain⟨A',c',h1,h2,h3⟩:=HI.out;exact⟨A',c',h1,h2,h3.mono (by have:=x2.size;have:=x5.size;omega)⟩
def Jt (lvl:Int) (n:Nat) (xs:List It) (k:Nat):List UInt8:=78 :: UInt8.ofNat lvl.toNat :: UInt8.ofNat n :: ZR (xs.take k)
theorem qer (lvl:Int) (n:Nat) {xs:List It} {k:Nat} (hk:k<xs.length):Jt lvl n xs (k+1)=Jt lvl n xs k++jZ xs[k]:=by unfold Jt ZR;rw[List.take_succ_eq_append_getElem hk,List.flatMap_append];simp only[List.flatMap_cons,List.flatMap_nil,List.append_nil,List.cons_append]
theorem Kh (lvl:Int) (xs:List It):Jt lvl xs.length xs xs.length=zX lvl xs:=by unfold Jt zX;rw[List.take_length]
theorem Ki (lvl:Int) (n:Nat) {xs:List It} (k:Nat) (h:∀ x∈xs,jq x) (hl:xs.length<=5):(Jt lvl n xs k).length<=123:=by
 have h1:=XC (xs.take k) (fun x hx=>h x (List.mem_of_mem_take hx));have h2:(xs.take k).length<=xs.length:=by rw[List.length_take];omega
 unfold Jt;simp only[List.length_cons];omega
theorem jG {lvl:Int} {xs:List It} (h:Qe lvl xs=true):0<=lvl/\lvl<6/\xs.length<=5/\∀ x∈xs,itB x.r x.val.length=true:=by unfold Qe at h;rw[Bool.and_eq_true] at h;have h1:0<=lvl/\lvl<6/\xs.length<=5/\(0<lvl->xs.length≠0):=of_decide_eq_true h.1;refine⟨h1.1,h1.2.1,h1.2.2.1,fun x hx=>?_⟩;obtain⟨i,hi,rfl⟩:=List.getElem_of_mem hx;have h2:=List.all_eq_true.1 h.2 i (List.mem_range.2 hi);unfold TU at h2;rw[zL hi] at h2;simp only[Bool.and_eq_true] at h2;exact h2.1.1
theorem GD {R:Ending->World->Prop} {a:Act} {W:World} {u v:Value} (h2:a.tmps[2]?.getD undef=u) (h3:a.tmps[3]?.getD undef=v) (hd:a.defers=[]) (hR:R (.returned (.tuple #[u,v])) W):bodyPost prog Tryz.f167 R .ret a W:=by refine bodyPost_ret (v:=.tuple #[u,v]) ?_ hd hR;simp[results,results167,go_sem,h2,h3]
structure NWr (lvl:Int) (xs:List It) (w2:World) (v i:Value) (wr:World):Prop where
 ex:∃ k:Nat,k<=xs.length/\i=.int .i64 (k:Int)/\wr.ownsRow w2.heap.size 5 1 v (Jt lvl xs.length xs k).length ((Jt lvl xs.length xs k).map bv)/\Ext w2 wr
theorem qfz (lvl:Int) (A:Option Addr) (n c:Nat) (xs:List It) (w:World) (hx:Its w w.heap.size (.slice A n c) xs) (hm:Qe lvl xs=false):Calls prog 167 #[je lvl A n c] w (Ret (.tuple #[.slice none 0 0,.int .i64 8]) w):=by
 have HC:=zH (fun W (hW:Ext w W)=>vK lvl A n c xs W (hx.ext hW));rw[hm,show Jh false=8 from rfl] at HC;clear hx;go_enter func167,ntmps167;go_wp2_with fail;generalize aA:World.alloc w _=w1;have x1:Ext w w1:=by rw[<-aA];exact zN _ _
 clear aA;refine(HC.out w1 x1).mono ?_;rintro e w2 ⟨rfl,hB⟩;have x2:Below w.heap.size w w2:=Ext.trans x1 hB;clear hB;go_wp2;exact GD rfl rfl rfl ⟨rfl,x2⟩
set_option maxRecDepth 100000 in
theorem GC (lvl:Int) (A:Option Addr) (n c:Nat) (xs:List It) (w:World) (hx:Its w w.heap.size (.slice A n c) xs) (hm:Qe lvl xs=true) (ho:∀ x∈xs,jq x):Calls prog 167 #[je lvl A n c] w (QV (IsB0 w.heap.size 128 (jf (zX lvl xs))) w):=by
 have HC:=zH (fun W (hW:Ext w W)=>vK lvl A n c xs W (hx.ext hW));rw[hm,show Jh true=0 from rfl] at HC;obtain⟨oM,um,hl5,hib⟩:=jG hm;obtain⟨hn,lW,eG,hA⟩:=hx.at_;subst hn;obtain⟨L,rfl⟩:=Int.eq_ofNat_of_zero_le oM;have hcv:IntKind.u8.wrap ((xs.length:Nat):Int)=((xs.length:Nat):Int):=by simp[IntKind.wrap,IntKind.bits,IntKind.signed];omega
 have bJ:IntKind.u8.wrap (L:Int)=(L:Int):=by simp[IntKind.wrap,IntKind.bits,IntKind.signed];omega
 have dO:(Jt (L:Int) xs.length xs 0).map bv=[.int .u8 78,.int .u8 (L:Int),.int .u8 (xs.length:Nat)]:=by simp[Jt,ZR,bv];omega
 have hX:=zH hx;have hO:=zH ho;have hI:=zH hib;clear hx ho hib hm;go_enter func167,ntmps167;go_wp2_with fail;generalize aA:World.alloc w _=w1;have x1:Ext w w1:=by rw[<-aA];exact zN _ _
 have r1:w1.heap[w.heap.size]?=some (.cells #[.int .i64 L,.slice A xs.length c] 49 (0,0)):=by rw[<-aA];exact zI _ _ _ rfl
 clear aA;refine(HC.out w1 x1).mono ?_;rintro e w2 ⟨rfl,hB⟩;have x2:Below w.heap.size w w2:=Ext.trans x1 hB;have r2:=qb r1 hB;have k2:=qa r2;clear hB r1 x1 HC;go_upto_region 5 with fail;generalize aO:World.alloc w2 _=w3;have x3:Ext w2 w3:=by rw[<-aO];exact zN _ _
 have o3:w3.ownsRow w2.heap.size 5 1 (.slice (some ⟨w2.heap.size,0,none⟩) 3 3) (Jt (L:Int) xs.length xs 0).length ((Jt (L:Int) xs.length xs 0).map bv):=by rw[dO,<-aO];exact World.ownsRow_lit (base:=w2.heap.size) (e:=5) (size:=1) w2 #[.int .u8 78,.int .u8 (L:Int),.int .u8 (xs.length:Nat)] 3 (zM _) zA7 rfl
 have r3:=qb r2 x3;have k3:=qa r3;clear aO k2 dO;have I0:NWr (L:Int) xs w2 (.slice (some ⟨w2.heap.size,0,none⟩) 3 3) (.int .i64 0) w3:=⟨0,Nat.zero_le _,rfl,o3,x3⟩
 replace I0:=zH I0;clear o3;go_wp2_with fail;clear k3 r3;go_loopw [5,26] (fun v i wr=>NWr (L:Int) xs w2 v i wr) (fun _ i _=>xs.length-(intOf i).toNat)
 case atStart=>exact I0.out
 case round =>
  obtain⟨k,hk,rfl,own,xr⟩:=hrel.ex;clear hrel I0;by_cases hlt:k<xs.length
  ·have aJ:=hlt;obtain⟨b,off,rfl,hb⟩:=hA zO;have xw:Ext w wr:=Ext.trans x2 xr;obtain⟨A',c',d0,d1,d2,d3,d4,aT⟩:=(hX.out.ext xw).item k aJ;have hok:=hO.out xs[k] (List.getElem_mem aJ);have hib:=hI.out xs[k] (List.getElem_mem aJ);have hsu:=zH (qer (L:Int) xs.length aJ);have oD:=Ki (L:Int) xs.length k hO.out hl5;have bz:xs[k].val.length<=12:=hok.2.2.2.2;have HW:=zH (fun W (hW:Ext wr W)=>qfm xs[k] hok hib A' c' W ((aT.below hW).more hW.size));generalize xs[k]=x at *;replace own:=zH own;replace oD:=zH oD;clear aT hok hib;go_wp2_with fail;generalize hw4:World.alloc wr _=w4;have x4:Ext wr w4:=by rw[<-hw4];exact zN _ _
   clear hw4 d0 d1 d2 d3 d4;refine(HW.out w4 x4).mono ?_;rintro e w5 ⟨u,rfl,⟨u5,rfl,A5,c5,rfl,hb5,hf5⟩,hB⟩;have x5:Ext wr w5:=x4.trans hB;have own5:=QM own.out x5;clear hB x4 own;obtain⟨i0,hi,aY,aV,aX⟩:=info_parts Tryz.info_u8;obtain⟨A6,c6,e6,hc6,oN,hr6⟩:=hb5;simp only[Value.slice.injEq] at e6;obtain⟨rfl,e7,rfl⟩:=e6;go_wp2_with (at_builtin;refine qI ?_);refine Qh.go (Qq _ rfl (.tmp 35) (.tmp 36) 26 rfl w2.heap.size 5 i0 (.int .u8 0) 1 1 underlying26 hi aY aV aX rfl zA1 _ _ _ rfl own5 w5.heap.size A5 _ c5 ((jZ x).map bv) rfl hr6 (Xv _) (by have:=oD.out;omega) zA1 (Nat.le_trans xr.size x5.size) ?_);intro v8 w8 rM _ hB8 _;have IR:NWr (L:Int) xs w2 v8 (.int .i64 ((k:Int)+1)) w8:=⟨k+1,aJ,rfl,by rw[hsu.out,List.map_append,List.length_append];exact rM,Below.trans (Ext.trans xr x5) hB8⟩
   replace IR:=zH IR;clear rM hB8 hi aY aV aX own5;go_wp2_with fail;refine⟨IR.out,?_⟩;simp[intOf];omega
  ·obtain rfl:k=xs.length:=zO;rw[Kh] at own;have nJ:(zX (L:Int) xs).length<=124:=by have:=Ki (L:Int) xs.length xs.length hO.out hl5;rw[Kh] at this;omega
   obtain⟨A6,c6,e6,hc6,oN,hr6⟩:=Bys.of_own own;have aT:=Bys.of_own own;subst e6;have HS:=zH (seal_any A6 c6 (zX (L:Int) xs) nJ wr aT);have xw:Below w.heap.size w wr:=Ext.trans x2 xr;clear aT hr6 own;replace xr:=zH xr;go_wp2_with fail;refine HS.out.mono ?_;rintro e w7 ⟨u,rfl,⟨u7,rfl,hI7⟩,hB⟩;have x7:Below w.heap.size w w7:=xw.trans (Below.mono hB xw.size);have hI8:IsB0 w.heap.size 128 (jf (zX (L:Int) xs)) (.tuple #[u7,.int .i64 0]) w7:=by obtain⟨A',c',q1,q2,q3⟩:=hI7;exact⟨u7,rfl,A',c',q1,q2,q3.mono xw.size⟩
   clear hB hI7;replace hI8:=zH hI8;go_wp2_with fail;exact GD rfl rfl rfl ⟨_,rfl,hI8.out,x7⟩
end Go.Proofs.YtpbniokljofedaaGreat
