/- Texts Create, Alive14W, Alive14, OutC, Alive18W, Alive19W, Alive19, StepsL, PSame, joined. -/
import Derived.Test.YtpbniokljofedaaGreatZI32
set_option linter.unusedSimpArgs false
set_option linter.unusedVariables false
set_option maxHeartbeats 8000000
open Go.Proofs.Tryz
namespace Go.Proofs.YtpbniokljofedaaGreat
open Go.RowKit
def newV (next:Int) (r:Nat):Vol:=⟨next,(r:Int),false,0⟩
def Tm (S:Sto) (root next:Int) (dead:List Int) (er:Int):Prop:=(er=8/\zv S root next dead)\/∃ vs refs nodes,zY S root next dead vs/\Qr S (zF root dead vs) refs nodes/\Zu S refs /\
 ((er=9/\(16<=vs.length\/next=4294967295))\/kR S=.error er\/∃ ra S1,kR S=.ok (ra,S1)/\(qbz S1 root (next+1) dead (newV next ra) er\/∃ r S2 vs',qcF S1 root (next+1) dead (newV next ra) r S2 vs'/\Jk S2=er))
def CreQ (S:Sto) (gen root next:Int) (dead:List Int) (w:World) (e:Ending) (w':World):Prop:=Below w.heap.size w w' /\
 ((∃ er,er≠0/\e=.returned (.tuple #[vN,.int .u32 0,.int .i64 er])/\Tm S root next dead er) \/
  ∃ vs refs nodes ra S1 r S2 vs' u,zY S root next dead vs/\Qr S (zF root dead vs) refs nodes/\Zu S refs/\vs.length<16/\next<4294967295/\kR S=.ok (ra,S1)/\qcF S1 root (next+1) dead (newV next ra) r S2 vs'/\Jk S2=0 /\
   e=.returned (.tuple #[u,.int .u32 next,.int .i64 0])/\Jg w.heap.size S2 gen (r:Int) (next+1) dead u w')
theorem qgi {R:Ending->World->Prop} {tmps:Array Value} {W:World} {b:Nat} {x0 x1 x2 x3 x4 x5 x6 x7 y z:Value} (h4:tmps[2]?.getD undef=.pointer (some ⟨b+1,0,none⟩)) (h5:tmps[3]?.getD undef=.pointer (some ⟨b+1+1,0,none⟩)) (h6:tmps[4]?.getD undef=.pointer (some ⟨b+1+1+1,0,none⟩)) (r4:W.heap[b+1]?=some (.cells #[x0,x1,x2,x3,x4,x5,x6,x7] 32 (0,0))) (r5:W.heap[b+2]?=some (.cells #[y] 29 (0,0))) (r6:W.heap[b+3]?=some (.cells #[z] 36 (0,0))) (hR:R (.returned (.tuple #[.agg #[x0,x1,x2,x3,x4,x5,x6,x7],y,z])) W):Leaves prog Tryz.f70 tmps R [] .returning W:=by
 have k4:=qa r4;have k5:=qa r5;have k6:=qa r6;refine⟨.tuple #[.agg #[x0,x1,x2,x3,x4,x5,x6,x7],y,z],?_,hR⟩;simp[results,results70,go_sem,h4,h5,h6,k4,k5,k6]
theorem qdk {R:Ending->World->Prop} {tmps:Array Value} {W:World} {b:Nat} (A1:Option Addr) (n1 c1:Nat) (A2:Option Addr) (n2 c2:Nat) (A3:Option Addr) (n3 c3:Nat) (A4:Option Addr) (n4 c4:Nat) (gen root next:Int) (v5:Value) (y e:Int) (S:Sto) (h4:tmps[2]?.getD undef=.pointer (some ⟨b+1,0,none⟩)) (h5:tmps[3]?.getD undef=.pointer (some ⟨b+1+1,0,none⟩)) (h6:tmps[4]?.getD undef=.pointer (some ⟨b+1+1+1,0,none⟩)) (r4:W.heap[b+1]?=some (.cells (qB (.slice A1 n1 c1) (.slice A2 n2 c2) (.slice A3 n3 c3) (.slice A4 n4 c4) gen root next v5) 32 (0,0))) (r5:W.heap[b+2]?=some (.cells #[.int .u32 y] 29 (0,0))) (r6:W.heap[b+3]?=some (.cells #[.int .i64 e] 36 (0,0))) (h:e=0->qU W W.heap.size (.slice A1 n1 c1) (.slice A2 n2 c2) (.slice A3 n3 c3) (.slice A4 n4 c4) S) (hR1:e=0->Jk S=0->∀ W',Kk (b+1) (b+3) (b+2) W W'->R (.returned (.tuple #[.agg (qB (.slice A1 n1 c1) (.slice A2 n2 c2) (.slice A3 n3 c3) (.slice A4 n4 c4) gen root next v5),.int .u32 y,.int .i64 0])) W') (hR2:∀ e' W',e'≠0->((e=0/\e'=Jk S)\/(e≠0/\e'=e))->Kk (b+1) (b+3) (b+2) W W'->R (.returned (.tuple #[vN,.int .u32 0,.int .i64 e'])) W'):bodyPostD prog Tryz.f70 R .ret { tmps:=tmps,defers:=[{ target:=.fn (.func 126) #[.pointer (some ⟨b+1,0,none⟩),.pointer (some ⟨b+1+1+1,0,none⟩),.pointer (some ⟨b+1+1,0,none⟩)],args:=#[] }] } W:=by
 refine leaves_cons (f:=126) (args:=#[.pointer (some ⟨b+1,0,none⟩),.pointer (some ⟨b+1+1+1,0,none⟩),.pointer (some ⟨b+1+1,0,none⟩)]) zA3 (by simp[go_sem]) ?_;refine(cre1_any (b+1) (b+3) (b+2) zO zO zO A1 n1 c1 A2 n2 c2 A3 n3 c3 A4 n4 c4 gen root next v5 y e S .returning W r4 r6 r5 h).mono ?_;rintro x u' w' ⟨rfl,rfl,hT,⟨h0,hE,g4,g6,g5⟩|⟨e',h0,hE,g4,g6,g5⟩⟩
 ·exact qgi h4 h5 h6 g4 g5 g6 (hR1 h0 hE w' hT)
 ·exact qgi h4 h5 h6 g4 g5 g6 (hR2 e' w' h0 hE hT)
theorem Xz {tmps:Array Value} {w W:World} {S:Sto} {gen root next:Int} {dead:List Int} {er:Int} {z0:Int} (aN:er≠0) (hc:Tm S root next dead er) (h4:tmps[2]?.getD undef=.pointer (some ⟨w.heap.size+1,0,none⟩)) (h5:tmps[3]?.getD undef=.pointer (some ⟨w.heap.size+1+1,0,none⟩)) (h6:tmps[4]?.getD undef=.pointer (some ⟨w.heap.size+1+1+1,0,none⟩)) (r4:W.heap[w.heap.size+1]?=some (.cells qak 32 (0,0))) (r5:W.heap[w.heap.size+2]?=some (.cells #[.int .u32 z0] 29 (0,0))) (r6:W.heap[w.heap.size+3]?=some (.cells #[.int .i64 er] 36 (0,0))) (hB:Ext w W):bodyPostD prog Tryz.f70 (CreQ S gen root next dead w) .ret { tmps:=tmps,defers:=[{ target:=.fn (.func 126) #[.pointer (some ⟨w.heap.size+1,0,none⟩),.pointer (some ⟨w.heap.size+1+1+1,0,none⟩),.pointer (some ⟨w.heap.size+1+1,0,none⟩)],args:=#[] }] } W:=by
 refine qdk none 0 0 none 0 0 none 0 0 none 0 0 0 0 0 (.slice none 0 0) z0 er S h4 h5 h6 r4 r5 r6 (fun h=>absurd h aN) (fun h=>absurd h aN) (fun e' W' h0 hE hT=>?_);obtain rfl:e'=er:=by
  rcases hE with ⟨h,_⟩|⟨_,h⟩
  ·exact absurd h aN
  ·exact h
 have z:=(zG.1 r4).1;exact⟨hT.below hB zO zO zO zO,.inl ⟨e',aN,rfl,hc⟩⟩
theorem Gd {W:World} {b:Nat} {v p q0:Value} {xO nS rQ:TypeId} {cs:Array Value} (r4:W.heap[b+1]?=some (.cells cs xO (0,0))) (r5:W.heap[b+2]?=some (.cells #[p] nS (0,0))) (r6:W.heap[b+3]?=some (.cells #[q0] rQ (0,0))) {C:World} (hC:W.setCell ⟨b+1+1+1,0,none⟩ v=C):C.heap[b+1]?=some (.cells cs xO (0,0))/\C.heap[b+2]?=some (.cells #[p] nS (0,0))/\C.heap[b+3]?=some (.cells #[v] rQ (0,0))/\(∀ {w0:World},w0.heap.size<=b->Ext w0 W->Ext w0 C)/\C.heap.size=W.heap.size/\∀ k,k≠b+3->C.heap[k]?=W.heap[k]?:=by
 subst hC;have hs:=fun (k:Nat) (hk:k≠b+3)=>zJ W ⟨b+1+1+1,0,none⟩ v k hk;exact⟨(hs _ zO).trans r4,(hs _ zO).trans r5,qi r6 0 v,fun hb hx=>Below.setCell hx (p:=⟨b+1+1+1,0,none⟩) zA2 _,zA3,hs⟩
theorem newE_err {S:Sto} {er:Int} (h:kR S=.error er):er≠0:=by
 unfold kR at h;split at h
 ·exact Yn h
 ·cases h;decide
theorem cre_mid {W:World} {b vb:Nat} {u0 u1 u2 u3 u4 u5 u6 u7 y0 y1 y2 y3 p q0 x0 x1 x2 x3 z ev nx:Value} {tyP tyV xO nS rQ:TypeId} {cs:Array Value} (ra:W.heap[b]?=some (.cells #[u0,u1,u2,u3,u4,u5,u6,u7] tyP (0,0))) (rv:W.heap[vb]?=some (.cells #[y0,y1,y2,y3] tyV (0,0))) (r4:W.heap[b+1]?=some (.cells cs xO (0,0))) (r5:W.heap[b+2]?=some (.cells #[p] nS (0,0))) (r6:W.heap[b+3]?=some (.cells #[q0] rQ (0,0))) (hvb:b+3<vb) {C:World} (hC:((((((W.setCell ⟨b,0,none⟩ x0).setCell ⟨b,1,none⟩ x1).setCell ⟨b,2,none⟩ x2).setCell ⟨b,3,none⟩ x3).setCell ⟨vb,1,none⟩ z).setCell ⟨b+1+1+1,0,none⟩ ev).setCell ⟨b,6,none⟩ nx=C):C.heap[b]?=some (.cells #[x0,x1,x2,x3,u4,u5,nx,u7] tyP (0,0))/\C.heap[vb]?=some (.cells #[y0,z,y2,y3] tyV (0,0))/\C.heap[b+1]?=some (.cells cs xO (0,0))/\C.heap[b+2]?=some (.cells #[p] nS (0,0))/\C.heap[b+3]?=some (.cells #[ev] rQ (0,0)) /\
   C.heap.size=W.heap.size/\(∀ {w0:World},w0.heap.size<=b->Ext w0 W->Ext w0 C)/\∀ k,k≠b->k≠vb->k≠b+3->C.heap[k]?=W.heap[k]?:=by
 subst hC;have hs:=fun (A:World) (b j:Nat) (v:Value) (k:Nat) (hk:k≠b)=>zJ A ⟨b,j,none⟩ v k hk;have r1:=qi (qi (qi (qi ra 0 x0) 1 x1) 2 x2) 3 x3;have o1:∀ k,k≠b->((((W.setCell ⟨b,0,none⟩ x0).setCell ⟨b,1,none⟩ x1).setCell ⟨b,2,none⟩ x2).setCell ⟨b,3,none⟩ x3).heap[k]?=W.heap[k]?:=fun k hk=>by rw[hs _ _ _ _ _ hk,hs _ _ _ _ _ hk,hs _ _ _ _ _ hk,hs _ _ _ _ _ hk]
 have bC:∀ k,k≠b->k≠vb->k≠b+3->(((((((W.setCell ⟨b,0,none⟩ x0).setCell ⟨b,1,none⟩ x1).setCell ⟨b,2,none⟩ x2).setCell ⟨b,3,none⟩ x3).setCell ⟨vb,1,none⟩ z).setCell ⟨b+1+1+1,0,none⟩ ev).setCell ⟨b,6,none⟩ nx).heap[k]?=W.heap[k]?:=fun k h1 h2 h3=>by rw[hs _ _ _ _ _ h1,hs _ _ _ _ _ zO,hs _ _ _ _ _ h2,o1 k h1]
 refine⟨?_,?_,(bC _ zO zO zO).trans r4,(bC _ zO zO zO).trans r5,?_,zA3,fun hb hx=>?_,bC⟩
 ·exact qi (t:=tyP) (cs:=#[x0,x1,x2,x3,u4,u5,u6,u7]) (by rw[hs _ _ _ _ _ zO,hs _ _ _ _ _ zO];exact r1) 6 nx
 ·rw[hs _ _ _ _ _ zO,hs _ _ _ _ _ zO];exact qi (t:=tyV) (cs:=#[y0,y1,y2,y3]) ((o1 vb zO).trans rv) 1 z
 ·rw[hs _ _ _ _ _ zO];exact qi (t:=rQ) (cs:=#[q0]) (by rw[hs _ _ _ _ _ zO,o1 _ zO];exact r6) 0 ev
 ·exact Below.setCell (Below.setCell (Below.setCell (ZY hx (b:=b) hb _ _ _ _) (p:=⟨vb,1,none⟩) zA2 _) (p:=⟨b+1+1+1,0,none⟩) zA2 _) (p:=⟨b,6,none⟩) hb _
set_option maxRecDepth 100000 in
theorem qet (A1:Option Addr) (n1 c1:Nat) (A2:Option Addr) (n2 c2:Nat) (A3:Option Addr) (n3 c3:Nat) (A4:Option Addr) (n4 c4:Nat) (gen root next:Int) (A5:Option Addr) (c5:Nat) (S:Sto) (dead:List Int) (hn0:0<=next) (oQ:next<4294967296) (w:World) (h:qU w w.heap.size (.slice A1 n1 c1) (.slice A2 n2 c2) (.slice A3 n3 c3) (.slice A4 n4 c4) S) (hd:Zk w w.heap.size (.slice A5 dead.length c5) dead):Calls prog 70 #[.agg (qB (.slice A1 n1 c1) (.slice A2 n2 c2) (.slice A3 n3 c3) (.slice A4 n4 c4) gen root next (.slice A5 dead.length c5))] w (CreQ S gen root next dead w):=by
 have HV:=zH (fun W (hx:Ext w W)=>qgZ A1 n1 c1 A2 n2 c2 A3 n3 c3 A4 n4 c4 gen root next A5 c5 S dead W (h.ext hx) (hd.ext_ hx));have HN:=zH (fun W (hx:Ext w W)=>pnew_any A1 n1 c1 A2 n2 c2 A3 n3 c3 A4 n4 c4 S W (h.ext hx));have hwn0:Hid (next<4294967295->IntKind.u32.wrap (next+1)=next+1):=zH fun h1=>by simp only[IntKind.wrap,IntKind.bits,IntKind.signed,Bool.false_and,Bool.false_eq_true,if_false];omega
 have hvok:Hid (∀ ra:Nat,8<=ra->ra<256->qcG (newV next ra)):=zH fun ra h1 h2=>by refine⟨⟨?_,?_⟩,⟨?_,?_⟩,⟨?_,?_⟩⟩ <;> simp only[newV] <;> omega
 replace h:=zH h;replace hd:=zH hd;go_enter_defers func70,ntmps70;go_wp2_with fail;generalize aA:(World.alloc (World.alloc _ _) _)=w1;have x1:Ext w w1:=by rw[<-aA];exact(((zN _ _).trans (zN _ _)).trans (zN _ _)).trans (zN _ _)
 have s1:w1.heap.size=w.heap.size+4:=by rw[<-aA];simp
 have wK:w1.heap[w.heap.size]?=some (.cells (qB (.slice A1 n1 c1) (.slice A2 n2 c2) (.slice A3 n3 c3) (.slice A4 n4 c4) gen root next (.slice A5 dead.length c5)) 32 (0,0)):=by rw[<-aA];exact(zK _ _ _ zA4).trans ((zK _ _ _ zA4).trans ((zK _ _ _ zA4).trans (zI _ _ _ rfl)))
 have rb1:w1.heap[w.heap.size+1]?=some (.cells qak 32 (0,0)):=by rw[<-aA];exact(zK _ _ _ zA4).trans ((zK _ _ _ zA4).trans (zI _ _ _ zA3))
 have rc1:w1.heap[w.heap.size+2]?=some (.cells #[.int .u32 0] 29 (0,0)):=by rw[<-aA];exact(zK _ _ _ zA4).trans (zI _ _ _ zA3)
 have rd1:w1.heap[w.heap.size+3]?=some (.cells #[.int .i64 0] 36 (0,0)):=by rw[<-aA];exact zI _ _ _ zA3
 clear aA;refine(HV.out w1 x1).mono ?_;clear HV;rintro e w2 ⟨hB,hQ⟩;have x2:Ext w w2:=Ext.trans x1 hB;have z2:w.heap.size+3<w2.heap.size:=by have:=Below.size hB;omega
 have rO:=qb wK hB;have pF:=qb rb1 hB;have ry:=qb rc1 hB;have uU:=qb rd1 hB;clear hB wK rb1 rc1 rd1 x1;have ka2:=qa rO;have kb2:=qa pF;have kc2:=qa ry;have kd2:=qa uU;have fb2:=qe pF;have fc2:=qe ry;have fd2:=qe uU;have zd2:w.heap.size+1+1+1<w2.heap.size:=zO;have zd0:w.heap.size<w2.heap.size:=zO;rcases hQ with ⟨rfl,bT⟩|⟨vs,refs,nodes,cb,ca,vv,lo,rfl,aP,hT⟩
 ·have hce:Hid (Tm S root next dead 8):=zH (.inl ⟨rfl,bT⟩);clear bT HN;go_wp2_with fail;obtain⟨uG,lh,nC,xe,-,-⟩:=Gd (b:=w.heap.size) (v:=.int .i64 8) pF ry uU rfl;obtain⟨g4,g5,g6,cO,-,-⟩:=XI (b:=w.heap.size) uG lh nC rfl;exact Xz zA1 hce.out rfl rfl rfl g4 g5 g6 (cO (B:=w.heap.size) zO (xe (zM _) x2))
 ·have hp:=zH hT.pool;have hc:=zH hT.cnt;have he:=zH hT.enough;obtain⟨AV,cV,rfl,-,-⟩:=qy hT.own;clear hT aP;by_cases hl:16<=vs.length
  ·have hce:Hid (Tm S root next dead 9):=zH (.inr ⟨vs,refs,nodes,hp.out,hc.out,he.out,.inl ⟨rfl,.inl hl⟩⟩);have d1:decide ((vs.length:Int)≥16)=true:=decide_eq_true zO;replace hl:=zH hl;clear HN;go_wp2_with fail;obtain⟨uG,lh,nC,xe,-,-⟩:=Gd (b:=w.heap.size) (v:=.int .i64 0) pF ry uU rfl;obtain⟨g4,g5,g6,cO,-,-⟩:=XI (b:=w.heap.size) uG lh nC rfl;exact Xz zA1 hce.out rfl rfl rfl g4 g5 g6 (cO (B:=w.heap.size) zO (xe (zM _) x2))
  ·have d1:decide ((vs.length:Int)≥16)=false:=decide_eq_false zO;replace hl:=zH hl;by_cases hm:next=4294967295
   ·have hce:Hid (Tm S root next dead 9):=zH (.inr ⟨vs,refs,nodes,hp.out,hc.out,he.out,.inl ⟨rfl,.inr hm⟩⟩);have d3:(next == 4294967295)=true:=by rw[beq_iff_eq];exact hm
    replace hm:=zH hm;clear HN;go_wp2_with fail;obtain⟨uG,lh,nC,xe,-,-⟩:=Gd (b:=w.heap.size) (v:=.int .i64 0) pF ry uU rfl;obtain⟨g4,g5,g6,cO,-,-⟩:=XI (b:=w.heap.size) uG lh nC rfl;exact Xz zA1 hce.out rfl rfl rfl g4 g5 g6 (cO (B:=w.heap.size) zO (xe (zM _) x2))
   ·have d3:(next == 4294967295)=false:=by rw[beq_eq_false_iff_ne];exact hm
    replace hm:=zH hm;have hAV:vs.length<16:=by have:=hl.out;omega
    have dR:next<4294967295:=by have:=hm.out;omega
    replace hAV:=zH hAV;replace dR:=zH dR;go_wp2_with fail;generalize aO:World.alloc (World.setCell w2 _ _) _=w3;have rv3:w3.heap[w2.heap.size]?=some (.cells #[.int .u32 next,.int .i64 0,.bool false,.int .u32 0] 40 (0,0)):=by rw[<-aO];exact zI _ _ _ zA3
    obtain⟨uG,lh,nC,xe,ze,oe⟩:=Gd (b:=w.heap.size) (v:=.int .i64 0) pF ry uU rfl;have x3:Ext w w3:=by rw[<-aO];exact(xe (zM _) x2).trans (zN _ _)
    have ha3:=zN (w2.setCell ⟨w.heap.size+1+1+1,0,none⟩ (.int .i64 0)) (.cells #[.int .u32 next,.int .i64 0,.bool false,.int .u32 0] 40);rw[aO] at ha3;replace uG:=qb uG ha3;replace lh:=qb lh ha3;replace nC:=qb nC ha3;have ra3:=qb ((oe w.heap.size zO).trans rO) ha3;clear aO xe ze oe ha3 pF ry uU rO ka2 kb2 kc2 kd2 fb2 fc2 fd2;refine(HN.out w3 x3).mono ?_;clear HN;rintro e w4 ⟨u,rfl,hM,hB⟩;have x4:Ext w w4:=x3.trans hB;have ra4:=qb ra3 hB;have yc:=qb uG hB;have sD:=qb lh hB;have xJ:=qb nC hB;have rv4:=qb rv3 hB;have ka4:=qa ra4;have kb4:=qa yc;have kc4:=qa sD;have kd4:=qa xJ;have kv4:=qa rv4;have fa4:=qe ra4;have fb4:=qe yc;have fc4:=qe sD;have fd4:=qe xJ;have fv4:=qe rv4;have zv3:=(zG.1 rv3).1;have zv4:=(zG.1 rv4).1;clear hB ra3 uG lh nC rv3;rcases hq:kR S with er|⟨ra,S1⟩
    ·rw[hq] at hM;obtain rfl:=hM;have aN:=newE_err hq;have hce:Hid (Tm S root next dead er):=zH (.inr ⟨vs,refs,nodes,hp.out,hc.out,he.out,.inr (.inl hq)⟩);have ru:(er != 0)=true:=by rw[bne_iff_ne];exact aN
     replace aN:=zH aN;replace hq:=zH hq;go_wp2_with fail;have hs5:=(((((Sets.refl (fun k=>k=w.heap.size\/k=w2.heap.size) w4).set (b:=w.heap.size) 0 (.inl rfl) (.slice none 0 0)).set (b:=w.heap.size) 1 (.inl rfl) (.slice none 0 0)).set (b:=w.heap.size) 2 (.inl rfl) (.slice none 0 0)).set (b:=w.heap.size) 3 (.inl rfl) (.slice none 0 0)).set (b:=w2.heap.size) 1 (.inr rfl) (.int .i64 0);obtain⟨rb5,rc5,rd5,xe,-,-⟩:=Gd (b:=w.heap.size) (v:=.int .i64 er) (hs5.row yc zO) (hs5.row sD zO) (hs5.row xJ zO) rfl;obtain⟨g4,g5,g6,cO,-,-⟩:=XI (b:=w.heap.size) rb5 rc5 rd5 rfl;exact Xz aN.out hce.out rfl rfl rfl g4 g5 g6 (cO (B:=w.heap.size) zO (xe (zM _) (hs5.below x4 zO)))
    ·rw[hq] at hM;obtain⟨v,rfl,hT⟩:=hM;obtain⟨BB,WW,gg,B3,d3,B4,d4,rfl,-⟩:=id hT;have lN:=zH (VT (hT.newSto (za (XN hq).2.2.1)));have hwn:=hwn0.out dR.out;have htr:=zH (new_tree hq);have tY:=(XN hq).2.2.2;have oU:=zH hq;clear hT hq;go_wp2_with fail;generalize aK:World.setCell (World.setCell (World.setCell (World.setCell (World.setCell (World.setCell (World.setCell w4 _ _) _ _) _ _) _ _) _ _) _ _) _ _=w5;obtain⟨ra5,rv5,rb5,rc5,rd5,z5,xe5,o5⟩:=cre_mid (b:=w.heap.size) (vb:=w2.heap.size) ra4 rv4 yc sD xJ zO aK;have x5:=xe5 (zM _) x4;have hBZ:=(lN.out w5 (KW fun k h1 h2=>o5 k zO zO zO)).more (show w4.heap.size<=w5.heap.size by omega);have HS:=zH (fset_any (some ⟨BB,0,none⟩) S1.bs.length S1.bs.length (some ⟨WW,0,none⟩) S1.ws.length (S1.ws.length+1) B3 S1.now.length d3 B4 S1.last.length d4 gen root (next+1) A5 c5 S1 dead (newV next ra) (hvok.out ra tY.1 tY.2) (fun _ _ _=>htr.out) w5 hBZ (hd.out.ext_ x5));clear aK xe5 ra4 yc sD xJ rv4 ka4 kb4 kc4 kd4 kv4 fa4 fb4 fc4 fd4 fv4 hBZ lN htr;refine HS.out.mono ?_;clear HS;intro e w6 hQS;obtain⟨eQ,hS6⟩:=hQS.split;have x6:Ext w w6:=x5.trans eQ;have rb6:=qb rb5 eQ;have rc6:=qb rc5 eQ;have rd6:=qb rd5 eQ;have rv6:=qb rv5 eQ;obtain⟨E1,m1,e1,E2,m2,e2,E3,m3,e3,E4,m4,e4,g9,t9,n9,E5,m5,e5,er,rfl,hS7⟩:∃ E1 m1 e1 E2 m2 e2 E3 m3 e3 E4 m4 e4 g9 t9 n9 E5 m5 e5 er,e=.returned (.tuple #[.agg (qB (.slice E1 m1 e1) (.slice E2 m2 e2) (.slice E3 m3 e3) (.slice E4 m4 e4) g9 t9 n9 (.slice E5 m5 e5)),.int .i64 er]) /\
       ((er≠0/\qB (.slice E1 m1 e1) (.slice E2 m2 e2) (.slice E3 m3 e3) (.slice E4 m4 e4) g9 t9 n9 (.slice E5 m5 e5)=qak/\qbz S1 root (next+1) dead (newV next ra) er)\/(er=0/\∃ r S2 vs',qcF S1 root (next+1) dead (newV next ra) r S2 vs'/\Jg w5.heap.size S2 gen (r:Int) (next+1) dead (.agg (qB (.slice E1 m1 e1) (.slice E2 m2 e2) (.slice E3 m3 e3) (.slice E4 m4 e4) g9 t9 n9 (.slice E5 m5 e5))) w6)):=by
      rcases hS6 with ⟨er,h0,rfl,hE⟩|⟨r,S2,vs',u,hO,rfl,hN⟩
      ·exact⟨none,0,0,none,0,0,none,0,0,none,0,0,0,0,0,none,0,0,er,rfl,.inl ⟨h0,rfl,hE⟩⟩
      ·obtain⟨E1,e1,E2,e2,E3,e3,E4,e4,E5,e5,rfl,-⟩:=id hN;exact⟨E1,_,e1,E2,_,e2,E3,_,e3,E4,_,e4,gen,r,next+1,E5,_,e5,0,rfl,.inr ⟨rfl,r,S2,vs',hO,hN⟩⟩
     replace hS7:=zH hS7;have kb6:=qa rb6;have fb6:=qe rb6;have kd6:=qa rd6;have fd6:=qe rd6;clear hQS hS6 ra5 rb5 rc5 rd5 rv5;go_upto_region 13 with fail;generalize gu:World.setCell (World.setCell (World.setCell (World.setCell (World.setCell (World.setCell (World.setCell (World.setCell (World.setCell w6 _ _) _ _) _ _) _ _) _ _) _ _) _ _) _ _) _ _=w7;have x7:Ext w w7:=by rw[<-gu];exact Below.setCell (jz x6 (b:=w.heap.size+1) zO _ _ _ _ _ _ _ _) (p:=⟨w.heap.size+1+1+1,0,none⟩) zA2 _
     have z7:w7.heap.size=w6.heap.size:=by rw[<-gu];simp
     have hs:=fun (A:World) (b j:Nat) (v:Value) (k:Nat) (hk:k≠b)=>zJ A ⟨b,j,none⟩ v k hk;have rb7:w7.heap[w.heap.size+1]?=some (.cells (qB (.slice E1 m1 e1) (.slice E2 m2 e2) (.slice E3 m3 e3) (.slice E4 m4 e4) g9 t9 n9 (.slice E5 m5 e5)) 32 (0,0)):=by rw[<-gu,hs _ _ _ _ _ zO];exact Kf rb6 _ _ _ _ _ _ _ _
     have o7:∀ k,k≠w.heap.size+1->k≠w.heap.size+3->w7.heap[k]?=w6.heap[k]?:=fun k h1 h2=>by rw[<-gu,hs _ _ _ _ _ zO,jM h1]
     have rc7:=(o7 (w.heap.size+2) zO zO).trans rc6;have rv7:=(o7 w2.heap.size zO zO).trans rv6;have rd7:w7.heap[w.heap.size+3]?=some (.cells #[.int .i64 er] 36 (0,0)):=by rw[<-gu];exact qi (t:=36) (cs:=#[.int .i64 0]) (by rw[jM zO];exact rd6) 0 _
     clear gu kb6 fb6 kd6 fd6 rb6 rc6 rd6 rv6 hs;have gO:∀ W,qk.r w7 W->∀ i,W.cell? ⟨w.heap.size+1,i,none⟩=(qB (.slice E1 m1 e1) (.slice E2 m2 e2) (.slice E3 m3 e3) (.slice E4 m4 e4) g9 t9 n9 (.slice E5 m5 e5))[i]?:=fun W h=>qa (qb rb7 h);have gV:∀ W,qk.r w7 W->∀ i,W.cell? ⟨w2.heap.size,i,none⟩=#[.int .u32 next,.int .i64 (ra:Int),.bool false,.int .u32 0][i]?:=fun W h=>qa (qb rv7 h);have gE:∀ W,qk.r w7 W->∀ i,W.cell? ⟨w.heap.size+1+1+1,i,none⟩=#[.int .i64 er][i]?:=fun W h=>qa (qb rd7 h);refine qm zQ ?_;refine qgL (w:=w7) qk (qD [(4,jt)]) (List.replicate 5 true) 2 zQ zQ zQ zQ zQ zQ zQ ?st (Rel.drew _ _) ?walk
     case st=>exact qj (by simp only[List.forall_mem_cons];exact⟨jo,fun _ h=>by cases h⟩)
     case walk =>
      intro K hK;dsimp only[qp,List.replicate];repeat ((first|(refine qd ?_ zA0 zA0 (fun W hW _=>⟨W,?_,Rel.refl _ W⟩) ?_;rotate_left;(go_simp<;>with_reducible rfl))|(refine qh zA0 ?_));try simp only[Act.put,ql,qf,qc,qg,Qk,zA,zB,zC])
      refine qw jt zA0 zA0 (fun W hW _=>?_) (fun (p:Unit)=>?_)
      ·have hW:Ext w7 W:=hW;have r8:=qb rb7 hW;have k8:=qa r8;have f8:=qe r8;refine JF ?_ (same8 r8);clear gO gV gE;go_simp
      simp only[Act.put,qf,qc,qg,Qk,zA,zB,zC];repeat ((first|(refine qd ?_ zA0 zA0 (fun W hW _=>⟨W,?_,Rel.refl _ W⟩) ?_;rotate_left;(go_simp<;>with_reducible rfl))|(refine qh zA0 ?_));try simp only[Act.put,ql,qf,qc,qg,Qk,zA,zB,zC])
      refine qt (hK _ _ fun W hW hF=>?_);clear hF hK gO gV gE;have hW:Ext w7 W:=hW;refine zC3 ?_;have x8:Ext w W:=x7.trans hW;have z78:=hW.size;have rb8:=qb rb7 hW;have rc8:=qb rc7 hW;have rd8:=qb rd7 hW;have kc8:=qa rc8;have fc8:=qe rc8;have kd8:=qa rd8;have fd8:=qe rd8;have zd8:w.heap.size+1+1+1<W.heap.size:=(zG.1 rd8).1;have o8:∀ k,k<w6.heap.size->k≠w.heap.size+1->k≠w.heap.size+3->W.heap[k]?=w6.heap[k]?:=fun k h0 h1 h2=>(Below.block hW k zO).trans (o7 k h1 h2);replace o8:=zH o8;clear hW o7 rb7 rc7 rd7 rv7;go_wp2;refine Qm ?_;go_wp2_with fail;generalize aZ:World.setCell (World.setCell W _ _) _ _=Wf;obtain⟨rcf,rdf,hbf,zf,hof⟩:=two_rows (b:=w.heap.size) rc8 rd8 aZ;have rbf:=(hof (w.heap.size+1) zO zO).trans rb8;have yf:=hbf (B:=w.heap.size) zO x8;clear aZ;have hk6:∀ k,w5.heap.size<=k->k<w6.heap.size->Wf.heap[k]?=w6.heap[k]?:=fun k h1 h2=>(hof k zO zO).trans (o8.out k h2 zO zO);have zWf:Wf.heap.size=W.heap.size:=zf;rcases hS7.out with ⟨h0,hz,hE⟩|⟨rfl,r,S2,vs',hO,hN⟩
      ·rw[hz] at rbf;exact Xz h0 (.inr ⟨vs,refs,nodes,hp.out,hc.out,he.out,.inr (.inr ⟨ra,S1,oU.out,.inl hE⟩)⟩) rfl rfl rfl rbf rcf rdf yf
      ·have xg:Jg w.heap.size S2 gen (r:Int) (next+1) dead (.agg (qB (.slice E1 m1 e1) (.slice E2 m2 e2) (.slice E3 m3 e3) (.slice E4 m4 e4) g9 t9 n9 (.slice E5 m5 e5))) Wf:=hN.keep x5.size zO hk6;obtain⟨F1,f1,F2,f2,F3,f3,F4,f4,F5,f5,ee,aH,hin⟩:=xg.sto;simp only[qB,Value.agg.injEq,Array.mk.injEq,List.cons.injEq,Value.slice.injEq,Value.int.injEq,true_and,and_true] at ee;obtain⟨⟨rfl,rfl,rfl⟩,⟨rfl,rfl,rfl⟩,⟨rfl,rfl,rfl⟩,⟨rfl,rfl,rfl⟩,rfl,rfl,rfl,rfl,rfl,rfl⟩:=ee;refine qdk _ _ _ _ _ _ _ _ _ _ _ _ _ _ _ _ _ 0 S2 rfl rfl rfl rbf rcf rdf (fun _=>aH) (fun _ hE W' hT=>?_) (fun e' W' h0 hE hT=>?_)
       ·exact⟨hT.below yf zO zO zO zO,.inr ⟨vs,refs,nodes,ra,S1,r,S2,vs',_,hp.out,hc.out,he.out,hAV.out,dR.out,oU.out,hO,hE,rfl,hN.keep x5.size (by have:=hT.size;omega) fun k h1 h2=>(hT.same k zO zO zO zO).trans (hk6 k h1 h2)⟩⟩
       ·refine⟨hT.below yf zO zO zO zO,.inl ⟨e',h0,rfl,.inr ⟨vs,refs,nodes,hp.out,hc.out,he.out,.inr (.inr ⟨ra,S1,oU.out,.inr ⟨r,S2,vs',hO,?_⟩⟩)⟩⟩⟩;rcases hE with ⟨_,h⟩|⟨h,_⟩
        ·exact h.symm
        ·exact absurd rfl h
def okOf {α:Type} (q:Except Int (Nat×α)) (d:α):α:=match q with
 | .ok (_,x)=>x
 | .error _=>d
def st1:Sto:=okOf (kR qH) qH
def vol1:Vol:=⟨1,9,false,0⟩
def st2:Sto:=okOf (setE st1 8 vol1) st1
theorem zv.not {S:Sto} {root next:Int} {dead:List Int} {vs:List Vol} {met refs:List Nat} (hb:zv S root next dead) (h:JL S root next dead=some (vs,met,refs)):False:=by obtain⟨h1,h2,h3⟩:=KU h;obtain⟨refs',nodes',hc,hn⟩:=hb vs h1;obtain⟨_,e⟩:=jy.same hc.mkd h2.mkd;subst e;exact hn h3
theorem Zk.nil_ (w:World) (B:Nat):Zk w B (.slice none 0 0) []:=⟨none,0,rfl,zM _,by simp[maxLen],Rd.none_⟩
section
variable {S:Sto} {gen root next:Int} {dead:List Int}
theorem zv.notC {vs:List Vol} {met refs:List Nat} (h:JL S root next dead=some (vs,met,refs)) (hb:zv S root next dead):False:=zv.not hb h
def setC (S:Sto) (root next:Int) (dead:List Int) (v:Vol):Option (Nat×Sto×List Vol):=match JL S root next dead with
 |none=>none
 |some (vs,_,refs)=>if ZJ S next v vs (fun b=>refs.count b)=0 then match setE S root v with
   | .error _=>none
   | .ok (r,S')=>match JL S' (r:Int) next dead with
    |none=>none
    |some (vs',_,_)=>some (r,S',vs')
  else none
theorem qgB {v:Vol} {r:Nat} {S':Sto} {vs':List Vol} (h:setC S root next dead v=some (r,S',vs')):∃ vs met refs met' refs',JL S root next dead=some (vs,met,refs)/\ZJ S next v vs (fun b=>refs.count b)=0/\setE S root v=.ok (r,S')/\JL S' (r:Int) next dead=some (vs',met',refs'):=by
 unfold setC at h;split at h
 ·cases h
 ·rename_i vs met refs hp;split at h
  ·rename_i hf;split at h
   ·cases h
   ·rename_i r1 S1 he;split at h
    ·cases h
    ·rename_i vs1 met1 xK hp1;cases h;exact⟨vs,met,refs,met1,xK,hp,hf,he,hp1⟩
  ·cases h
theorem setC_err {v:Vol} {r:Nat} {S':Sto} {vs':List Vol} (h:setC S root next dead v=some (r,S',vs')) {er:Int} (aN:er≠0) (hE:qbz S root next dead v er):False:=by
 obtain⟨vs,met,refs,met',refs',hp,hf,he,hp'⟩:=qgB h;obtain⟨h1,h2,h3⟩:=KU hp;rcases hE with ⟨_,hb⟩|⟨vs1,xK,hCI,k1,k2,k3,hE⟩
 ·exact hb.not hp
 ·obtain⟨rfl,rfl,-⟩:=zY.unique h1 h2 k1 k2;rcases hE with e|⟨_,e|⟨_,r2,S2,e,hb⟩⟩
  ·rw[hf] at e;exact aN e.symm
  ·rw[he] at e;cases e
  ·rw[he] at e;cases e;exact hb.not hp'
theorem qgA {v:Vol} {r r1:Nat} {S' S1:Sto} {vs' vs1:List Vol} (h:setC S root next dead v=some (r,S',vs')) (hO:qcF S root next dead v r1 S1 vs1):r1=r/\S1=S'/\vs1=vs':=by obtain⟨vs,met,refs,met',refs',hp,hf,he,hp'⟩:=qgB h;obtain⟨_,_,_,_,_,_,_,e,refs9,nodes9,k1,k2,_⟩:=hO;rw[he] at e;cases e;obtain⟨h1,h2,h3⟩:=KU hp';obtain⟨rfl,_,_⟩:=zY.unique h1 h2 k1 k2;exact⟨rfl,rfl,rfl⟩
def UJ (S:Sto) (root next:Int) (dead:List Int):Option (Nat×Sto):=match JL S root next dead with
 |none=>none
 |some (vs,_,_)=>if vs.length<16/\next<4294967295 then match kR S with
   | .error _=>none
   | .ok (ra,S1)=>match setC S1 root (next+1) dead (newV next ra) with
    |none=>none
    |some (r,S2,_)=>if Jk S2=0 then some (r,S2) else none
  else none
theorem qeR {r:Nat} {S2:Sto} (h:UJ S root next dead=some (r,S2)) {w w':World} {e:Ending} (hQ:CreQ S gen root next dead w e w'):Below w.heap.size w w'/\∃ u,e=.returned (.tuple #[u,.int .u32 next,.int .i64 0])/\Jg w.heap.size S2 gen (r:Int) (next+1) dead u w':=by
 unfold UJ at h;split at h
 ·cases h
 ·rename_i vs met refs hp;split at h
  ·rename_i hl;split at h
   ·cases h
   ·rename_i ra S1 hn;split at h
    ·cases h
    ·rename_i r1 S3 vs3 hs;split at h
     ·rename_i hr;cases h;obtain⟨h1,h2,h3⟩:=KU hp;refine⟨hQ.1,?_⟩;rcases hQ.2 with ⟨er,aN,_,hE⟩|⟨vs1,xK,hCI,wK,T1,r9,T2,vs9,u,k1,k2,k3,k4,k5,k6,k7,k8,rfl,k9⟩
      ·exfalso;rcases hE with ⟨_,hb⟩|⟨vs1,xK,hCI,k1,k2,k3,hE⟩
       ·exact hb.not hp
       ·obtain⟨rfl,rfl,-⟩:=zY.unique h1 h2 k1 k2;rcases hE with ⟨_,e|e⟩|e|⟨wK,T1,e,hE⟩
        ·omega
        ·omega
        ·rw[hn] at e;cases e
        ·rw[hn] at e;cases e;rcases hE with hE|⟨r9,T2,vs9,hO,e⟩
         ·exact setC_err hs aN hE
         ·obtain⟨rfl,rfl,rfl⟩:=qgA hs hO;exact aN (e.symm.trans hr)
      ·rw[hn] at k6;cases k6;obtain⟨rfl,rfl,rfl⟩:=qgA hs k7;exact⟨u,rfl,k9⟩
     ·cases h
  ·cases h
def vputC (S:Sto) (root next:Int) (dead:List Int) (id:Int) (x:It):Option (Nat×Sto):=match JL S root next dead with
 |none=>none
 |some (vs,_,_)=>match JY vs id with
  |none=>none
  |some v=>if v.fz=false/\itB x.r x.val.length=true/\x.r=0/\qfM S v.root=0 then match putN (heldS S v.root) v.root.toNat x with
    | .error _=>none
    | .ok (r2,S2)=>match setC S2 root next dead (rootV v r2) with
     |none=>none
     |some (r3,S3,_)=>match leaveE S3 v.root with
      | .error _=>none
      | .ok S4=>if Jk S4=0 then some (r3,S4) else none
   else none
def snapC (S:Sto) (root next:Int) (dead:List Int) (id:Int) (fz:Bool):Option (Nat×Sto):=match JL S root next dead with
 |none=>none
 |some (vs,_,_)=>match JY vs id with
  |none=>none
  |some v=>if vs.length<16/\next<4294967295/\qfM S v.root=0 then match setC (heldS S v.root) root (next+1) dead (snapV next v fz id) with
    |none=>none
    |some (r,S',_)=>if Jk S'=0 then some (r,S') else none
   else none
def frzC (S:Sto) (root next:Int) (dead:List Int) (id:Int) (fz:Bool):Option (Nat×Sto):=match JL S root next dead with
 |none=>none
 |some (vs,_,_)=>match JY vs id with
  |none=>none
  |some v=>if qfM S v.root=0 then match setC (heldS S v.root) root next dead (frzV v fz) with
    |none=>none
    |some (r,S',_)=>match leaveE S' v.root with
     | .error _=>none
     | .ok S4=>if Jk S4=0 then some (r,S4) else none
   else none
end
def cS (o:Option (Nat×Sto)):Sto:=match o with
 |some (_,S)=>S
 |none=>qH
def cIs (o:Option (Nat×Sto)) (r:Nat):Bool:=match o with
 |some (n,_)=>decide (n=r)
 |none=>false
theorem cIs_some {o:Option (Nat×Sto)} {r:Nat} (h:cIs o r=true):o=some (r,cS o):=by
 rcases o with _|⟨n,S⟩
 ·cases h
 ·simp only[cIs,decide_eq_true_eq] at h;subst h;rfl
def x7:It:=⟨2,0,0,0,[7]⟩
def xz:It:=⟨0,0,0,0,[]⟩
def t1:Sto:=cS (UJ qH 8 1 [])
theorem t1_cre:UJ qH 8 1 []=some (10,t1):=cIs_some (by decide +kernel)
def t2:Sto:=cS (vputC t1 10 2 [] 1 x7)
def t3:Sto:=cS (snapC t2 11 2 [] 1 true)
def va:Vol:=⟨1,8,false,0⟩
def vb:Vol:=⟨2,8,true,1⟩
def t4:Sto:=cS (frzC t3 9 3 [] 2 false)
def t5:Sto:=cS (vputC t4 10 3 [] 2 xz)
section
variable {S:Sto} {gen root next:Int} {dead:List Int} {vs:List Vol} {met refs:List Nat} {w w':World} {e:Ending}
theorem qaS.knownC {id:Int} (h:qaS S root next dead id w e w') (hk:JL S root next dead=some (vs,met,refs)):e=.returned (volQ (JY vs id)):=by
 obtain⟨h1,h2,h3⟩:=KU hk;rcases h.2 with ⟨_,hb⟩|⟨vs',refs',nodes',hp,hc,_,rfl⟩
 ·exact(zv.notC hk hb).elim
 ·obtain⟨rfl,-,-⟩:=zY.unique h1 h2 hp hc;rfl
theorem kA.knownC (h:kA S root next dead w e w') (hk:JL S root next dead=some (vs,met,refs)):e=.returned (.int .i64 0):=by
 rcases h.2 with ⟨_,hb⟩|⟨e,-⟩
 ·exact(zv.notC hk hb).elim
 ·exact e
theorem Xr.one {a:Nat} {D:List Int} {T:Sto} (h:Xr S gen root next [(a:Int)] w e w') (hk:JL S root next [(a:Int)]=some (vs,met,refs)) (hr:Kn S [] a=.ok (D,T)):Below w.heap.size w w'/\∃ u,e=.returned (.tuple #[u,.int .i64 0])/\Jg w.heap.size T gen root next D u w':=by
 refine⟨h.1,?_⟩;rcases h.2 with ⟨_,hb⟩|⟨_,_,_,_,_,_,⟨e,_⟩|⟨ini,b,e,h⟩⟩
 ·exact(zv.notC hk hb).elim
 ·simp at e
 ·have hi:ini=[]:=by
   cases ini with
   |nil=>rfl
   |cons x l=>simp at e
  subst hi;obtain rfl:a=b:=by
   have:(a:Int)=(b:Int):=by simpa using e
   omega
  rw[hr] at h;exact h
end
def mkS (q:Except Int (Nat×Sto)):Sto:=match q with
 | .ok (_,S)=>S
 | .error _=>qH
def mkIs (q:Except Int (Nat×Sto)) (r:Nat):Bool:=match q with
 | .ok (n,_)=>decide (n=r)
 | .error _=>false
theorem mkIs_ok {q:Except Int (Nat×Sto)} {r:Nat} (h:mkIs q r=true):q=.ok (r,mkS q):=by
 rcases q with e|⟨n,S⟩
 ·cases h
 ·simp only[mkIs,decide_eq_true_eq] at h;subst h;rfl
def rpS (q:Except Int (List Int×Sto)):Sto:=match q with
 | .ok (_,S)=>S
 | .error _=>qH
def rpIs (q:Except Int (List Int×Sto)):Bool:=match q with
 | .ok (n,_)=>decide (n=[])
 | .error _=>false
theorem rpIs_ok {q:Except Int (List Int×Sto)} (h:rpIs q=true):q=.ok ([],rpS q):=by
 rcases q with e|⟨n,S⟩
 ·cases h
 ·simp only[rpIs,decide_eq_true_eq] at h;subst h;rfl
def vc:Vol:=⟨1,9,false,0⟩
theorem t1_pool:JL t1 10 2 []=some ([vc],[9,10],[10,9]):=by decide +kernel
def y1:It:=⟨1,1,0,0,Qu vc⟩
theorem t1_node:qv t1 10=some (((0:Nat):Int),[y1]):=by decide +kernel
theorem t1_may:qo t1=true:=by decide +kernel
theorem t1_span:(Qg t1 0 [y1]).isSome=true:=by decide +kernel
theorem t1_one:XQ t1 (1,1,0) 0 [y1]=some y1:=by decide +kernel
theorem t1_place:qG [y1] (1,1,0)=0:=by decide +kernel
def t6a:Sto:=mkS (zh t1 0 [])
theorem t6_make:zh t1 0 []=.ok (8,t6a):=mkIs_ok (by decide +kernel)
theorem t6_node:qv t6a 8=some (0,[]):=by decide +kernel
def t6t:List UInt8:=(Qz t6a (-1) t6a.now 10).getD []
theorem t6_leave:Qz t6a (-1) t6a.now 10=some t6t:=by
 have h:(Qz t6a (-1) t6a.now 10).isSome=true:=by decide +kernel
 unfold t6t;rcases e:Qz t6a (-1) t6a.now 10 with _|t
 ·rw[e] at h;cases h
 ·rfl
def t6:Sto:=qu t6a t6t
theorem qgE:JL t6 8 2 [9]=some ([],[9,8],[8,9]):=by decide +kernel
theorem t6_leaf:qv t6 9=some (0,[]):=by decide +kernel
theorem t6_ask:ZQ t6 9=0:=by decide +kernel
def t7:Sto:=rpS (Kn t6 [] 9)
theorem t7_reap:Kn t6 [] 9=.ok ([],t7):=rpIs_ok (by decide +kernel)
theorem gone_ret {R:Ending->World->Prop} {a:Act} {W:World} {b:Nat} {x0 x1 x2 x3 x4 x5 x6 x7 v:Value} (h4:a.tmps[0]?.getD undef=.pointer (some ⟨b,0,none⟩)) (h5:a.tmps[1]?.getD undef=v) (hd:a.defers=[]) (aC:W.heap[b]?=some (.cells #[x0,x1,x2,x3,x4,x5,x6,x7] 32 (0,0))) (hR:R (.returned (.tuple #[.agg #[x0,x1,x2,x3,x4,x5,x6,x7],v])) W):bodyPost prog Tryz.f34 R .ret a W:=by
 refine bodyPost_ret (v:=.tuple #[.agg #[x0,x1,x2,x3,x4,x5,x6,x7],v]) ?_ hd hR;have k:=qa aC;simp[results,results34,go_sem,h4,h5,k]
set_option maxRecDepth 100000 in
theorem gone_any (w:World):Calls prog 34 #[] w (QV (fun u W=>∃ v,u=.tuple #[v,.bool true]/\Jg w.heap.size t6 0 8 2 [9] v W) w):=by
 go_enter func34,ntmps34;go_wp2_with fail;generalize aA:World.alloc _ _=w1;have x1:Ext w w1:=by rw[<-aA];exact zN _ _
 have q1:w1.heap[w.heap.size]?=some (.cells (qB (.slice none 0 0) (.slice none 0 0) (.slice none 0 0) (.slice none 0 0) 0 0 0 (.slice none 0 0)) 32 (0,0)):=by rw[<-aA];exact zI _ _ _ zA3
 clear aA;refine(fnew_any w1).mono ?_;rintro e w2 ⟨u,rfl,hp,hB⟩;have x12:Ext w1 w2:=hB;have x2:Ext w w2:=x1.trans x12;have q2:=qb q1 x12;obtain⟨A1,c1,A2,c2,A3,c3,A4,c4,rfl,hS⟩:=hp.sto;obtain⟨l1,l2,l3,l4⟩:=KD;have HC:=zH (fun W (hx:Ext w2 W)=>qet A1 256 c1 A2 1 c2 A3 256 c3 A4 256 c4 0 8 1 none 0 qH [] zA1 zA1 W (hS.ext hx) (Zk.nil_ _ _));clear hS hp l1 l2 l3 l4 hB x1 q1 x12;go_wp2_with fail;refine(HC.out w2 (Ext.refl _)).mono ?_;clear HC;intro e w3 hq;obtain⟨hB,u,rfl,hN⟩:=qeR t1_cre hq;have dJ:Ext w2 w3:=hB;have x3:Ext w w3:=x2.trans dJ;have q3:=qb q2 dJ;obtain⟨A1',c1',A2',c2',A3',c3',A4',eP,A5,c5,rfl,hS,hI⟩:=hN.sto;clear hN hq hB q2 x2 dJ;go_wp2_with fail;generalize hw4:World.alloc w3 _=w4;have x34:Ext w3 w4:=by rw[<-hw4];exact zN _ _
 have p4:w4.heap[w3.heap.size]?=some (.cells (qB (.slice A1' t1.bs.length c1') (.slice A2' t1.ws.length c2') (.slice A3' t1.now.length c3') (.slice A4' t1.last.length eP) 0 10 2 (.slice A5 0 c5)) 32 (0,0)):=by rw[<-hw4];exact zI _ _ _ zA3
 have q4:=qb q3 x34;have k4:=qa p4;have hvol:JY [vc] 1=some vc:=rfl;have hq:∀ W e W',qaS t1 ((10:Nat):Int) 2 [] 1 W e W'->e=.returned (.tuple #[VC vc,.int .i64 0]):=fun W e W' h=>by have:=h.knownC t1_pool;rw[hvol] at this;exact this
 have HU:=fun W (hx:Ext w4 W)=>qdu A1' _ c1' A2' _ c2' A3' _ c3' A4' _ eP 0 2 A5 c5 t1 1 t1_may 10 [y1] zA1 zA1 t1_node t1_span y1 t1_one t1_place rfl t6_make t6_node t6_leave W ((hS.ext x34).ext hx) ((hI.ext_ x34).ext_ hx) vc hq;have HD:=zH (qhw A1' _ c1' A2' _ c2' A3' _ c3' A4' _ eP 0 ((10:Nat):Int) 2 A5 c5 t1 (qu t6a t6t) ((8:Nat):Int) 1 w4 (hS.ext x34) (hI.ext_ x34) vc hq HU);clear hw4 q3 hS hI HU hq hvol;go_wp2_with fail;refine HD.out.mono ?_;clear HD;rintro e w5 ⟨u,rfl,⟨v,rfl,hN⟩,hB⟩;have af:Ext w4 w5:=hB;have q5:=qb q4 af;have x5:Ext w w5:=(x3.trans x34).trans af;obtain⟨E1,m1,E2,m2,E3,m3,E4,m4,E5,m5,rfl,-⟩:=id hN;have kq:=qa q5;have fq:=qe q5;have zq:=(zG.1 q5).1;have z05:=(x3.trans x34).size;have zq4:=(zG.1 q4).1;replace hN:=zH hN;clear hB q4 p4 k4 x3 x34 af;go_wp2_with fail;refine gone_ret (b:=w.heap.size) rfl rfl rfl (qb (Kf q5 _ _ _ _ _ _ _ _) (zN _ _)) ⟨_,rfl,⟨_,rfl,Jg.keep hN.out z05 zA3 fun k h1 h2=>?_⟩,Below.alloc (jz x5 (zM _) _ _ _ _ _ _ _ _) (by have:=x5.size;simpa using this) _⟩;exact(zK _ _ _ (by simpa using h2)).trans (jM zO _ _ _ _ _ _ _ _)
theorem qcL {R:Ending->World->Prop} {a:Act} {W:World} {v:Value} (h0:a.tmps[0]?.getD undef=v) (hd:a.defers=[]) (hR:R (.returned v) W):bodyPost prog Tryz.f33 R .ret a W:=by refine bodyPost_ret (v:=v) ?_ hd hR;simp[results,results33,go_sem,h0]
set_option maxRecDepth 100000 in
theorem qcK (w:World):Calls prog 33 #[] w (Ret (.bool true) w):=by
 go_enter func33,ntmps33;go_wp2_with fail;refine(gone_any w).mono ?_;rintro e w1 ⟨u,rfl,⟨v,rfl,hN⟩,hB⟩;have x1:Ext w w1:=hB;obtain⟨A1,c1,A2,c2,A3,c3,A4,c4,A5,c5,rfl,hS,hI⟩:=hN.sto;have HL:=zH (fun W (hx:Ext w1 W)=>qhh A1 _ c1 A2 _ c2 A3 _ c3 A4 _ c4 0 8 2 A5 c5 t6 [9] W (hS.ext hx) (hI.ext_ hx) (fun _ _ _ h=>h.knownC qgE) (.inr ⟨9,[],rfl,t6_ask,t6_leaf⟩));have HR:=zH (fun W (hx:Ext w1 W)=>qeb A1 _ c1 A2 _ c2 A3 _ c3 A4 _ c4 0 8 2 A5 c5 t6 [9] W (hS.ext hx) (hI.ext_ hx));clear hS hI hN hB;go_wp2_with fail;generalize dA:World.alloc w1 _=w2;have x12:Ext w1 w2:=by rw[<-dA];exact zN _ _
 have p2:w2.heap[w1.heap.size]?=some (.cells (qB (.slice A1 t6.bs.length c1) (.slice A2 t6.ws.length c2) (.slice A3 t6.now.length c3) (.slice A4 t6.last.length c4) 0 8 2 (.slice A5 1 c5)) 32 (0,0)):=by rw[<-dA];exact zI _ _ _ zA3
 have k2:=qa p2;clear dA;go_wp2_with fail;refine(HL.out w2 x12).mono ?_;clear HL;rintro e w3 ⟨rfl,hB⟩;have x13:Ext w1 w3:=x12.trans hB;have p3:=qb p2 hB;have k3:=qa p3;clear hB p2 k2 x12;go_wp2_with fail;refine(HR.out w3 x13).mono ?_;clear HR;intro e w4 hq;obtain⟨hB,u,rfl,hN⟩:=Xr.one (a:=9) hq qgE t7_reap;have x14:Ext w1 w4:=x13.trans hB;have p4:=qb p3 hB;have k4:=qa p4;have z4:=(zG.1 p4).1;obtain⟨B1,d1,B2,d2,B3,d3,B4,d4,B5,d5,rfl,-⟩:=hN;clear hB hq p3 k3 x13;go_wp2_with fail;exact qcL rfl rfl ⟨rfl,(x1.trans x14).trans (zN _ _)⟩
theorem TE (lvl:Int) (gone:Bool) (D:List Int) (e:Int):∀ xs:List It,VX lvl gone xs (D,.error e)=(D,.error e)
 | []=>rfl
 |x :: xs=>by unfold VX;rw[List.foldl_cons,qhx];exact TE lvl gone D e xs
structure Fall (S T:Sto):Prop where
 bs:T.bs=S.bs
 ws:T.ws=S.ws
 last:T.last=S.last
 len:T.now.length=S.now.length
 le:∀ b,qT T.now b<=qT S.now b
theorem Fall.refl (S:Sto):Fall S S:=⟨rfl,rfl,rfl,rfl,fun _=>zM _⟩
theorem Fall.trans {S T U:Sto} (h:Fall S T) (k:Fall T U):Fall S U:=⟨k.bs.trans h.bs,k.ws.trans h.ws,k.last.trans h.last,k.len.trans h.len,fun b=>Nat.le_trans (k.le b) (h.le b)⟩
theorem Uk {S T:Sto} {a:Int} (h:ja S a=.ok T):Fall S T:=by
 unfold ja at h;split at h
 ·cases h;exact⟨rfl,rfl,rfl,qdo _ _,fun b=>qbN _ _ _⟩
 ·cases h
theorem Kd (lvl:Int) (gone:Bool):∀ (xs:List It) (D0:List Int) (T0:Sto) (D:List Int) (T:Sto),VX lvl gone xs (D0,.ok T0)=(D,.ok T)->(∃ l,D=D0++l)/\Fall T0 T
 | [],D0,T0,D,T,h=>by cases h;exact⟨⟨[],zA3⟩,Fall.refl _⟩
 |x :: xs,D0,T0,D,T,h=>by
  unfold VX at h;rw[List.foldl_cons] at h;by_cases hs:gone=false\/x.r=0
  ·rw[GN _ _ _ hs] at h;exact Kd lvl gone xs D0 T0 D T h
  ·by_cases hl:0<lvl
   ·rw[GM _ _ hs hl] at h;obtain⟨⟨l,e⟩,hf⟩:=Kd lvl gone xs _ T0 D T h;exact⟨⟨x.r :: l,by rw[e];simp⟩,hf⟩
   ·rw[GL _ _ hs hl] at h;rcases hq:ja T0 x.r with e|T1
    ·rw[hq] at h;have:=TE lvl gone D0 e xs;unfold VX at this;rw[this] at h;cases h
    ·rw[hq] at h;obtain⟨wY,hf⟩:=Kd lvl gone xs D0 T1 D T h;exact⟨wY,(Uk hq).trans hf⟩
theorem qhy {S:Sto} {ini:List Int} {a:Nat} {er:Int} (h:Kn S ini a=.error er):er=8\/er=9:=by
 unfold Kn at h;split at h
 ·cases h;exact .inl rfl
 ·split at h
  ·cases h;exact .inl rfl
  ·split at h
   ·cases h;exact .inr rfl
   ·cases h
theorem reapE_ok {S T:Sto} {ini D:List Int} {a:Nat} (hl:S.now.length=256) (ha:a<256) (h0:qT S.now a≠0) (h:Kn S ini a=.ok (D,T)):D.length<=40/\(∃ l,D=ini++l)/\Fall S T/\qT T.now a<qT S.now a:=by
 unfold Kn at h;split at h
 ·cases h
 ·split at h
  ·cases h
  ·rename_i lvl xs hn D' T' hr;split at h
   ·cases h
   ·rename_i h40;cases h;rcases hq:ja S (a:Int) with e|T1
    ·rw[hq,TE] at hr;cases hr
    ·rw[hq] at hr;obtain⟨h1,h2⟩:=Kd _ _ _ _ _ _ _ hr;refine⟨zO,h1,(Uk hq).trans h2,Nat.lt_of_le_of_lt (h2.le a) ?_⟩;unfold ja at hq;split at hq
     ·cases hq;show qT (ZL S.now ((a:Int)).toNat) a<_;rw[Int.toNat_natCast];unfold ZL;rw[Vs zO];have:=UI S.now a;rw[UInt8.toNat_ofNat'];omega
     ·cases hq
set_option maxRecDepth 100000 in
theorem eqb_any (A1:Option Addr) (c1:Nat) (B1:Option Addr) (d1:Nat) (bs:List (List UInt8)) (cO:bs.length<1000000) (w:World) (hb:Bls w w.heap.size (.slice A1 bs.length c1) bs) (lu:Bls w w.heap.size (.slice B1 bs.length d1) bs):Calls prog 79 #[.slice A1 bs.length c1,.slice B1 bs.length d1,.func (.func 80) #[] #[]] w (Ret (.bool true) w):=by
 obtain⟨-,-,-,hA1⟩:=hb.at_;obtain⟨-,-,-,uI⟩:=lu.at_;replace hb:=zH hb;replace lu:=zH lu;go_enter func79,ntmps79;go_wp2_with fail;go_loopw [6,17] (fun v i wr=>∃ k:Nat,k<=bs.length/\v=.bool false/\i=.int .i64 (k:Int)/\Ext w wr) (fun _ i _=>bs.length-(intOf i).toNat)
 case atStart=>exact⟨0,zO,rfl,rfl,Ext.refl _⟩
 case round =>
  obtain⟨k,hk,rfl,rfl,hE⟩:=hrel;by_cases hlt:k<bs.length
  ·obtain⟨b1,o1,rfl,-⟩:=hA1 zO;obtain⟨b3,o3,rfl,-⟩:=uI zO;obtain⟨A',c',hc,aT⟩:=((hb.out.below hE).more hE.size).get k hlt;obtain⟨B',d',hd,pU⟩:=((lu.out.below hE).more hE.size).get k hlt;have HQ:=zH (YY _ _ _ _ wr aT pU);rw[decide_eq_true rfl] at HQ;replace hE:=zH hE;clear aT pU hA1 uI;go_wp2_with fail;refine HQ.out.mono ?_;rintro e w2 ⟨rfl,hB⟩;have fQ:=zH (Ext.trans hE.out hB);clear hB HQ hc hd;go_wp2_with fail;go_roundw
   case rel=>exact⟨k+1,zO,rfl,by go_num,fQ.out⟩
   case measure=>simp[intOf];omega
  ·obtain rfl:k=bs.length:=zO;clear hA1 uI;go_wp2_with fail;go_ret;exact⟨rfl,hE⟩
set_option maxRecDepth 100000 in
theorem qhI (A B:Option Addr) (n m c d:Nat) (x:Int) (l:List UInt8) (w:World) (h:Bys w w.heap.size (.slice A n c) l) (h':Bys w w.heap.size (.slice B m d) l):Calls prog 82 #[.agg #[.int .i64 x,.slice A n c],.agg #[.int .i64 x,.slice B m d]] w (Ret (.bool true) w):=by
 have HQ:=zH (fun W (hx:Ext w W)=>YY _ _ _ _ W ((h.below hx).more hx.size) ((h'.below hx).more hx.size));rw[decide_eq_true rfl] at HQ;clear h h';go_enter func82,ntmps82;go_wp2_with fail;generalize aA:World.alloc (World.alloc w _) _=w1;have x1:Ext w w1:=by rw[<-aA];exact(zN _ _).trans (zN _ _)
 have ra:w1.heap[w.heap.size]?=some (.cells #[.int .i64 x,.slice A n c] 130 (0,0)):=by rw[<-aA];exact(zK _ _ _ zA3).trans (zI _ _ _ rfl)
 have rb:w1.heap[w.heap.size+1]?=some (.cells #[.int .i64 x,.slice B m d] 130 (0,0)):=by rw[<-aA];exact zI _ _ _ zA3
 have ka:=qa ra;have kb:=qa rb;clear aA;go_wp2_with fail;refine(HQ.out w1 x1).mono ?_;rintro e w2 ⟨rfl,hB⟩;have x2:=zH (x1.trans hB);clear hB HQ ka kb ra rb x1;go_wp2_with fail;go_ret;exact⟨rfl,x2.out⟩
set_option maxRecDepth 100000 in
theorem eqw_any (A1:Option Addr) (c1:Nat) (B1:Option Addr) (d1:Nat) (ws:List (Int×List UInt8)) (cO:ws.length<1000000) (w:World) (hb:Wrs w w.heap.size (.slice A1 ws.length c1) ws) (lu:Wrs w w.heap.size (.slice B1 ws.length d1) ws):Calls prog 81 #[.slice A1 ws.length c1,.slice B1 ws.length d1,.func (.func 82) #[] #[]] w (Ret (.bool true) w):=by
 obtain⟨-,-,-,hA1⟩:=hb.at_;obtain⟨-,-,-,uI⟩:=lu.at_;replace hb:=zH hb;replace lu:=zH lu;go_enter func81,ntmps81;go_wp2_with fail;go_loopw [6,17] (fun v i wr=>∃ k:Nat,k<=ws.length/\v=.bool false/\i=.int .i64 (k:Int)/\Ext w wr) (fun _ i _=>ws.length-(intOf i).toNat)
 case atStart=>exact⟨0,zO,rfl,rfl,Ext.refl _⟩
 case round =>
  obtain⟨k,hk,rfl,rfl,hE⟩:=hrel;by_cases hlt:k<ws.length
  ·obtain⟨b1,o1,rfl,z1⟩:=hA1 zO;obtain⟨b3,o3,rfl,z3⟩:=uI zO;obtain⟨A',c',hc,az,aT⟩:=((hb.out.below hE).more hE.size).get k hlt;obtain⟨B',d',hd,hd2,pU⟩:=((lu.out.below hE).more hE.size).get k hlt;have zr:=hE.size;have HQ:=zH (fun W (hx:Ext wr W)=>qhI A' B' _ _ c' d' ws[k].1 ws[k].2 W ((aT.below hx).more hx.size) ((pU.below hx).more hx.size));obtain⟨at_,dQ⟩:∃ at_,ws[k].1=at_:=⟨_,rfl⟩
   obtain⟨nl,yD⟩:∃ nl,ws[k].2.length=nl:=⟨_,rfl⟩
   rw[dQ] at hc hd HQ;rw[yD] at az hd2 HQ;have aV:b1<wr.heap.size:=zO;have hz3:b3<wr.heap.size:=zO;replace hE:=zH hE;clear aT pU hA1 uI dQ yD z1 z3;go_upto_region 7 with fail;generalize aA:World.alloc (World.alloc wr _) _=w1;have x1:Ext wr w1:=by rw[<-aA];exact(zN _ _).trans (zN _ _)
   have ra:w1.heap[wr.heap.size]?=some (.cells #[.int .i64 at_,.slice A' nl c'] 130 (0,0)):=by rw[<-aA];exact(zK _ _ _ zA3).trans (zI _ _ _ rfl)
   have rb:w1.heap[wr.heap.size+1]?=some (.cells #[.int .i64 at_,.slice B' nl d'] 130 (0,0)):=by rw[<-aA];exact zI _ _ _ zA3
   have ka:=qa ra;have kb:=qa rb;clear aA hc az hd hd2;go_wp2_with fail;refine(HQ.out w1 x1).mono ?_;rintro e w2 ⟨rfl,hB⟩;have fQ:=zH (Ext.trans hE.out (x1.trans hB));clear hB HQ ka kb ra rb x1;go_wp2_with fail;go_roundw
   case rel=>exact⟨k+1,zO,rfl,by go_num,fQ.out⟩
   case measure=>simp[intOf];omega
  ·obtain rfl:k=ws.length:=zO;clear hA1 uI;go_wp2_with fail;go_ret;exact⟨rfl,hE⟩
set_option maxRecDepth 100000 in
theorem qht (A1:Option Addr) (c1:Nat) (A2:Option Addr) (c2:Nat) (B1:Option Addr) (d1:Nat) (B2:Option Addr) (d2:Nat) (bs:List (List UInt8)) (ws:List (Int×List UInt8)) (cO:bs.length<1000000) (yM:ws.length<1000000) (w:World) (hb:Bls w w.heap.size (.slice A1 bs.length c1) bs) (hw:Wrs w w.heap.size (.slice A2 ws.length c2) ws) (lu:Bls w w.heap.size (.slice B1 bs.length d1) bs) (hw':Wrs w w.heap.size (.slice B2 ws.length d2) ws):Calls prog 40 #[VK A1 bs.length c1 A2 ws.length c2,VK B1 bs.length d1 B2 ws.length d2] w (Ret (.bool true) w):=by
 have HB:=zH (fun W (hx:Ext w W)=>eqb_any A1 c1 B1 d1 bs cO W ((hb.below hx).more hx.size) ((lu.below hx).more hx.size));have HW:=zH (fun W (hx:Ext w W)=>eqw_any A2 c2 B2 d2 ws yM W ((hw.below hx).more hx.size) ((hw'.below hx).more hx.size));clear hb hw lu hw' cO yM;go_enter func40,ntmps40;go_wp2_with fail;generalize aA:World.alloc (World.alloc w _) _=w1;have x1:Ext w w1:=by rw[<-aA];exact(zN _ _).trans (zN _ _)
 have ra:w1.heap[w.heap.size]?=some (.cells #[.slice A1 bs.length c1,.slice A2 ws.length c2] 25 (0,0)):=by rw[<-aA];exact(zK _ _ _ zA3).trans (zI _ _ _ rfl)
 have rb:w1.heap[w.heap.size+1]?=some (.cells #[.slice B1 bs.length d1,.slice B2 ws.length d2] 25 (0,0)):=by rw[<-aA];exact zI _ _ _ zA3
 have ka:=qa ra;have kb:=qa rb;clear aA;go_wp2_with fail;refine(HB.out w1 x1).mono ?_;rintro e w2 ⟨rfl,hB⟩;have x2:=x1.trans hB;have rO:=qb ra hB;have pF:=qb rb hB;have ka2:=qa rO;have kb2:=qa pF;clear hB HB ka kb ra rb x1;go_wp2_with fail;refine(HW.out w2 x2).mono ?_;rintro e w3 ⟨rfl,hB⟩;have x3:=zH (x2.trans hB);clear hB HW ka2 kb2 rO pF x2;go_wp2_with fail;go_ret;exact⟨rfl,x3.out⟩
end Go.Proofs.YtpbniokljofedaaGreat
