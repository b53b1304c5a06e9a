/- Lemmas of the proof. -/
import Derived.Test.YtmeadnlmepcmbaaGreatZJ20
set_option linter.all false
set_option maxHeartbeats 8000000
open Go.Proofs.Tryz
namespace Go.Proofs.YtmeadnlmepcmbaaGreat
open Go.RowKit
def GK (S:Sto) (a:Nat) (x:It):Except Int (Nat×Sto):=match qt S a with
 |none=>.error 8
 |some (lvl,xs)=>Tc S lvl.toNat xs a x
def Qj (S:Sto) (a:Int):Sto:=qw S (ZY S.now a.toNat 1)
def qaB (v:Vol) (r:Nat):Vol:=⟨v.id,(r:Int),v.fz,v.frm⟩
def YU (S:Sto) (root next:Int) (dead:List Int) (v:Vol) (P:Except Int (Nat×Sto)) (er:Int):Prop:=Qp S v.root=er\/(Qp S v.root=0/\(P=.error er\/∃ r2 S2,P=.ok (r2,S2) /\
 (Kk S2 root next dead (qaB v r2) er\/∃ r3 S3 vs3,vT S2 root next dead (qaB v r2) r3 S3 vs3/\(Zn S3 v.root=.error er\/∃ S4,Zn S3 v.root=.ok S4/\zh S4=er))))
def ChgQ (S:Sto) (gen root next:Int) (dead:List Int) (v:Vol) (P:Except Int (Nat×Sto)) (w:World) (e:Ending) (w':World):Prop:=Below w.heap.size w w' /\
 ((∃ er,er≠0/\e=.returned (.tuple #[jb,.int .i64 er])/\YU S root next dead v P er) \/
  ∃ r2 S2 r3 S3 vs3 S4 u,Qp S v.root=0/\P=.ok (r2,S2)/\vT S2 root next dead (qaB v r2) r3 S3 vs3/\Zn S3 v.root=.ok S4/\zh S4=0 /\
   e=.returned (.tuple #[u,.int .i64 0])/\jV w.heap.size S4 gen (r3:Int) next dead u w')
theorem qjh {R:Ending->World->Prop} {tmps:Array Value} {W:World} {b:Nat} {x0 x1 x2 x3 x4 x5 x6 x7 z:Value} (h4:tmps[8]?.getD undef=.pointer (some ⟨b+1+1+1,0,none⟩)) (h5:tmps[9]?.getD undef=.pointer (some ⟨b+1+1+1+1,0,none⟩)) (r4:W.heap[b+3]?=some (.cells #[x0,x1,x2,x3,x4,x5,x6,x7] 32 (0,0))) (r6:W.heap[b+4]?=some (.cells #[z] 37 (0,0))) (hR:R (.returned (.tuple #[.agg #[x0,x1,x2,x3,x4,x5,x6,x7],z])) W):Leaves prog Tryz.f84 tmps R [] .returning W:=by
 have k4:=qa r4;have k6:=qa r6;refine⟨.tuple #[.agg #[x0,x1,x2,x3,x4,x5,x6,x7],z],?_,hR⟩;simp[results,results84,go_sem,h4,h5,k4,k6]
theorem qfJ {R:Ending->World->Prop} {tmps:Array Value} {W:World} {b:Nat} (A1 n1 c1 A2 n2 c2 A3 n3 c3 A4 n4 c4) (gen root next:Int) (v5:Value) (e:Int) (S:Sto) (h4:tmps[8]?.getD undef=.pointer (some ⟨b+1+1+1,0,none⟩)) (h5:tmps[9]?.getD undef=.pointer (some ⟨b+1+1+1+1,0,none⟩)) (r4:W.heap[b+3]?=some (.cells (qF (.slice A1 n1 c1) (.slice A2 n2 c2) (.slice A3 n3 c3) (.slice A4 n4 c4) gen root next v5) 32 (0,0))) (r6:W.heap[b+4]?=some (.cells #[.int .i64 e] 37 (0,0))) (h:e=0->qV W W.heap.size (.slice A1 n1 c1) (.slice A2 n2 c2) (.slice A3 n3 c3) (.slice A4 n4 c4) S) (hR1:e=0->zh S=0->∀ W',Two (b+3) (b+4) W W'->R (.returned (.tuple #[.agg (qF (.slice A1 n1 c1) (.slice A2 n2 c2) (.slice A3 n3 c3) (.slice A4 n4 c4) gen root next v5),.int .i64 0])) W') (hR2:∀ e' W',e'≠0->((e=0/\e'=zh S)\/(e≠0/\e'=e))->Two (b+3) (b+4) W W'->R (.returned (.tuple #[jb,.int .i64 e'])) W'):bodyPostD prog Tryz.f84 R .ret { tmps:=tmps,defers:=[{ target:=.fn (.func 89) #[],args:=#[.pointer (some ⟨b+1+1+1,0,none⟩),.pointer (some ⟨b+1+1+1+1,0,none⟩)] }] } W:=by
 refine leaves_cons (f:=89) (args:=#[.pointer (some ⟨b+1+1+1,0,none⟩),.pointer (some ⟨b+1+1+1+1,0,none⟩)]) zA2 (by simp[go_sem]) ?_;refine(qiB (b+3) (b+4) zO A1 n1 c1 A2 n2 c2 A3 n3 c3 A4 n4 c4 gen root next v5 e S .returning W r4 r6 h).mono ?_;rintro x u' w' ⟨rfl,rfl,hT,⟨h0,hE,g4,g6⟩|⟨e',h0,hE,g4,g6⟩⟩
 ·exact qjh h4 h5 g4 g6 (hR1 h0 hE w' hT)
 ·exact qjh h4 h5 g4 g6 (hR2 e' w' h0 hE hT)
theorem qaW {tmps:Array Value} {w W:World} {S:Sto} {gen root next:Int} {dead:List Int} {v:Vol} {P:Except Int (Nat×Sto)} {er:Int} {E1 E2 E3 E4:OA} {m1 e1 m2 e2 m3 e3 m4 e4:Nat} {g9 t9 n9:Int} {v5:Value} (aG:er≠0) (hc:YU S root next dead v P er) (h4:tmps[8]?.getD undef=.pointer (some ⟨w.heap.size+1+1+1,0,none⟩)) (h5:tmps[9]?.getD undef=.pointer (some ⟨w.heap.size+1+1+1+1,0,none⟩)) (r4:W.heap[w.heap.size+3]?=some (.cells (qF (.slice E1 m1 e1) (.slice E2 m2 e2) (.slice E3 m3 e3) (.slice E4 m4 e4) g9 t9 n9 v5) 32 (0,0))) (r6:W.heap[w.heap.size+4]?=some (.cells #[.int .i64 er] 37 (0,0))) (hB:Ext w W):bodyPostD prog Tryz.f84 (ChgQ S gen root next dead v P w) .ret { tmps:=tmps,defers:=[{ target:=.fn (.func 89) #[],args:=#[.pointer (some ⟨w.heap.size+1+1+1,0,none⟩),.pointer (some ⟨w.heap.size+1+1+1+1,0,none⟩)] }] } W:=by
 refine qfJ E1 m1 e1 E2 m2 e2 E3 m3 e3 E4 m4 e4 g9 t9 n9 v5 er S h4 h5 r4 r6 (fun h=>absurd h aG) (fun h=>absurd h aG) (fun e' W' h0 hE hT=>?_);obtain rfl:e'=er:=by
  rcases hE with ⟨h,_⟩|⟨_,h⟩
  ·exact absurd h aG
  ·exact h
 have z:=(zG.1 r4).1;exact⟨hT.below hB zO zO zO,.inl ⟨e',aG,rfl,hc⟩⟩
section
variable {W C:World} {b:Nat} {u0 u1 u2 u3 u4 u5 u6 u7 x0 x1 x2 x3 x4 x5 x6 x7 y0 y1 y2 y3 z ev q0:Value} {tyP tyV ty2 ty3:TypeId} {cs ds:Array Value}
theorem st5 (rp:W.heap[b]?=some (.cells #[u0,u1,u2,u3,u4,u5,u6,u7] tyP (0,0))) (re:W.heap[b+4]?=some (.cells #[q0] ty3 (0,0))) (hC:((((W.setCell ⟨b,0,none⟩ x0).setCell ⟨b,1,none⟩ x1).setCell ⟨b,2,none⟩ x2).setCell ⟨b,3,none⟩ x3).setCell ⟨b+1+1+1+1,0,none⟩ ev=C):C.heap[b]?=some (.cells #[x0,x1,x2,x3,u4,u5,u6,u7] tyP (0,0))/\C.heap[b+4]?=some (.cells #[ev] ty3 (0,0))/\C.heap.size=W.heap.size/\(∀ {w0:World},w0.heap.size<=b->Ext w0 W->Ext w0 C)/\∀ k,k≠b->k≠b+4->C.heap[k]?=W.heap[k]?:=by
 subst hC;have hs:=fun (A:World) (b j:Nat) (v:Value) (k:Nat) (hk:k≠b)=>zJ A ⟨b,j,none⟩ v k hk;have r1:=qi (qi (qi (qi rp 0 x0) 1 x1) 2 x2) 3 x3;have o1:∀ k,k≠b->((((W.setCell ⟨b,0,none⟩ x0).setCell ⟨b,1,none⟩ x1).setCell ⟨b,2,none⟩ x2).setCell ⟨b,3,none⟩ x3).heap[k]?=W.heap[k]?:=fun k hk=>by rw[hs _ _ _ _ _ hk,hs _ _ _ _ _ hk,hs _ _ _ _ _ hk,hs _ _ _ _ _ hk]
 refine⟨?_,qi (t:=ty3) (cs:=#[q0]) ((o1 _ zO).trans re) 0 ev,zA2,fun hb hx=>?_,fun k h1 h2=>by rw[hs _ _ _ _ _ zO,o1 k h1]⟩
 ·rw[hs _ _ _ _ _ zO];exact r1
 ·exact Below.setCell (Zl hx (b:=b) hb _ _ _ _) (p:=⟨b+1+1+1+1,0,none⟩) zA1 _
theorem st6 (rp:W.heap[b]?=some (.cells #[u0,u1,u2,u3,u4,u5,u6,u7] tyP (0,0))) (rv:W.heap[b+1]?=some (.cells #[y0,y1,y2,y3] tyV (0,0))) (re:W.heap[b+4]?=some (.cells #[q0] ty3 (0,0))) (hC:(((((W.setCell ⟨b,0,none⟩ x0).setCell ⟨b,1,none⟩ x1).setCell ⟨b,2,none⟩ x2).setCell ⟨b,3,none⟩ x3).setCell ⟨b+1,1,none⟩ z).setCell ⟨b+1+1+1+1,0,none⟩ ev=C):C.heap[b]?=some (.cells #[x0,x1,x2,x3,u4,u5,u6,u7] tyP (0,0))/\C.heap[b+1]?=some (.cells #[y0,z,y2,y3] tyV (0,0))/\C.heap[b+4]?=some (.cells #[ev] ty3 (0,0))/\C.heap.size=W.heap.size/\(∀ {w0:World},w0.heap.size<=b->Ext w0 W->Ext w0 C)/\∀ k,k≠b->k≠b+1->k≠b+4->C.heap[k]?=W.heap[k]?:=by
 subst hC;have hs:=fun (A:World) (b j:Nat) (v:Value) (k:Nat) (hk:k≠b)=>zJ A ⟨b,j,none⟩ v k hk;have r1:=qi (qi (qi (qi rp 0 x0) 1 x1) 2 x2) 3 x3;have o1:∀ k,k≠b->((((W.setCell ⟨b,0,none⟩ x0).setCell ⟨b,1,none⟩ x1).setCell ⟨b,2,none⟩ x2).setCell ⟨b,3,none⟩ x3).heap[k]?=W.heap[k]?:=fun k hk=>by rw[hs _ _ _ _ _ hk,hs _ _ _ _ _ hk,hs _ _ _ _ _ hk,hs _ _ _ _ _ hk]
 refine⟨?_,?_,?_,zA2,fun hb hx=>?_,fun k h1 h2 h3=>by rw[hs _ _ _ _ _ zO,hs _ _ _ _ _ h2,o1 k h1]⟩
 ·rw[hs _ _ _ _ _ zO,hs _ _ _ _ _ zO];exact r1
 ·rw[hs _ _ _ _ _ zO];exact qi (t:=tyV) (cs:=#[y0,y1,y2,y3]) ((o1 _ zO).trans rv) 1 z
 ·exact qi (t:=ty3) (cs:=#[q0]) (by rw[hs _ _ _ _ _ zO];exact(o1 _ zO).trans re) 0 ev
 ·exact Below.setCell (Below.setCell (Zl hx (b:=b) hb _ _ _ _) (p:=⟨b+1,1,none⟩) zA1 _) (p:=⟨b+1+1+1+1,0,none⟩) zA1 _
theorem st9 {p:Nat} (hp4:p≠b+4) (hbp:b<=p) (rp:W.heap[p]?=some (.cells #[u0,u1,u2,u3,u4,u5,u6,u7] tyP (0,0))) (re:W.heap[b+4]?=some (.cells #[q0] ty3 (0,0))) (hC:((((((((W.setCell ⟨p,0,none⟩ x0).setCell ⟨p,1,none⟩ x1).setCell ⟨p,2,none⟩ x2).setCell ⟨p,3,none⟩ x3).setCell ⟨p,4,none⟩ x4).setCell ⟨p,5,none⟩ x5).setCell ⟨p,6,none⟩ x6).setCell ⟨p,7,none⟩ x7).setCell ⟨b+1+1+1+1,0,none⟩ ev=C):C.heap[p]?=some (.cells #[x0,x1,x2,x3,x4,x5,x6,x7] tyP (0,0))/\C.heap[b+4]?=some (.cells #[ev] ty3 (0,0))/\C.heap.size=W.heap.size/\(∀ {w0:World},w0.heap.size<=b->Ext w0 W->Ext w0 C)/\∀ k,k≠p->k≠b+4->C.heap[k]?=W.heap[k]?:=by
 subst hC;have hs:=fun (A:World) (b j:Nat) (v:Value) (k:Nat) (hk:k≠b)=>zJ A ⟨b,j,none⟩ v k hk;refine⟨?_,?_,zA2,fun hb hx=>?_,fun k h1 h2=>by rw[hs _ _ _ _ _ zO,jK h1]⟩
 ·rw[hs _ _ _ _ _ zO];exact ji rp _ _ _ _ _ _ _ _
 ·exact qi (t:=ty3) (cs:=#[q0]) (by rw[jK zO];exact re) 0 ev
 ·exact Below.setCell (QR hx (b:=p) zO _ _ _ _ _ _ _ _) (p:=⟨b+1+1+1+1,0,none⟩) zA1 _
end
theorem qbH {S S':Sto} {a:Int} (hS:ql S=true) (h:Zn S a=.ok S'):ql S'=true:=by
 unfold Zn at h;split at h
 ·rename_i h0;obtain⟨_,m,rfl,h8,h256,-⟩:=kR h0;rw[Int.toNat_natCast] at h;unfold vF at h;split at h
  ·cases h
  ·rename_i t ht;cases h;exact qG.2 ⟨(qG.1 hS).1,Yq h8 (qG.1 hS).2.1 ht,(qG.1 hS).2.2⟩
 ·cases h
set_option maxRecDepth 100000 in
theorem qhf (A1 n1 c1 A2 n2 c2 A3 n3 c3 A4 n4 c4) (gen root next:Int) (A5 c5) (S:Sto) (dead:List Int) (v:Vol) (xx:JZ v) (x:It) (lN:zu x) (Ax:OA) (cx:Nat) (yP:Qp S v.root=0->jj (Qj S v.root) v.root.toNat) (wC:Qp S v.root=0->∀ r2 S2,GK (Qj S v.root) v.root.toNat x=.ok (r2,S2)->okL S2 (-1) (r2:Int)=true) (w:World) (h:qV w w.heap.size (.slice A1 n1 c1) (.slice A2 n2 c2) (.slice A3 n3 c3) (.slice A4 n4 c4) S) (hd:Zv w w.heap.size (.slice A5 dead.length c5) dead) (pX:Bys w w.heap.size (.slice Ax x.val.length cx) x.val):Calls prog 84 #[.agg (qF (.slice A1 n1 c1) (.slice A2 n2 c2) (.slice A3 n3 c3) (.slice A4 n4 c4) gen root next (.slice A5 dead.length c5)),jz v,.func (.func 65) #[] #[],itV x Ax cx] w (ChgQ S gen root next dead v (GK (Qj S v.root) v.root.toNat x) w):=by
 have HS:=zH (fun W (hx:Ext w W)=>qcj A1 n1 c1 A2 n2 c2 A3 n3 c3 A4 n4 c4 S v.root W (h.ext hx));obtain⟨P,hP⟩:∃ P,GK (Qj S v.root) v.root.toNat x=P:=⟨_,rfl⟩
 rw[hP] at wC ⊢;replace hP:=zH hP;replace h:=zH h;replace hd:=zH hd;replace pX:=zH pX;replace yP:=zH yP;replace wC:=zH wC;replace lN:=zH lN;replace xx:=zH xx;go_enter_defers func84,ntmps84;go_wp2_with fail;generalize aA:World.alloc _ _=w1;have x1:Ext w w1:=aA▸((((zN _ _).trans (zN _ _)).trans (zN _ _)).trans (zN _ _)).trans (zN _ _)
 have rp1:w1.heap[w.heap.size]?=some (.cells (qF (.slice A1 n1 c1) (.slice A2 n2 c2) (.slice A3 n3 c3) (.slice A4 n4 c4) gen root next (.slice A5 dead.length c5)) 32 (0,0)):=aA▸(zK _ _ _ zA3).trans ((zK _ _ _ zA3).trans ((zK _ _ _ zA3).trans ((zK _ _ _ zA3).trans (zI _ _ _ rfl))))
 have rv1:w1.heap[w.heap.size+1]?=some (.cells #[.int .u32 v.id,.int .i64 v.root,.bool v.fz,.int .u32 v.frm] 36 (0,0)):=aA▸(zK _ _ _ zA3).trans ((zK _ _ _ zA3).trans ((zK _ _ _ zA3).trans (zI _ _ _ zA2)))
 have rx1:w1.heap[w.heap.size+2]?=some (.cells #[.int .u8 x.k,.int .u32 x.i,.int .u32 x.o,.int .i64 x.r,.slice Ax x.val.length cx] 51 (0,0)):=aA▸(zK _ _ _ zA3).trans ((zK _ _ _ zA3).trans (zI _ _ _ zA2))
 have ro1:w1.heap[w.heap.size+3]?=some (.cells kK 32 (0,0)):=aA▸(zK _ _ _ zA3).trans (zI _ _ _ zA2)
 have re1:w1.heap[w.heap.size+4]?=some (.cells #[.int .i64 0] 37 (0,0)):=aA▸zI _ _ _ zA2
 have s1:w1.heap.size=w.heap.size+5:=by rw[<-aA];simp
 clear aA;refine(HS.out w1 x1).mono ?_;clear HS;rintro e w2 ⟨u,rfl,hQ,hB⟩;have x2:Ext w w2:=x1.trans hB;have rp2:=qb rp1 hB;have rv2:=qb rv1 hB;have rx2:=qb rx1 hB;have ro2:=qb ro1 hB;have re2:=qb re1 hB;have z12:=hB.size;have kp2:=qa rp2;have kv2:=qa rv2;have kx2:=qa rx2;have ko2:=qa ro2;have ke2:=qa re2;have fp2:=qe rp2;have fv2:=qe rv2;have fo2:=qe ro2;have fe2:=qe re2;clear hB rp1 rv1 rx1 ro1 re1 x1;rcases hQ with ⟨aG,rfl⟩|⟨h0,vv,rfl,hT⟩
 ·obtain⟨er,lT⟩:∃ er,Qp S v.root=er:=⟨_,rfl⟩
  rw[lT] at aG ⊢;have iG:(er != 0)=true:=by rw[bne_iff_ne];exact aG
  replace aG:=zH aG;replace lT:=zH lT;go_wp2_with fail;obtain⟨rp3,re3,z3,xe3,o3⟩:=st5 (b:=w.heap.size) (x0:=.slice none 0 0) (x1:=.slice none 0 0) (x2:=.slice none 0 0) (x3:=.slice none 0 0) (ev:=.int .i64 er) rp2 re2 rfl;obtain⟨ro4,re4,z4,xe4,o4⟩:=st9 (b:=w.heap.size) (p:=w.heap.size+3) zO zO ((o3 _ zO zO).trans ro2) re3 rfl;exact qaW aG.out (.inl lT.out) rfl rfl ro4 re4 (xe4 (zM _) (xe3 (zM _) x2))
 ·obtain⟨a,lvl,xs,hra,ha8,hLV,hn,aN⟩:∃ (a lvl:Nat) (xs:List It),v.root=(a:Int)/\8<=a/\a<256/\qt (Qj S v.root) a=some ((lvl:Int),xs)/\(qD (Qj S v.root) lvl xs).isSome=true:=by obtain⟨h8,h256,lvl,xs,h1,h2⟩:=yP.out h0;exact⟨v.root.toNat,lvl,xs,zO,h8,h256,h1,h2⟩
  have lu:ql (Qj S v.root)=true:=by
   obtain⟨hS,m,hm,h8,h256,-⟩:=kR (show JH S v.root=0 by
    unfold Qp at h0;split at h0
    ·rename_i hh;exact absurd h0 hh
    ·rename_i hh;exact Classical.not_not.1 hh)
   exact qG.2 ⟨(qG.1 hS).1,(show Qt (ZY S.now v.root.toNat 1)=true by rw[hm,Int.toNat_natCast];exact ZJ (qG.1 hS).2.1 h8 _),(qG.1 hS).2.2⟩
  change QM w1.heap.size (Qj S v.root) vv w2 at hT;obtain⟨S1,nG⟩:∃ S1,Qj S v.root=S1:=⟨_,rfl⟩
  have hP1:=hP.out;rw[nG] at hT hn aN lu hP1;replace nG:=zH nG;have hPe:P=Tc S1 lvl xs a x:=by rw[<-hP1];unfold GK;rw[hra,Int.toNat_natCast,hn];rfl
  obtain⟨BB,WW,gg,B3,d3,B4,d4,rfl,-⟩:=id hT;have mX:=zH (JT (hT.newSto (QV lu)));have HPx:=zH (fun W aH hb=>qjH (some ⟨BB,0,none⟩) S1.bs.length S1.bs.length (some ⟨WW,0,none⟩) S1.ws.length (S1.ws.length+1) B3 S1.now.length d3 B4 S1.last.length d4 S1 lu a lvl xs ha8 hLV hn aN x lN.out Ax cx W aH hb);rw[<-hPe] at HPx;have af:=zH (fun r S' (he:P=.ok (r,S'))=>qgL lu ha8 hn aN lN.out (hPe ▸ he));have uG:=zH (fun er (he:P=.error er)=>qgK (hPe ▸ he));have dP:=zH h0;have hraH:=zH hra;rw[<-hra] at HPx;clear hT h0 hn aN hPe lu hP1 hra;go_wp2_with fail;generalize aO:World.setCell (World.setCell (World.setCell (World.setCell (World.setCell w2 _ _) _ _) _ _) _ _) _ _=w3;obtain⟨rp3,re3,z3,xe3,o3⟩:=st5 (b:=w.heap.size) rp2 re2 aO;have x3:=xe3 (zM _) x2;have rv3:=(o3 (w.heap.size+1) zO zO).trans rv2;have ro3:=(o3 (w.heap.size+3) zO zO).trans ro2;have hBJ:=(mX.out w3 (Jh fun k h1 h2=>o3 k zO zO)).more (show w2.heap.size<=w3.heap.size by omega);have HP2:=HPx.out w3 hBJ ((pX.out.below x3).more x3.size);clear aO rp2 rv2 rx2 ro2 re2 kp2 kv2 kx2 ko2 ke2 fp2 fv2 fo2 fe2 xe3 hBJ mX HPx o3;refine HP2.mono ?_;clear HP2;rintro e w4 ⟨u,rfl,hM,hB⟩;have x4:Ext w w4:=x3.trans hB;have rp4:=qb rp3 hB;have rv4:=qb rv3 hB;have ro4:=qb ro3 hB;have re4:=qb re3 hB;have z34:=hB.size;have kp4:=qa rp4;have kv4:=qa rv4;have ko4:=qa ro4;have ke4:=qa re4;have fp4:=qe rp4;have fv4:=qe rv4;have fo4:=qe ro4;have fe4:=qe re4;replace q0:w.heap.size<w4.heap.size:=zO;replace q1:w.heap.size+1<w4.heap.size:=zO;replace q3:w.heap.size+1+1+1<w4.heap.size:=zO;replace q4:w.heap.size+1+1+1+1<w4.heap.size:=zO;clear hB rp3 rv3 ro3 re3;rcases hq:P with er|⟨r2,S2⟩
  ·rw[hq] at hM;obtain rfl:=hM;have aG:=uG.out er hq;have iG:(er != 0)=true:=by rw[bne_iff_ne];exact aG
   have xG:Hid (YU S root next dead v P er):=zH (.inr ⟨dP.out,.inl hq⟩);replace aG:=zH aG;replace hq:=zH hq;go_wp2_with fail;obtain⟨rp5,rv5,re5,z5,xe5,o5⟩:=st6 (b:=w.heap.size) (x0:=.slice none 0 0) (x1:=.slice none 0 0) (x2:=.slice none 0 0) (x3:=.slice none 0 0) (z:=.int .i64 0) (ev:=.int .i64 er) rp4 rv4 re4 rfl;obtain⟨ro6,re6,z6,xe6,o6⟩:=st9 (b:=w.heap.size) (p:=w.heap.size+3) zO zO ((o5 _ zO zO zO).trans ro4) re5 rfl;exact qaW aG.out xG.out rfl rfl ro6 re6 (xe6 (zM _) (xe5 (zM _) x4))
  ·rw[hq] at hM;obtain⟨vv,rfl,hT⟩:=hM;obtain⟨BB2,WW2,gg2,C3,g3,C4,g4,rfl,-⟩:=id hT;have mX:=zH (JT (hT.newSto (QV (af.out r2 S2 hq).1)));have cO:=zH (wC.out dP.out r2 S2 hq);have oJ:=(af.out r2 S2 hq).2;have lJ:=zH hq;clear hT hq;go_wp2_with fail;generalize aT:World.setCell (World.setCell (World.setCell (World.setCell (World.setCell (World.setCell w4 _ _) _ _) _ _) _ _) _ _) _ _=w5;obtain⟨rp5,rv5,re5,z5,xe5,o5⟩:=st6 (b:=w.heap.size) rp4 rv4 re4 aT;have x5:=xe5 (zM _) x4;have ro5:=(o5 (w.heap.size+3) zO zO zO).trans ro4;have tJ:=(mX.out w5 (Jh fun k h1 h2=>o5 k zO zO zO)).more (show w4.heap.size<=w5.heap.size by omega);have pV:JZ (qaB v r2):=⟨xx.out.1,by simp only[qaB];omega,xx.out.2.2⟩
   have HS:=qbB (some ⟨BB2,0,none⟩) S2.bs.length S2.bs.length (some ⟨WW2,0,none⟩) S2.ws.length (S2.ws.length+1) C3 S2.now.length g3 C4 S2.last.length g4 gen root next A5 c5 S2 dead (qaB v r2) pV (fun _ _ _=>cO.out) w5 tJ (hd.out.ext_ x5)
   clear aT rp4 rv4 ro4 re4 kp4 kv4 ko4 ke4 fp4 fv4 fo4 fe4 xe5 tJ mX cO pV o5;refine HS.mono ?_;clear HS;intro e w6 y8;obtain⟨bz,hS6⟩:=y8.split;have x6:Ext w w6:=x5.trans bz;have rp6:=qb rp5 bz;have ro6:=qb ro5 bz;have re6:=qb re5 bz;have z56:=bz.size;have kp6:=qa rp6;have ko6:=qa ro6;have ke6:=qa re6;have fp6:=qe rp6;have fo6:=qe ro6;have fe6:=qe re6;replace q0:w.heap.size<w6.heap.size:=zO;replace q3:w.heap.size+1+1+1<w6.heap.size:=zO;replace q4:w.heap.size+1+1+1+1<w6.heap.size:=zO;clear y8 bz rp5 rv5 ro5 re5 q1;rcases hS6 with ⟨er,aG,rfl,hE⟩|⟨r3,S3,vs3,u,hO,rfl,hN⟩
   ·have iG:(er != 0)=true:=by rw[bne_iff_ne];exact aG
    have xG:Hid (YU S root next dead v P er):=zH (.inr ⟨dP.out,.inr ⟨r2,S2,lJ.out,.inl hE⟩⟩);replace aG:=zH aG;clear hE;go_wp2_with fail;obtain⟨rp7,re7,z7,xe7,o7⟩:=st9 (b:=w.heap.size) (p:=w.heap.size) (x0:=.slice none 0 0) (x1:=.slice none 0 0) (x2:=.slice none 0 0) (x3:=.slice none 0 0) (x4:=.int .u32 0) (x5:=.int .i64 0) (x6:=.int .u32 0) (x7:=.slice none 0 0) (ev:=.int .i64 er) zO zO rp6 re6 rfl;obtain⟨ro8,re8,z8,xe8,o8⟩:=st9 (b:=w.heap.size) (p:=w.heap.size+3) zO zO ((o7 _ zO zO).trans ro6) re7 rfl;exact qaW aG.out xG.out rfl rfl ro8 re8 (xe8 (zM _) (xe7 (zM _) x6))
   ·obtain⟨E1,e1,E2,e2,E3,e3,E4,e4,E5,e5,rfl,ah⟩:=id hN;go_wp2_with fail;generalize gp:World.setCell (World.setCell (World.setCell (World.setCell (World.setCell (World.setCell (World.setCell (World.setCell (World.setCell w6 _ _) _ _) _ _) _ _) _ _) _ _) _ _) _ _) _ _=w7;obtain⟨rp7,re7,z7,xe7,o7⟩:=st9 (b:=w.heap.size) (p:=w.heap.size) zO zO rp6 re6 gp;have x7:=xe7 (zM _) x6;have ro7:=(o7 (w.heap.size+3) zO zO).trans ro6;obtain⟨hst7,hin7⟩:=ah w7 (Jh fun k h1 h2=>o7 k zO zO);have HLv:=qbu E1 _ e1 E2 _ e2 E3 _ e3 E4 _ e4 S3 v.root w7 (hst7.more zO);have hclH:=zH ah;have o7H:=zH o7;clear gp rp6 ro6 re6 kp6 ko6 ke6 fp6 fo6 fe6 xe7 o7 hst7 hin7 ah;replace hN:=zH hN;replace hO:=zH hO;refine HLv.mono ?_;clear HLv;rintro e w8 ⟨u,rfl,hL,hB⟩;have x78:Ext w7 w8:=hB;have x8:Ext w w8:=x7.trans hB;have rp8:=qb rp7 hB;have ro8:=qb ro7 hB;have re8:=qb re7 hB;have z78:=hB.size;have kp8:=qa rp8;have ko8:=qa ro8;have ke8:=qa re8;have fp8:=qe rp8;have fo8:=qe ro8;have fe8:=qe re8;replace q0:w.heap.size<w8.heap.size:=zO;replace q3:w.heap.size+1+1+1<w8.heap.size:=zO;replace q4:w.heap.size+1+1+1+1<w8.heap.size:=zO;clear hB rp7 ro7 re7;rcases hl:Zn S3 v.root with er|S4
    ·rw[hl] at hL;obtain rfl:=hL;have aG:er≠0:=by
      unfold Zn at hl;split at hl
      ·unfold vF at hl;split at hl
       ·cases hl;decide
       ·cases hl
      ·rename_i hh;cases hl;exact hh
     have xG:Hid (YU S root next dead v P er):=zH (.inr ⟨dP.out,.inr ⟨r2,S2,lJ.out,.inr ⟨r3,S3,vs3,hO.out,.inl hl⟩⟩⟩);replace aG:=zH aG;replace hl:=zH hl;go_wp2_with fail;obtain⟨rp9,re9,z9,xe9,o9⟩:=st5 (b:=w.heap.size) (x0:=.slice none 0 0) (x1:=.slice none 0 0) (x2:=.slice none 0 0) (x3:=.slice none 0 0) (ev:=.int .i64 er) rp8 re8 rfl;obtain⟨roA,reA,zA,xeA,oA⟩:=st9 (b:=w.heap.size) (p:=w.heap.size+3) zO zO ((o9 _ zO zO).trans ro8) re9 rfl;exact qaW aG.out xG.out rfl rfl roA reA (xeA (zM _) (xe9 (zM _) x8))
    ·rw[hl] at hL;obtain⟨vv,rfl,hT⟩:=hL;obtain⟨BB4,WW4,gg4,G3,h3,G4,h4,rfl,-⟩:=id hT;have wI:ql S4=true:=by obtain⟨_,_,_,_,_,_,_,_,refs9,nodes9,hp9,_⟩:=hO.out;exact qbH hp9.may hl
     have hEH:=zH (JT (hT.newSto (QV wI)));replace hl:=zH hl;clear hT wI;go_wp2_with fail;obtain⟨rp9,re9,z9,xe9,o9⟩:=st5 (b:=w.heap.size) (x0:=.slice (some ⟨BB4,0,none⟩) S4.bs.length S4.bs.length) (x1:=.slice (some ⟨WW4,0,none⟩) S4.ws.length (S4.ws.length+1)) (x2:=.slice G3 S4.now.length h3) (x3:=.slice G4 S4.last.length h4) (ev:=.int .i64 0) rp8 re8 rfl;have roP:=(o9 (w.heap.size+3) zO zO).trans ro8;generalize yA:World.setCell (World.setCell (World.setCell (World.setCell (World.setCell w8 _ _) _ _) _ _) _ _) _ _=w9 at *;generalize aY:World.setCell (World.setCell (World.setCell (World.setCell (World.setCell (World.setCell (World.setCell (World.setCell (World.setCell w9 _ _) _ _) _ _) _ _) _ _) _ _) _ _) _ _) _ _=Wf;obtain⟨roA,reA,zA,xeA,oA⟩:=st9 (b:=w.heap.size) (p:=w.heap.size+3) zO zO roP re9 aY;have yf:=xeA (zM _) (xe9 (zM _) x8);clear aY yA;have hk8:∀ k,w7.heap.size<=k->k<w8.heap.size->Wf.heap[k]?=w8.heap[k]?:=fun k h1 h2=>(oA k zO zO).trans (o9 k zO zO);have hk6:∀ k,w5.heap.size<=k->k<w6.heap.size->Wf.heap[k]?=w6.heap[k]?:=fun k h1 h2=>(oA k zO zO).trans ((o9 k zO zO).trans ((Below.block x78 k zO).trans (o7H.out k zO zO)));have x5s:=x5.size;have yC:jV w5.heap.size S4 gen (r3:Int) next dead (.agg (qF (.slice (some ⟨BB4,0,none⟩) S4.bs.length S4.bs.length) (.slice (some ⟨WW4,0,none⟩) S4.ws.length (S4.ws.length+1)) (.slice G3 S4.now.length h3) (.slice G4 S4.last.length h4) gen (r3:Int) next (.slice E5 dead.length e5))) Wf:=
      ⟨_,_,_,_,_,_,_,_,_,_,rfl,fun C hC=>⟨(hEH.out C fun q v h1 h2 h3=>hC q v zO zO ((ZX (hk8 q.block h1 h2)).trans h3)).more zO,((hclH.out C fun q v h1 h2 h3=>hC q v zO zO ((ZX (hk6 q.block h1 h2)).trans h3)).2.more zO)⟩⟩
     refine qfJ _ _ _ _ _ _ _ _ _ _ _ _ gen (r3:Int) next (.slice E5 dead.length e5) 0 S4 rfl rfl roA reA (fun _=>?_) (fun _ hE W' hT=>?_) (fun e' W' h0 hE hT=>?_)
     ·obtain⟨F1,f1,F2,f2,F3,f3,F4,f4,F5,f5,ee,aH,hin⟩:=yC.sto;simp only[qF,Value.agg.injEq,Array.mk.injEq,List.cons.injEq,Value.slice.injEq,true_and,and_true] at ee;obtain⟨⟨rfl,rfl⟩,⟨rfl,rfl⟩,⟨rfl,rfl⟩,⟨rfl,rfl⟩,rfl,rfl⟩:=ee;exact aH
     ·exact⟨hT.below yf zO zO zO,.inr ⟨r2,S2,r3,S3,vs3,S4,_,dP.out,lJ.out,hO.out,hl.out,hE,rfl,yC.keep x5s hT.size fun k h1 h2=>hT.same k h2 zO zO⟩⟩
     ·refine⟨hT.below yf zO zO zO,.inl ⟨e',h0,rfl,.inr ⟨dP.out,.inr ⟨r2,S2,lJ.out,.inr ⟨r3,S3,vs3,hO.out,.inr ⟨S4,hl.out,?_⟩⟩⟩⟩⟩⟩;rcases hE with ⟨_,h⟩|⟨h,_⟩
      ·exact h.symm
      ·exact absurd rfl h
def openV:Option Vol->Value
 |none=>.tuple #[jz YS,.int .i64 6]
 |some v=>.tuple #[jz v,.int .i64 (if v.fz=true then 170 else 0)]
def OpenQ (S:Sto) (root next:Int) (dead:List Int) (id:Int) (w:World) (e:Ending) (w':World):Prop:=Below w.heap.size w w' /\
 ((e=.returned (.tuple #[jz YS,.int .i64 8])/\QK S root next dead) \/
  ∃ vs refs nodes,Qb S root next dead vs/\qR S (Qk root dead vs) refs nodes/\Qw S refs/\e=.returned (openV (Qs vs id)))
theorem qbV {R:Ending->World->Prop} {a:Act} {W:World} {b:Nat} {x0 x1 x2 x3 v:Value} (h4:a.tmps[4]?.getD undef=.pointer (some ⟨b,0,none⟩)) (h5:a.tmps[5]?.getD undef=v) (hd:a.defers=[]) (aF:W.heap[b]?=some (.cells #[x0,x1,x2,x3] 36 (0,0))) (hR:R (.returned (.tuple #[.agg #[x0,x1,x2,x3],v])) W):bodyPost prog Tryz.f82 R .ret a W:=by
 refine bodyPost_ret (v:=.tuple #[.agg #[x0,x1,x2,x3],v]) ?_ hd hR;have k:=qa aF;simp[results,results82,go_sem,h4,h5,k]
set_option maxRecDepth 100000 in
theorem qlj (A1 n1 c1 A2 n2 c2 A3 n3 c3 A4 n4 c4) (gen root next:Int) (A5 c5) (S:Sto) (dead:List Int) (id:Int) (w:World) (h:qV w w.heap.size (.slice A1 n1 c1) (.slice A2 n2 c2) (.slice A3 n3 c3) (.slice A4 n4 c4) S) (hd:Zv w w.heap.size (.slice A5 dead.length c5) dead):Calls prog 82 #[.agg (qF (.slice A1 n1 c1) (.slice A2 n2 c2) (.slice A3 n3 c3) (.slice A4 n4 c4) gen root next (.slice A5 dead.length c5)),.int .u32 id] w (OpenQ S root next dead id w):=by
 have HV:=zH (fun W (hx:Ext w W)=>VT A1 n1 c1 A2 n2 c2 A3 n3 c3 A4 n4 c4 gen root next A5 c5 S dead id W (h.ext hx) (hd.ext_ hx));clear h hd;go_enter func82,ntmps82;go_wp2_with fail;generalize aA:World.alloc (World.alloc w _) _=w1;have x1:Ext w w1:=aA▸(zN _ _).trans (zN _ _)
 have r1:w1.heap[w.heap.size+1]?=some (.cells #[.int .u32 0,.int .i64 0,.bool false,.int .u32 0] 36 (0,0)):=aA▸zI _ _ _ zA2
 clear aA;refine(HV.out w1 x1).mono ?_;clear HV;rintro e w2 ⟨hB,hQ⟩;have x2:Ext w w2:=x1.trans hB;have r2:=qb r1 hB;have k2:=qa r2;have f2:=qe r2;have z2:=(zG.1 r2).1;clear hB r1;obtain⟨u,er,rfl,hu⟩:∃ (u:Vol) (er:Int),e=.returned (.tuple #[jz u,.int .i64 er])/\((er=8/\u=YS/\QK S root next dead)\/∃ vs refs nodes,Qb S root next dead vs/\qR S (Qk root dead vs) refs nodes/\Qw S refs/\((er=6/\u=YS/\Qs vs id=none)\/(er=0/\Qs vs id=some u))):=by
  rcases hQ with ⟨rfl,hb⟩|⟨vs,refs,nodes,hp,hc,he,rfl⟩
  ·exact⟨YS,8,rfl,.inl ⟨rfl,rfl,hb⟩⟩
  ·rcases hv:Qs vs id with _|u
   ·exact⟨YS,6,rfl,.inr ⟨vs,refs,nodes,hp,hc,he,.inl ⟨rfl,rfl,hv⟩⟩⟩
   ·exact⟨u,0,rfl,.inr ⟨vs,refs,nodes,hp,hc,he,.inr ⟨rfl,hv⟩⟩⟩
 clear hQ;obtain⟨ui,ur,uf,um⟩:=u;unfold jz;by_cases h0:er=0
 ·subst h0;obtain⟨vs,refs,nodes,hp,hc,he,hv⟩:∃ vs refs nodes,Qb S root next dead vs/\qR S (Qk root dead vs) refs nodes/\Qw S refs/\Qs vs id=some ⟨ui,ur,uf,um⟩:=by
   rcases hu with ⟨h,_⟩|⟨vs,refs,nodes,hp,hc,he,⟨h,_⟩|⟨_,hv⟩⟩
   ·cases h
   ·cases h
   ·exact⟨vs,refs,nodes,hp,hc,he,hv⟩
  replace hp:=zH hp;replace hc:=zH hc;replace he:=zH he;replace hv:=zH hv;clear hu;cases uf
  ·go_wp2_with fail;exact qbV (b:=w.heap.size+1) rfl rfl rfl (qb (VC r2 _ _ _ _) (zN _ _)) ⟨Below.alloc (Zl x2 zO _ _ _ _) (by have:=x2.size;simpa using this) _,.inr ⟨vs,refs,nodes,hp.out,hc.out,he.out,by rw[hv.out];rfl⟩⟩
  ·go_wp2_with fail;exact qbV (b:=w.heap.size+1) rfl rfl rfl (qb (VC r2 _ _ _ _) (zN _ _)) ⟨Below.alloc (Zl x2 zO _ _ _ _) (by have:=x2.size;simpa using this) _,.inr ⟨vs,refs,nodes,hp.out,hc.out,he.out,by rw[hv.out];rfl⟩⟩
 ·have hb:(er == 0)=false:=by rw[beq_eq_false_iff_ne];exact h0
  have bU:decide (er=0)=false:=decide_eq_false h0;replace h0:=zH h0;replace hu:=zH hu;go_wp2_with fail;refine qbV (b:=w.heap.size+1) rfl rfl rfl (qb (VC r2 _ _ _ _) (zN _ _)) ⟨Below.alloc (Zl x2 zO _ _ _ _) (by have:=x2.size;simpa using this) _,?_⟩;rcases hu.out with ⟨rfl,he,hb⟩|⟨vs,refs,nodes,hp,hc,he,⟨rfl,hu,hv⟩|⟨h,_⟩⟩
  ·cases he;exact .inl ⟨rfl,hb⟩
  ·cases hu;exact .inr ⟨vs,refs,nodes,hp,hc,he,by rw[hv];rfl⟩
  ·exact absurd h h0.out
theorem vU.stack {ks rs:Nat->List Nat} {R:List Nat} {M:Nat->Bool} {refs:Nat->Nat} {s s':List Nat} (h:vU ks rs R M refs s) (hs:∀ x,x∈s↔x∈s'):vU ks rs R M refs s':=
 ⟨h.reach,fun a ha=>h.stk a ((hs a).2 ha),fun a ha=>(h.root a ha).imp id (hs a).1,fun a ha b hb=>(h.kids a ha b hb).imp id (hs b).1,h.sum⟩
def qaK (S:Sto):Nat->List Nat->List Nat->List Nat->Option (List Nat×List Nat)
 |_,[],met,refs=>some (met,refs)
 |0,_ :: _,_,_=>none
 |f+1,a :: s,met,refs=>if met.contains a then qaK S f s met refs else if a<256 then qaK S f (zF S a++s) (a :: met) (QQ S a++refs) else none
def qbN (met:List Nat):Nat->Bool:=fun a=>met.contains a
theorem qkE (a:Nat) (met:List Nat):qbN (a :: met)=vG (qbN met) a:=by
 funext b;unfold qbN vG;by_cases h:b=a
 ·subst h;simp
 ·rw[if_neg h];simp[h]
theorem qcw {S:Sto} {R:List Nat}:∀ (f:Nat) (s met refs:List Nat) {met' refs':List Nat},vU (zF S) (QQ S) R (qbN met) (fun b=>refs.count b) s->qaK S f s met refs=some (met',refs')->vU (zF S) (QQ S) R (qbN met') (fun b=>refs'.count b) []
 |0,[],met,refs,met',refs',h,e=>by simp only[qaK,Option.some.injEq,Prod.mk.injEq] at e;obtain⟨rfl,rfl⟩:=e;exact h
 |f+1,[],met,refs,met',refs',h,e=>by simp only[qaK,Option.some.injEq,Prod.mk.injEq] at e;obtain⟨rfl,rfl⟩:=e;exact h
 |0,_ :: _,met,refs,met',refs',h,e=>by cases e
 |f+1,a :: s,met,refs,met',refs',h,e=>by
  have h1:vU (zF S) (QQ S) R (qbN met) (fun b=>refs.count b) (s++[a]):=h.stack fun x=>by simp[or_comm]
  simp only[qaK] at e;split at e
  ·rename_i hm;exact qcw f s met refs (h1.again hm) e
  ·rename_i hm;split at e
   ·rename_i hl;have h2:=h1.new (refs':=fun b=>(QQ S a++refs).count b) (by unfold qbN;simpa using hm) hl (fun b=>by simp only[List.count_append];omega);rw[<-qkE] at h2;exact qcw f _ _ _ (h2.stack fun x=>by simp[or_comm]) e
   ·cases e
theorem vU.start (ks rs:Nat->List Nat) (R:List Nat):vU ks rs R (qbN []) (fun b=>R.count b) R:=by
 have h0:∀ b n,jS rs (qbN []) b n=0:=fun b n=>by
  induction n with
  |zero=>rfl
  |succ n ih=>unfold jS;rw[ih];rfl
 exact { reach:=fun a h=>(by cases h),stk:=fun a ha=>.base ha,root:=fun a ha=>.inr ha,kids:=fun a h=>(by cases h),sum:=fun b=>by rw[h0];rfl }
def TS (met:List Nat):Nat->Nat:=fun a=>if met.contains a then 1 else 0
theorem qir (met:List Nat):Jz (TS met)=qbN met:=by funext a;unfold Jz TS qbN;cases met.contains a <;> rfl
theorem qhD {S:Sto} {R met refs:List Nat} {f:Nat} (hR:R≠[]) (h:qaK S f R [] R=some (met,refs)):qR S R (fun b=>refs.count b) (TS met):=by
 have h1:=qcw f R [] R (vU.start _ _ R) h;refine⟨jU.walk.2 (by rw[qir];exact h1),fun a=>?_⟩;have h2:=qct (Jz (TS met)) 256;have h3:TS met a<=1:=by unfold TS;split <;> omega
 have h4:0<R.length:=List.length_pos_iff.2 hR;omega
def KP (S:Sto) (root next:Int) (dead:List Int):Option (List Vol×List Nat×List Nat):=
 if ql S && decide (dead.length<=40) && okL S (-1) root then match Vr S root next with
  |none=>none
  |some vs=>if (Za root dead vs).all (fun r=>okL S (-1) r) then match qaK S 2000 (Qk root dead vs) [] (Qk root dead vs) with
   |none=>none
   |some (met,refs)=>if qeq S (fun b=>refs.count b) then some (vs,met,refs) else none
   else none
 else none
theorem Vd {S:Sto} {root next:Int} {dead:List Int} {vs:List Vol} {met refs:List Nat} (h:KP S root next dead=some (vs,met,refs)):Qb S root next dead vs/\qR S (Qk root dead vs) (fun b=>refs.count b) (TS met)/\Qw S (fun b=>refs.count b):=by
 unfold KP at h;split at h
 ·rename_i h1;simp only[Bool.and_eq_true,decide_eq_true_eq] at h1;split at h
  ·cases h
  ·rename_i vs' hv;split at h
   ·rename_i h2;split at h
    ·cases h
    ·rename_i met' refs' hw;split at h
     ·rename_i h3;simp only[Option.some.injEq,Prod.mk.injEq] at h;obtain⟨rfl,rfl,rfl⟩:=h;exact⟨⟨h1.1.1,h1.1.2,h1.2,hv,fun r hr=>List.all_eq_true.1 h2 r hr⟩,qhD (by unfold Qk Za;simp) hw,(qfV _ _).1 h3⟩
     ·cases h
   ·cases h
 ·cases h
theorem Qb.unique {S:Sto} {root next:Int} {dead:List Int} {vs vs':List Vol} {refs nodes refs' nodes':Nat->Nat} (h:Qb S root next dead vs) (hc:qR S (Qk root dead vs) refs nodes) (h':Qb S root next dead vs') (rY:qR S (Qk root dead vs') refs' nodes'):vs'=vs/\refs'=refs/\Jz nodes'=Jz nodes:=by obtain rfl:=Qb.same h h';obtain⟨e1,e2⟩:=jU.same rY.mkd hc.mkd;exact⟨rfl,e2,e1⟩
def ChgOk (S:Sto) (root next:Int) (dead:List Int) (v:Vol) (P:Except Int (Nat×Sto)) (r3:Nat) (S4:Sto):Prop:=∃ r2 S2 S3 vs3,Qp S v.root=0/\P=.ok (r2,S2)/\vT S2 root next dead (qaB v r2) r3 S3 vs3/\Zn S3 v.root=.ok S4/\zh S4=0
theorem ChgQ.split {S:Sto} {gen root next:Int} {dead:List Int} {v:Vol} {P:Except Int (Nat×Sto)} {w w':World} {e:Ending} (h:ChgQ S gen root next dead v P w e w'):Below w.heap.size w w' /\ ((∃ er,er≠0/\e=.returned (.tuple #[jb,.int .i64 er])/\YU S root next dead v P er)\/∃ r3 S4 u,ChgOk S root next dead v P r3 S4/\e=.returned (.tuple #[u,.int .i64 0])/\jV w.heap.size S4 gen (r3:Int) next dead u w'):=by
 obtain⟨hB,h⟩:=h;refine⟨hB,h.imp id fun ⟨r2,S2,r3,S3,vs3,S4,u,h1,h2,h3,h4,h5,h6,h7⟩=>⟨r3,S4,u,⟨r2,S2,S3,vs3,h1,h2,h3,h4,h5⟩,h6,h7⟩⟩
theorem Uo {S:Sto} {a:Int} (h:Qp S a=0):ql S=true/\SM S (Qj S a)/\ql (Qj S a)=true:=by
 have h0:JH S a=0:=by
  unfold Qp at h;split at h
  ·rename_i hh;exact absurd h hh
  ·rename_i hh;exact Classical.not_not.1 hh
 obtain⟨hS,m,hm,h8,h256,-⟩:=kR h0;have h255:Zo S m≠255:=fun e=>by unfold Qp at h;rw[if_neg (by rw[h0];simp),hm,Int.toNat_natCast,if_pos e] at h;cases h
 have hc:qN S.now m=Zo S m:=rfl;have hl:=(Qc hS).2.2.1;refine⟨hS,qeV fun r hr=>?_,qG.2 ⟨(qG.1 hS).1,(show Qt (ZY S.now a.toNat 1)=true by rw[hm,Int.toNat_natCast];exact ZJ (qG.1 hS).2.1 h8 _),(qG.1 hS).2.2⟩⟩;rw[hm,Int.toNat_natCast];unfold ZY;by_cases e:r=m
 ·subst e;rw[List.getElem?_set_self zO];have h2:=XH S.now r;simp only[Option.getD_some];rw[UInt8.toNat_ofNat'];omega
 ·rw[List.getElem?_set_ne zO];exact hr
theorem qkg {S:Sto} {refs nodes nodes':Nat->Nat} (h:Jz nodes'=Jz nodes) (a:Int) (held:Bool):jN S refs nodes' a held=jN S refs nodes a held:=by
 have h1:(0<nodes' a.toNat)↔(0<nodes a.toNat):=by have:=congrFun h a.toNat;unfold Jz at this;exact decide_eq_decide.1 this
 unfold jN;simp only[h1]
def Yb (S:Sto) (root next:Int) (dead:List Int) (id:Int) (x:It) (er:Int):Prop:=(er=8/\QK S root next dead)\/∃ vs refs nodes,Qb S root next dead vs/\qR S (Qk root dead vs) refs nodes/\Qw S refs /\
 ((er=6/\Qs vs id=none)\/∃ v,Qs vs id=some v/\((er=170/\v.fz=true)\/(v.fz=false/\((er=8/\itB x.r x.val.length=false)\/(itB x.r x.val.length=true /\
  ((er=6/\x.r≠0/\jN S refs nodes x.r true≠0)\/((x.r=0\/jN S refs nodes x.r true=0)/\YU S root next dead v (GK (Qj S v.root) v.root.toNat x) er)))))))
def VPutOk (S:Sto) (root next:Int) (dead:List Int) (id:Int) (x:It) (r3:Nat) (S4:Sto):Prop:=∃ vs refs nodes v,Qb S root next dead vs/\qR S (Qk root dead vs) refs nodes/\Qw S refs /\
 Qs vs id=some v/\v.fz=false/\itB x.r x.val.length=true/\(x.r=0\/jN S refs nodes x.r true=0)/\ChgOk S root next dead v (GK (Qj S v.root) v.root.toNat x) r3 S4
def qfm (S:Sto) (gen root next:Int) (dead:List Int) (id:Int) (x:It) (w:World) (e:Ending) (w':World):Prop:=Below w.heap.size w w' /\
 ((∃ er,er≠0/\e=.returned (.tuple #[jb,.int .i64 er])/\Yb S root next dead id x er) \/
  ∃ r3 S4 u,VPutOk S root next dead id x r3 S4/\e=.returned (.tuple #[u,.int .i64 0])/\jV w.heap.size S4 gen (r3:Int) next dead u w')
theorem kH {R:Ending->World->Prop} {a:Act} {W:World} {b:Nat} {x0 x1 x2 x3 x4 x5 x6 x7 v:Value} (h4:a.tmps[6]?.getD undef=.pointer (some ⟨b,0,none⟩)) (h5:a.tmps[7]?.getD undef=v) (hd:a.defers=[]) (aF:W.heap[b]?=some (.cells #[x0,x1,x2,x3,x4,x5,x6,x7] 32 (0,0))) (hR:R (.returned (.tuple #[.agg #[x0,x1,x2,x3,x4,x5,x6,x7],v])) W):bodyPost prog Tryz.f27 R .ret a W:=by
 refine bodyPost_ret (v:=.tuple #[.agg #[x0,x1,x2,x3,x4,x5,x6,x7],v]) ?_ hd hR;have k:=qa aF;simp[results,results27,go_sem,h4,h5,k]
set_option maxRecDepth 100000 in
theorem qdZ (A1 n1 c1 A2 n2 c2 A3 n3 c3 A4 n4 c4) (gen root next:Int) (A5 c5) (S:Sto) (dead:List Int) (id:Int) (x:It) (lN:itB x.r x.val.length=true->zu x) (Ax:OA) (cx:Nat) (wC:∀ vs refs nodes v,Qb S root next dead vs->qR S (Qk root dead vs) refs nodes->Qw S refs->Qs vs id=some v->v.fz=false->(x.r=0\/jN S refs nodes x.r true=0)->Qp S v.root=0->∀ r2 S2,GK (Qj S v.root) v.root.toNat x=.ok (r2,S2)->okL S2 (-1) (r2:Int)=true) (w:World) (h:qV w w.heap.size (.slice A1 n1 c1) (.slice A2 n2 c2) (.slice A3 n3 c3) (.slice A4 n4 c4) S) (hd:Zv w w.heap.size (.slice A5 dead.length c5) dead) (pX:Bys w w.heap.size (.slice Ax x.val.length cx) x.val):Calls prog 27 #[.agg (qF (.slice A1 n1 c1) (.slice A2 n2 c2) (.slice A3 n3 c3) (.slice A4 n4 c4) gen root next (.slice A5 dead.length c5)),.int .u32 id,itV x Ax cx] w (qfm S gen root next dead id x w):=by
 have HO:=zH (fun W (hx:Ext w W)=>qlj A1 n1 c1 A2 n2 c2 A3 n3 c3 A4 n4 c4 gen root next A5 c5 S dead id W (h.ext hx) (hd.ext_ hx));have HI:=zH (fun W=>JI x.k x.i x.o x.r Ax x.val.length cx W);have HD:=zH (fun W (hx:Ext w W)=>data_any A1 n1 c1 A2 n2 c2 A3 n3 c3 A4 n4 c4 gen root next A5 c5 S dead x.r true W (h.ext hx) (hd.ext_ hx));replace h:=zH h;replace hd:=zH hd;replace pX:=zH pX;replace wC:=zH wC;replace lN:=zH lN;go_enter func27,ntmps27;go_wp2_with fail;generalize aA:World.alloc (World.alloc (World.alloc w _) _) _=w1;have x1:Ext w w1:=aA▸((zN _ _).trans (zN _ _)).trans (zN _ _)
 have rp1:w1.heap[w.heap.size]?=some (.cells (qF (.slice A1 n1 c1) (.slice A2 n2 c2) (.slice A3 n3 c3) (.slice A4 n4 c4) gen root next (.slice A5 dead.length c5)) 32 (0,0)):=aA▸(zK _ _ _ zA3).trans ((zK _ _ _ zA3).trans (zI _ _ _ rfl))
 have rx1:w1.heap[w.heap.size+1]?=some (.cells #[.int .u8 x.k,.int .u32 x.i,.int .u32 x.o,.int .i64 x.r,.slice Ax x.val.length cx] 51 (0,0)):=aA▸(zK _ _ _ zA3).trans (zI _ _ _ zA2)
 have ro1:w1.heap[w.heap.size+2]?=some (.cells kK 32 (0,0)):=aA▸zI _ _ _ zA2
 clear aA;refine(HO.out w1 x1).mono ?_;clear HO;rintro e w2 ⟨hB,hQ⟩;have x2:Ext w w2:=x1.trans hB;have rp2:=qb rp1 hB;have rx2:=qb rx1 hB;have ro2:=qb ro1 hB;have kp2:=qa rp2;have kx2:=qa rx2;have ko2:=qa ro2;have fo2:=qe ro2;have z1:=(zG.1 rx2).1;have z2:w.heap.size+1+1<w2.heap.size:=(zG.1 ro2).1;clear hB rp1 rx1 ro1;obtain⟨u,er,rfl,hu⟩:∃ (u:Vol) (er:Int),e=.returned (.tuple #[jz u,.int .i64 er])/\((er≠0/\Yb S root next dead id x er)\/(er=0/\∃ vs refs nodes,Qb S root next dead vs/\qR S (Qk root dead vs) refs nodes/\Qw S refs/\Qs vs id=some u/\u.fz=false)):=by
  rcases hQ with ⟨rfl,hb⟩|⟨vs,refs,nodes,hp,hc,he,rfl⟩
  ·exact⟨YS,8,rfl,.inl ⟨zD,.inl ⟨rfl,hb⟩⟩⟩
  ·rcases hv:Qs vs id with _|u
   ·exact⟨YS,6,rfl,.inl ⟨zD,.inr ⟨vs,refs,nodes,hp,hc,he,.inl ⟨rfl,hv⟩⟩⟩⟩
   ·rcases hf:u.fz with _|_
    ·exact⟨u,0,by simp[openV,hf],.inr ⟨rfl,vs,refs,nodes,hp,hc,he,hv,hf⟩⟩
    ·exact⟨u,170,by simp[openV,hf],.inl ⟨zD,.inr ⟨vs,refs,nodes,hp,hc,he,.inr ⟨u,hv,.inl ⟨rfl,hf⟩⟩⟩⟩⟩
 clear hQ;obtain⟨ui,ur,uf,um⟩:=u;unfold jz;rcases hu with ⟨h0,hE⟩|⟨rfl,vs,refs,nodes,hp,hc,he,hv,hfz⟩
 ·have iG:(er != 0)=true:=by rw[bne_iff_ne];exact h0
  replace h0:=zH h0;replace hE:=zH hE;go_wp2_with fail;exact kH (b:=w.heap.size+2) rfl rfl rfl (qb (ji ro2 _ _ _ _ _ _ _ _) (zN _ _)) ⟨Below.alloc (QR x2 zO _ _ _ _ _ _ _ _) (by have:=x2.size;simpa using this) _,.inl ⟨er,h0.out,rfl,hE.out⟩⟩
 ·obtain rfl:uf=false:=hfz;have hE:Hid (∀ er,((er=8/\itB x.r x.val.length=false)\/(itB x.r x.val.length=true/\((er=6/\x.r≠0/\jN S refs nodes x.r true≠0)\/((x.r=0\/jN S refs nodes x.r true=0)/\YU S root next dead ⟨ui,ur,false,um⟩ (GK (Qj S ur) ur.toNat x) er))))->Yb S root next dead id x er):=zH fun er hh=>.inr ⟨vs,refs,nodes,hp,hc,he,.inr ⟨_,hv,.inr ⟨rfl,hh⟩⟩⟩;have pV:Hid (JZ ⟨ui,ur,false,um⟩):=zH (Gd hp _ (jI hv));have iK:Hid (okL S (-1) ur=true):=zH (hp.ok ur (by unfold Za;exact List.mem_append_right _ (List.mem_map.2 ⟨_,jI hv,rfl⟩)));have HC:=zH (fun W (hx:Ext w W) (hi:itB x.r x.val.length=true) yS=>qhf A1 n1 c1 A2 n2 c2 A3 n3 c3 A4 n4 c4 gen root next A5 c5 S dead ⟨ui,ur,false,um⟩ pV.out x (lN.out hi) Ax cx (fun dw=>by obtain⟨_,xm,_⟩:=Uo dw;obtain⟨a,ha,ht⟩:=ZR (xm.okL iK.out);have ha':ur=(a:Int):=ha;simp only[ha',Int.toNat_natCast] at ht ⊢;exact ht) yS W (h.out.ext hx) (hd.out.ext_ hx) ((pX.out.below hx).more hx.size));replace hp:=zH hp;replace hc:=zH hc;replace he:=zH he;replace hv:=zH hv;go_wp2_with fail;generalize aO:World.alloc w2 _=w3;have x23:Ext w2 w3:=aO▸zN _ _
  have x3:Ext w w3:=x2.trans x23;have rv3:w3.heap[w2.heap.size]?=some (.cells #[.int .u32 ui,.int .i64 ur,.bool false,.int .u32 um] 36 (0,0)):=aO▸zI _ _ _ zA2
  have rp3:=qb rp2 x23;have rx3:=qb rx2 x23;have ro3:=qb ro2 x23;clear aO rp2 rx2 ro2 kp2 kx2 ko2 fo2;refine(HI.out w3).mono ?_;clear HI;rintro e w4 ⟨rfl,hB⟩;have x4:Ext w w4:=x3.trans hB;have rv4:=qb rv3 hB;have rp4:=qb rp3 hB;have rx4:=qb rx3 hB;have ro4:=qb ro3 hB;have kv4:=qa rv4;have kp4:=qa rp4;have kx4:=qa rx4;have ko4:=qa ro4;have fo4:=qe ro4;replace z2:w.heap.size+1+1<w4.heap.size:=(zG.1 ro4).1;clear hB rv3 rp3 rx3 ro3 x23;rcases hib:itB x.r x.val.length with _|_
  ·rw[show JQ false=8 from rfl];have hE8:Hid (Yb S root next dead id x 8):=zH (hE.out 8 (.inl ⟨rfl,hib⟩));replace hib:=zH hib;go_wp2_with fail;exact kH (b:=w.heap.size+2) rfl rfl rfl (ji ro4 _ _ _ _ _ _ _ _) ⟨QR x4 zO _ _ _ _ _ _ _ _,.inl ⟨8,zD,rfl,hE8.out⟩⟩
  ·rw[show JQ true=0 from rfl];have uV:=zH hib;clear hib;have hEO:Hid ((x.r=0\/jN S refs nodes x.r true=0)->∀ r2 S2,GK (Qj S ur) ur.toNat x=.ok (r2,S2)->Qp S ur=0->okL S2 (-1) (r2:Int)=true):=zH fun uh r2 S2 hq dw=>wC.out vs refs nodes ⟨ui,ur,false,um⟩ hp.out hc.out he.out hv.out rfl uh dw r2 S2 hq;have aJ:∀ W,Ext w W->(x.r=0\/jN S refs nodes x.r true=0)->W.heap[w.heap.size]?=some (.cells (qF (.slice A1 n1 c1) (.slice A2 n2 c2) (.slice A3 n3 c3) (.slice A4 n4 c4) gen root next (.slice A5 dead.length c5)) 32 (0,0))->True:=fun _ _ _ _=>trivial;clear aJ;by_cases hr0:x.r=0
   ·have b1:(x.r != 0)=false:=by rw[bne_eq_false_iff_eq];exact hr0
    have uh:Hid (x.r=0\/jN S refs nodes x.r true=0):=zH (.inl hr0);replace hr0:=zH hr0;clear HD;go_wp2_with fail;refine(HC.out w4 x4 uV.out (fun dw r2 S2 hq=>hEO.out uh.out r2 S2 hq dw)).mono ?_;clear HC;intro e w6 y8;obtain⟨bz,hS6⟩:=y8.split;have x6:Ext w w6:=x4.trans bz;have ro6:=qb ro4 bz;have ko6:=qa ro6;have fo6:=qe ro6;clear y8 bz;rcases hS6 with ⟨er,aG,rfl,hCE⟩|⟨r3,S4,u,hO,rfl,hN⟩
    ·have gG:Hid (Yb S root next dead id x er):=zH (hE.out er (.inr ⟨uV.out,.inr ⟨uh.out,hCE⟩⟩));replace aG:=zH aG;clear hCE;go_wp2_with fail;exact kH (b:=w.heap.size+2) rfl rfl rfl (ji ro6 _ _ _ _ _ _ _ _) ⟨QR x6 zO _ _ _ _ _ _ _ _,.inl ⟨er,aG.out,rfl,gG.out⟩⟩
    ·obtain⟨E1,e1,E2,e2,E3,e3,E4,e4,E5,e5,rfl,-⟩:=_root_.id hN;replace hN:=zH hN;replace hO:=zH hO;go_wp2_with fail;exact kH (b:=w.heap.size+2) rfl rfl rfl (ji ro6 _ _ _ _ _ _ _ _) ⟨QR x6 zO _ _ _ _ _ _ _ _,.inr ⟨r3,S4,_,⟨vs,refs,nodes,_,hp.out,hc.out,he.out,hv.out,rfl,uV.out,uh.out,hO.out⟩,rfl,hN.out.keep x4.size zA2 fun k h1 h2=>jK zO _ _ _ _ _ _ _ _⟩⟩
   ·have b1:(x.r != 0)=true:=by rw[bne_iff_ne];exact hr0
    replace hr0:=zH hr0;go_wp2_with fail;refine(HD.out w4 x4).mono ?_;clear HD;rintro e w5 ⟨hB,hQ⟩;have x5:Ext w w5:=x4.trans hB;have rv5:=qb rv4 hB;have rp5:=qb rp4 hB;have rx5:=qb rx4 hB;have ro5:=qb ro4 hB;have kv5:=qa rv5;have kp5:=qa rp5;have kx5:=qa rx5;have ko5:=qa ro5;have fo5:=qe ro5;have z5:w.heap.size+1+1<w5.heap.size:=(zG.1 ro5).1;clear hB rv4 rp4 rx4 ro4 kv4 kp4 kx4 ko4 fo4;rcases hQ with ⟨rfl,ai⟩|⟨vs',refs',nodes',fU,rY,he',rfl⟩
    ·exact(QK.no ai hp.out hc.out he.out).elim
    ·obtain⟨rfl,rfl,hmet⟩:=Qb.unique hp.out hc.out fU rY;have hdn:jN S refs' nodes' x.r true=jN S refs' nodes x.r true:=qkg hmet _ _;rw[hdn];clear fU rY he' hmet hdn;by_cases hd0:jN S refs' nodes x.r true=0
     ·rw[hd0];have uh:Hid (x.r=0\/jN S refs' nodes x.r true=0):=zH (.inr hd0);replace hd0:=zH hd0;go_wp2_with fail;refine(HC.out w5 x5 uV.out (fun dw r2 S2 hq=>hEO.out uh.out r2 S2 hq dw)).mono ?_;clear HC;intro e w6 y8;obtain⟨bz,hS6⟩:=y8.split;have x6:Ext w w6:=x5.trans bz;have ro6:=qb ro5 bz;have ko6:=qa ro6;have fo6:=qe ro6;clear y8 bz;rcases hS6 with ⟨er,aG,rfl,hCE⟩|⟨r3,S4,u,hO,rfl,hN⟩
      ·have gG:Hid (Yb S root next dead id x er):=zH (hE.out er (.inr ⟨uV.out,.inr ⟨uh.out,hCE⟩⟩));replace aG:=zH aG;clear hCE;go_wp2_with fail;exact kH (b:=w.heap.size+2) rfl rfl rfl (ji ro6 _ _ _ _ _ _ _ _) ⟨QR x6 zO _ _ _ _ _ _ _ _,.inl ⟨er,aG.out,rfl,gG.out⟩⟩
      ·obtain⟨E1,e1,E2,e2,E3,e3,E4,e4,E5,e5,rfl,-⟩:=_root_.id hN;replace hN:=zH hN;replace hO:=zH hO;go_wp2_with fail;exact kH (b:=w.heap.size+2) rfl rfl rfl (ji ro6 _ _ _ _ _ _ _ _) ⟨QR x6 zO _ _ _ _ _ _ _ _,.inr ⟨r3,S4,_,⟨vs',refs',nodes,_,hp.out,hc.out,he.out,hv.out,rfl,uV.out,uh.out,hO.out⟩,rfl,hN.out.keep x5.size zA2 fun k h1 h2=>jK zO _ _ _ _ _ _ _ _⟩⟩
     ·have hE6:Hid (Yb S root next dead id x 6):=zH (hE.out 6 (.inr ⟨uV.out,.inl ⟨rfl,hr0.out,hd0⟩⟩));obtain⟨ed,hed⟩:∃ ed,jN S refs' nodes x.r true=ed:=⟨_,rfl⟩
      rw[hed] at hd0 ⊢;have iG:(ed != 0)=true:=by rw[bne_iff_ne];exact hd0
      replace hd0:=zH hd0;replace hed:=zH hed;go_wp2_with fail;exact kH (b:=w.heap.size+2) rfl rfl rfl (ji ro5 _ _ _ _ _ _ _ _) ⟨QR x5 zO _ _ _ _ _ _ _ _,.inl ⟨6,zD,rfl,hE6.out⟩⟩
theorem vput_any (A1 n1 c1 A2 n2 c2 A3 n3 c3 A4 n4 c4) (gen root next:Int) (A5 c5) (S:Sto) (dead:List Int) (id:Int) (x:It) (lN:zu x) (Ax:OA) (cx:Nat) (wC:∀ vs v,Qb S root next dead vs->Qs vs id=some v->Qp S v.root=0->∀ r2 S2,GK (Qj S v.root) v.root.toNat x=.ok (r2,S2)->okL S2 (-1) (r2:Int)=true) (w:World) (h:qV w w.heap.size (.slice A1 n1 c1) (.slice A2 n2 c2) (.slice A3 n3 c3) (.slice A4 n4 c4) S) (hd:Zv w w.heap.size (.slice A5 dead.length c5) dead) (pX:Bys w w.heap.size (.slice Ax x.val.length cx) x.val):Calls prog 27 #[.agg (qF (.slice A1 n1 c1) (.slice A2 n2 c2) (.slice A3 n3 c3) (.slice A4 n4 c4) gen root next (.slice A5 dead.length c5)),.int .u32 id,itV x Ax cx] w (qfm S gen root next dead id x w):=
 qdZ A1 n1 c1 A2 n2 c2 A3 n3 c3 A4 n4 c4 gen root next A5 c5 S dead id x (fun _=>lN) Ax cx (fun vs _ _ v hp _ _ hv _ _=>wC vs v hp hv) w h hd pX
theorem GO {rs:Nat->List Nat} {M:Nat->Bool} {b:Nat} (h:∀ a,M a=true->b∉rs a):∀ n,jS rs M b n=0
 |0=>rfl
 |n+1=>by
  unfold jS;rw[GO h n];split
  ·rename_i hn;rw[List.count_eq_zero.2 (h n hn)]
  ·rfl
theorem qdP {S:Sto} {a b:Nat} (h:b∈QQ S a):0<b/\b<256:=by
 unfold QQ at h;split at h
 ·cases h
 ·rename_i lvl xs hn;obtain⟨h1,h2⟩:=List.mem_filter.1 h;have:=(KM hn b h1).2;simp only[bne_iff_ne,ne_eq] at h2;omega
theorem node_cnt {S:Sto} {a:Nat} (h:(qt S a).isSome=true):qN S.now a≠0:=fun e=>by
 have e2:qt S a=if qN S.now a=0 then none else QI (Ji S a):=rfl
 rw[e2,if_pos e] at h;cases h
theorem ZW.of {S:Sto} {root next:Int} {dead:List Int} {vs:List Vol} {refs nodes:Nat->Nat} (hp:Qb S root next dead vs) (hc:qR S (Qk root dead vs) refs nodes) (he:Qw S refs):ZW S (Qk root dead vs) (Jz nodes):=by
 have yP:∀ a,Jz nodes a=true->jj S a:=fun a ha=>TV (R:=(· ∈ Qk root dead vs)) hp.trees (hc.mkd.reach a ha);have hnd:∀ a,Jz nodes a=true->(qt S a).isSome=true:=fun a ha=>by obtain⟨-,-,lvl,xs,hn,-⟩:=yP a ha;rw[hn];rfl
 refine⟨⟨hc.mkd.kids,Uu S,fun b hb=>?_,fun a ha=>node_cnt (hnd a ha),fun a ha=>?_⟩,hnd⟩
 ·rw[<-hc.mkd.sum b];by_cases h2:b<256
  ·exact he b h2
  ·have h1:(Qk root dead vs).count b=0:=List.count_eq_zero.2 fun h=>by have:=(hp.trees b h).2.1;omega
   have h3:jS (QQ S) (Jz nodes) b 256=0:=GO (fun a _ h=>by have:=(qdP h).2;omega) _;rw[hc.mkd.sum b];omega
 ·obtain⟨h8,h256,-⟩:=yP a ha;omega
theorem ZW.enough {S:Sto} {R R0:List Nat} {M:Nat->Bool} {refs nodes:Nat->Nat} (h:ZW S R M) (hR:∀ b,0<b->R0.count b<=R.count b) (hin:∀ a∈R0,M a=true) (hc:qR S R0 refs nodes):Qw S refs:=fun a ha=>by
 by_cases h0:a=0
 ·subst h0;have h1:R0.count 0=0:=List.count_eq_zero.2 fun h1=>by have:=(h.cov.low 0 (hin 0 h1)).1;omega
  have h3:jS (QQ S) (Jz nodes) 0 256=0:=GO (fun a _ h=>by have:=(qdP h).1;omega) _;rw[hc.mkd.sum 0];omega
 ·have hBK:∀ b,Jz nodes b=true->M b=true:=fun b hb=>(hc.mkd.reach b hb).closed (M:=fun a=>M a=true) hin h.cov.kid;have h1:=h.cov.cnt a zO;have h2:=hR a zO;have h3:=XS (rs:=QQ S) hBK a 256;rw[hc.mkd.sum a];show _<=qN S.now a;omega
theorem ZW.held {S:Sto} {R:List Nat} {M:Nat->Bool} {a:Int} (h:ZW S R M) (hs:Qp S a=0):ZW (Qj S a) (a.toNat :: R) M:=by
 have xm:=(Uo hs).2.1;have h0:JH S a=0:=by
  unfold Qp at hs;split at hs
  ·rename_i hh;exact absurd hs hh
  ·rename_i hh;exact Classical.not_not.1 hh
 obtain⟨hS,m,rfl,h8,h256,-⟩:=kR h0;have h255:Zo S m≠255:=fun e=>by unfold Qp at hs;rw[if_neg (by rw[h0];simp),Int.toNat_natCast,if_pos e] at hs;cases hs
 have hl:=(Qc hS).2.2.1;have fJ:∀ b,qN (Qj S (m:Int)).now b=qN S.now b+if b=m then 1 else 0:=fun b=>by
  show qN (ZY S.now (m:Int).toNat 1) b=_;rw[Int.toNat_natCast];unfold ZY;rw[Uj _ zO];split
  ·rename_i e;subst e;have h2:=XH S.now b;have h3:qN S.now b≠255:=h255;rw[UInt8.toNat_ofNat'];omega
  ·rfl
 have hnd:∀ a,M a=true->qt (Qj S (m:Int)) a=qt S a:=fun a ha=>by obtain⟨nd,hn⟩:=Option.isSome_iff_exists.1 (h.nd a ha);rw[hn];exact xm.node a nd hn
 rw[Int.toNat_natCast];refine⟨⟨fun a ha b hb=>h.cov.kid a ha b (by rw[<-(XO (hnd a ha)).2];exact hb),Uu _,fun b hb=>?_,fun a ha=>?_,h.cov.low⟩,fun a ha=>by rw[hnd a ha];exact h.nd a ha⟩
 ·have h1:=h.cov.cnt b hb;rw[YC (fun a ha=>(XO (hnd a ha)).1),fJ,List.count_cons];by_cases e:b=m
  ·subst e;simp only[beq_self_eq_true,if_true];omega
  ·rw[if_neg e,if_neg (by simpa using fun x=>e x.symm)];omega
 ·rw[fJ];have:=h.cov.live a ha;omega
abbrev ZE (b:Nat) (W W':World):Prop:=Two b b W W'
theorem ZE.below {b B:Nat} {w0 W W':World} (h:ZE b W W') (hb:Below B w0 W) (h1:B<=b) (hB:B<=W.heap.size):Below B w0 W':=Two.below h hb h1 h1 hB
theorem ZE.of_ext {b:Nat} {W W':World} (h:Ext W W'):ZE b W W':=Two.of_ext h
theorem ZE.trans {b:Nat} {A B C:World} (h:ZE b A B) (k:ZE b B C):ZE b A C:=Two.trans h k
theorem ZE.set {b:Nat} (A:World) (j:Nat) (v:Value):ZE b A (A.setCell ⟨b,j,none⟩ v):=⟨rfl,rfl,rfl,zA2,fun k _ hk _=>zJ _ _ _ _ hk⟩
theorem ZE.row {b:Nat} {W W':World} (h:ZE b W W') {k:Nat} {o:Obj} (hr:W.heap[k]?=some o) (hk:k≠b):W'.heap[k]?=some o:=(h.same k (zG.1 hr).1 hk hk).trans hr
abbrev jA (a1 a2 a3 a4:Value) (gen root next:Int) (v5:Value) (e:Int):Array Value:=#[a1,a2,a3,a4,.int .u32 gen,.int .i64 root,.int .u32 next,v5,.int .i64 e]
def GF (e:Int):Qd:=⟨Unit,fun _=>.tuple #[Qe none 0 0 none 0 0 none 0 0 none 0 0,.int .i64 e],fun _ _=>True⟩
theorem Zs (e:Int) (u:Unit):(GF e).f u=.tuple #[Qe none 0 0 none 0 0 none 0 0 none 0 0,.int .i64 e]:=rfl
theorem Tk (e:Int) {R:Rel}:∀ p,qL R ((GF e).φ p):=fun _ _ _ _ _=>trivial
def GI (lo:Nat) (S:Sto):Qd:=⟨(Nat×Nat)×(OA×Nat)×(OA×Nat),fun p=>.tuple #[Qe (some ⟨p.1.1,0,none⟩) S.bs.length S.bs.length (some ⟨p.1.2,0,none⟩) S.ws.length (S.ws.length+1) p.2.1.1 S.now.length p.2.1.2 p.2.2.1 S.last.length p.2.2.2,.int .i64 0],
 fun p W=>QM lo S (Qe (some ⟨p.1.1,0,none⟩) S.bs.length S.bs.length (some ⟨p.1.2,0,none⟩) S.ws.length (S.ws.length+1) p.2.1.1 S.now.length p.2.1.2 p.2.2.1 S.last.length p.2.2.2) W⟩
theorem Zt (lo:Nat) (S:Sto) (b c:Nat) (A3:OA) (c3:Nat) (A4:OA) (c4:Nat):(GI lo S).f ((b,c),(A3,c3),(A4,c4))=.tuple #[Qe (some ⟨b,0,none⟩) S.bs.length S.bs.length (some ⟨c,0,none⟩) S.ws.length (S.ws.length+1) A3 S.now.length c3 A4 S.last.length c4,.int .i64 0]:=rfl
theorem Tm (lo:Nat) (S:Sto):∀ p,qL qj ((GI lo S).φ p):=fun p W W' he h=>by have he:Ext W W':=he;exact QM.keep h (zM _) he.size fun b _ hb=>he.block b hb
def GStoQ (gb:Nat) (gen root next:Int) (v5:Value) (q:Except Int Sto) (w W:World):Prop:=ZE gb w W/\match q with
 | .error e=>W.heap[gb]?=some (.cells (jA (.slice none 0 0) (.slice none 0 0) (.slice none 0 0) (.slice none 0 0) gen root next v5 e) 123 (0,0))
 | .ok S'=>∃ x0 x1 x2 x3,W.heap[gb]?=some (.cells (jA x0 x1 x2 x3 gen root next v5 0) 123 (0,0))/\QM w.heap.size S' (.agg #[x0,x1,x2,x3]) W
theorem gst5 {W C:World} {b:Nat} {u0 u1 u2 u3 u4 u5 u6 u7 u8 x0 x1 x2 x3 ev:Value} {ty:TypeId} (rp:W.heap[b]?=some (.cells #[u0,u1,u2,u3,u4,u5,u6,u7,u8] ty (0,0))) (hC:((((W.setCell ⟨b,0,none⟩ x0).setCell ⟨b,1,none⟩ x1).setCell ⟨b,2,none⟩ x2).setCell ⟨b,3,none⟩ x3).setCell ⟨b,8,none⟩ ev=C):C.heap[b]?=some (.cells #[x0,x1,x2,x3,u4,u5,u6,u7,ev] ty (0,0))/\ZE b W C/\C.heap.size=W.heap.size:=by
 subst hC;exact⟨qi (qi (qi (qi (qi rp 0 x0) 1 x1) 2 x2) 3 x3) 8 ev,((((ZE.set _ _ _).trans (ZE.set _ _ _)).trans (ZE.set _ _ _)).trans (ZE.set _ _ _)).trans (ZE.set _ _ _),zA2⟩
def KF (S:Sto) (a:Int):Except Int Sto:=if Qp S a=0 then .ok (Qj S a) else .error (Qp S a)
set_option maxRecDepth 100000 in
theorem qds (gb:Nat) (A1 n1 c1 A2 n2 c2 A3 n3 c3 A4 n4 c4) (gen root next:Int) (v5:Value) (S:Sto) (v:Vol) (w:World) (hr:w.heap[gb]?=some (.cells (jA (.slice A1 n1 c1) (.slice A2 n2 c2) (.slice A3 n3 c3) (.slice A4 n4 c4) gen root next v5 0) 123 (0,0))) (h:qV w w.heap.size (.slice A1 n1 c1) (.slice A2 n2 c2) (.slice A3 n3 c3) (.slice A4 n4 c4) S):Calls prog 78 #[.pointer (some ⟨gb,0,none⟩),jz v] w (fun e W=>e=.returned (.tuple #[])/\GStoQ gb gen root next v5 (KF S v.root) w W):=by
 have HS:=zH (fun W (hx:Ext w W)=>qcj A1 n1 c1 A2 n2 c2 A3 n3 c3 A4 n4 c4 S v.root W (h.ext hx));have zg:=(zG.1 hr).1;clear h;go_enter func78,ntmps78;have kr:=qa hr;go_wp2_with fail;generalize aA:World.alloc w _=w1;have x1:Ext w w1:=aA▸zN _ _
 have rg1:=qb hr x1;have rv1:w1.heap[w.heap.size]?=some (.cells #[.int .u32 v.id,.int .i64 v.root,.bool v.fz,.int .u32 v.frm] 36 (0,0)):=aA▸zI _ _ _ zA2
 clear aA kr hr;have gR:∀ W,qj.r w1 W->∀ i,W.cell? ⟨gb,i,none⟩=(jA (.slice A1 n1 c1) (.slice A2 n2 c2) (.slice A3 n3 c3) (.slice A4 n4 c4) gen root next v5 0)[i]?:=fun W h=>qa (qb rg1 h);have gV:∀ W,qj.r w1 W->∀ i,W.cell? ⟨w.heap.size,i,none⟩=#[.int .u32 v.id,.int .i64 v.root,.bool v.fz,.int .u32 v.frm][i]?:=fun W h=>qa (qb rv1 h);by_cases h0:Qp S v.root=0
 ·replace h0:=zH h0;refine qp zQ ?_;refine vc 16 12 zE zQ rfl rfl zQ zQ zQ zQ ?_;dsimp only[jp,Array.push,List.push_toArray,List.concat_eq_append];refine zo 1 19 (.pointer (some ⟨gb,0,none⟩)) zQ zA5 zQ zQ zQ zA0 (fun W=>?_) ?_
  ·go_simp
  simp only[Act.put,qf,qc,qg,QG,Zs,Zt,zA,zB,zC];refine qQ (w:=w1) qj (qH [(9,GI w1.heap.size (Qj S v.root))]) ([true,false]++List.replicate 14 true) 4 zQ zQ zQ zQ zQ zQ zQ ?st (Rel.drew _ _) ?walk
  case st=>exact qk (by simp only[List.forall_mem_cons];exact⟨Tm _ _,fun _ h=>by cases h⟩)
  case walk =>
   intro K hK;dsimp only[qu,List.replicate,List.cons_append,List.nil_append];refine zC7 ?_;refine qy (GI w1.heap.size (Qj S v.root)) zA0 zA0 (fun W hW _=>?_) (fun p=>?_)
   ·have hW:Ext w1 W:=hW;refine Qi ?_ ((HS.out W (x1.trans hW)).mono fun e w' hh=>?_)
    ·go_simp
    obtain⟨u,rfl,hu,hB⟩:=hh;rcases hu with ⟨h,_⟩|⟨_,vv,rfl,hT⟩
    ·exact absurd h0.out h
    ·have hT:QM W.heap.size (Qj S v.root) vv w':=hT;obtain⟨BB,WW,gg,A3',c3',A4',c4',rfl,-⟩:=_root_.id hT;exact⟨((BB,WW),(A3',c3'),(A4',c4')),rfl,QM.keep hT hW.size (zM _) (fun _ _ _=>rfl),hB⟩
   obtain⟨⟨BB,WW⟩,⟨A3',c3'⟩,⟨A4',c4'⟩⟩:=p;refine zC7 ?_;refine qv (hK _ _ fun W hW hF=>?_);have hT:QM w1.heap.size (Qj S v.root) (Qe (some ⟨BB,0,none⟩) (Qj S v.root).bs.length (Qj S v.root).bs.length (some ⟨WW,0,none⟩) (Qj S v.root).ws.length ((Qj S v.root).ws.length+1) A3' (Qj S v.root).now.length c3' A4' (Qj S v.root).last.length c4') W:=(hF 9).1;replace hT:=zH hT;clear hF hK gR gV;have hW:Ext w1 W:=hW;refine zC3 ?_;have rW:=qb rg1 hW;have kW:=qa rW;have fW:=qe rW;have x2:Ext w W:=x1.trans hW;go_wp2;refine Qr ?_;go_wp2_with fail;go_end0;obtain⟨r9,t9,z9⟩:=gst5 (x0:=.slice (some ⟨BB,0,none⟩) (Qj S v.root).bs.length (Qj S v.root).bs.length) (x1:=.slice (some ⟨WW,0,none⟩) (Qj S v.root).ws.length ((Qj S v.root).ws.length+1)) (x2:=.slice A3' (Qj S v.root).now.length c3') (x3:=.slice A4' (Qj S v.root).last.length c4') (ev:=.int .i64 0) rW rfl;refine⟨rfl,(ZE.of_ext x2).trans t9,?_⟩;have hq:KF S v.root=.ok (Qj S v.root):=by unfold KF;rw[if_pos h0.out]
   rw[hq];refine⟨_,_,_,_,r9,QM.keep hT.out (by have:=x1.size;omega) zO fun k h1 h2=>t9.same k h2 (by have:=x1.size;omega) (by have:=x1.size;omega)⟩
 ·obtain⟨er,lT⟩:∃ er,Qp S v.root=er:=⟨_,rfl⟩
  replace lT:=zH lT;have aG:=zH h0;clear h0;refine qp zQ ?_;refine vc 16 12 zE zQ rfl rfl zQ zQ zQ zQ ?_;dsimp only[jp,Array.push,List.push_toArray,List.concat_eq_append];refine zo 1 19 (.pointer (some ⟨gb,0,none⟩)) zQ zA5 zQ zQ zQ zA0 (fun W=>?_) ?_
  ·go_simp
  simp only[Act.put,qf,qc,qg,QG,Zs,Zt,zA,zB,zC];refine qQ (w:=w1) qj (qH [(9,GF er)]) ([true,false]++List.replicate 14 true) 4 zQ zQ zQ zQ zQ zQ zQ ?st (Rel.drew _ _) ?walk
  case st=>exact qk (by simp only[List.forall_mem_cons];exact⟨Tk er,fun _ h=>by cases h⟩)
  case walk =>
   intro K hK;dsimp only[qu,List.replicate,List.cons_append,List.nil_append];refine zC7 ?_;refine qy (GF er) zA0 zA0 (fun W hW _=>?_) (fun (p:Unit)=>?_)
   ·have hW:Ext w1 W:=hW;refine Qi ?_ ((HS.out W (x1.trans hW)).mono fun e w' hh=>?_)
    ·go_simp
    obtain⟨u,rfl,hu,hB⟩:=hh;rcases hu with ⟨_,rfl⟩|⟨h,_⟩
    ·rw[lT.out];exact⟨(),rfl,trivial,hB⟩
    ·exact absurd h aG.out
   refine zC7 ?_;refine qv (hK _ _ fun W hW hF=>?_);clear hF hK gR gV;have hW:Ext w1 W:=hW;refine zC3 ?_;have rW:=qb rg1 hW;have kW:=qa rW;have fW:=qe rW;have x2:Ext w W:=x1.trans hW;go_wp2;refine Qr ?_;go_wp2_with fail;go_end0;obtain⟨r9,t9,z9⟩:=gst5 (x0:=.slice none 0 0) (x1:=.slice none 0 0) (x2:=.slice none 0 0) (x3:=.slice none 0 0) (ev:=.int .i64 er) rW rfl;refine⟨rfl,(ZE.of_ext x2).trans t9,?_⟩;have hq:KF S v.root=.error er:=by unfold KF;rw[if_neg aG.out,lT.out]
   rw[hq];exact r9
end Go.Proofs.YtmeadnlmepcmbaaGreat
