/- Lemmas of the proof. -/
import Derived.Test.YtmeadnlmepcmbaaGreatZJ21
set_option linter.all false
set_option maxHeartbeats 8000000
open Go.Proofs.Tryz
namespace Go.Proofs.YtmeadnlmepcmbaaGreat
open Go.RowKit
structure PV where
 E1:OA
 m1:Nat
 e1:Nat
 E2:OA
 m2:Nat
 e2:Nat
 E3:OA
 m3:Nat
 e3:Nat
 E4:OA
 m4:Nat
 e4:Nat
 g:Int
 t:Int
 n:Int
 E5:OA
 m5:Nat
 e5:Nat
abbrev PV.cs (p:PV):Array Value:=qF (.slice p.E1 p.m1 p.e1) (.slice p.E2 p.m2 p.e2) (.slice p.E3 p.m3 p.e3) (.slice p.E4 p.m4 p.e4) p.g p.t p.n (.slice p.E5 p.m5 p.e5)
def PV.zero:PV:=⟨none,0,0,none,0,0,none,0,0,none,0,0,0,0,0,none,0,0⟩
def SetR (lo:Nat) (S:Sto) (gen root next:Int) (dead:List Int) (v:Vol) (p:PV) (er:Int) (W:World):Prop:=(er≠0/\p=PV.zero/\Kk S root next dead v er)\/(er=0/\∃ r S' vs',vT S root next dead v r S' vs'/\jV lo S' gen (r:Int) next dead (.agg p.cs) W)
theorem SetR.keep {lo lo':Nat} {S:Sto} {gen root next:Int} {dead:List Int} {v:Vol} {p:PV} {er:Int} {W W':World} (h:SetR lo S gen root next dead v p er W) (hl:lo'<=lo) (hs:W.heap.size<=W'.heap.size) (hk:∀ k,lo<=k->k<W.heap.size->W'.heap[k]?=W.heap[k]?):SetR lo' S gen root next dead v p er W':=
 h.imp id fun ⟨h0,r,S',vs',h1,h2⟩=>⟨h0,r,S',vs',h1,h2.keep hl hs hk⟩
theorem SetQ.r {S:Sto} {gen root next:Int} {dead:List Int} {v:Vol} {w w':World} {e:Ending} (h:SetQ S gen root next dead v w e w'):Below w.heap.size w w'/\∃ p er,e=.returned (.tuple #[.agg (PV.cs p),.int .i64 er])/\SetR w.heap.size S gen root next dead v p er w':=by
 obtain⟨hB,h⟩:=h.split;refine⟨hB,?_⟩;rcases h with ⟨er,h0,rfl,hE⟩|⟨r,S2,vs',u,hO,rfl,hN⟩
 ·exact⟨PV.zero,er,rfl,.inl ⟨h0,rfl,hE⟩⟩
 ·obtain⟨E1,e1,E2,e2,E3,e3,E4,e4,E5,e5,rfl,-⟩:=_root_.id hN;exact⟨⟨E1,_,e1,E2,_,e2,E3,_,e3,E4,_,e4,gen,r,next,E5,_,e5⟩,0,rfl,.inr ⟨rfl,r,S2,vs',hO,hN⟩⟩
def outPS (lo:Nat) (S:Sto) (gen root next:Int) (dead:List Int) (v:Vol):Qd:=⟨PV×Int,fun p=>.tuple #[.agg p.1.cs,.int .i64 p.2],fun p W=>SetR lo S gen root next dead v p.1 p.2 W⟩
theorem qbd (lo:Nat) (S:Sto) (gen root next:Int) (dead:List Int) (v:Vol) (p:PV) (er:Int):(outPS lo S gen root next dead v).f (p,er)=.tuple #[.agg p.cs,.int .i64 er]:=rfl
theorem qeH (lo:Nat) (S:Sto) (gen root next:Int) (dead:List Int) (v:Vol):∀ p,qL qj ((outPS lo S gen root next dead v).φ p):=fun p W W' he h=>by have he:Ext W W':=he;exact SetR.keep h (zM _) he.size fun b _ hb=>he.block b hb
abbrev PV.gcs (p:PV) (e:Int):Array Value:=jA (.slice p.E1 p.m1 p.e1) (.slice p.E2 p.m2 p.e2) (.slice p.E3 p.m3 p.e3) (.slice p.E4 p.m4 p.e4) p.g p.t p.n (.slice p.E5 p.m5 p.e5) e
def GSetQ (gb:Nat) (S:Sto) (gen root next:Int) (dead:List Int) (v:Vol) (w W:World):Prop:=ZE gb w W/\∃ p er,W.heap[gb]?=some (.cells (PV.gcs p er) 123 (0,0))/\SetR w.heap.size S gen root next dead v p er W
theorem turn4 (A:World) (b i0 i1 i2 i3:Nat) (x0 x1 x2 x3:Value):ZE b A ((((A.setCell ⟨b,i0,none⟩ x0).setCell ⟨b,i1,none⟩ x1).setCell ⟨b,i2,none⟩ x2).setCell ⟨b,i3,none⟩ x3):=
 (((ZE.set A i0 x0).trans (ZE.set _ i1 x1)).trans (ZE.set _ i2 x2)).trans (ZE.set _ i3 x3)
theorem two4 (A:World) (b g i0 i1 i2 i3:Nat) (x0 x1 x2 x3:Value):Two b g A ((((A.setCell ⟨b,i0,none⟩ x0).setCell ⟨b,i1,none⟩ x1).setCell ⟨b,i2,none⟩ x2).setCell ⟨b,i3,none⟩ x3):=
 (((Two.setP A i0 x0).trans (Two.setP _ i1 x1)).trans (Two.setP _ i2 x2)).trans (Two.setP _ i3 x3)
theorem gst9 {W C:World} {b:Nat} {u0 u1 u2 u3 u4 u5 u6 u7 u8 x0 x1 x2 x3 x4 x5 x6 x7 ev:Value} {ty:TypeId} (rp:W.heap[b]?=some (.cells #[u0,u1,u2,u3,u4,u5,u6,u7,u8] ty (0,0))) (hC:((((((((W.setCell ⟨b,0,none⟩ x0).setCell ⟨b,1,none⟩ x1).setCell ⟨b,2,none⟩ x2).setCell ⟨b,3,none⟩ x3).setCell ⟨b,4,none⟩ x4).setCell ⟨b,5,none⟩ x5).setCell ⟨b,6,none⟩ x6).setCell ⟨b,7,none⟩ x7).setCell ⟨b,8,none⟩ ev=C):C.heap[b]?=some (.cells #[x0,x1,x2,x3,x4,x5,x6,x7,ev] ty (0,0))/\ZE b W C/\C.heap.size=W.heap.size:=by
 subst hC;have t8:=(turn4 W b 0 1 2 3 x0 x1 x2 x3).trans (turn4 _ b 4 5 6 7 x4 x5 x6 x7);have t9:=t8.trans (ZE.set _ 8 ev);have hz:((((((((((W.setCell ⟨b,0,none⟩ x0).setCell ⟨b,1,none⟩ x1).setCell ⟨b,2,none⟩ x2).setCell ⟨b,3,none⟩ x3).setCell ⟨b,4,none⟩ x4).setCell ⟨b,5,none⟩ x5).setCell ⟨b,6,none⟩ x6).setCell ⟨b,7,none⟩ x7).setCell ⟨b,8,none⟩ ev)).heap.size=W.heap.size:=zA2;have r4:((((W.setCell ⟨b,0,none⟩ x0).setCell ⟨b,1,none⟩ x1).setCell ⟨b,2,none⟩ x2).setCell ⟨b,3,none⟩ x3).heap[b]?=some (.cells #[x0,x1,x2,x3,u4,u5,u6,u7,u8] ty (0,0)):=qi (qi (qi (qi rp 0 x0) 1 x1) 2 x2) 3 x3;generalize (((W.setCell ⟨b,0,none⟩ x0).setCell ⟨b,1,none⟩ x1).setCell ⟨b,2,none⟩ x2).setCell ⟨b,3,none⟩ x3=W4 at *;have r8:((((W4.setCell ⟨b,4,none⟩ x4).setCell ⟨b,5,none⟩ x5).setCell ⟨b,6,none⟩ x6).setCell ⟨b,7,none⟩ x7).heap[b]?=some (.cells #[x0,x1,x2,x3,x4,x5,x6,x7,u8] ty (0,0)):=qi (qi (qi (qi r4 4 x4) 5 x5) 6 x6) 7 x7;have r9:(((((W4.setCell ⟨b,4,none⟩ x4).setCell ⟨b,5,none⟩ x5).setCell ⟨b,6,none⟩ x6).setCell ⟨b,7,none⟩ x7).setCell ⟨b,8,none⟩ ev).heap[b]?=some (.cells #[x0,x1,x2,x3,x4,x5,x6,x7,ev] ty (0,0)):=qi r8 8 ev;exact⟨r9,t9,hz⟩
theorem gfin {W C:World} {vb gb:Nat} {u0 u1 u2 u3 u4 u5 u6 u7 u8 y0 y1 y2 y3 x0 x1 x2 x3 ev:Value} {ty tyV:TypeId} (rg:W.heap[gb]?=some (.cells #[u0,u1,u2,u3,u4,u5,u6,u7,u8] ty (0,0))) (rv:W.heap[vb]?=some (.cells #[y0,y1,y2,y3] tyV (0,0))) (aG:vb≠gb) (hC:((((((((W.setCell ⟨vb,0,none⟩ x0).setCell ⟨vb,1,none⟩ x1).setCell ⟨vb,2,none⟩ x2).setCell ⟨vb,3,none⟩ x3).setCell ⟨gb,8,none⟩ ev).setCell ⟨vb,0,none⟩ x0).setCell ⟨vb,1,none⟩ x1).setCell ⟨vb,2,none⟩ x2).setCell ⟨vb,3,none⟩ x3=C):C.heap[vb]?=some (.cells #[x0,x1,x2,x3] tyV (0,0))/\C.heap[gb]?=some (.cells #[u0,u1,u2,u3,u4,u5,u6,u7,ev] ty (0,0))/\Two vb gb W C:=by
 obtain⟨W4,h4⟩:∃ W4,(((W.setCell ⟨vb,0,none⟩ x0).setCell ⟨vb,1,none⟩ x1).setCell ⟨vb,2,none⟩ x2).setCell ⟨vb,3,none⟩ x3=W4:=⟨_,rfl⟩
 have t4:=two4 W vb gb 0 1 2 3 x0 x1 x2 x3;have r4:=VC rv x0 x1 x2 x3;have zg:=(zG.1 rg).1;have zv:=(zG.1 rv).1;have o4:W4.heap[gb]?=W.heap[gb]?:=by rw[<-h4,zJ _ _ _ _ (Ne.symm aG),zJ _ _ _ _ (Ne.symm aG),zJ _ _ _ _ (Ne.symm aG),zJ _ _ _ _ (Ne.symm aG)]
 rw[h4] at hC t4 r4;have g4:=qi (o4.trans rg) 8 ev;have v4:=(zJ W4 ⟨gb,8,none⟩ ev vb aG).trans r4;have t5:=t4.trans (Two.setE W4 8 ev);generalize W4.setCell ⟨gb,8,none⟩ ev=W5 at *;have t9:=two4 W5 vb gb 0 1 2 3 x0 x1 x2 x3;have r9:=VC v4 x0 x1 x2 x3;have o9:C.heap[gb]?=W5.heap[gb]?:=by rw[<-hC,zJ _ _ _ _ (Ne.symm aG),zJ _ _ _ _ (Ne.symm aG),zJ _ _ _ _ (Ne.symm aG),zJ _ _ _ _ (Ne.symm aG)]
 rw[hC] at t9 r9;exact⟨r9,o9.trans g4,t5.trans t9⟩
set_option maxRecDepth 100000 in
theorem qgb (gb:Nat) (A1 n1 c1 A2 n2 c2 A3 n3 c3 A4 n4 c4) (gen root next:Int) (A5 c5) (S:Sto) (dead:List Int) (v:Vol) (hv:JZ v) (hT:8<=v.root->v.root<256->Zo S v.root.toNat≠0->okL S (-1) v.root=true) (w:World) (hr:w.heap[gb]?=some (.cells (jA (.slice A1 n1 c1) (.slice A2 n2 c2) (.slice A3 n3 c3) (.slice A4 n4 c4) gen root next (.slice A5 dead.length c5) 0) 123 (0,0))) (h:qV w w.heap.size (.slice A1 n1 c1) (.slice A2 n2 c2) (.slice A3 n3 c3) (.slice A4 n4 c4) S) (hd:Zv w w.heap.size (.slice A5 dead.length c5) dead):Calls prog 79 #[.pointer (some ⟨gb,0,none⟩),jz v] w (fun e W=>e=.returned (.tuple #[])/\GSetQ gb S gen root next dead v w W):=by
 have HS:=zH (fun W (hx:Ext w W)=>qbB A1 n1 c1 A2 n2 c2 A3 n3 c3 A4 n4 c4 gen root next A5 c5 S dead v hv hT W (h.ext hx) (hd.ext_ hx));have zg:=(zG.1 hr).1;clear h hT hd;go_enter func79,ntmps79;have kr:=qa hr;go_wp2_with fail;generalize aA:World.alloc w _=w1;have x1:Ext w w1:=aA▸zN _ _
 have rg1:=qb hr x1;have rv1:w1.heap[w.heap.size]?=some (.cells #[.int .u32 v.id,.int .i64 v.root,.bool v.fz,.int .u32 v.frm] 36 (0,0)):=aA▸zI _ _ _ zA2
 clear aA kr hr;have gR:∀ W,qj.r w1 W->∀ i,W.cell? ⟨gb,i,none⟩=(jA (.slice A1 n1 c1) (.slice A2 n2 c2) (.slice A3 n3 c3) (.slice A4 n4 c4) gen root next (.slice A5 dead.length c5) 0)[i]?:=fun W h=>qa (qb rg1 h);have gV:∀ W,qj.r w1 W->∀ i,W.cell? ⟨w.heap.size,i,none⟩=#[.int .u32 v.id,.int .i64 v.root,.bool v.fz,.int .u32 v.frm][i]?:=fun W h=>qa (qb rv1 h);refine qp zQ ?_;refine vc 13 10 zE zQ rfl rfl zQ zQ zQ zQ ?_;dsimp only[jp,Array.push,List.push_toArray,List.concat_eq_append];refine zo 1 16 (.pointer (some ⟨gb,0,none⟩)) zQ zA5 zQ zQ zQ zA0 (fun W=>?_) ?_
 ·go_simp
 simp only[Act.put,qf,qc,qg,qbd,zA,zB,zC];refine qQ (w:=w1) qj (qH [(7,outPS w1.heap.size S gen root next dead v)]) ([true,false]++List.replicate 11 true) 4 zQ zQ zQ zQ zQ zQ zQ ?st (Rel.drew _ _) ?walk
 case st=>exact qk (by simp only[List.forall_mem_cons];exact⟨qeH _ _ _ _ _ _ _,fun _ h=>by cases h⟩)
 case walk =>
  intro K hK;dsimp only[qu,List.replicate,List.cons_append,List.nil_append];refine zC8 ?_;refine qy (outPS w1.heap.size S gen root next dead v) zA0 zA0 (fun W hW _=>?_) (fun p=>?_)
  ·have hW:Ext w1 W:=hW;refine Qi ?_ ((HS.out W (x1.trans hW)).mono fun e w' hh=>?_)
   ·go_simp
   obtain⟨hB,p,er,rfl,hR⟩:=hh.r;exact⟨(p,er),rfl,hR.keep hW.size (zM _) (fun _ _ _=>rfl),hB⟩
  obtain⟨p,er⟩:=p;refine zC8 ?_;refine qv (hK _ _ fun W hW hF=>?_);have hR:SetR w1.heap.size S gen root next dead v p er W:=(hF 7).1
  replace hR:=zH hR;clear hF hK gR gV;have hW:Ext w1 W:=hW;refine zC3 ?_;have rW:=qb rg1 hW;have kW:=qa rW;have fW:=qe rW;have x2:Ext w W:=x1.trans hW;have z1:=x1.size;go_wp2;refine Qr ?_;go_wp2_with fail;go_end0;generalize aY:World.setCell _ _ _=Wf;obtain⟨r9,t9,z9⟩:=gst9 rW aY;exact⟨rfl,(ZE.of_ext x2).trans t9,p,er,r9,hR.out.keep zO zO fun k h1 h2=>t9.same k h2 zO zO⟩
theorem qkt {R:Ending->World->Prop} {a:Act} {W:World} {b:Nat} {x0 x1 x2 x3:Value} (h4:a.tmps[4]?.getD undef=.pointer (some ⟨b,0,none⟩)) (hd:a.defers=[]) (aF:W.heap[b]?=some (.cells #[x0,x1,x2,x3] 36 (0,0))) (hR:R (.returned (.agg #[x0,x1,x2,x3])) W):bodyPost prog Tryz.f77 R .ret a W:=by
 refine bodyPost_ret (v:=.agg #[x0,x1,x2,x3]) ?_ hd hR;have k:=qa aF;simp[results,results77,go_sem,h4,k]
def FindR (S:Sto) (root next:Int) (dead:List Int) (id:Int) (u:Vol) (er:Int):Prop:=(er=8/\u=YS/\QK S root next dead)\/∃ vs refs nodes,Qb S root next dead vs/\qR S (Qk root dead vs) refs nodes/\Qw S refs/\((er=6/\u=YS/\Qs vs id=none)\/(er=0/\Qs vs id=some u))
set_option maxRecDepth 100000 in
theorem qdr (gb:Nat) (A1 n1 c1 A2 n2 c2 A3 n3 c3 A4 n4 c4) (gen root next:Int) (A5 c5) (S:Sto) (dead:List Int) (id e0:Int) (w:World) (hr:w.heap[gb]?=some (.cells (jA (.slice A1 n1 c1) (.slice A2 n2 c2) (.slice A3 n3 c3) (.slice A4 n4 c4) gen root next (.slice A5 dead.length c5) e0) 123 (0,0))) (h:qV w w.heap.size (.slice A1 n1 c1) (.slice A2 n2 c2) (.slice A3 n3 c3) (.slice A4 n4 c4) S) (hd:Zv w w.heap.size (.slice A5 dead.length c5) dead):Calls prog 77 #[.pointer (some ⟨gb,0,none⟩),.int .u32 id] w (fun e W=>∃ u er,e=.returned (jz u)/\FindR S root next dead id u er/\ZE gb w W/\W.heap[gb]?=some (.cells (jA (.slice A1 n1 c1) (.slice A2 n2 c2) (.slice A3 n3 c3) (.slice A4 n4 c4) gen root next (.slice A5 dead.length c5) er) 123 (0,0))):=by
 have HV:=zH (fun W (hx:Ext w W)=>VT A1 n1 c1 A2 n2 c2 A3 n3 c3 A4 n4 c4 gen root next A5 c5 S dead id W (h.ext hx) (hd.ext_ hx));have zg:=(zG.1 hr).1;clear h hd;go_enter func77,ntmps77;have kr:=qa hr;go_wp2_with fail;generalize aA:World.alloc w _=w1;have x1:Ext w w1:=aA▸zN _ _
 have r1:w1.heap[w.heap.size]?=some (.cells #[.int .u32 0,.int .i64 0,.bool false,.int .u32 0] 36 (0,0)):=aA▸zI _ _ _ zA2
 have rg1:=qb hr x1;clear aA kr hr;refine(HV.out w1 x1).mono ?_;clear HV;rintro e w2 ⟨hB,hQ⟩;have x2:Ext w w2:=x1.trans hB;have r2:=qb r1 hB;have rg2:=qb rg1 hB;have k2:=qa r2;have f2:=qe r2;have z2:=(zG.1 r2).1;have kg2:=qa rg2;have fg2:=qe rg2;clear hB r1 rg1;obtain⟨u,er,rfl,hu⟩:∃ (u:Vol) (er:Int),e=.returned (.tuple #[jz u,.int .i64 er])/\FindR S root next dead id u er:=by
  rcases hQ with ⟨rfl,hb⟩|⟨vs,refs,nodes,hp,hc,he,rfl⟩
  ·exact⟨YS,8,rfl,.inl ⟨rfl,rfl,hb⟩⟩
  ·rcases hv:Qs vs id with _|u
   ·exact⟨YS,6,rfl,.inr ⟨vs,refs,nodes,hp,hc,he,.inl ⟨rfl,rfl,hv⟩⟩⟩
   ·exact⟨u,0,rfl,.inr ⟨vs,refs,nodes,hp,hc,he,.inr ⟨rfl,hv⟩⟩⟩
 clear hQ;replace hu:=zH hu;obtain⟨ui,ur,uf,um⟩:=u;unfold jz;go_wp2_with fail;generalize aY:World.setCell _ _ _=Wf;obtain⟨g1,g2,g3⟩:=gfin rg2 r2 zO aY;clear aY;have x2s:=x2.size;exact qkt rfl rfl g1 ⟨⟨ui,ur,uf,um⟩,er,rfl,hu.out,⟨g3.os.trans x2.os,g3.tape.trans x2.tape,g3.output.trans x2.output,Nat.le_trans x2s g3.size,fun k hk h1 _=>(g3.same k zO zO h1).trans (Below.block x2 k hk)⟩,g2⟩
def JY (p:PV) (er:Int) (S:Sto):Value:=if er≠0 then .tuple #[jb,.int .i64 er] else if zh S=0 then .tuple #[.agg p.cs,.int .i64 0] else .tuple #[jb,.int .i64 9]
theorem Un {R:Ending->World->Prop} {a:Act} {W:World} {b:Nat} {x0 x1 x2 x3 x4 x5 x6 x7 v:Value} (h4:a.tmps[2]?.getD undef=.pointer (some ⟨b,0,none⟩)) (h5:a.tmps[3]?.getD undef=v) (hd:a.defers=[]) (aF:W.heap[b]?=some (.cells #[x0,x1,x2,x3,x4,x5,x6,x7] 32 (0,0))) (hR:R (.returned (.tuple #[.agg #[x0,x1,x2,x3,x4,x5,x6,x7],v])) W):bodyPost prog Tryz.f81 R .ret a W:=by
 refine bodyPost_ret (v:=.tuple #[.agg #[x0,x1,x2,x3,x4,x5,x6,x7],v]) ?_ hd hR;have k:=qa aF;simp[results,results81,go_sem,h4,h5,k]
set_option maxRecDepth 100000 in
theorem vk (gb:Nat) (p:PV) (er:Int) (S:Sto) (w:World) (hr:w.heap[gb]?=some (.cells (PV.gcs p er) 123 (0,0))) (h:er=0->qV w w.heap.size (.slice p.E1 p.m1 p.e1) (.slice p.E2 p.m2 p.e2) (.slice p.E3 p.m3 p.e3) (.slice p.E4 p.m4 p.e4) S):Calls prog 81 #[.pointer (some ⟨gb,0,none⟩)] w (Ret (JY p er S) w):=by
 have HF:=zH (fun (h0:er=0) W (hx:Ext w W)=>GL p.E1 p.m1 p.e1 p.E2 p.m2 p.e2 p.E3 p.m3 p.e3 p.E4 p.m4 p.e4 S W ((h h0).ext hx));have zg:=(zG.1 hr).1;have hE1:=zH (fun h0:er≠0=>(by unfold JY;rw[if_pos h0]:JY p er S=.tuple #[jb,.int .i64 er]));have fZ:=zH (fun (h0:er=0) (h1:zh S=0)=>(by unfold JY;rw[if_neg (by simp[h0]),if_pos h1]:JY p er S=.tuple #[.agg p.cs,.int .i64 0]));have hE3:=zH (fun (h0:er=0) (h1:¬zh S=0)=>(by unfold JY;rw[if_neg (by simp[h0]),if_neg h1]:JY p er S=.tuple #[jb,.int .i64 9]));obtain⟨V,hV⟩:∃ V,JY p er S=V:=⟨_,rfl⟩
 rw[hV] at hE1 fZ hE3 ⊢;obtain⟨E1,m1,e1,E2,m2,e2,E3,m3,e3,E4,m4,e4,g,t,n,E5,m5,e5⟩:=p;simp only[PV.gcs,PV.cs] at hr HF fZ;clear h hV;go_enter func81,ntmps81;have kr:=qa hr;by_cases h0:er=0
 ·subst h0;have HF0:=zH (HF.out rfl);have hE2':=zH (fZ.out rfl);have hE3':=zH (hE3.out rfl);clear HF hE1 fZ hE3;go_wp2_with fail;generalize aA:World.alloc w _=w1;have x1:Ext w w1:=aA▸zN _ _
  have ro1:w1.heap[w.heap.size]?=some (.cells kK 32 (0,0)):=aA▸zI _ _ _ zA2
  have rg1:=qb hr x1;clear aA kr hr;refine(HF0.out w1 x1).mono ?_;clear HF0;rintro e w2 ⟨hB,hQ⟩;have x2:Ext w w2:=x1.trans hB;have ro2:=qb ro1 hB;have rg2:=qb rg1 hB;have ko2:=qa ro2;have fo2:=qe ro2;have kg2:=qa rg2;clear hB ro1 rg1;rcases hQ with ⟨hm,rfl⟩|⟨hm,v,rfl,aB⟩
  ·have hE:Hid (V=.tuple #[jb,.int .i64 9]):=zH (hE3'.out (by unfold zh;rw[if_neg (by simp[hm])];decide));replace hm:=zH hm;go_wp2_with fail;exact Un (b:=w.heap.size) rfl rfl rfl (ji ro2 _ _ _ _ _ _ _ _) ⟨by rw[hE.out];rfl,QR x2 (zM _) _ _ _ _ _ _ _ _⟩
  ·obtain⟨A,c,rfl,-,-⟩:=qE aB;clear aB;by_cases hl:(Zh S).length<16
   ·have hE:Hid (V=.tuple #[jb,.int .i64 9]):=zH (hE3'.out (by unfold zh;rw[if_neg zO];decide));have d1:decide (((Zh S).length:Int)<16)=true:=decide_eq_true zO;replace hm:=zH hm;replace hl:=zH hl;go_wp2_with fail;exact Un (b:=w.heap.size) rfl rfl rfl (ji ro2 _ _ _ _ _ _ _ _) ⟨by rw[hE.out];rfl,QR x2 (zM _) _ _ _ _ _ _ _ _⟩
   ·have hE:=zH (hE2'.out (by unfold zh;rw[if_pos ⟨hm,zO⟩]));have d1:decide (((Zh S).length:Int)<16)=false:=decide_eq_false zO;replace hm:=zH hm;replace hl:=zH hl;go_wp2_with fail;exact Un (b:=w.heap.size) rfl rfl rfl (ji ro2 _ _ _ _ _ _ _ _) ⟨by rw[hE.out];rfl,QR x2 (zM _) _ _ _ _ _ _ _ _⟩
 ·have hE:=zH (hE1.out h0);have iG:(er != 0)=true:=by rw[bne_iff_ne];exact h0
  replace h0:=zH h0;clear HF hE1 fZ hE3;go_upto_region 2 with fail;generalize aA:World.alloc w _=w1;have x1:Ext w w1:=aA▸zN _ _
  have ro1:w1.heap[w.heap.size]?=some (.cells kK 32 (0,0)):=aA▸zI _ _ _ zA2
  have rg1:=qb hr x1;clear aA kr hr;have gR:∀ W,qj.r w1 W->∀ i,W.cell? ⟨gb,i,none⟩=(jA (.slice E1 m1 e1) (.slice E2 m2 e2) (.slice E3 m3 e3) (.slice E4 m4 e4) g t n (.slice E5 m5 e5) er)[i]?:=fun W h=>qa (qb rg1 h);refine qp zQ ?_;refine qQ (w:=w1) qj (qH [(5,ZT)]) (List.replicate 6 true) 1 zQ zQ zQ zQ zQ zQ zQ ?st (Rel.drew _ _) ?walk
  case st=>exact qk (by simp only[List.forall_mem_cons];exact⟨ZG,fun _ h=>by cases h⟩)
  case walk =>
   intro K hK;dsimp only[qu,List.replicate];refine zC9 ?_;refine qy ZT zA0 zA0 (fun W hW _=>?_) (fun (p:Unit)=>?_)
   ·have hW:Ext w1 W:=hW;have r8:=qb ro1 hW;have k8:=qa r8;have f8:=qe r8;refine Ja ?_ (same8 r8);clear gR;go_simp
   refine zC9 ?_;refine qv (hK _ _ fun W hW hF=>?_);clear hF hK gR;have hW:Ext w1 W:=hW;refine zC3 ?_;have x2:Ext w W:=x1.trans hW;have ro2:=qb ro1 hW;go_wp2;refine Qr ?_;go_wp2_with fail;exact Un (b:=w.heap.size) rfl rfl rfl ro2 ⟨by rw[hE.out];rfl,x2⟩
section
variable {gb:Nat} {c0 c1 c2 c3 c4 c5 c6 c7:Value} {er:Int}
theorem qfY (lT:er≠0) (v:Vol) (w:World) (hr:w.heap[gb]?=some (.cells #[c0,c1,c2,c3,c4,c5,c6,c7,.int .i64 er] 123 (0,0))):Calls prog 78 #[.pointer (some ⟨gb,0,none⟩),jz v] w (Ret (.tuple #[]) w):=by
 have zg:=(zG.1 hr).1;have kr:=qa hr;have hb:(er == 0)=false:=by rw[beq_eq_false_iff_ne];exact lT
 clear lT hr;go_enter func78,ntmps78;go_wp2_with fail;go_end0;exact⟨rfl,zN _ _⟩
theorem qaZ (lT:er≠0) (v:Vol) (w:World) (hr:w.heap[gb]?=some (.cells #[c0,c1,c2,c3,c4,c5,c6,c7,.int .i64 er] 123 (0,0))):Calls prog 79 #[.pointer (some ⟨gb,0,none⟩),jz v] w (Ret (.tuple #[]) w):=by
 have zg:=(zG.1 hr).1;have kr:=qa hr;have hb:(er == 0)=false:=by rw[beq_eq_false_iff_ne];exact lT
 clear lT hr;go_enter func79,ntmps79;go_wp2_with fail;go_end0;exact⟨rfl,zN _ _⟩
end
theorem eight {W C:World} {b:Nat} {u0 u1 u2 u3 u4 u5 u6 u7 x0 x1 x2 x3 x4 x5 x6 x7:Value} {ty:TypeId} (rp:W.heap[b]?=some (.cells #[u0,u1,u2,u3,u4,u5,u6,u7] ty (0,0))) (hC:(((((((W.setCell ⟨b,0,none⟩ x0).setCell ⟨b,1,none⟩ x1).setCell ⟨b,2,none⟩ x2).setCell ⟨b,3,none⟩ x3).setCell ⟨b,4,none⟩ x4).setCell ⟨b,5,none⟩ x5).setCell ⟨b,6,none⟩ x6).setCell ⟨b,7,none⟩ x7=C):C.heap[b]?=some (.cells #[x0,x1,x2,x3,x4,x5,x6,x7] ty (0,0))/\(∀ k,k≠b->C.heap[k]?=W.heap[k]?)/\C.heap.size=W.heap.size/\∀ {B:Nat} {w0:World},B<=b->Below B w0 W->Below B w0 C:=by
 subst hC;exact⟨ji rp _ _ _ _ _ _ _ _,fun k hk=>jK hk _ _ _ _ _ _ _ _,zA2,fun hb h0=>QR h0 hb _ _ _ _ _ _ _ _⟩
def qhb (next:Int) (v:Vol) (fz:Bool) (id:Int):Vol:=⟨next,v.root,fz,id⟩
def kQ (S:Sto) (root next:Int) (dead:List Int) (id:Int) (fz:Bool) (er:Int):Prop:=(er=8/\QK S root next dead)\/∃ vs refs nodes,Qb S root next dead vs/\qR S (Qk root dead vs) refs nodes/\Qw S refs /\
 ((er=6/\Qs vs id=none)\/∃ v,Qs vs id=some v/\((er=9/\(16<=vs.length\/next=4294967295))\/Qp S v.root=er\/(Qp S v.root=0/\(Kk (Qj S v.root) root (next+1) dead (qhb next v fz id) er\/∃ r S' vs',vT (Qj S v.root) root (next+1) dead (qhb next v fz id) r S' vs'/\er=9/\zh S'≠0))))
def SnapOk (S:Sto) (root next:Int) (dead:List Int) (id:Int) (fz:Bool) (r:Nat) (S':Sto):Prop:=∃ vs refs nodes v vs',Qb S root next dead vs/\qR S (Qk root dead vs) refs nodes/\Qw S refs /\
 Qs vs id=some v/\vs.length<16/\next<4294967295/\Qp S v.root=0/\vT (Qj S v.root) root (next+1) dead (qhb next v fz id) r S' vs'/\zh S'=0
def SnapQ (S:Sto) (gen root next:Int) (dead:List Int) (id:Int) (fz:Bool) (w:World) (e:Ending) (w':World):Prop:=Below w.heap.size w w' /\
 ((∃ er,er≠0/\e=.returned (.tuple #[jb,.int .u32 0,.int .i64 er])/\kQ S root next dead id fz er) \/
  ∃ r S' u,SnapOk S root next dead id fz r S'/\e=.returned (.tuple #[u,.int .u32 next,.int .i64 0])/\jV w.heap.size S' gen (r:Int) (next+1) dead u w')
theorem kz {R:Ending->World->Prop} {a:Act} {W:World} {b:Nat} {x0 x1 x2 x3 x4 x5 x6 x7 u v:Value} (h4:a.tmps[6]?.getD undef=.pointer (some ⟨b,0,none⟩)) (h7:a.tmps[7]?.getD undef=u) (h5:a.tmps[8]?.getD undef=v) (hd:a.defers=[]) (aF:W.heap[b]?=some (.cells #[x0,x1,x2,x3,x4,x5,x6,x7] 32 (0,0))) (hR:R (.returned (.tuple #[.agg #[x0,x1,x2,x3,x4,x5,x6,x7],u,v])) W):bodyPost prog Tryz.f51 R .ret a W:=by
 refine bodyPost_ret (v:=.tuple #[.agg #[x0,x1,x2,x3,x4,x5,x6,x7],u,v]) ?_ hd hR;have k:=qa aF;simp[results,results51,go_sem,h4,h7,h5,k]
set_option maxRecDepth 100000 in
theorem qlb (A1 n1 c1 A2 n2 c2 A3 n3 c3 A4 n4 c4) (gen root next:Int) (A5 c5) (S:Sto) (dead:List Int) (id:Int) (fz:Bool) (hid:0<=id/\id<4294967296) (dX:0<=next/\next<4294967296) (w:World) (h:qV w w.heap.size (.slice A1 n1 c1) (.slice A2 n2 c2) (.slice A3 n3 c3) (.slice A4 n4 c4) S) (hd:Zv w w.heap.size (.slice A5 dead.length c5) dead):Calls prog 51 #[.agg (qF (.slice A1 n1 c1) (.slice A2 n2 c2) (.slice A3 n3 c3) (.slice A4 n4 c4) gen root next (.slice A5 dead.length c5)),.int .u32 id,.bool fz] w (SnapQ S gen root next dead id fz w):=by
 have HV:=zH (fun W (hx:Ext w W)=>qdp A1 n1 c1 A2 n2 c2 A3 n3 c3 A4 n4 c4 gen root next A5 c5 S dead W (h.ext hx) (hd.ext_ hx));have hJE:Hid (next<4294967295->IntKind.u32.wrap (next+1)=next+1):=zH fun h1=>by simp only[IntKind.wrap,IntKind.bits,IntKind.signed,Bool.false_and,Bool.false_eq_true,if_false];omega
 have hnxH:=zH dX;have pV:Hid (∀ v:Vol,JZ v->JZ (qhb next v fz id)):=zH fun v hv=>⟨dX,hv.2.1,hid⟩
 replace h:=zH h;replace hd:=zH hd;go_enter func51,ntmps51;go_wp2_with fail;generalize aA:World.alloc (World.alloc (World.alloc w _) _) _=w1;have x1:Ext w w1:=aA▸((zN _ _).trans (zN _ _)).trans (zN _ _)
 have rp1:w1.heap[w.heap.size]?=some (.cells (qF (.slice A1 n1 c1) (.slice A2 n2 c2) (.slice A3 n3 c3) (.slice A4 n4 c4) gen root next (.slice A5 dead.length c5)) 32 (0,0)):=aA▸(zK _ _ _ zA3).trans ((zK _ _ _ zA3).trans (zI _ _ _ rfl))
 have ro1:w1.heap[w.heap.size+1]?=some (.cells kK 32 (0,0)):=aA▸(zK _ _ _ zA3).trans (zI _ _ _ zA2)
 have rg1:w1.heap[w.heap.size+1+1]?=some (.cells (jA (.slice A1 n1 c1) (.slice A2 n2 c2) (.slice A3 n3 c3) (.slice A4 n4 c4) gen root next (.slice A5 dead.length c5) 0) 123 (0,0)):=aA▸zI _ _ _ zA2
 have s1:w1.heap.size=w.heap.size+3:=by rw[<-aA];simp
 clear aA;refine(qdr (w.heap.size+1+1) A1 n1 c1 A2 n2 c2 A3 n3 c3 A4 n4 c4 gen root next A5 c5 S dead id 0 w1 rg1 (h.out.ext x1) (hd.out.ext_ x1)).mono ?_;rintro e w2 ⟨u,er,rfl,hu,ht2,rg2⟩;have x2:Ext w w2:=ht2.below x1 zO zO;have rp2:=ht2.row rp1 zO;have ro2:=ht2.row ro1 zO;have s2:=ht2.size;clear rp1 ro1 rg1 ht2;obtain⟨ui,ur,uf,um⟩:=u;unfold jz;have kp2:=qa rp2;have zp2:=(zG.1 rp2).1;go_wp2_with fail;generalize aO:World.alloc w2 _=w3;have x23:Ext w2 w3:=aO▸zN _ _
 have x3:Ext w w3:=x2.trans x23;have rv3:w3.heap[w2.heap.size]?=some (.cells #[.int .u32 ui,.int .i64 ur,.bool uf,.int .u32 um] 36 (0,0)):=aO▸zI _ _ _ zA2
 have rp3:=qb rp2 x23;have ro3:=qb ro2 x23;have rg3:=qb rg2 x23;clear aO rp2 ro2 rg2 x23 kp2 zp2;refine(HV.out w3 x3).mono ?_;clear HV;rintro e w4 ⟨hB,hQ⟩;have x4:Ext w w4:=x3.trans hB;have rv4:=qb rv3 hB;have rp4:=qb rp3 hB;have ro4:=qb ro3 hB;have rg4:=qb rg3 hB;have kv4:=qa rv4;have kp4:=qa rp4;have ko4:=qa ro4;have kg4:=qa rg4;have fo4:=qe ro4;have fg4:=qe rg4;have zg4:w.heap.size+1+1<w4.heap.size:=(zG.1 rg4).1;clear hB rv3 rp3 ro3 rg3;by_cases h0:er=0
 case neg =>
  have hE:Hid (kQ S root next dead id fz er):=zH (by
   rcases hu with ⟨e1,_,hb⟩|⟨vs,refs,nodes,hp,hc,he,⟨e1,_,hv⟩|⟨e1,_⟩⟩
   ·exact .inl ⟨e1,hb⟩
   ·exact .inr ⟨vs,refs,nodes,hp,hc,he,.inl ⟨e1,hv⟩⟩
   ·exact absurd e1 h0)
  obtain⟨AV,nV,cV,ev,rfl⟩:∃ AV nV cV ev,e=.returned (.tuple #[.slice AV nV cV,.int .i64 ev]):=by
   rcases hQ with ⟨rfl,_⟩|⟨vs,refs,nodes,cb,ca,vv,lo,rfl,aQ,hT⟩
   ·exact⟨none,0,0,8,rfl⟩
   ·obtain⟨AV,cV,rfl,-,-⟩:=qE hT.own;exact⟨AV,_,cV,0,rfl⟩
  have b1:(er == 0)=false:=by rw[beq_eq_false_iff_ne];exact h0
  have b2:(er != 0)=true:=by rw[bne_iff_ne];exact h0
  have dP:=zH h0;clear hQ hu h0;go_wp2_with fail;refine(qfY dP.out ⟨ui,ur,uf,um⟩ w4 rg4).mono ?_;rintro e w5 ⟨rfl,hB⟩;have x5:Ext w w5:=x4.trans hB;have rv5:=qb rv4 hB;have rp5:=qb rp4 hB;have ro5:=qb ro4 hB;have rg5:=qb rg4 hB;have kv5:=qa rv5;have kp5:=qa rp5;have kg5:=qa rg5;have fg5:=qe rg5;clear hB rv4 rp4 ro4 rg4 kv4 kp4 ko4 kg4 fo4 fg4;go_wp2_with fail;generalize dS:World.setCell w5 _ _=w6;have x6:Ext w w6:=by rw[<-dS];exact Below.setCell x5 (p:=⟨w.heap.size+1+1,6,none⟩) zA1 _
  have rg6:=qi rg5 6 (.int .u32 ((next+1) % 4294967296));rw[dS] at rg6;have o6:∀ k,k≠w.heap.size+1+1->w6.heap[k]?=w5.heap[k]?:=fun k hk=>by rw[<-dS];exact zJ _ _ _ _ hk
  have ro6:=(o6 _ zO).trans ro5;clear dS kv5 kp5 kg5 fg5 rg5 rp5 rv5 o6;refine(qaZ dP.out ⟨next,ur,fz,id⟩ w6 rg6).mono ?_;rintro e w7 ⟨rfl,hB⟩;have x7:Ext w w7:=x6.trans hB;have ro7:=qb ro6 hB;have rg7:=qb rg6 hB;clear hB ro6 rg6;go_wp2_with fail;refine(vk (w.heap.size+1+1) ⟨A1,n1,c1,A2,n2,c2,A3,n3,c3,A4,n4,c4,gen,root,(next+1) % 4294967296,A5,dead.length,c5⟩ er S w7 rg7 (fun h=>absurd h dP.out)).mono ?_;rintro e we ⟨rfl,dD⟩;have xe:Ext w we:=x7.trans dD;have roe:=qb ro7 dD;have koe:=qa roe;have foe:=qe roe;rw[(show JY ⟨A1,n1,c1,A2,n2,c2,A3,n3,c3,A4,n4,c4,gen,root,(next+1) % 4294967296,A5,dead.length,c5⟩ er S=.tuple #[jb,.int .i64 er] by unfold JY;rw[if_pos dP.out])];clear dD;go_wp2_with fail;exact kz (b:=w.heap.size+1) rfl rfl rfl rfl (ji (ji roe _ _ _ _ _ _ _ _) _ _ _ _ _ _ _ _) ⟨QR (QR xe zO _ _ _ _ _ _ _ _) zO _ _ _ _ _ _ _ _,.inl ⟨er,dP.out,rfl,hE.out⟩⟩
 case pos =>
  subst h0;obtain⟨vs,refs,nodes,hp,hc,he,hv⟩:∃ vs refs nodes,Qb S root next dead vs/\qR S (Qk root dead vs) refs nodes/\Qw S refs/\Qs vs id=some ⟨ui,ur,uf,um⟩:=by
   rcases hu with ⟨h,_⟩|⟨vs,refs,nodes,hp,hc,he,⟨h,_⟩|⟨_,hv⟩⟩
   ·cases h
   ·cases h
   ·exact⟨vs,refs,nodes,hp,hc,he,hv⟩
  clear hu;rcases hQ with ⟨rfl,ai⟩|⟨vs',refs',nodes',cb,ca,vv,lo,rfl,aQ,hT⟩
  case inl=>exact(QK.no ai hp hc he).elim
  case inr =>
   obtain⟨rfl,rfl,-⟩:=Qb.unique hp hc hT.pool hT.cnt;obtain⟨AV,cV,rfl,-,-⟩:=qE hT.own;have hE:Hid (∀ er,((er=9/\(16<=vs'.length\/next=4294967295))\/Qp S ur=er\/(Qp S ur=0/\(Kk (Qj S ur) root (next+1) dead ⟨next,ur,fz,id⟩ er\/∃ r S' vs',vT (Qj S ur) root (next+1) dead ⟨next,ur,fz,id⟩ r S' vs'/\er=9/\zh S'≠0)))->kQ S root next dead id fz er):=zH fun er hh=>.inr ⟨vs',refs',nodes,hp,hc,he,.inr ⟨_,hv,hh⟩⟩;have hvk:Hid (JZ ⟨next,ur,fz,id⟩):=zH (pV.out _ (Gd hp _ (jI hv)));have iK:Hid (okL S (-1) ur=true):=zH (hp.ok ur (by unfold Za;exact List.mem_append_right _ (List.mem_map.2 ⟨_,jI hv,rfl⟩)));replace hp:=zH hp;replace hc:=zH hc;replace he:=zH he;replace hv:=zH hv;clear hT aQ pV;by_cases hl:16<=vs'.length
   ·have hE9:Hid (kQ S root next dead id fz 9):=zH (hE.out 9 (.inl ⟨rfl,.inl hl⟩));have d1:decide ((vs'.length:Int)≥16)=true:=decide_eq_true zO;replace hl:=zH hl;go_wp2_with fail;exact kz (b:=w.heap.size+1) rfl rfl rfl rfl (ji ro4 _ _ _ _ _ _ _ _) ⟨QR x4 zO _ _ _ _ _ _ _ _,.inl ⟨9,zD,rfl,hE9.out⟩⟩
   ·have d1:decide ((vs'.length:Int)≥16)=false:=decide_eq_false zO;have ug:Hid (vs'.length<16):=zH zO;replace hl:=zH hl;by_cases hm:next=4294967295
    ·have hE9:Hid (kQ S root next dead id fz 9):=zH (hE.out 9 (.inl ⟨rfl,.inr hm⟩));have d3:(next == 4294967295)=true:=by rw[beq_iff_eq];exact hm
     replace hm:=zH hm;go_wp2_with fail;exact kz (b:=w.heap.size+1) rfl rfl rfl rfl (ji ro4 _ _ _ _ _ _ _ _) ⟨QR x4 zO _ _ _ _ _ _ _ _,.inl ⟨9,zD,rfl,hE9.out⟩⟩
    ·have d3:(next == 4294967295)=false:=by rw[beq_eq_false_iff_ne];exact hm
     have hnl:next<4294967295:=by have:=hnxH.out;omega
     have aA:=hJE.out hnl;replace hm:=zH hm;replace hnl:=zH hnl;go_wp2_with fail;refine(qds (w.heap.size+1+1) A1 n1 c1 A2 n2 c2 A3 n3 c3 A4 n4 c4 gen root next (.slice A5 dead.length c5) S ⟨ui,ur,uf,um⟩ w4 rg4 (h.out.ext x4)).mono ?_;rintro e w5 ⟨rfl,ht5,hQ⟩;have x5:Ext w w5:=ht5.below x4 zO x4.size;have rv5:=ht5.row rv4 zO;have rp5:=ht5.row rp4 zO;have ro5:=ht5.row ro4 zO;have kv5:=qa rv5;have kp5:=qa rp5;clear ht5 rv4 rp4 ro4 rg4 kv4 kp4 ko4 kg4 fo4 fg4;by_cases h0:Qp S ur=0
     case neg =>
      have hq:KF S ur=.error (Qp S ur):=by unfold KF;rw[if_neg h0]
      simp only[hq] at hQ;have gG:Hid (kQ S root next dead id fz (Qp S ur)):=zH (hE.out _ (.inr (.inl rfl)));generalize Qp S ur=er at *;have kg5:=qa hQ;have fg5:=qe hQ;have dP:=zH h0;clear h0 hq;go_wp2_with fail;generalize dS:World.setCell w5 _ _=w6;have x6:Ext w w6:=by rw[<-dS];exact Below.setCell x5 (p:=⟨w.heap.size+1+1,6,none⟩) zA1 _
      have rg6:=qi hQ 6 (.int .u32 (next+1));rw[dS] at rg6;have o6:∀ k,k≠w.heap.size+1+1->w6.heap[k]?=w5.heap[k]?:=fun k hk=>by rw[<-dS];exact zJ _ _ _ _ hk
      have ro6:=(o6 _ zO).trans ro5;clear dS kv5 kp5 kg5 fg5 hQ rp5 rv5 o6;refine(qaZ dP.out ⟨next,ur,fz,id⟩ w6 rg6).mono ?_;rintro e w7 ⟨rfl,hB⟩;have x7:Ext w w7:=x6.trans hB;have ro7:=qb ro6 hB;have rg7:=qb rg6 hB;clear hB ro6 rg6;go_wp2_with fail;refine(vk (w.heap.size+1+1) ⟨none,0,0,none,0,0,none,0,0,none,0,0,gen,root,next+1,A5,dead.length,c5⟩ er S w7 rg7 (fun h=>absurd h dP.out)).mono ?_;rintro e we ⟨rfl,dD⟩;have xe:Ext w we:=x7.trans dD;have roe:=qb ro7 dD;have koe:=qa roe;have foe:=qe roe;rw[(show JY ⟨none,0,0,none,0,0,none,0,0,none,0,0,gen,root,next+1,A5,dead.length,c5⟩ er S=.tuple #[jb,.int .i64 er] by unfold JY;rw[if_pos dP.out])];have hneb:(er != 0)=true:=by rw[bne_iff_ne];exact dP.out
      clear dD;go_wp2_with fail;exact kz (b:=w.heap.size+1) rfl rfl rfl rfl (ji (ji roe _ _ _ _ _ _ _ _) _ _ _ _ _ _ _ _) ⟨QR (QR xe zO _ _ _ _ _ _ _ _) zO _ _ _ _ _ _ _ _,.inl ⟨er,dP.out,rfl,gG.out⟩⟩
     case pos =>
      have hq:KF S ur=.ok (Qj S ur):=by unfold KF;rw[if_pos h0]
      simp only[hq] at hQ;obtain⟨y0,y1,y2,y3,rg5,uP⟩:=hQ;obtain⟨hSm,xm,lu⟩:=Uo h0;obtain⟨BB,WW,gg,B3,d3',B4,d4',e9,-⟩:=_root_.id uP;simp only[Value.agg.injEq,Array.mk.injEq,List.cons.injEq,and_true] at e9;obtain⟨rfl,rfl,rfl,rfl⟩:=e9;have mX:=zH (JT (uP.newSto (QV lu)));have cO:=zH (xm.okL iK.out);have kg5:=qa rg5;have fg5:=qe rg5;have zg5:w.heap.size+1+1<w5.heap.size:=(zG.1 rg5).1;have dP:=zH h0;clear h0 hq uP hSm xm lu;go_wp2_with fail;generalize dS:World.setCell w5 _ _=w6;have x6:Ext w w6:=by rw[<-dS];exact Below.setCell x5 (p:=⟨w.heap.size+1+1,6,none⟩) zA1 _
      have rg6:=qi rg5 6 (.int .u32 (next+1));rw[dS] at rg6;have z6:w6.heap.size=w5.heap.size:=by rw[<-dS];simp
      have o6:∀ k,k≠w.heap.size+1+1->w6.heap[k]?=w5.heap[k]?:=fun k hk=>by rw[<-dS];exact zJ _ _ _ _ hk
      have ro6:=(o6 _ zO).trans ro5;have rp6:=(o6 _ zO).trans rp5;have tK:=(mX.out w6 (Jh fun k h1 h2=>o6 k zO)).more (show w5.heap.size<=w6.heap.size by omega);refine(qgb (w.heap.size+1+1) (some ⟨BB,0,none⟩) (Qj S ur).bs.length (Qj S ur).bs.length (some ⟨WW,0,none⟩) (Qj S ur).ws.length ((Qj S ur).ws.length+1) B3 (Qj S ur).now.length d3' B4 (Qj S ur).last.length d4' gen root (next+1) A5 c5 (Qj S ur) dead ⟨next,ur,fz,id⟩ hvk.out (fun _ _ _=>cO.out) w6 rg6 tK (hd.out.ext_ x6)).mono ?_;rintro e w7 ⟨rfl,ht7,p,er,rg7,hR⟩;have x7:Ext w w7:=ht7.below x6 zO x6.size;have ro7:=ht7.row ro6 zO;have rp7:=ht7.row rp6 zO;clear dS kv5 kp5 kg5 fg5 rg5 rp5 rv5 o6 mX ht7 ro6 rp6 rg6 tK cO;go_wp2_with fail;rcases hR with ⟨aG,rfl,hSE⟩|⟨rfl,r,S9,vs9,hO,hN⟩
      ·have gG:Hid (kQ S root next dead id fz er):=zH (hE.out er (.inr (.inr ⟨dP.out,.inl hSE⟩)));have hneb:(er != 0)=true:=by rw[bne_iff_ne];exact aG
       refine(vk (w.heap.size+1+1) PV.zero er S w7 rg7 (fun h=>absurd h aG)).mono ?_;have iU:=zH aG;have hev:JY PV.zero er S=.tuple #[jb,.int .i64 er]:=by unfold JY;rw[if_pos aG]
       rw[hev];clear hev hSE aG;rintro e we ⟨rfl,dD⟩;have xe:Ext w we:=x7.trans dD;have roe:=qb ro7 dD;have koe:=qa roe;have foe:=qe roe;clear dD;go_wp2_with fail;exact kz (b:=w.heap.size+1) rfl rfl rfl rfl (ji (ji roe _ _ _ _ _ _ _ _) _ _ _ _ _ _ _ _) ⟨QR (QR xe zO _ _ _ _ _ _ _ _) zO _ _ _ _ _ _ _ _,.inl ⟨er,iU.out,rfl,gG.out⟩⟩
      ·obtain⟨E1,m1,e1,E2,m2,e2,E3,m3,e3,E4,m4,e4,g9,t9,n9,E5,m5,e5⟩:=p;obtain⟨F1,f1,F2,f2,F3,f3,F4,f4,F5,f5,ee,aH,hin⟩:=hN.sto;simp only[PV.cs,qF,Value.agg.injEq,Array.mk.injEq,List.cons.injEq,Value.slice.injEq,Value.int.injEq,true_and,and_true] at ee;obtain⟨⟨rfl,rfl,rfl⟩,⟨rfl,rfl,rfl⟩,⟨rfl,rfl,rfl⟩,⟨rfl,rfl,rfl⟩,rfl,rfl,rfl,rfl,rfl,rfl⟩:=ee;refine(vk (w.heap.size+1+1) _ 0 S9 w7 rg7 (fun _=>aH)).mono ?_;replace hO:=zH hO;replace hN:=zH hN;clear aH hin;by_cases hrm:zh S9=0
       case neg =>have gG:Hid (kQ S root next dead id fz 9):=zH (hE.out 9 (.inr (.inr ⟨dP.out,.inr ⟨_,S9,vs9,hO.out,rfl,hrm⟩⟩)));rw[show JY _ 0 S9=.tuple #[jb,.int .i64 9] by unfold JY;rw[if_neg zA2,if_neg hrm]];replace hrm:=zH hrm;rintro e we ⟨rfl,dD⟩;have xe:Ext w we:=x7.trans dD;have roe:=qb ro7 dD;have koe:=qa roe;have foe:=qe roe;clear dD;go_wp2_with fail;exact kz (b:=w.heap.size+1) rfl rfl rfl rfl (ji (ji roe _ _ _ _ _ _ _ _) _ _ _ _ _ _ _ _) ⟨QR (QR xe zO _ _ _ _ _ _ _ _) zO _ _ _ _ _ _ _ _,.inl ⟨9,zD,rfl,gG.out⟩⟩
       case pos =>
        rw[show JY _ 0 S9=.tuple #[.agg (PV.cs _),.int .i64 0] by unfold JY;rw[if_neg zA2,if_pos hrm]];have hIW:=zH hrm;clear hrm;rintro e we ⟨rfl,dD⟩;have xe:Ext w we:=x7.trans dD;have x7e:Ext w7 we:=dD;have roe:=qb ro7 dD;have rpe:=qb rp7 dD;have koe:=qa roe;have foe:=qe roe;have se:=dD.size;clear dD ro7 rp7 rg7;simp only[PV.cs];go_upto_region 12 with fail;generalize xy:World.setCell (World.setCell (World.setCell (World.setCell (World.setCell (World.setCell (World.setCell (World.setCell we _ _) _ _) _ _) _ _) _ _) _ _) _ _) _ _=w8;obtain⟨ro8,o8,s8,b8⟩:=eight roe xy;have x8:Ext w w8:=b8 zO xe;have rp8:=(o8 w.heap.size zO).trans rpe;clear xy koe foe roe rpe b8;have gO:∀ W,qj.r w8 W->_:=fun W h=>qa (qb ro8 h);have gP:∀ W,qj.r w8 W->_:=fun W h=>qa (qb rp8 h);refine qp zQ ?_;refine qQ (w:=w8) qj (qH [(3,ZT)]) (List.replicate 4 true) 2 zQ zQ zQ zQ zQ zQ zQ ?st (Rel.drew _ _) ?walk
        case st=>exact qk (by simp only[List.forall_mem_cons];exact⟨ZG,fun _ h=>by cases h⟩)
        case walk =>
         intro K hK;dsimp only[qu,List.replicate];refine zD0 ?_;refine qy ZT zA0 zA0 (fun W hW _=>?_) (fun (p:Unit)=>?_)
         ·have hW:Ext w8 W:=hW;have r8:=qb ro8 hW;have k8:=qa r8;have f8:=qe r8;refine Ja ?_ (same8 r8);clear gO gP;go_simp
         refine zD0 ?_;refine qv (hK _ _ fun W hW hF=>?_);clear hF hK gO gP;have hW:Ext w8 W:=hW;refine zC3 ?_;have x9:Ext w W:=x8.trans hW;have ro9:=qb ro8 hW;have s9:=hW.size;have hk:∀ k,w6.heap.size<=k->k<w7.heap.size->W.heap[k]?=w7.heap[k]?:=fun k h1 h2=>(Below.block hW k zO).trans ((o8 k zO).trans (Below.block x7e k h2));replace hk:=zH hk;clear o8;go_wp2;refine Qr ?_;go_wp2_with fail;exact kz (b:=w.heap.size+1) rfl rfl rfl rfl ro9 ⟨x9,.inr ⟨_,S9,_,⟨vs',refs',nodes,_,vs9,hp.out,hc.out,he.out,hv.out,ug.out,hnl.out,dP.out,hO.out,hIW.out⟩,rfl,hN.out.keep x6.size zO hk.out⟩⟩
abbrev X3:Type:=It×OA×Nat
abbrev JD (x:X3):Value:=.slice x.2.1 x.1.val.length x.2.2
abbrev encX (x:X3):Value:=.agg (VU x.1 x.2.1 x.2.2)
structure ZN (M:World->Nat->Prop) (W W':World):Prop where
 os:W'.os=W.os
 tape:W'.tape=W.tape
 output:W'.output=W.output
 size:W.heap.size<=W'.heap.size
 same:∀ b,b<W.heap.size->¬M W b->W'.heap[b]?=W.heap[b]?/\¬M W' b
theorem ZN.refl (M:World->Nat->Prop) (W:World):ZN M W W:=⟨rfl,rfl,rfl,zM _,fun _ _ h=>⟨rfl,h⟩⟩
theorem ZN.trans {M:World->Nat->Prop} {A B C:World} (h:ZN M A B) (k:ZN M B C):ZN M A C:=
 ⟨k.os.trans h.os,k.tape.trans h.tape,k.output.trans h.output,Nat.le_trans h.size k.size,fun b hb hm=>by obtain⟨e1,m1⟩:=h.same b hb hm;obtain⟨e2,m2⟩:=k.same b (Nat.lt_of_lt_of_le hb h.size) m1;exact⟨e2.trans e1,m2⟩⟩
theorem ZN.row {M:World->Nat->Prop} {W W':World} (h:ZN M W W') {b:Nat} {o:Obj} (hm:¬M W b) (hr:W.heap[b]?=some o):W'.heap[b]?=some o:=(h.same b (zG.1 hr).1 hm).1.trans hr
theorem ZN.cell {M:World->Nat->Prop} {W W':World} (h:ZN M W W') {p:Addr} (hb:p.block<W.heap.size) (hm:¬M W p.block):W'.cell? p=W.cell? p:=World.cell?_of_block (h.same _ hb hm).1
theorem ZN.below {M:World->Nat->Prop} {W W':World} {B:Nat} (h:ZN M W W') (hB:B<=W.heap.size) (hl:∀ b,b<B->¬M W b):Below B W W':=⟨h.os,h.tape,h.output,h.size,fun k hk=>(h.same k zO (hl k hk)).1⟩
structure FctX (M:World->Nat->Prop) (lo:Nat) (x:X3) (W:World):Prop where
 by_:Bys W W.heap.size (JD x) x.1.val
 fr:Zu lo (JD x)
 own:∀ b o,x.2.1=some ⟨b,o,none⟩->0<x.1.val.length->¬M W b
 nz:Nz W (JD x)
theorem FctX.kept {M:World->Nat->Prop} {lo:Nat} {x:X3} {W W':World} (h:FctX M lo x W) (hk:ZN M W W'):FctX M lo x W':=by
 have hblk:∀ b o,x.2.1=some ⟨b,o,none⟩->0<x.1.val.length->b<W.heap.size:=fun b o e hp=>by obtain⟨A,c,e1,e2,e3,hr⟩:=h.by_;obtain⟨b',off,e4,e5,-⟩:=hr.2 hp;simp only[JD,Value.slice.injEq] at e1;rw[e,e4] at e1;simp only[Option.some.injEq,Addr.mk.injEq] at e1;omega
 refine⟨?_,h.fr,fun b o e hp=>(hk.same b (hblk b o e hp) (h.own b o e hp)).2,fun a n c e hn=>?_⟩
 case refine_2 =>
  obtain⟨cs,ty,hr⟩:=h.nz a n c e hn;obtain⟨A,c',e1,e2,e3,h4⟩:=h.by_;simp only[JD,Value.slice.injEq] at e e1;obtain⟨b',off,e4,-,-⟩:=h4.2 zO;have e5:a=⟨b',off,none⟩:=by
   have:some a=some ⟨b',off,none⟩:=by rw[<-e.1,e1.1,e4]
   exact Option.some.inj this
  subst e5;exact⟨cs,ty,(hk.row (h.own b' off e.1 zO) hr)⟩
 obtain⟨A,c,e1,e2,e3,hr⟩:=h.by_;refine⟨A,c,e1,e2,e3,hr.1,fun hp=>?_⟩;obtain⟨b',off,e4,e5,e6⟩:=hr.2 hp;have e7:x.2.1=A:=by simp only[JD,Value.slice.injEq] at e1;exact e1.1
 refine⟨b',off,e4,by have:=hk.size;omega,fun j u hu=>?_⟩;rw[hk.cell (p:=⟨b',off+j,none⟩) e5 (h.own b' off (e7.trans e4) hp)];exact e6 j u hu
structure Ue (lo:Nat) (M:World->Nat->Prop) (J Jx:List X3->World->Prop) (l N:Nat):Prop where
 low:∀ W b,M W b->lo<=b
 lt:∀ pre W b,J pre W->M W b->b<W.heap.size
 ext:∀ pre W W',J pre W->Ext W W'->J pre W'/\∀ b,M W' b->M W b
 yld:∀ m pre x W,J pre W->FctX M lo x W->pre.length<N->YieldAt Fence.wide m prog l #[encX x] W fun e W'=>(e=.returned (.bool true)/\J (pre++[x]) W'/\ZN M W W')\/(e=.returned (.bool false)/\Jx (pre++[x]) W')
theorem Ue.kept {lo l N:Nat} {M:World->Nat->Prop} {J Jx:List X3->World->Prop} (H:Ue lo M J Jx l N) {pre:List X3} {W W':World} (hJ:J pre W) (hx:Ext W W'):ZN M W W':=
 ⟨hx.os,hx.tape,hx.output,hx.size,fun b hb hm=>⟨hx.block b hb,fun h=>hm ((H.ext pre W W' hJ hx).2 b h)⟩⟩
theorem Ue.new {lo l N:Nat} {M:World->Nat->Prop} {J Jx:List X3->World->Prop} (H:Ue lo M J Jx l N) {pre:List X3} {W W':World} (hJ:J pre W) (hx:Ext W W') {b:Nat} (hb:W.heap.size<=b):¬M W' b:=fun h=>by have:=H.lt pre W b hJ ((H.ext pre W W' hJ hx).2 b h);omega
structure EnvX (S:Sto) (K:K3) (M:World->Nat->Prop) (l bB bF bY bD bb:Nat) (v1 v2 v3 v4:Value) (W:World):Prop where
 b:W.heap[bB]?=some (.cells #[.pointer (some ⟨bb,0,none⟩)] 92 (0,0))
 f:W.heap[bF]?=some (.cells #[.int .u8 K.1,.int .u32 K.2.1,.int .u32 K.2.2] 49 (0,0))
 y:W.heap[bY]?=some (.cells #[.func (.yield l) #[] #[]] 249 (0,0))
 d:W.heap[bD]?=some (.cells #[.func (.func 179) #[] #[.pointer (some ⟨bB,0,none⟩),.pointer (some ⟨bF,0,none⟩),.pointer (some ⟨bY,0,none⟩),.pointer (some ⟨bD,0,none⟩)]] 250 (0,0))
 on:OnB 0 bb v1 v2 v3 v4 S W
def qff (M:World->Nat->Prop) (J Jx:List X3->World->Prop) (pre:List X3) (zs:List It) (W:World) (e:Ending) (W':World):Prop:=
 (e=.returned (.bool true)/\∃ ys:List X3,ys.map (·.1)=zs/\J (pre++ys) W'/\ZN M W W')\/(e=.returned (.bool false)/\∃ (ys:List X3) (rest:List It),ys.map (·.1)++rest=zs/\Jx (pre++ys) W')
def DownC (S:Sto) (K:K3) (M:World->Nat->Prop) (J Jx:List X3->World->Prop) (N bB bF bY bD:Nat) (E:World->Prop) (h:Nat):Prop:=
 ∀ (a:Nat) (xs:List It) (pre:List X3) (W:World),8<=a->a<256->qt S a=some ((h:Int),xs)->(qD S h xs).isSome=true->J pre W->E W->pre.length+(QT S h K xs).length<=N ->
  Calls prog 179 #[.int .i64 (a:Int),.pointer (some ⟨bB,0,none⟩),.pointer (some ⟨bF,0,none⟩),.pointer (some ⟨bY,0,none⟩),.pointer (some ⟨bD,0,none⟩)] W (qff M J Jx pre (QT S h K xs) W)
theorem qko (S:Sto) (K:K3) (x:It):QT S 0 K [x]=if qP (qo x) K=true then [] else [x]:=by
 unfold QT;show [x].filter _=_;by_cases h:qP (qo x) K=true
 ·rw[if_pos h];simp[h]
 ·rw[if_neg h];simp[h]
theorem qkp {S:Sto} {K:K3} {h:Nat} {x:It} {lvl:Int} {ys:List It} (hn:qt S x.r.toNat=some (lvl,ys)):QT S (h+1) K [x]=QT S h K ys:=by unfold QT;rw[zy];simp[hn]
theorem qkr {S:Sto} {h:Nat} {K:K3} {xs:List It} {k:Nat} (hk:k<xs.length):QT S h K (xs.take (k+1))=QT S h K (xs.take k)++QT S h K [xs[k]]:=by rw[List.take_succ_eq_append_getElem hk,qaj]
theorem qhQ {S:Sto} {h:Nat} {K:K3} {xs:List It} (k:Nat):∃ r,QT S h K (xs.take k)++r=QT S h K xs:=⟨QT S h K (xs.drop k),by rw[<-qaj,List.take_append_drop]⟩
theorem from_nil (S:Sto) (h:Nat) (K:K3):QT S h K []=[]:=by unfold QT;rw[JS];rfl
theorem its_fct {w:World} {lo b off n c:Nat} {xs:List It} (h:ZL lo w (.slice (some ⟨b,off,none⟩) n c) xs) (hz:NzI w (.slice (some ⟨b,off,none⟩) n c)) (i:Nat) (hi:i<xs.length) : ∃ A' c',ItAt w w.heap.size b (off+i*5) xs[i] A' c'/\Zu lo (.slice A' xs[i].val.length c')/\Nz w (.slice A' xs[i].val.length c'):=by
 have hn:n=xs.length:=h.its.at_.1;obtain⟨ps,rfl,⟨A,c1,e,_,_,hr⟩,hp,hf,hg⟩:=h;cases e;have fP:i<ps.length:=by simpa using hi
 obtain⟨b',off',e,hb,hc⟩:=hr.2 zO;cases e;obtain⟨c0,c1,c2,c3,c4⟩:=vD ps i fP;have hgi:=hg ps[i] (List.getElem_mem fP);obtain⟨⟨A',c',e5⟩,aS⟩:=hp ps[i] (List.getElem_mem fP);rw[e5] at c4 aS hgi;simp only[List.getElem_map];have c4':=hc _ _ c4;rw[<-Nat.add_assoc] at c4';refine⟨A',c',⟨hc _ _ c0,?_,?_,?_,c4',aS⟩,hgi,hz b off _ _ i _ rfl zO c4'⟩
 ·rw[Nat.add_assoc];exact hc _ _ c1
 ·rw[Nat.add_assoc];exact hc _ _ c2
 ·rw[Nat.add_assoc];exact hc _ _ c3
end Go.Proofs.YtmeadnlmepcmbaaGreat
namespace Go.Proofs.YtmeadnlmepcmbaaGreat
open Go.RowKit Go.Shelf
attribute [local go_sem] Oper.semAt_some
theorem Um {R:Ending->World->Prop} {a:Act} {W:World} {b:Bool} (h6:a.tmps[6]?.getD undef=.bool b) (hd:a.defers=[]) (hR:R (.returned (.bool b)) W):bodyPost prog Tryz.f179 R .ret a W:=by refine bodyPost_ret (v:=.bool b) ?_ hd hR;simp[results,results179,go_sem,h6]
theorem qll {k j:Nat} (hj:j=k+1) (hk:k<1000):wrap64 ((k:Int)+1)=(j:Int)/\IntKind.i64.wrap ((k:Int)+1)=(j:Int):=
 ⟨by rw[IntWalk.wrap64_in _ zO,hj];rfl,by rw[IntWalk.i64_in _ zO,hj];rfl⟩
set_option maxRecDepth 100000 in
theorem qfS (S:Sto) (hS:ql S=true) (k i o:Int) (lo l N bB bF bY bD bb:Nat) (M:World->Nat->Prop) (J Jx:List X3->World->Prop) (A1 n1 c1 A2 n2 c2 A3 n3 c3 A4 n4 c4) (E:World->Prop) (HC:Ue lo M J Jx l N) (HE:∀ W,E W->EnvX S (k,i,o) M l bB bF bY bD bb (.slice A1 n1 c1) (.slice A2 n2 c2) (.slice A3 n3 c3) (.slice A4 n4 c4) W) (HEk:∀ W W',E W->ZN M W W'->E W') (HEl:∀ W,E W->lo<=W.heap.size) (h:Nat) (HW:∀ h':Nat,h=h'+1->DownC S (k,i,o) M J Jx N bB bF bY bD E h'):DownC S (k,i,o) M J Jx N bB bF bY bD E h:=by
 intro a xs pre w ha ak hn aN hJ hE hN;have lg:=HE w hE;have pq:=qbq 0 bb A1 n1 c1 A2 n2 c2 A3 n3 c3 A4 n4 c4 S hS a ha ak w lg.on;rw[hn] at pq;obtain⟨hm1,iw,-⟩:=qM hn;have yB:xs.length<=5:=by unfold Qf ja at hm1;simp at hm1;omega
 have kB:=qa lg.b;have HP:=zH (fun j (hj:j+1<xs.length) (hl:qP (k,i,o) (qo xs[j+1])=false)=>qkq aN hj hl);have HT:=zH (fun h' (e:h=h'+1) y (hy:y∈xs)=>ZF (S:=S) (h:=h') (y:=y) (by have:=ZU aN y hy;rw[e] at this;exact this));replace aN:=zH aN;replace HC:=zH HC;replace HE:=zH HE;replace HEk:=zH HEk;replace HEl:=zH (HEl w hE);replace HW:=zH HW;replace hJ:=zH hJ;replace hE:=zH hE;replace hN:=zH hN;clear hm1 iw hn lg;go_enter func179,ntmps179;go_wp2_with fail;refine pq.mono ?_;clear pq kB;rintro e w1 ⟨u,rfl,⟨A9,c9,rfl,aK,nzi⟩,hB⟩;have x1:Ext w w1:=hB;have hA:=aK.its.at_.2.2.2;have hAM:∀ b off n c,Value.slice A9 xs.length c9=.slice (some ⟨b,off,none⟩) n c->0<n->b<w1.heap.size:=fun b off n c e hn=>by simp only[Value.slice.injEq] at e;obtain⟨b6,o6,e6,e7⟩:=hA zO;rw[e.1] at e6;simp only[Option.some.injEq,Addr.mk.injEq] at e6;omega
 replace hAM:=zH hAM;replace nzi:=zH nzi;replace aK:=zH aK;replace x1:=zH x1;clear hB;go_wp2_with fail;generalize bP:(World.alloc w1 _)=w2;have x2:Ext w w2:=by rw[<-bP];exact x1.out.trans (zN _ _)
 have rn2:w2.heap[w1.heap.size]?=some (.cells #[.int .i64 h,.slice A9 xs.length c9] 113 (0,0)):=bP▸zI _ _ _ rfl
 have sH:ZL w.heap.size w2 (.slice A9 xs.length c9) xs:=by rw[<-bP];exact aK.out.ext (zN _ _)
 have nzi2:NzI w2 (.slice A9 xs.length c9):=by rw[<-bP];exact nzi.out.ext (zN _ _) hAM.out
 have hsz:w.heap.size<=w1.heap.size:=x1.out.size;have aW:w2.heap.size=w1.heap.size+1:=by rw[<-bP];simp
 have J2:=zH ((HC.out.ext _ _ _ hJ.out x2).1);have K2:=zH (HC.out.kept hJ.out x2);have E2:=zH (HEk.out _ _ hE.out K2.out);have N2:=zH (fun b (hb:w.heap.size<=b)=>HC.out.new hJ.out x2 hb);have kn2:=qa rn2;replace sH:=zH sH;replace nzi2:=zH nzi2;replace hsz:=zH hsz;replace aW:=zH aW;replace rn2:=zH rn2;replace x2:=zH x2;clear bP;go_wp2_with fail;go_loopw [21] (fun iv wr=>∃ (kk:Nat) (ys:List X3),kk<=xs.length/\iv=.int .i64 (kk:Int)/\ys.map (·.1)=QT S h (k,i,o) (xs.take kk)/\J (pre++ys) wr/\E wr/\ZN M w2 wr) (fun iv _=>xs.length-(intOf iv).toNat)
 case atStart=>exact⟨0,[],zO,rfl,by rw[List.take_zero,from_nil];rfl,by rw[List.append_nil];exact J2.out,E2.out,ZN.refl _ _⟩
 case round =>
  obtain⟨kk,ys,hk,rfl,eQ,uK,gG,wo⟩:=hrel;clear kn2;by_cases hlt:kk<xs.length
  ·have aI:=hlt;obtain⟨b,off,rfl,hb⟩:=hA zO;have cZ:w.heap.size<=b:=Xk sH.out b off xs.length c9 0 rfl zO;have iG:=N2.out b cZ;have rV:b<w2.heap.size:=by have:=aW.out;omega
   obtain⟨A',c',⟨d0,d1,d2,d3,d4,aS⟩,hfr,lH⟩:=its_fct sH.out nzi2.out kk aI;have ah:∀ j,wr.cell? ⟨b,j,none⟩=w2.cell? ⟨b,j,none⟩:=fun j=>wo.cell (p:=⟨b,j,none⟩) rV iG;rw[<-ah] at d0 d1 d2 d3 d4;have hF:FctX M lo (xs[kk],A',c') wr:=FctX.kept ⟨aS,hfr.mono HEl.out,fun b' o' e _=>N2.out b' (hfr ⟨b',o',none⟩ _ _ (by rw[show A'=some ⟨b',o',none⟩ from e])),lH⟩ wo;have hrn:=wo.row (N2.out _ hsz.out) rn2.out;have lg:=HE.out wr gG;have lX:=qkr (S:=S) (h:=h) (K:=(k,i,o)) aI;obtain⟨rest,iJ⟩:=qhQ (S:=S) (h:=h) (K:=(k,i,o)) (xs:=xs) (kk+1);have hlen:=hN.out;rw[<-iJ,lX,List.length_append,List.length_append,<-eQ,List.length_map] at hlen;have hTx:=fun h' e=>HT.out h' e xs[kk] (List.getElem_mem aI);have hPx:=HP.out kk;have kn:=qa hrn;have kf:=qa lg.f;have zn:w1.heap.size<wr.heap.size:=(zG.1 hrn).1;have zf:bF<wr.heap.size:=(zG.1 lg.f).1;replace lg:=zH lg;have HCL:=zH ah;clear ah aS hfr lH iG rV cZ;replace hTx:=zH hTx;replace hPx:=zH hPx;replace lX:=zH lX;replace iJ:=zH iJ;replace hlen:=zH hlen;replace hF:=zH hF;replace eQ:=zH eQ;replace uK:=zH uK;replace gG:=zH gG;replace wo:=zH wo;replace hrn:=zH hrn;rcases Nat.eq_zero_or_pos h with h0|h0
   ·have hh1:((h:Int) == 0)=true:=by rw[beq_iff_eq];omega
    have hone:=qko S (k,i,o) xs[kk];rw[<-h0] at hone;clear hPx hTx HW HP HT;generalize xs[kk]=x at *;replace hone:=zH hone;replace h0:=zH h0;have hkx:qP (qo x) (k,i,o)=Jv x.k x.i x.o k i o:=rfl;rw[hkx] at hone;have HLS:=zH (fun W=>vY x.k x.i x.o k i o W);refine(wpIn_wide (n:=3)).1 ?_;generalize Jv x.k x.i x.o k i o=L at *;cases L
    ·replace hone:=zH hone
     gi_wp2_with fail
     refine⟨trivial,(callsIn_wide.2 (HLS.out _)).mono ?_⟩;rintro e w4 ⟨rfl,bT⟩;have xr4:Ext wr w4:=(zN _ _).trans bT;have ky:=qa (qb lg.out.y xr4);have kx:=qa (qb (zI wr _ _ rfl) bT);have J4:=(HC.out.ext _ _ _ uK.out xr4).1;have K4:=HC.out.kept uK.out xr4;obtain⟨fn,tm,asg,bdy,hy,hR⟩:=HC.out.yld (3-1) (pre++ys) (x,A',c') w4 J4 (hF.out.kept K4) (by have:=hlen.out;rw[hone.out] at this;simp at this ⊢;omega);replace J4:=zH J4;replace K4:=zH K4
     gi_wp2_with fail
     refine hR.mono ?_;clear hR hy;rintro e w5 (⟨rfl,uz,yJ⟩|⟨rfl,lq⟩)
     ·have iF:=K4.out.trans yJ;have E5:=HEk.out _ _ gG.out iF;have hy5:(ys++[(x,A',c')]).map (·.1)=QT S h (k,i,o) (xs.take (kk+1)):=by rw[lX.out,hone.out,List.map_append,eQ.out];simp
      have iM:=zH (IntWalk.wrap64_in ((kk:Int)+1) zO);rw[List.append_assoc] at uz;replace uz:=zH uz;replace E5:=zH E5;replace hy5:=zH hy5;replace iF:=zH iF;clear yJ
      gi_wp2_with fail
      refine⟨⟨kk+1,ys++[(x,A',c')],aI,rfl,hy5.out,uz.out,E5.out,wo.out.trans iF.out⟩,?_⟩;simp[intOf];omega
     ·rw[List.append_assoc] at lq;have fM:qff M J Jx pre (QT S h (k,i,o) xs) w (.returned (.bool false)) w5:=.inr ⟨rfl,ys++[(x,A',c')],rest,by rw[<-iJ.out,lX.out,hone.out,List.map_append,eQ.out];simp,lq⟩;replace fM:=zH fM;clear lq
      gi_wp2_with fail
      exact Um rfl rfl fM.out
    ·replace hone:=zH hone
     gi_wp2_with fail
     refine⟨trivial,(callsIn_wide.2 (HLS.out _)).mono ?_⟩;rintro e w4 ⟨rfl,bT⟩;have xr4:Ext wr w4:=(zN _ _).trans bT;have J4:=zH ((HC.out.ext _ _ _ uK.out xr4).1);have K4:=zH (HC.out.kept uK.out xr4);have E4:=zH (HEk.out _ _ gG.out K4.out);have hy4:ys.map (·.1)=QT S h (k,i,o) (xs.take (kk+1)):=by rw[lX.out,hone.out,eQ.out];simp
     replace hy4:=zH hy4
     gi_wp2_with fail
     refine⟨fun _ h=>(by cases h),?_⟩
     gi_wp2_with fail
     refine⟨⟨kk+1,ys,aI,rfl,hy4.out,J4.out,E4.out,wo.out.trans K4.out⟩,?_⟩;simp[intOf];omega
   ·have hh1:((h:Int) == 0)=false:=by rw[beq_eq_false_iff_ne];omega
    obtain⟨h',hh⟩:∃ h',h=h'+1:=⟨h-1,zO⟩
    obtain⟨r,hr,oJ,oI,zs,hEI,hsz2⟩:=hTx.out h' hh;have hnr:qt S xs[kk].r.toNat=some ((h':Int),zs):=by rw[hr,Int.toNat_natCast];exact hEI
    have hone:=qkp (S:=S) (K:=(k,i,o)) (h:=h') hnr;rw[<-hh] at hone;obtain⟨j,hj⟩:∃ j,j=kk+1:=⟨_,rfl⟩
    have hww:=zH (qll hj zO);have HDN:=zH (fun W (wY:J (pre++ys) W) (hE':E W) (hl:(pre++ys).length+(QT S h' (k,i,o) zs).length<=N)=>HW.out h' hh r zs (pre++ys) W oJ oI hEI hsz2 wY hE' hl);have hll:(pre++ys).length+(QT S h' (k,i,o) zs).length<=N:=by have:=hlen.out;rw[hone] at this;rw[List.length_append];omega
    generalize hxx:xs[kk]=x at *;rw[hr] at d3;replace hone:=zH hone;replace h0:=zH h0;replace hh:=zH hh;replace hxx:=zH hxx;replace hll:=zH hll;replace hr:=zH hr;replace hEI:=zH hEI;clear hTx HW HT HP hnr hsz2;go_wp2_with fail;generalize lM:(World.alloc wr _)=wa;have xa:Ext wr wa:=lM▸zN _ _
    have ra:wa.heap[wr.heap.size]?=some (.cells #[.int .u8 x.k,.int .u32 x.i,.int .u32 x.o,.int .i64 r,.slice A' x.val.length c'] 51 (0,0)):=lM▸zI _ _ _ rfl
    have rna:=qb hrn.out xa;have rfa:=qb lg.out.f xa;have rda:=zH (qb lg.out.d xa);have gN:∀ W,Ext wa W->W.cell? ⟨w1.heap.size,1,none⟩=some (.slice (some ⟨b,off,none⟩) xs.length c9):=fun W h=>by rw[qa (qb rna h)];rfl
    have gF:∀ W,Ext wa W->∀ i',W.cell? ⟨bF,i',none⟩=#[.int .u8 k,.int .u32 i,.int .u32 o][i']?:=fun W h=>qa (qb rfa h);replace ra:=zH ra;by_cases hl:j<xs.length
    ·obtain⟨A2',c2',g0,g1,g2,-⟩:=sH.out.its.item j hl;rw[<-HCL.out] at g0 g1 g2;have wO:qP (k,i,o) (qo xs[j])=false->QT S h (k,i,o) [x]=[]:=fun hq=>by have:=hPx.out zO (by simpa only[<-hj] using hq);rw[hxx.out] at this;exact this
     have hkp:qP (k,i,o) (qo xs[j])=Jv k i o xs[j].k xs[j].i xs[j].o:=rfl;rw[hkp] at wO;generalize xs[j]=y at *;clear hkp;have HL:=zH (fun W=>vY k i o y.k y.i y.o W);generalize Jv k i o y.k y.i y.o=L at *;have p0:∀ W,Ext wa W->W.cell? ⟨b,off+j*5,none⟩=some (.int .u8 y.k):=fun W h=>Ext.cell (xa.trans h) g0;have p1:∀ W,Ext wa W->W.cell? ⟨b,off+j*5+1,none⟩=some (.int .u32 y.i):=fun W h=>Ext.cell (xa.trans h) g1;have p2:∀ W,Ext wa W->W.cell? ⟨b,off+j*5+2,none⟩=some (.int .u32 y.o):=fun W h=>Ext.cell (xa.trans h) g2;replace xa:=zH xa;replace wO:=zH wO;replace hj:=zH hj;clear g0 g1 g2 lM rna rfa kn kf;refine zl (qH [(15,one (.bool L))]) 18 zQ zQ zQ zD zQ zQ ?st ?walk
     case st=>exact zt (by simp only[List.forall_mem_cons];exact⟨Zr _,fun _ h=>by cases h⟩)
     case walk =>
      intro K hK;dsimp only[List.take];have hJB:=hww.out.2;refine zB0 ?_;clear hJB
      first
       |(refine qJ (.pointer (some ⟨b,off+j*5,none⟩)) zA0 zA0 (fun W hW _=>⟨W,?_,Ext.refl W⟩) ?_
         ·go_simp;rw[IntWalk.i64_in (j:Int) zO,if_pos zO];simp
         simp only[Act.put,qm,qf,qc,qg,zA,zB,zC])
       |skip
      refine zB0 ?_;refine QD (one (.bool L)) zA0 zA0 (fun W hW _=>?_) (fun p=>?_)
      ·refine QX ?_ ((HL.out W).mono fun e w' h=>⟨(),h.1,trivial,h.2⟩);go_simp
      cases p;simp only[Act.put,qm,qc,qg,zA,zB,zC];clear p0 p1 p2 HL;cases L
      ·repeat ((first|(refine qJ ?_ zA0 zA0 (fun W hW _=>⟨W,?_,Ext.refl W⟩) ?_;rotate_left;(go_simp<;>with_reducible rfl))|(refine qY zA0 ?_));try simp only[Act.put,qm,qf,qc,qg,zA,zB,zC])
       refine Zm (hK _ _ fun W hW hF=>?_);clear hF hK;dsimp only[List.drop];have JW:=zH ((HC.out.ext _ _ _ uK.out (xa.out.trans hW)).1);have KW:=zH (HC.out.kept uK.out (xa.out.trans hW));have EW:=zH (HEk.out _ _ gG.out KW.out);have hyW:ys.map (·.1)=QT S h (k,i,o) (xs.take (kk+1)):=by rw[lX.out,wO.out rfl,eQ.out];simp
       replace hyW:=zH hyW;clear hW gN gF;go_wp2_with fail;refine⟨⟨kk+1,ys,aI,rfl,hyW.out,JW.out,EW.out,wo.out.trans KW.out⟩,?_⟩;have:=hj.out;simp[intOf];omega
      ·repeat ((first|(refine qJ ?_ zA0 zA0 (fun W hW _=>⟨W,?_,Ext.refl W⟩) ?_;rotate_left;(go_simp<;>with_reducible rfl))|(refine qY zA0 ?_));try simp only[Act.put,qm,qf,qc,qg,zA,zB,zC])
       refine Zm (hK _ _ fun W hW hF=>?_);clear hF hK;dsimp only[List.drop];have JW:=zH ((HC.out.ext _ _ _ uK.out (xa.out.trans hW)).1);have KW:=zH (HC.out.kept uK.out (xa.out.trans hW));have EW:=zH (HEk.out _ _ gG.out KW.out);have kd:=qa (qb rda.out hW);have kx:=qa (qb ra.out hW);clear hW gN gF;go_wp2_with fail;refine(HDN.out W JW.out EW.out hll.out).mono ?_;rintro e w5 (⟨rfl,zs',aV,uz,yJ⟩|⟨rfl,zs',rest',aV,lq⟩)
       ·have iF:=KW.out.trans yJ;have E5:=HEk.out _ _ gG.out iF;have hy5:(ys++zs').map (·.1)=QT S h (k,i,o) (xs.take (kk+1)):=by rw[lX.out,hone.out,List.map_append,eQ.out,aV]
        rw[List.append_assoc] at uz;replace uz:=zH uz;replace E5:=zH E5;replace hy5:=zH hy5;replace iF:=zH iF;replace aV:=zH aV;clear yJ kd kx;go_wp2_with fail;refine⟨⟨kk+1,ys++zs',aI,rfl,hy5.out,uz.out,E5.out,wo.out.trans iF.out⟩,?_⟩;have:=hj.out;simp[intOf];omega
       ·rw[List.append_assoc] at lq;have fM:qff M J Jx pre (QT S h (k,i,o) xs) w (.returned (.bool false)) w5:=.inr ⟨rfl,ys++zs',rest'++rest,by rw[<-iJ.out,lX.out,hone.out,List.map_append,eQ.out,<-aV];simp,lq⟩;replace fM:=zH fM;replace aV:=zH aV;clear lq kd kx;go_wp2_with fail;exact Um rfl rfl fM.out
    ·replace xa:=zH xa;replace hj:=zH hj;clear lM rna rfa kn kf;refine zl (qH []) 18 zQ zQ zQ zD zQ zQ ?st ?walk
     case st=>exact zt (fun _ h=>by cases h)
     case walk =>
      intro K hK;dsimp only[List.take];have hJB:=hww.out.2;refine zB0 ?_;clear hJB;refine Zm (hK _ _ fun W hW hF=>?_);clear hF hK;dsimp only[List.drop];have JW:=zH ((HC.out.ext _ _ _ uK.out (xa.out.trans hW)).1);have KW:=zH (HC.out.kept uK.out (xa.out.trans hW));have EW:=zH (HEk.out _ _ gG.out KW.out);have kd:=qa (qb rda.out hW);have kx:=qa (qb ra.out hW);clear hW gN gF;go_wp2_with fail;refine(HDN.out W JW.out EW.out hll.out).mono ?_;rintro e w5 (⟨rfl,zs',aV,uz,yJ⟩|⟨rfl,zs',rest',aV,lq⟩)
      ·have iF:=KW.out.trans yJ;have E5:=HEk.out _ _ gG.out iF;have hy5:(ys++zs').map (·.1)=QT S h (k,i,o) (xs.take (kk+1)):=by rw[lX.out,hone.out,List.map_append,eQ.out,aV]
       rw[List.append_assoc] at uz;replace uz:=zH uz;replace E5:=zH E5;replace hy5:=zH hy5;replace iF:=zH iF;replace aV:=zH aV;clear yJ kd kx;go_wp2_with fail;refine⟨⟨kk+1,ys++zs',aI,rfl,hy5.out,uz.out,E5.out,wo.out.trans iF.out⟩,?_⟩;have:=hj.out;simp[intOf];omega
      ·rw[List.append_assoc] at lq;have fM:qff M J Jx pre (QT S h (k,i,o) xs) w (.returned (.bool false)) w5:=.inr ⟨rfl,ys++zs',rest'++rest,by rw[<-iJ.out,lX.out,hone.out,List.map_append,eQ.out,<-aV];simp,lq⟩;replace fM:=zH fM;replace aV:=zH aV;clear lq kd kx;go_wp2_with fail;exact Um rfl rfl fM.out
  ·obtain rfl:kk=xs.length:=zO;rw[List.take_length] at eQ;have fM:qff M J Jx pre (QT S h (k,i,o) xs) w (.returned (.bool true)) wr:=.inl ⟨rfl,ys,eQ,uK,K2.out.trans wo⟩;replace fM:=zH fM;replace eQ:=zH eQ;replace uK:=zH uK;replace gG:=zH gG;replace wo:=zH wo;go_wp2_with fail;exact Um rfl rfl fM.out
theorem qfR (S:Sto) (hS:ql S=true) (k i o:Int) (lo l N bB bF bY bD bb:Nat) (M:World->Nat->Prop) (J Jx:List X3->World->Prop) (A1 n1 c1 A2 n2 c2 A3 n3 c3 A4 n4 c4) (E:World->Prop) (HC:Ue lo M J Jx l N) (HE:∀ W,E W->EnvX S (k,i,o) M l bB bF bY bD bb (.slice A1 n1 c1) (.slice A2 n2 c2) (.slice A3 n3 c3) (.slice A4 n4 c4) W) (HEk:∀ W W',E W->ZN M W W'->E W') (HEl:∀ W,E W->lo<=W.heap.size):∀ h:Nat,DownC S (k,i,o) M J Jx N bB bF bY bD E h
 |0=>qfS S hS k i o lo l N bB bF bY bD bb M J Jx A1 n1 c1 A2 n2 c2 A3 n3 c3 A4 n4 c4 E HC HE HEk HEl 0 fun _ e=>zO
 |h+1=>qfS S hS k i o lo l N bB bF bY bD bb M J Jx A1 n1 c1 A2 n2 c2 A3 n3 c3 A4 n4 c4 E HC HE HEk HEl (h+1) fun h' e=>by obtain rfl:h=h':=zO;exact qfR S hS k i o lo l N bB bF bY bD bb M J Jx A1 n1 c1 A2 n2 c2 A3 n3 c3 A4 n4 c4 E HC HE HEk HEl h
end Go.Proofs.YtmeadnlmepcmbaaGreat
namespace Go.Proofs.YtmeadnlmepcmbaaGreat
open Go.RowKit
set_option maxRecDepth 100000 in
theorem qhZ (S:Sto) (hS:ql S=true) (k i o:Int) (lo l N:Nat) (M:World->Nat->Prop) (J Jx:List X3->World->Prop) (A1 n1 c1 A2 n2 c2 A3 n3 c3 A4 n4 c4) (HC:Ue lo M J Jx l N) (bS bF bR:Nat) (w:World) (aQ:lo<=w.heap.size) (aH:qV w lo (.slice A1 n1 c1) (.slice A2 n2 c2) (.slice A3 n3 c3) (.slice A4 n4 c4) S) (hs:w.heap[bS]?=some (.cells #[.slice A1 n1 c1,.slice A2 n2 c2,.slice A3 n3 c3,.slice A4 n4 c4] 28 (0,0))) (hf:w.heap[bF]?=some (.cells #[.int .u8 k,.int .u32 i,.int .u32 o] 49 (0,0))) (a lvl:Nat) (xs:List It) (hr:w.heap[bR]?=some (.cells #[.int .i64 (a:Int)] 3 (0,0))) (hnf:¬M w bF) (ha:8<=a) (ak:a<256) (hn:qt S a=some ((lvl:Int),xs)) (aN:(qD S lvl xs).isSome=true) (hN:(QT S lvl (k,i,o) xs).length<=N) (hJ:J [] w):Calls prog 178 #[.func (.yield l) #[] #[],.pointer (some ⟨bS,0,none⟩),.pointer (some ⟨bF,0,none⟩),.pointer (some ⟨bR,0,none⟩)] w fun e W'=>(∃ v,e=.returned v)/\((∃ ys:List X3,ys.map (·.1)=QT S lvl (k,i,o) xs/\J ys W')\/∃ (ys:List X3) (rest:List It),ys.map (·.1)++rest=QT S lvl (k,i,o) xs/\Jx ys W'):=by
 have HON:=zH (fun W (hx:Ext w W)=>qeA A1 n1 c1 A2 n2 c2 A3 n3 c3 A4 n4 c4 S (by have:=(Qc hS).2.2.1;omega) W ((aH.more aQ).ext hx));have lK:qV w lo (.slice A1 n1 c1) (.slice A2 n2 n2) (.slice A3 n3 c3) (.slice A4 n4 c4) S:=⟨aH.bs,aH.ws.clip,aH.now,aH.last⟩
 have ks:=qa hs;have zs:bS<w.heap.size:=(zG.1 hs).1;have zr:bR<w.heap.size:=(zG.1 hr).1;replace aH:=zH lK;replace hf:=zH hf;replace hr:=zH hr;replace hnf:=zH hnf;replace hn:=zH hn;replace aN:=zH aN;replace hN:=zH hN;replace hJ:=zH hJ;replace HC:=zH HC;replace hS:=zH hS;clear lK;go_enter func178,ntmps178;go_wp2_with fail;generalize aA:(World.alloc w _)=w1;have x1:Ext w w1:=aA▸zN _ _
 have ry1:w1.heap[w.heap.size]?=some (.cells #[.func (.yield l) #[] #[]] 249 (0,0)):=aA▸zI _ _ _ rfl
 clear aA;refine(HON.out w1 x1).mono ?_;clear HON;rintro e w2 ⟨u,rfl,⟨bb,A3',c3',rfl,uO,hfr3⟩,hB⟩;have x2:Ext w w2:=x1.trans hB;have ry2:=zH (qb ry1 hB);have hfr:=zH (hfr3.mono x1.size);have hbb:=zH (Nat.le_trans x1.size uO.1);replace uO:=zH uO;have kr2:=qa (qb hr.out x2);have zr2:bR<w2.heap.size:=Nat.lt_of_lt_of_le zr x2.size;clear hB ry1 x1 ks hfr3;go_wp2_with fail;generalize aO:(World.alloc (World.alloc w2 _) _)=w3;have x23:Ext w2 w3:=aO▸(zN _ _).trans (zN _ _)
 have rb3:w3.heap[w2.heap.size]?=some (.cells #[.pointer (some ⟨bb,0,none⟩)] 92 (0,0)):=aO▸(zK _ _ _ zA2).trans (zI _ _ _ rfl)
 have rd3:w3.heap[w2.heap.size+1]?=some (.cells #[.func (.func 179) #[] #[.pointer (some ⟨w2.heap.size,0,none⟩),.pointer (some ⟨bF,0,none⟩),.pointer (some ⟨w.heap.size,0,none⟩),.pointer (some ⟨w2.heap.size+1,0,none⟩)]] 250 (0,0)):=aO▸zI _ _ _ zA2
 have x3:Ext w w3:=x2.trans x23;have hw2s:=x2.size;have NW:∀ b,w.heap.size<=b->¬M w3 b:=fun b hb=>HC.out.new hJ.out x3 hb;have hB0:∀ W,ZN M w3 W->Below lo w3 W:=fun W hk=>hk.below (Nat.le_trans aQ x3.size) fun b hb hm=>absurd (HC.out.low _ _ hm) zO;have hBJ:=aH.out.below (Below.mono x3 aQ);have xU:Bys w3 w3.heap.size (.slice A3' n3 c3') S.now:=(uO.out.2.2.now.below x23).more x23.size;have hbb3:=qb uO.out.2.1 x23;have ry3:=qb ry2.out x23;have rf3:=qb hf.out x3;have hnf3:¬M w3 bF:=fun h=>hnf.out ((HC.out.ext _ _ _ hJ.out x3).2 _ h);have HE:∀ W,ZN M w3 W->EnvX S (k,i,o) M l w2.heap.size bF w.heap.size (w2.heap.size+1) bb (.slice A1 n1 c1) (.slice A2 n2 n2) (.slice A3' n3 c3') (.slice A4 n4 c4) W:=fun W hk=>by
  have hS4:=hBJ.below (hB0 W hk);have hsz:lo<=W.heap.size:=by have:=hk.size;have:=x3.size;omega
  refine⟨hk.row (NW _ zO) rb3,hk.row hnf3 rf3,hk.row (NW _ (zM _)) ry3,hk.row (NW _ zO) rd3,Nat.zero_le _,hk.row (NW _ hbb.out) hbb3,hS4.bs.more hsz,hS4.ws.more hsz,?_,hS4.last.more hsz⟩;exact(xU.keepF fun q hq ⟨A,n,c,e,hb⟩=>hk.cell hq (NW _ (by rw[hb];exact hfr.out A n c e))).more hk.size
 have HD:=qfR S hS.out k i o lo l N w2.heap.size bF w.heap.size (w2.heap.size+1) bb M J Jx A1 n1 c1 A2 n2 n2 A3' n3 c3' A4 n4 c4 (ZN M w3) HC.out HE (fun W W' h1 h2=>h1.trans h2) (fun W hk=>by have:=hk.size;have:=x3.size;omega) lvl
  a xs [] w3 ha ak hn.out aN.out (HC.out.ext _ _ _ hJ.out x3).1 (ZN.refl _ _) (by simpa using hN.out)
 refine HD.mono ?_;clear HD HE NW hB0 hBJ xU hbb3 ry3 rf3 hnf3 rb3 rd3 aO;rintro e w4 (⟨rfl,ys,hy,hJ4,-⟩|⟨rfl,ys,rest,hy,hJ4⟩)
 ·rw[List.nil_append] at hJ4;replace hJ4:=zH hJ4;replace hy:=zH hy;go_wp2_with fail;go_end0;exact⟨⟨_,rfl⟩,.inl ⟨ys,hy.out,hJ4.out⟩⟩
 ·rw[List.nil_append] at hJ4;replace hJ4:=zH hJ4;replace hy:=zH hy;go_wp2_with fail;go_end0;exact⟨⟨_,rfl⟩,.inr ⟨ys,rest,hy.out,hJ4.out⟩⟩
end Go.Proofs.YtmeadnlmepcmbaaGreat
