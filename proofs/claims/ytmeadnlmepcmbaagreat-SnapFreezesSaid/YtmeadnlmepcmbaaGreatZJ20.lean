/- Lemmas of the proof. -/
import Derived.Test.YtmeadnlmepcmbaaGreatZJ19
set_option linter.all false
set_option maxHeartbeats 8000000
open Go.Proofs.Tryz
namespace Go.Proofs.YtmeadnlmepcmbaaGreat
open Go.RowKit
def YN (v:Vol):It:=⟨1,v.id,0,0,Qn v⟩
theorem qcu {v:Vol} (h:JZ v):zu (YN v):=by have:=vy v;exact⟨⟨(by decide:(0:Int)<=1),(by decide:(1:Int)<256)⟩,h.1,⟨(by decide:(0:Int)<=0),(by decide:(0:Int)<4294967296)⟩,⟨(by decide:(0:Int)<=0),(by decide:(0:Int)<256)⟩,by show (Qn v).length<=12;omega⟩
def setE (S:Sto) (root:Int) (v:Vol):Except Int (Nat×Sto):=match qt S root.toNat with
 |none=>.error 8
 |some (lvl,xs)=>Tc S lvl.toNat xs root.toNat (YN v)
def SetQ (S:Sto) (gen root next:Int) (dead:List Int) (v:Vol) (w:World) (e:Ending) (w':World):Prop:=Below w.heap.size w w' /\
 ((e=.returned (.tuple #[jb,.int .i64 8])/\QK S root next dead)\/∃ vs refs nodes,Qb S root next dead vs/\qR S (Qk root dead vs) refs nodes/\Qw S refs /\
  ((∃ er,er≠0/\e=.returned (.tuple #[jb,.int .i64 er])/\(jn S next v vs refs=er\/(jn S next v vs refs=0/\(setE S root v=.error er\/(er=8/\∃ r S',setE S root v=.ok (r,S')/\QK S' (r:Int) next dead))))) \/
   ∃ r S' vs' u,jn S next v vs refs=0/\setE S root v=.ok (r,S')/\Jr S' (r:Int) next dead vs'/\e=.returned (.tuple #[u,.int .i64 0])/\jV w.heap.size S' gen (r:Int) next dead u w'))
def qeJ (lo:Nat) (S:Sto) (r:Nat):Qd:=⟨(Nat×Nat)×(OA×Nat)×(OA×Nat),fun p=>.tuple #[Qe (some ⟨p.1.1,0,none⟩) S.bs.length S.bs.length (some ⟨p.1.2,0,none⟩) S.ws.length (S.ws.length+1) p.2.1.1 S.now.length p.2.1.2 p.2.2.1 S.last.length p.2.2.2,.int .i64 (r:Int),.int .i64 0],
 fun p W=>QM lo S (Qe (some ⟨p.1.1,0,none⟩) S.bs.length S.bs.length (some ⟨p.1.2,0,none⟩) S.ws.length (S.ws.length+1) p.2.1.1 S.now.length p.2.1.2 p.2.2.1 S.last.length p.2.2.2) W⟩
theorem Zd (lo:Nat) (S:Sto) (r b c:Nat) (A3:OA) (c3:Nat) (A4:OA) (c4:Nat):(qeJ lo S r).f ((b,c),(A3,c3),(A4,c4))=.tuple #[Qe (some ⟨b,0,none⟩) S.bs.length S.bs.length (some ⟨c,0,none⟩) S.ws.length (S.ws.length+1) A3 S.now.length c3 A4 S.last.length c4,.int .i64 (r:Int),.int .i64 0]:=rfl
theorem qcP (lo:Nat) (S:Sto) (r:Nat):∀ p,qL qj ((qeJ lo S r).φ p):=fun p W W' he h=>by have he:Ext W W':=he;exact QM.keep h (zM _) he.size fun b _ hb=>he.block b hb
def qeE (e:Int):Qd:=⟨Unit,fun _=>.tuple #[Qe none 0 0 none 0 0 none 0 0 none 0 0,.int .i64 0,.int .i64 e],fun _ _=>True⟩
theorem Zc (e:Int) (u:Unit):(qeE e).f u=.tuple #[Qe none 0 0 none 0 0 none 0 0 none 0 0,.int .i64 0,.int .i64 e]:=rfl
theorem qcM (e:Int):∀ p,qL qj ((qeE e).φ p):=fun _ _ _ _ _=>trivial
theorem qgY {W C:World} {b:Nat} {ty:TypeId} {u0 u1 u2 u3 x0 x1 x2 x3:Value} (h:W.heap[b]?=some (.cells #[u0,u1,u2,u3] ty (0,0))) (hC:C=(((W.setCell ⟨b,0,none⟩ x0).setCell ⟨b,1,none⟩ x1).setCell ⟨b,2,none⟩ x2).setCell ⟨b,3,none⟩ x3):C.heap[b]?=some (.cells #[x0,x1,x2,x3] ty (0,0))/\(∀ k,k≠b->C.heap[k]?=W.heap[k]?)/\C.heap.size=W.heap.size/\∀ {B:Nat} {w0:World},B<=b->Below B w0 W->Below B w0 C:=by
 subst hC;exact⟨VC h _ _ _ _,fun k hk=>(zJ _ _ _ _ hk).trans ((zJ _ _ _ _ hk).trans ((zJ _ _ _ _ hk).trans (zJ _ _ _ _ hk))),zA2,fun hb h0=>Zl h0 hb _ _ _ _⟩
theorem set_pool {W C:World} {b:Nat} {ty:TypeId} {u0 u1 u2 u3 u4 u5 u6 u7 x0 x1 x2 x3 x5 x7:Value} (h:W.heap[b]?=some (.cells #[u0,u1,u2,u3,u4,u5,u6,u7] ty (0,0))) (hC:C=(((((W.setCell ⟨b,0,none⟩ x0).setCell ⟨b,1,none⟩ x1).setCell ⟨b,2,none⟩ x2).setCell ⟨b,3,none⟩ x3).setCell ⟨b,5,none⟩ x5).setCell ⟨b,7,none⟩ x7):C.heap[b]?=some (.cells #[x0,x1,x2,x3,u4,x5,u6,x7] ty (0,0))/\(∀ k,k≠b->C.heap[k]?=W.heap[k]?)/\C.heap.size=W.heap.size/\∀ {B:Nat} {w0:World},B<=b->Below B w0 W->Below B w0 C:=by
 subst hC;refine⟨?_,fun k hk=>?_,zA2,fun hb h0=>Below.setCell (Below.setCell (Zl h0 hb _ _ _ _) (p:=⟨b,5,none⟩) hb _) (p:=⟨b,7,none⟩) hb _⟩
 ·exact qi (qi (qi (qi (qi (qi h 0 x0) 1 x1) 2 x2) 3 x3) 5 x5) 7 x7
 ·rw[zJ _ _ _ _ hk,zJ _ _ _ _ hk,zJ _ _ _ _ hk,zJ _ _ _ _ hk,zJ _ _ _ _ hk,zJ _ _ _ _ hk]
theorem JT {lo:Nat} {S:Sto} {A1:OA} {n1 c1:Nat} {A2:OA} {n2 c2:Nat} {A3:OA} {n3 c3:Nat} {A4:OA} {n4 c4:Nat} {W:World} (h:NewSto lo S (Qe A1 n1 c1 A2 n2 c2 A3 n3 c3 A4 n4 c4) W):∀ C:World,PosZ lo W C->qV C W.heap.size (.slice A1 n1 c1) (.slice A2 n2 c2) (.slice A3 n3 c3) (.slice A4 n4 c4) S:=by obtain⟨B1,d1,B2,d2,B3,d3,B4,d4,e,hc⟩:=h;simp only[Value.agg.injEq,Array.mk.injEq,List.cons.injEq,Value.slice.injEq,and_true] at e;obtain⟨⟨rfl,rfl,rfl⟩,⟨rfl,rfl,rfl⟩,⟨rfl,rfl,rfl⟩,⟨rfl,rfl,rfl⟩⟩:=e;exact hc
theorem size8 {w:World} {b:Nat} {x0 x1 x2 x3 x4 x5 x6 x7:Value}:((((((((w.setCell ⟨b,0,none⟩ x0).setCell ⟨b,1,none⟩ x1).setCell ⟨b,2,none⟩ x2).setCell ⟨b,3,none⟩ x3).setCell ⟨b,4,none⟩ x4).setCell ⟨b,5,none⟩ x5).setCell ⟨b,6,none⟩ x6).setCell ⟨b,7,none⟩ x7).heap.size=w.heap.size:=zA2
theorem outIFs {lo:Nat} {k i o r:Int} {n:Nat} {l:List UInt8}:∀ p,QZ ((qdH lo k i o r n l).φ p):=fun p W W' he h=>⟨(h.1.below he).more he.size,h.2⟩
theorem Xf {R:Ending->World->Prop} {a:Act} {W:World} {b:Nat} {x0 x1 x2 x3 x4 x5 x6 x7 v:Value} (h4:a.tmps[4]?.getD undef=.pointer (some ⟨b,0,none⟩)) (h5:a.tmps[5]?.getD undef=v) (hd:a.defers=[]) (aF:W.heap[b]?=some (.cells #[x0,x1,x2,x3,x4,x5,x6,x7] 32 (0,0))) (hR:R (.returned (.tuple #[.agg #[x0,x1,x2,x3,x4,x5,x6,x7],v])) W):bodyPost prog Tryz.f19 R .ret a W:=by
 refine bodyPost_ret (v:=.tuple #[.agg #[x0,x1,x2,x3,x4,x5,x6,x7],v]) ?_ hd hR;have k:=qa aF;simp[results,results19,go_sem,h4,h5,k]
set_option maxRecDepth 100000 in
theorem qbB (A1 n1 c1 A2 n2 c2 A3 n3 c3 A4 n4 c4) (gen root next:Int) (A5 c5) (S:Sto) (dead:List Int) (v:Vol) (hv:JZ v) (hT:8<=v.root->v.root<256->Zo S v.root.toNat≠0->okL S (-1) v.root=true) (w:World) (h:qV w w.heap.size (.slice A1 n1 c1) (.slice A2 n2 c2) (.slice A3 n3 c3) (.slice A4 n4 c4) S) (hd:Zv w w.heap.size (.slice A5 dead.length c5) dead):Calls prog 19 #[.agg (qF (.slice A1 n1 c1) (.slice A2 n2 c2) (.slice A3 n3 c3) (.slice A4 n4 c4) gen root next (.slice A5 dead.length c5)),jz v] w (SetQ S gen root next dead v w):=by
 have HA:=zH (fun W (hx:Ext w W)=>qhL A1 n1 c1 A2 n2 c2 A3 n3 c3 A4 n4 c4 gen root next A5 c5 S dead v hT W (h.ext hx) (hd.ext_ hx));have HO:=zH (fun W=>qjz v hv W);have hvi:=qcu hv;have HP:=zH (fun (hS:ql S=true) (a lvl:Nat) xs ha ak hn aN A c W (hx:Ext w W) hb=>qjH A1 n1 c1 A2 n2 c2 A3 n3 c3 A4 n4 c4 S hS a lvl xs ha ak hn aN (YN v) hvi A c W (h.ext hx) hb);replace h:=zH h;replace hT:=zH hT;replace hd:=zH hd;replace hvi:=zH hvi;go_enter func19,ntmps19;go_wp2_with fail;generalize aA:(World.alloc (World.alloc (World.alloc w _) _) _)=w1;have x1:Ext w w1:=aA▸((zN _ _).trans (zN _ _)).trans (zN _ _)
 have rp1:w1.heap[w.heap.size]?=some (.cells (qF (.slice A1 n1 c1) (.slice A2 n2 c2) (.slice A3 n3 c3) (.slice A4 n4 c4) gen root next (.slice A5 dead.length c5)) 32 (0,0)):=aA▸(zK _ _ _ zA1).trans ((zK _ _ _ zA2).trans (zI _ _ _ rfl))
 have rv1:w1.heap[w.heap.size+1]?=some (.cells #[.int .u32 v.id,.int .i64 v.root,.bool v.fz,.int .u32 v.frm] 36 (0,0)):=aA▸(zK _ _ _ zA2).trans (zI _ _ _ zA2)
 have ro1:w1.heap[w.heap.size+2]?=some (.cells (qF (.slice none 0 0) (.slice none 0 0) (.slice none 0 0) (.slice none 0 0) 0 0 0 (.slice none 0 0)) 32 (0,0)):=aA▸zI _ _ _ zA2
 clear aA;refine(HA.out w1 x1).mono ?_;clear HA;rintro e w2 ⟨hB,hQ⟩;have x2:Ext w w2:=Ext.trans x1 hB;have rp2:=qb rp1 hB;have rv2:=qb rv1 hB;have ro2:=qb ro1 hB;have zo2:w.heap.size+2<w2.heap.size:=(zG.1 ro2).1;clear hB rp1 rv1 ro1 x1;have ko2:=qa ro2;have fo2:=qe ro2;rcases hQ with ⟨rfl,aX⟩|⟨vs,refs,nodes,hp,fJ,uU,rfl⟩
 ·replace aX:=zH aX;go_wp2_with fail;exact Xf (b:=w.heap.size+2) rfl rfl rfl (ji ro2 _ _ _ _ _ _ _ _) ⟨QR x2 zO _ _ _ _ _ _ _ _,.inl ⟨rfl,aX.out⟩⟩
 ·have aJ:=zH (fun e W (hb:Below w.heap.size w W) hx=>(⟨hb,.inr ⟨vs,refs,nodes,hp,fJ,uU,hx⟩⟩:SetQ S gen root next dead v w e W));by_cases h0:jn S next v vs refs=0
  case neg =>
   obtain⟨er,lT⟩:∃ er,jn S next v vs refs=er:=⟨_,rfl⟩
   rw[lT] at h0 ⊢;have aG:(er != 0)=true:=by rw[bne_iff_ne];exact h0
   replace h0:=zH h0;replace lT:=zH lT;replace hp:=zH hp;replace fJ:=zH fJ;replace uU:=zH uU;go_wp2_with fail;exact Xf (b:=w.heap.size+2) rfl rfl rfl (ji ro2 _ _ _ _ _ _ _ _) (aJ.out _ _ (QR x2 zO _ _ _ _ _ _ _ _) (.inl ⟨er,h0.out,rfl,.inl lT.out⟩))
  case pos =>
   rw[h0];obtain⟨a,ha,h8,h256,lvl,xs,hn,aN⟩:=ZR hp.top;have hse:setE S root v=Tc S lvl xs a (YN v):=by unfold setE;rw[ha,Int.toNat_natCast,hn];rfl
   have HP2:=zH (HP.out hp.may a lvl xs h8 h256 hn aN);have af:=zH (fun r S' (he:Tc S lvl xs a (YN v)=.ok (r,S'))=>qgL hp.may h8 hn aN hvi.out he);have uG:=zH (fun er (he:Tc S lvl xs a (YN v)=.error er)=>qgK he);rw[<-hse] at HP2 af uG;rw[<-ha] at HP2;have gJ:=zH hp.few;replace h0:=zH h0;replace hp:=zH hp;replace fJ:=zH fJ;replace uU:=zH uU;clear hse HP hn aN hT ha;go_upto_region 4 with fail;rcases hq:setE S root v with er|⟨r,S'⟩
   ·have gP:∀ W,qj.r w2 W->∀ i,W.cell? ⟨w.heap.size,i,none⟩=(qF (.slice A1 n1 c1) (.slice A2 n2 c2) (.slice A3 n3 c3) (.slice A4 n4 c4) gen root next (.slice A5 dead.length c5))[i]?:=fun W h=>qa (qb rp2 h);have gV:∀ W,qj.r w2 W->∀ i,W.cell? ⟨w.heap.size+1,i,none⟩=#[.int .u32 v.id,.int .i64 v.root,.bool v.fz,.int .u32 v.frm][i]?:=fun W h=>qa (qb rv2 h);clear ko2 fo2;refine qp zQ ?_;refine vc 12 9 zE zQ rfl rfl zQ zQ zQ zQ ?_;dsimp only[jp,Array.push,List.push_toArray,List.concat_eq_append];refine vc 12 10 zE zQ rfl rfl zQ zQ zQ zQ ?_;dsimp only[jp,Array.push,List.push_toArray,List.concat_eq_append];refine qQ (w:=w2) qj (qH [(5,qdH w2.heap.size 1 v.id 0 0 (Qn v).length (Qn v)),(6,qeE er),(11,JM w2.heap.size 28 #[.slice none 0 0,.slice none 0 0,.slice none 0 0,.slice none 0 0])]) (List.replicate 12 true) 3 zQ zQ zQ zQ zQ zQ zQ ?st (Rel.drew _ _) ?walk
    case st=>exact qk (by simp only[List.forall_mem_cons];exact⟨fun p=>QS (outIFs p),qcM _,fun p=>QS (jG _ _ _ p),fun _ h=>by cases h⟩)
    case walk =>
     intro K hK;dsimp only[qu,List.replicate];refine zC6 ?_;refine qy (qdH w2.heap.size 1 v.id 0 0 (Qn v).length (Qn v)) zA0 zA0 (fun W hW _=>?_) (fun p5=>?_)
     ·have hW:Ext w2 W:=hW;refine Qi ?_ ((HO.out W).mono fun e w' h=>?_)
      ·go_simp
      obtain⟨u,rfl,⟨A,c,rfl,hb,hf⟩,hB⟩:=h;exact⟨(A,c),rfl,⟨hb,hf.mono hW.size⟩,hB⟩
     obtain⟨A8,c8⟩:=p5;refine zC6 ?_;refine qy (qeE er) zA0 zA0 (fun W hW hp=>?_) (fun (p:Unit)=>?_)
     ·have hW:Ext w2 W:=hW;have hb:Bys W W.heap.size (.slice A8 (Qn v).length c8) (Qn v):=(hp 5 zD).1.1;refine Qi ?_ ((HP2.out A8 c8 W (x2.trans hW) hb).mono fun e w' h=>?_)
      ·go_simp;exact⟨rfl,rfl,rfl,rfl,rfl⟩
      obtain⟨u,rfl,hu,hB⟩:=h;rw[hq] at hu;obtain rfl:u=_:=hu;exact⟨(),rfl,trivial,hB⟩
     refine zC6 ?_;refine qy (JM w2.heap.size 28 #[.slice none 0 0,.slice none 0 0,.slice none 0 0,.slice none 0 0]) zA0 zA0 (fun W hW _=>?_) (fun (p11:Nat)=>?_)
     ·refine JR ?_ (Below.size hW);go_simp
     refine zC6 ?_;refine qv (hK _ _ fun W hW hF=>?_);obtain⟨f11,aQ⟩:W.heap[p11]?=some (.cells #[.slice none 0 0,.slice none 0 0,.slice none 0 0,.slice none 0 0] 28 (0,0))/\w2.heap.size<=p11:=(hF 11).1;clear hF hK gP gV;have hW:Ext w2 W:=hW;refine zC3 ?_;have k11:=qa f11;have h11:=qe f11;have rq2:=qb rp2 hW;have rz2:=qb ro2 hW;go_wp2;refine Qr ?_;generalize aO:World.setCell (World.setCell (World.setCell (World.setCell W _ _) _ _) _ _) _ _=w3;obtain⟨r3,o3,z3,b3⟩:=qgY f11 aO.symm;clear aO k11 h11 f11;have ro3:=(o3 (w.heap.size+2) zO).trans rz2;have x3:Below w.heap.size w w3:=b3 zO (x2.trans hW);have ko3:=qa ro3;have fo3:=qe ro3;clear rq2 rz2;have aG:=uG.out er hq;have iG:(er != 0)=true:=by rw[bne_iff_ne];exact aG
     replace aG:=zH aG;replace hq:=zH hq;go_wp2_with fail;exact Xf (b:=w.heap.size+2) rfl rfl rfl (ji ro3 _ _ _ _ _ _ _ _) (aJ.out _ _ (QR x3 zO _ _ _ _ _ _ _ _) (.inl ⟨er,aG.out,rfl,.inr ⟨h0.out,.inl hq.out⟩⟩))
   ·have gP:∀ W,qj.r w2 W->∀ i,W.cell? ⟨w.heap.size,i,none⟩=(qF (.slice A1 n1 c1) (.slice A2 n2 c2) (.slice A3 n3 c3) (.slice A4 n4 c4) gen root next (.slice A5 dead.length c5))[i]?:=fun W h=>qa (qb rp2 h);have gV:∀ W,qj.r w2 W->∀ i,W.cell? ⟨w.heap.size+1,i,none⟩=#[.int .u32 v.id,.int .i64 v.root,.bool v.fz,.int .u32 v.frm][i]?:=fun W h=>qa (qb rv2 h);clear ko2 fo2;refine qp zQ ?_;refine vc 12 9 zE zQ rfl rfl zQ zQ zQ zQ ?_;dsimp only[jp,Array.push,List.push_toArray,List.concat_eq_append];refine vc 12 10 zE zQ rfl rfl zQ zQ zQ zQ ?_;dsimp only[jp,Array.push,List.push_toArray,List.concat_eq_append];refine qQ (w:=w2) qj (qH [(5,qdH w2.heap.size 1 v.id 0 0 (Qn v).length (Qn v)),(6,qeJ w2.heap.size S' r),(11,JM w2.heap.size 28 #[.slice none 0 0,.slice none 0 0,.slice none 0 0,.slice none 0 0])]) (List.replicate 12 true) 3 zQ zQ zQ zQ zQ zQ zQ ?st (Rel.drew _ _) ?walk
    case st=>exact qk (by simp only[List.forall_mem_cons];exact⟨fun p=>QS (outIFs p),qcP _ _ _,fun p=>QS (jG _ _ _ p),fun _ h=>by cases h⟩)
    case walk =>
     intro K hK;dsimp only[qu,List.replicate];refine zC6 ?_;refine qy (qdH w2.heap.size 1 v.id 0 0 (Qn v).length (Qn v)) zA0 zA0 (fun W hW _=>?_) (fun p5=>?_)
     ·have hW:Ext w2 W:=hW;refine Qi ?_ ((HO.out W).mono fun e w' h=>?_)
      ·go_simp
      obtain⟨u,rfl,⟨A,c,rfl,hb,hf⟩,hB⟩:=h;exact⟨(A,c),rfl,⟨hb,hf.mono hW.size⟩,hB⟩
     obtain⟨A8,c8⟩:=p5;refine zC6 ?_;refine qy (qeJ w2.heap.size S' r) zA0 zA0 (fun W hW hp=>?_) (fun p=>?_)
     ·have hW:Ext w2 W:=hW;have hb:Bys W W.heap.size (.slice A8 (Qn v).length c8) (Qn v):=(hp 5 zD).1.1;refine Qi ?_ ((HP2.out A8 c8 W (x2.trans hW) hb).mono fun e w' h=>?_)
      ·go_simp;exact⟨rfl,rfl,rfl,rfl,rfl⟩
      obtain⟨u,rfl,hu,hB⟩:=h;rw[hq] at hu;obtain⟨v',rfl,hT⟩:=hu;obtain⟨BB,WW,gg,A3',c3',A4',c4',rfl,-⟩:=id hT;exact⟨((BB,WW),(A3',c3'),(A4',c4')),rfl,QM.keep hT hW.size (zM _) (fun _ _ _=>rfl),hB⟩
     obtain⟨⟨BB,WW⟩,⟨A3',c3'⟩,⟨A4',c4'⟩⟩:=p;refine zC6 ?_;refine qy (JM w2.heap.size 28 #[.slice none 0 0,.slice none 0 0,.slice none 0 0,.slice none 0 0]) zA0 zA0 (fun W hW _=>?_) (fun (p11:Nat)=>?_)
     ·refine JR ?_ (Below.size hW);go_simp
     refine zC6 ?_;refine qv (hK _ _ fun W hW hF=>?_);obtain⟨f11,aQ⟩:W.heap[p11]?=some (.cells #[.slice none 0 0,.slice none 0 0,.slice none 0 0,.slice none 0 0] 28 (0,0))/\w2.heap.size<=p11:=(hF 11).1;have uP:QM w2.heap.size S' (Qe (some ⟨BB,0,none⟩) S'.bs.length S'.bs.length (some ⟨WW,0,none⟩) S'.ws.length (S'.ws.length+1) A3' S'.now.length c3' A4' S'.last.length c4') W:=(hF 6).1;clear hF hK gP gV;have hW:Ext w2 W:=hW;refine zC3 ?_;have k11:=qa f11;have h11:=qe f11;have z11:=(zG.1 f11).1;have rq2:=qb rp2 hW;have rz2:=qb ro2 hW;go_wp2;refine Qr ?_;generalize aO:World.setCell (World.setCell (World.setCell (World.setCell W _ _) _ _) _ _) _ _=w3;obtain⟨r3,o3,z3,b3⟩:=qgY f11 aO.symm;have hTw3:=QM.keepT (lo':=w2.heap.size) uP (zM _) zO f11 zD (fun b _ _ aG=>o3 b aG);clear aO k11 h11 f11;have rp3:=(o3 w.heap.size zO).trans rq2;have ro3:=(o3 (w.heap.size+2) zO).trans rz2;have x3:Below w.heap.size w w3:=b3 zO (x2.trans hW);have ko3:=qa ro3;have fo3:=qe ro3;have zo3:w.heap.size+1+1<w3.heap.size:=(zG.1 ro3).1;clear rq2 rz2;have hmay:=af.out r S' hq;have mX:=JT (hTw3.newSto (QV hmay.1));replace hq:=zH hq;replace mX:=zH mX;replace hmay:=zH hmay;clear hTw3 af uG HP2;go_upto_region 7 with fail;have HI:=zH (fun W (hW:Ext w3 W)=>qhV (.slice A5 dead.length c5) dead (by have:=gJ.out;omega) W (hd.out.ext_ (x3.trans (Below.mono hW x3.size))));have gP:∀ W,qj.r w3 W->∀ i,W.cell? ⟨w.heap.size,i,none⟩=(qF (.slice A1 n1 c1) (.slice A2 n2 c2) (.slice A3 n3 c3) (.slice A4 n4 c4) gen root next (.slice A5 dead.length c5))[i]?:=fun W h=>qa (qb rp3 h);obtain⟨nb,iG⟩:∃ nb,S'.bs.length=nb:=⟨_,rfl⟩
     obtain⟨nw,hnw⟩:∃ nw,S'.ws.length=nw:=⟨_,rfl⟩
     obtain⟨nn,xR⟩:∃ nn,S'.now.length=nn:=⟨_,rfl⟩
     obtain⟨nl,hnl⟩:∃ nl,S'.last.length=nl:=⟨_,rfl⟩
     rw[iG,hnw,xR,hnl] at mX r3 ⊢;have iq:=zH (And.intro iG (And.intro hnw (And.intro xR hnl)));clear iG hnw xR hnl;have gS:∀ W,qj.r w3 W->∀ i,W.cell? ⟨p11,i,none⟩=#[.slice (some ⟨BB,0,none⟩) nb nb,.slice (some ⟨WW,0,none⟩) nw (nw+1),.slice A3' nn c3',.slice A4' nl c4'][i]?:=fun W h=>qa (qb r3 h);clear ko3 fo3;refine qp zQ ?_;refine zo 1 10 (.int .i64 (r:Int)) zQ zA5 zQ zQ zQ zA0 (fun W=>?_) ?_
     ·go_simp
     simp only[Act.put,qf,qc,qg,ZK,Zd,Zc,jL,zA,zB,zC];refine qQ (w:=w3) qj (qH [(4,outN w3.heap.size dead.length dead)]) [true,false,true,true,true,true] 5 zQ zQ zQ zQ zQ zQ zQ ?st (Rel.drew _ _) ?walk
     case st=>exact qk (by simp only[List.forall_mem_cons];exact⟨fun p=>QS (qgD _ _ _ p),fun _ h=>by cases h⟩)
     case walk =>
      intro K hK;dsimp only[qu,List.replicate];refine zC6 ?_;refine qy (outN w3.heap.size dead.length dead) zA0 zA0 (fun W hW _=>?_) (fun p=>?_)
      ·have hW:Ext w3 W:=hW;refine Qi ?_ ((HI.out W hW).mono fun e w' h=>?_)
       ·go_simp
       obtain⟨u,rfl,hu,hB⟩:=h;obtain⟨A',c',rfl,_,_⟩:=qE hu;exact⟨(A',c'),rfl,⟨Zv.of_ownT hu,(Zu.of_own hu).mono hW.size⟩,hB⟩
      obtain⟨B5,d5⟩:=p;refine zC6 ?_;refine qv (hK _ _ fun V hV hF=>?_);have hI:Zv (thaw V) V.heap.size (.slice B5 dead.length d5) dead/\Zu w3.heap.size (.slice B5 dead.length d5):=(hF 4).1;clear hF hK gP gS HI;have hV:Ext w3 V:=hV;refine zC3 ?_;have rp4:=qb rp3 hV;have ro4:=qb ro3 hV;have kp4:=qa rp4;have fp4:=qe rp4;replace hI:=zH hI;clear rp3 ro3;go_wp2;refine Qr ?_;generalize aT:World.setCell (World.setCell (World.setCell (World.setCell (World.setCell (World.setCell V _ _) _ _) _ _) _ _) _ _) _ _=w5;obtain⟨rp5,o5,z5,b5⟩:=set_pool rp4 aT.symm;clear aT kp4 fp4;have ro5:=(o5 (w.heap.size+2) zO).trans ro4;have x5:Below w.heap.size w w5:=b5 (zM _) (x3.trans (Below.mono hV x3.size));have hzV:=hV.size;have hDQ:∀ k,w.heap.size<k->k<w3.heap.size->w5.heap[k]?=w3.heap[k]?:=fun k h1 h2=>(o5 k zO).trans (hV.block k h2);have tJ:=(mX.out w5 (Jh fun k h1 h2=>hDQ k zO h2)).more (show w3.heap.size<=w5.heap.size by omega);have hin5:Zv w5 w5.heap.size (.slice B5 dead.length d5) dead:=by rw[z5];exact hI.out.1.pos hI.out.2 fun q u h1 h2 h3=>(World.cell?_of_block (o5 q.block zO)).trans (GT h3).1
      have HCk:=zH (qiw (some ⟨BB,0,none⟩) nb nb (some ⟨WW,0,none⟩) nw (nw+1) A3' nn c3' A4' nl c4' gen (r:Int) next B5 d5 S' dead w5 tJ hin5);have kp5:=qa rp5;replace hDQ:=zH hDQ;clear tJ hin5;go_wp2_with fail;refine HCk.out.mono ?_;clear HCk;rintro e w6 ⟨bz,hQ6⟩;have x6:Below w.heap.size w w6:=x5.trans (Below.mono bz x5.size);have rp6:=qb rp5 bz;have ro6:=qb ro5 bz;have ko6:=qa ro6;have fo6:=qe ro6;have h56:=zH (fun k (hk:k<w5.heap.size)=>Below.block bz k hk);have z56:=bz.size;clear bz rp4 ro4 kp5;rcases hQ6 with ⟨rfl,ai⟩|⟨rfl,vs',refs',nodes',fU,rY,he'⟩
      ·replace ai:=zH ai;go_wp2_with fail;exact Xf (b:=w.heap.size+2) rfl rfl rfl (ji ro6 _ _ _ _ _ _ _ _) (aJ.out _ _ (QR x6 zO _ _ _ _ _ _ _ _) (.inl ⟨8,zD,rfl,.inr ⟨h0.out,.inr ⟨rfl,r,S',hq.out,ai.out⟩⟩⟩))
      ·have hok:=zH (⟨refs',nodes',fU,rY,he'⟩:Jr S' (r:Int) next dead vs');have kp6:=qa rp6;clear fU rY he';go_wp2_with fail;refine Xf (b:=w.heap.size+2) rfl rfl rfl (ji ro6 _ _ _ _ _ _ _ _) (aJ.out _ _ (QR x6 zO _ _ _ _ _ _ _ _) (.inr ⟨r,S',vs',_,h0.out,hq.out,hok.out,rfl,?_⟩));refine⟨some ⟨BB,0,none⟩,nb,some ⟨WW,0,none⟩,nw+1,A3',c3',A4',c4',B5,d5,?_,fun C hC=>?_⟩
       ·rw[iq.out.1,iq.out.2.1,iq.out.2.2.1,iq.out.2.2.2]
       ·rw[iq.out.1,iq.out.2.1,iq.out.2.2.1,iq.out.2.2.2];rw[size8];have hs:=fun (k:Nat) (hk:k≠w.heap.size+2)=>jK (w:=w6) hk (.slice (some ⟨BB,0,none⟩) nb nb) (.slice (some ⟨WW,0,none⟩) nw (nw+1)) (.slice A3' nn c3') (.slice A4' nl c4') (.int .u32 gen) (.int .i64 (r:Int)) (.int .u32 next) (.slice B5 dead.length d5);have q1:=mX.out C fun q u h1 h2 h3=>hC q u zO (by rw[size8];omega) ((ZX ((hs q.block zO).trans ((h56.out q.block zO).trans (hDQ.out q.block zO h2)))).trans h3);have q2:=hI.out.1.pos hI.out.2 (C:=C) fun q u h1 h2 h3=>hC q u zO (by rw[size8];omega) ((ZX ((hs q.block zO).trans ((h56.out q.block zO).trans (o5 q.block zO)))).trans h3);exact⟨q1.more zO,q2.more zO⟩
def qhr (S:Sto) (root next:Int) (dead:List Int) (w:World) (e:Ending) (w':World):Prop:=Below w.heap.size w w' /\
 ((e=.returned (.tuple #[.slice none 0 0,.int .i64 8])/\∀ vs,Qb S root next dead vs->∃ refs nodes,qR S (Qk root dead vs) refs nodes/\¬Qw S refs) \/
  ∃ vs refs nodes cb ca vv lo,e=.returned (.tuple #[vv,.int .i64 0])/\w.heap.size<=lo/\Taken S root next dead vs refs nodes lo cb ca vv w')
theorem qdq {R:Ending->World->Prop} {a:Act} {W:World} {u v:Value} (h2:a.tmps[2]?.getD undef=u) (h3:a.tmps[3]?.getD undef=v) (hd:a.defers=[]) (hR:R (.returned (.tuple #[u,v])) W):bodyPost prog Tryz.f67 R .ret a W:=by refine bodyPost_ret (v:=.tuple #[u,v]) ?_ hd hR;simp[results,results67,go_sem,h2,h3]
set_option maxRecDepth 100000 in
theorem qdp (A1 n1 c1 A2 n2 c2 A3 n3 c3 A4 n4 c4) (gen root next:Int) (A5 c5) (S:Sto) (dead:List Int) (w:World) (h:qV w w.heap.size (.slice A1 n1 c1) (.slice A2 n2 c2) (.slice A3 n3 c3) (.slice A4 n4 c4) S) (hd:Zv w w.heap.size (.slice A5 dead.length c5) dead):Calls prog 67 #[.agg (qF (.slice A1 n1 c1) (.slice A2 n2 c2) (.slice A3 n3 c3) (.slice A4 n4 c4) gen root next (.slice A5 dead.length c5))] w (qhr S root next dead w):=by
 have HT:=zH (fun W (hx:Ext w W)=>KR A1 n1 c1 A2 n2 c2 A3 n3 c3 A4 n4 c4 gen root next A5 c5 S dead W (h.ext hx) (by obtain⟨A,c,e,q1,q2,q3⟩:=hd;exact⟨A,c,e,q1,q2,(q3.below hx).more hx.size⟩));clear h hd;go_enter func67,ntmps67;go_wp2_with fail;generalize aA:World.alloc w _=w1;have x1:Ext w w1:=aA▸zN _ _
 clear aA;refine(HT.out w1 x1).mono ?_;rintro e w2 ⟨hB,hQ⟩;have x2:Below w.heap.size w w2:=Ext.trans x1 hB;rcases hQ with ⟨rfl,aX⟩|⟨vs,refs,nodes,cb,ca,vv,rfl,hT⟩
 ·have HB:qhr S root next dead w (.returned (.tuple #[.slice none 0 0,.int .i64 8])) w2:=⟨x2,.inl ⟨rfl,aX⟩⟩
  replace HB:=zH HB;clear aX hB;go_wp2_with fail;exact qdq rfl rfl rfl HB.out
 ·have kc:w2.cell? ⟨cb,518,none⟩=some vv:=by rw[qa hT.row];exact hT.ar.vol
  obtain⟨AV,cV,rfl,-,-⟩:=qE hT.own;have HB:qhr S root next dead w (.returned (.tuple #[.slice AV vs.length cV,.int .i64 0])) w2:=⟨x2,.inr ⟨vs,refs,nodes,cb,ca,_,_,rfl,x1.size,hT⟩⟩
  replace HB:=zH HB;clear hT hB;go_wp2_with fail;exact qdq rfl rfl rfl HB.out
def vF (S:Sto) (a:Nat):Except Int Sto:=match QH S (-1) S.now a with
 |none=>.error 8
 |some t=>.ok (qw S t)
def Zn (S:Sto) (a:Int):Except Int Sto:=if JH S a=0 then vF S a.toNat else .error (JH S a)
theorem qgn {S:Sto} {a:Nat} (h:QH S (-1) S.now a=none):vF S a=.error 8:=by unfold vF;rw[h]
theorem qgo {S:Sto} {a:Nat} {t:List UInt8} (h:QH S (-1) S.now a=some t):vF S a=.ok (qw S t):=by unfold vF;rw[h]
def StoE (q:Except Int Sto) (lo:Nat) (u:Value) (W:World):Prop:=match q with
 | .error e=>u=.tuple #[Qe none 0 0 none 0 0 none 0 0 none 0 0,.int .i64 e]
 | .ok S'=>∃ v,u=.tuple #[v,.int .i64 0]/\QM lo S' v W
theorem qii {S:Sto} {a:Int} (h:JH S a≠0):Zn S a=.error (JH S a):=by unfold Zn;rw[if_neg h]
theorem qkz {S:Sto} {a:Nat} (h:JH S a=0):Zn S a=vF S a:=by unfold Zn;rw[if_pos h,Int.toNat_natCast]
theorem TM {R:Ending->World->Prop} {a:Act} {W:World} {b:Nat} {x0 x1 x2 x3 v:Value} (h4:a.tmps[4]?.getD undef=.pointer (some ⟨b,0,none⟩)) (h5:a.tmps[5]?.getD undef=v) (hd:a.defers=[]) (aF:W.heap[b]?=some (.cells #[x0,x1,x2,x3] 28 (0,0))) (hR:R (.returned (.tuple #[.agg #[x0,x1,x2,x3],v])) W):bodyPost prog Tryz.f80 R .ret a W:=by
 refine bodyPost_ret (v:=.tuple #[.agg #[x0,x1,x2,x3],v]) ?_ hd hR;have k:=qa aF;simp[results,results80,go_sem,h4,h5,k]
set_option maxRecDepth 100000 in
theorem qfQ (D:Nat->Prop) (B lo b g:Nat) (k:Option Nat) (S:Sto) (hS:ql S=true) (a:Nat) (ha:8<=a) (ak:a<256) (bat:Nat) (w:World) (fE:w.heap[bat]?=some (.cells #[.int .i64 (a:Int)] 3 (0,0))) (h:Bch D B lo b g k S w):Calls prog 142 #[.pointer (some ⟨b,0,none⟩),.pointer (some ⟨bat,0,none⟩)] w (jT D B lo b g k S a w):=by
 have HB:=zH (qbo D B lo b g k S hS a ha ak w h);have ka:=qa fE;clear h;go_enter func142,ntmps142;go_wp2_with fail;refine HB.out.mono ?_;clear HB;intro e W hQ;obtain⟨er,rfl⟩:∃ er,e=.returned (.int .i64 er):=by
  obtain⟨_,hc⟩:=hQ;split at hc
  ·exact⟨_,hc⟩
  ·exact⟨_,hc.1⟩
 replace hQ:=zH hQ;go_wp2_with fail;go_ret;exact hQ.out
set_option maxRecDepth 100000 in
theorem qhI (A1 n1 c1 A2 n2 c2 A3 n3 c3 A4 n4 c4) (S:Sto) (hS:ql S=true) (a:Nat) (ha:8<=a) (ak:a<256) (bat:Nat) (w:World) (fE:w.heap[bat]?=some (.cells #[.int .i64 (a:Int)] 3 (0,0))) (h:qV w w.heap.size (.slice A1 n1 c1) (.slice A2 n2 c2) (.slice A3 n3 c3) (.slice A4 n4 c4) S):Calls prog 139 #[Qe A1 n1 c1 A2 n2 c2 A3 n3 c3 A4 n4 c4,.func (.func 142) #[] #[.pointer (some ⟨bat,0,none⟩)]] w (Zg (StoE (vF S a) w.heap.size) w):=by
 obtain⟨q,hq⟩:∃ q,vF S a=q:=⟨_,rfl⟩
 rw[hq];replace hq:=zH hq;have HON:=zH (fun W (hx:Ext w W)=>qeB A1 n1 c1 A2 n2 c2 A3 n3 c3 A4 n4 c4 S (by have:=(Qc hS).2.2.1;omega) W (h.ext hx));replace h:=zH h;replace hS:=zH hS;go_enter func139,ntmps139;go_wp2_with fail;generalize aA:(World.alloc (World.alloc w _) _)=w1;have x1:Ext w w1:=aA▸(zN _ _).trans (zN _ _)
 have ro1:w1.heap[w.heap.size+1]?=some (.cells #[.slice none 0 0,.slice none 0 0,.slice none 0 0,.slice none 0 0] 28 (0,0)):=aA▸zI _ _ _ zA2
 clear aA;refine(HON.out w1 x1).mono ?_;clear HON;rintro e w2 ⟨u,rfl,⟨b,P3,d3,rfl,aQ,aF,aB⟩,hB⟩;have x12:Ext w1 w2:=hB;have x2:Ext w w2:=x1.trans x12;have ro2:=qb ro1 x12;obtain⟨g,gy⟩:=Bch.of_on (B:=w.heap.size) x1.size hS.out (h.out.below x2) aQ aF aB;have HL:=zH (qfQ (fun _=>False) w.heap.size w1.heap.size b g none S hS.out a ha ak bat w2 (qb fE x2) gy);have nB:¬B3 b g none (w.heap.size+1):=gy.notB3 ro2 zD zD zD;replace gy:=zH gy;clear hB ro1 aF aB;go_wp2_with fail;refine HL.out.mono ?_;clear HL;rintro e w3 ⟨hK,hQ⟩;have ro3:=hK.row ro2 nB;have x3:Below w.heap.size w w3:=Below.trans x2 (Below.mono hK.below x1.size);have zo3:=(zG.1 ro3).1;have ko3:=qa ro3;have fo3:=qe ro3;clear hK nB ro2 gy;rcases hl:QH S (-1) S.now a with _|t
 ·rw[hl] at hQ;obtain rfl:=hQ;obtain rfl:q=.error 8:=by rw[<-hq.out,qgn hl]
  clear hl hq;go_wp2_with fail;exact qdl (b:=w.heap.size+1) rfl rfl rfl (VC ro3 _ _ _ _) ⟨_,rfl,rfl,Zl x3 zO _ _ _ _⟩
 ·rw[hl] at hQ;obtain⟨rfl,dJ⟩:=hQ;have nY:=zH (show q=.ok (qw S t) by rw[<-hq.out,qgo hl]);obtain⟨E1,m1,e1,E2,m2,e2,e3,E4,e4,hrb,hsb⟩:=dJ.sto;have dw:GZ (qw S t):=QV (qG.2 ⟨(qG.1 hS.out).1,Yq ha (qG.1 hS.out).2.1 hl,(qG.1 hS.out).2.2⟩);have HT:=zH (Yc b E1 m1 e1 E2 m2 e2 (some ⟨g,0,none⟩) 256 e3 E4 256 e4 (qw S t) dw w3 hrb hsb);replace hl:=zH hl;clear dJ hrb hsb dw ko3 fo3;go_wp2_with fail;refine HT.out.mono ?_;clear HT;rintro e w4 ⟨u,rfl,hu,hB⟩;have bT:Ext w3 w4:=hB;have x4:Below w.heap.size w w4:=x3.trans (Below.mono bT x3.size);have ro4:=qb ro3 bT;have ko4:=qa ro4;have fo4:=qe ro4;have hK:=fun x0 x1 x2 x3'=>hu.set4 (b:=w.heap.size+1) (show w.heap.size<=w3.heap.size by omega) zo3 x0 x1 x2 x3';obtain⟨BB,WW,gg,B3,d3,B4,d4,rfl,-⟩:=id hu;replace hK:=zH hK;replace hu:=zH hu;clear hB ro3 x3;go_wp2_with fail;exact qdl (b:=w.heap.size+1) rfl rfl rfl (VC ro4 _ _ _ _) ⟨_,rfl,by rw[nY.out];exact⟨_,rfl,hK.out _ _ _ _⟩,Zl x4 zO _ _ _ _⟩
set_option maxRecDepth 100000 in
theorem qbu (A1 n1 c1 A2 n2 c2 A3 n3 c3 A4 n4 c4) (S:Sto) (a:Int) (w:World) (h:qV w w.heap.size (.slice A1 n1 c1) (.slice A2 n2 c2) (.slice A3 n3 c3) (.slice A4 n4 c4) S):Calls prog 80 #[Qe A1 n1 c1 A2 n2 c2 A3 n3 c3 A4 n4 c4,.int .i64 a] w (Zg (StoE (Zn S a) w.heap.size) w):=by
 have HA:=zH (fun W (hx:Ext w W)=>qfU A1 n1 c1 A2 n2 c2 A3 n3 c3 A4 n4 c4 S a W (h.ext hx));obtain⟨q,hq⟩:∃ q,Zn S a=q:=⟨_,rfl⟩
 rw[hq];replace hq:=zH hq;replace h:=zH h;go_enter func80,ntmps80;go_wp2_with fail;generalize aA:(World.alloc (World.alloc (World.alloc w _) _) _)=w1;have x1:Ext w w1:=aA▸((zN _ _).trans (zN _ _)).trans (zN _ _)
 have rs1:w1.heap[w.heap.size]?=some (.cells #[.slice A1 n1 c1,.slice A2 n2 c2,.slice A3 n3 c3,.slice A4 n4 c4] 28 (0,0)):=by rw[<-aA];exact(zK _ _ _ (by simp;try omega)).trans ((zK _ _ _ zA2).trans (zI _ _ _ rfl))
 have ra1:w1.heap[w.heap.size+1]?=some (.cells #[.int .i64 a] 3 (0,0)):=aA▸(zK _ _ _ zA2).trans (zI _ _ _ zA2)
 have ro1:w1.heap[w.heap.size+2]?=some (.cells #[.slice none 0 0,.slice none 0 0,.slice none 0 0,.slice none 0 0] 28 (0,0)):=aA▸zI _ _ _ zA2
 have kk1:=qa ra1;have ks1:=qa rs1;clear aA;go_wp2_with fail;refine(HA.out w1 x1).mono ?_;clear HA;rintro e w2 ⟨rfl,hB⟩;have x2:Ext w w2:=x1.trans hB;have rs2:=qb rs1 hB;have ra2:=qb ra1 hB;have ro2:=qb ro1 hB;clear hB rs1 ro1 x1 ks1 kk1 ra1;by_cases h0:JH S a=0
 ·obtain⟨hS,m,rfl,uC,dn,lH⟩:=kR h0;have HD:=qhI A1 n1 c1 A2 n2 c2 A3 n3 c3 A4 n4 c4 S hS m uC dn (w.heap.size+1) w2 ra2 (h.out.ext x2);have ks2:=qa rs2;rw[(show vF S m=q by rw[<-hq.out,qkz h0])] at HD;rw[h0];replace hS:=zH hS;clear lH h0 hq;go_wp2_with fail;refine HD.mono ?_;clear HD;rintro e w3 ⟨u,rfl,hT,hB⟩;have x3:Ext w w3:=x2.trans hB;have ro3:=qb ro2 hB;have zo2:w.heap.size+2<w2.heap.size:=(zG.1 ro2).1;have ko3:=qa ro3;have fo3:=qe ro3;clear hB ks2 rs2 ra2 ro2 x2;rcases q with er|S'
  ·obtain rfl:=hT;go_wp2_with fail;exact TM (b:=w.heap.size+2) rfl rfl rfl (VC ro3 _ _ _ _) ⟨_,rfl,rfl,Zl x3 zO _ _ _ _⟩
  ·obtain⟨v,rfl,hT⟩:=hT;have hK:=fun x0 x1 x2 x3'=>hT.set4 (b:=w.heap.size+2) (show w.heap.size<=w2.heap.size by omega) zo2 x0 x1 x2 x3';obtain⟨BB,WW,gg,B3,d3,B4,d4,rfl,hD,hN,hL⟩:=hT;replace hK:=zH hK;clear hD hN hL;go_wp2_with fail;exact TM (b:=w.heap.size+2) rfl rfl rfl (VC ro3 _ _ _ _) ⟨_,rfl,⟨_,rfl,hK.out _ _ _ _⟩,Zl x3 zO _ _ _ _⟩
 ·obtain⟨er,lT⟩:∃ er,JH S a=er:=⟨_,rfl⟩
  obtain rfl:q=.error er:=by rw[<-hq.out,qii h0,lT]
  rw[lT] at h0 ⊢;have he:(er != 0)=true:=by rw[bne_iff_ne];exact h0
  have ko2:=qa ro2;have fo2:=qe ro2;clear lT hq h0;go_wp2_with fail;exact TM (b:=w.heap.size+2) rfl rfl rfl (VC ro2 _ _ _ _) ⟨_,rfl,rfl,Zl x2 zO _ _ _ _⟩
def Kk (S:Sto) (root next:Int) (dead:List Int) (v:Vol) (er:Int):Prop:=(er=8/\QK S root next dead)\/∃ vs refs nodes,Qb S root next dead vs/\qR S (Qk root dead vs) refs nodes/\Qw S refs /\
 (jn S next v vs refs=er\/(jn S next v vs refs=0/\(setE S root v=.error er\/(er=8/\∃ r S',setE S root v=.ok (r,S')/\QK S' (r:Int) next dead))))
def vT (S:Sto) (root next:Int) (dead:List Int) (v:Vol) (r:Nat) (S':Sto) (vs':List Vol):Prop:=∃ vs refs nodes,Qb S root next dead vs/\qR S (Qk root dead vs) refs nodes/\Qw S refs /\
 jn S next v vs refs=0/\setE S root v=.ok (r,S')/\Jr S' (r:Int) next dead vs'
theorem SetQ.split {S:Sto} {gen root next:Int} {dead:List Int} {v:Vol} {w w':World} {e:Ending} (h:SetQ S gen root next dead v w e w'):Below w.heap.size w w' /\ ((∃ er,er≠0/\e=.returned (.tuple #[jb,.int .i64 er])/\Kk S root next dead v er) \/
   ∃ r S' vs' u,vT S root next dead v r S' vs'/\e=.returned (.tuple #[u,.int .i64 0])/\jV w.heap.size S' gen (r:Int) next dead u w'):=by
 obtain⟨hB,h⟩:=h;refine⟨hB,?_⟩;rcases h with ⟨rfl,hb⟩|⟨vs,refs,nodes,hp,hc,he,h⟩
 ·exact .inl ⟨8,zD,rfl,.inl ⟨rfl,hb⟩⟩
 ·rcases h with ⟨er,h0,e1,h⟩|⟨r,S',vs',u,h1,h2,h3,h4,h5⟩
  ·exact .inl ⟨er,h0,e1,.inr ⟨vs,refs,nodes,hp,hc,he,h⟩⟩
  ·exact .inr ⟨r,S',vs',u,⟨vs,refs,nodes,hp,hc,he,h1,h2,h3⟩,h4,h5⟩
theorem jV.sto {lo:Nat} {S:Sto} {gen root next:Int} {dead:List Int} {u:Value} {W:World} (h:jV lo S gen root next dead u W):∃ A1 c1 A2 c2 A3 c3 A4 c4 A5 c5,u=.agg (qF (.slice A1 S.bs.length c1) (.slice A2 S.ws.length c2) (.slice A3 S.now.length c3) (.slice A4 S.last.length c4) gen root next (.slice A5 dead.length c5)) /\
  qV W W.heap.size (.slice A1 S.bs.length c1) (.slice A2 S.ws.length c2) (.slice A3 S.now.length c3) (.slice A4 S.last.length c4) S/\Zv W W.heap.size (.slice A5 dead.length c5) dead:=by
 obtain⟨A1,c1,A2,c2,A3,c3,A4,c4,A5,c5,e,h⟩:=h;exact⟨A1,c1,A2,c2,A3,c3,A4,c4,A5,c5,e,h W fun q v h1 h2 h3=>(GT h3).1⟩
theorem jV.keep {lo lo':Nat} {S:Sto} {gen root next:Int} {dead:List Int} {u:Value} {W W':World} (h:jV lo S gen root next dead u W) (hl:lo'<=lo) (hs:W.heap.size<=W'.heap.size) (hk:∀ k,lo<=k->k<W.heap.size->W'.heap[k]?=W.heap[k]?):jV lo' S gen root next dead u W':=by obtain⟨A1,c1,A2,c2,A3,c3,A4,c4,A5,c5,e,h⟩:=h;refine⟨A1,c1,A2,c2,A3,c3,A4,c4,A5,c5,e,fun C hC=>?_⟩;obtain⟨h1,h2⟩:=h C fun q v h1 h2 h3=>hC q v zO zO ((ZX (hk q.block h1 h2)).trans h3);exact⟨h1.more hs,h2.more hs⟩
theorem same8 {w:World} {b:Nat} {x0 x1 x2 x3 x4 x5 x6 x7:Value} {ty:TypeId} (h:w.heap[b]?=some (.cells #[x0,x1,x2,x3,x4,x5,x6,x7] ty (0,0))):Ext w ((((((((w.setCell ⟨b,0,none⟩ x0).setCell ⟨b,1,none⟩ x1).setCell ⟨b,2,none⟩ x2).setCell ⟨b,3,none⟩ x3).setCell ⟨b,4,none⟩ x4).setCell ⟨b,5,none⟩ x5).setCell ⟨b,6,none⟩ x6).setCell ⟨b,7,none⟩ x7):=by have e0:=Qv (j:=0) (v:=x0) h rfl;have h0:=qb h e0;have e1:=Qv (j:=1) (v:=x1) h0 rfl;have h1:=qb h0 e1;have e2:=Qv (j:=2) (v:=x2) h1 rfl;have h2:=qb h1 e2;have e3:=Qv (j:=3) (v:=x3) h2 rfl;have h3:=qb h2 e3;have e4:=Qv (j:=4) (v:=x4) h3 rfl;have h4:=qb h3 e4;have e5:=Qv (j:=5) (v:=x5) h4 rfl;have h5:=qb h4 e5;have e6:=Qv (j:=6) (v:=x6) h5 rfl;have h6:=qb h5 e6;exact((((((e0.trans e1).trans e2).trans e3).trans e4).trans e5).trans e6).trans (Qv (j:=7) (v:=x7) h6 rfl)
structure Sets (X:Nat->Prop) (W C:World):Prop where
 os:C.os=W.os
 tape:C.tape=W.tape
 output:C.output=W.output
 size:C.heap.size=W.heap.size
 same:∀ k,¬X k->C.heap[k]?=W.heap[k]?
theorem Sets.refl (X:Nat->Prop) (W:World):Sets X W W:=⟨rfl,rfl,rfl,rfl,fun _ _=>rfl⟩
theorem Sets.set {X:Nat->Prop} {W C:World} (h:Sets X W C) {b:Nat} (j:Nat) (hb:X b) (v:Value):Sets X W (C.setCell ⟨b,j,none⟩ v):=⟨h.os,h.tape,h.output,by simpa using h.size,fun k hk=>(zJ _ _ _ _ fun e=>hk (by have e':k=b:=e;rw[e'];exact hb)).trans (h.same k hk)⟩
theorem Sets.row {X:Nat->Prop} {W C:World} (h:Sets X W C) {b:Nat} {o:Obj} (hr:W.heap[b]?=some o) (hb:¬X b):C.heap[b]?=some o:=(h.same b hb).trans hr
theorem Sets.below {X:Nat->Prop} {W C w:World} {B:Nat} (h:Sets X W C) (hB:Below B w W) (hX:∀ k,X k->B<=k):Below B w C:=hB.trans ⟨h.os,h.tape,h.output,by rw[h.size];exact zM _,fun k hk=>h.same k fun hx=>by have:=hX k hx;omega⟩
theorem qjf {f:List UInt8->Nat->Option (List UInt8)} (hf:∀ t r t',f t r=some t'->∀ j,qN t' j<=qN t j):∀ (rs:List Nat) (o:Option (List UInt8)) (t':List UInt8),rs.foldl (fun acc r=>acc.bind fun t=>f t r) o=some t'->∃ t,o=some t/\∀ j,qN t' j<=qN t j
 | [],o,t',h=>⟨t',h,fun _=>zM _⟩
 |r :: rs,o,t',h=>by
  rw[List.foldl_cons] at h;obtain⟨t1,h1,h2⟩:=qjf hf rs _ t' h;cases o with
  |none=>cases h1
  |some t =>
   exact⟨t,rfl,fun j=>Nat.le_trans (h2 j) (hf t r t1 h1 j)⟩
theorem GA (S:Sto):∀ (h:Nat) (lvl:Int) (t:List UInt8) (a:Nat) (t':List UInt8),leaveF S h lvl t a=some t'->∀ j,qN t' j<=qN t j
 |0,lvl,t,a,t',e=>by cases e
 |h+1,lvl,t,a,t',e=>by
  rw[Jc] at e;split at e
  ·cases e
  ·split at e
   ·cases e;exact fun j=>qaY t a j
   ·split at e
    ·cases e
    ·rename_i l xs _;split at e
     ·cases e
     ·split at e
      ·obtain⟨t0,h0,h1⟩:=qjf (fun t r t'=>GA S h (l-1) t r t') _ _ _ e;cases h0;exact fun j=>Nat.le_trans (h1 j) (zero_le t a j)
      ·split at e
       ·cases e
       ·rename_i t1 hl;cases e;exact fun j=>Nat.le_trans ((VL hl).2 j) (zero_le t a j)
theorem qjO {S:Sto} {t:List UInt8} (h:∀ j,qN t j<=qN S.now j):SM (qw S t) S where
 node r nd e:=by
  unfold qt at e ⊢;split at e
  ·cases e
  ·rename_i h1;rw[if_neg (by have:=h r;unfold qN at this;simp only[qw] at h1;omega)];exact e
 pos r e:=by have:=h r;unfold qN at this;simp only[qw] at e;omega
def Tb (v:Vol) (vs:List Vol):List Vol:=(vs.filter fun u=>decide (u.id<v.id))++[v]++vs.filter fun u=>decide (v.id<u.id)
theorem qgf (v:Vol) (vs:List Vol):Qs (Tb v vs) v.id=some v:=by unfold Qs Tb;rw[List.find?_append,List.find?_append,List.find?_filter];have e1:vs.find? (fun u=>decide (decide (u.id<v.id)=true/\decide (u.id=v.id)=true))=none:=List.find?_eq_none.2 fun u _=>zA1;rw[e1];simp
theorem qjX {y:It} (h:KG y=true):qo y=(1,y.i,0):=by unfold KG at h;simp only[Bool.and_eq_true] at h;have h2:=h.2;unfold Xy at h2;simp only[decide_eq_true_eq] at h2;obtain⟨h1,-,h3,-⟩:=h2;unfold qo;rw[<-h1,<-h3]
theorem volAt_it {v:Vol} (h:JZ v):Jq (YN v)=v:=by
 obtain⟨⟨a0,a1⟩,⟨b0,b1⟩,⟨c0,c1⟩⟩:=h;obtain⟨id,root,fz,frm⟩:=v;obtain⟨root,rfl⟩:=Int.eq_ofNat_of_zero_le b0;obtain⟨frm,rfl⟩:=Int.eq_ofNat_of_zero_le c0;simp only at a0 a1 b0 b1 c0 c1;have hlen:(Qn ⟨id,(root:Int),fz,(frm:Int)⟩).length=7:=vy _;have d0:(Qn ⟨id,(root:Int),fz,(frm:Int)⟩).drop 0=qB root 2++([if fz then 1 else 0]++qB frm 4):=by simp[Qn]
 have d2:(Qn ⟨id,(root:Int),fz,(frm:Int)⟩).drop (0+2)=[if fz then 1 else 0]++qB frm 4:=VI d0 (QB _ _);have d3:(Qn ⟨id,(root:Int),fz,(frm:Int)⟩).drop (0+2+1)=qB frm 4++[]:=by rw[List.append_nil];exact VI d2 rfl
 have e2:(Qn ⟨id,(root:Int),fz,(frm:Int)⟩)[2]?=some (if fz then 1 else 0):=by
  have:(Qn ⟨id,(root:Int),fz,(frm:Int)⟩)[2]?=((Qn ⟨id,(root:Int),fz,(frm:Int)⟩).drop (0+2))[0]?:=by rw[List.getElem?_drop]
  rw[this,d2];rfl
 unfold Jq YN;simp only;rw[Xq d0 rfl zO zO,Xq d3 rfl zO zO,e2];cases fz <;> rfl
theorem ins_map {v:Vol} (hv:JZ v):∀ {l:List It},(∀ y∈l,KG y=true)->(Vy (qo (YN v)) (YN v) l).map Jq=Tb v (l.map Jq):=fun {l} h=>by
 have k:qo (YN v)=(1,v.id,0):=rfl;unfold Vy Tb;rw[k,List.map_append,List.map_append,List.filter_map,List.filter_map];have f1:(l.filter fun y=>qP (qo y) (1,v.id,0))=l.filter ((fun u:Vol=>decide (u.id<v.id)) ∘ Jq):=List.filter_congr fun y hy=>by rw[qjX (h y hy),Bool.eq_iff_iff];simp[qP,Jv,Jq];exact decide_eq_true_iff.symm
 have f2:(l.filter fun y=>qP (1,v.id,0) (qo y))=l.filter ((fun u:Vol=>decide (v.id<u.id)) ∘ Jq):=List.filter_congr fun y hy=>by rw[qjX (h y hy),Bool.eq_iff_iff];simp[qP,Jv,Jq];exact decide_eq_true_iff.symm
 rw[f1,f2];simp[volAt_it hv]
theorem XZ {next:Int} {l:List It} {vs:List Vol} (h:Zy next [] l=some vs):(∀ y∈l,KG y=true)/\vs=l.map Jq:=by
 rw[Uc next l [] zA2] at h;split at h
 ·rename_i hc;cases h;refine⟨fun y hy=>?_,zA2⟩;have:=List.all_eq_true.1 hc.1 y hy;unfold Jn at this;simp only[Bool.and_eq_true] at this;exact this.1
 ·cases h
theorem vT.vols {S S':Sto} {root next:Int} {dead:List Int} {v:Vol} {r:Nat} {vs':List Vol} (h:vT S root next dead v r S' vs') (hv:JZ v) : ∃ vs S2,Qb S root next dead vs/\Qb S' (r:Int) next dead vs'/\vs'=Tb v vs/\SM S S2/\SM S' S2:=by
 obtain⟨vs,refs,nodes,hp,-,-,-,dR,⟨refs',nodes',fU,-⟩⟩:=h;obtain⟨a,ha,h8,h256,lvl,xs,hn,hs⟩:=ZR hp.top;subst ha;unfold setE at dR;rw[Int.toNat_natCast,hn] at dR;simp only[Int.toNat_natCast] at dR;unfold Tc at dR;split at dR
 ·rename_i yl;obtain⟨S2,t,H,ys,rfl,m,yc,hn2,hs2,hi2,hl⟩:=qkM hp.may (GY.of (qcu hv) yl) hn hs dR;have ml:SM (qw S2 t) S2:=qjO (GA S2 7 _ _ _ _ hl);have hv2:=ml.vols fU.top fU.vols;have hv1:=hp.vols;unfold Vr at hv1 hv2;rw[Int.toNat_natCast,hn] at hv1;rw[Int.toNat_natCast,hn2] at hv2;simp only[Int.toNat_natCast] at hv1 hv2;rw[hi2] at hv2;obtain⟨g1,e1⟩:=XZ hv1;obtain⟨g2,e2⟩:=XZ hv2;refine⟨vs,S2,hp,fU,?_,m,ml⟩;rw[e2,e1,ins_map hv g1]
 ·cases dR
theorem qia {S S' S2:Sto} (m:SM S S2) (m':SM S' S2) {a lvl lvl':Nat} {xs xs':List It} (hn:qt S a=some ((lvl:Int),xs)) (hs:(qD S lvl xs).isSome=true) (hn':qt S' a=some ((lvl':Int),xs')) (wP:(qD S' lvl' xs').isSome=true):lvl'=lvl/\xs'=xs/\qC S' lvl' xs'=qC S lvl xs:=by
 have e1:=m.node _ _ hn;have e2:=m'.node _ _ hn';rw[e1] at e2;simp only[Option.some.injEq,Prod.mk.injEq] at e2;obtain⟨h1,rfl⟩:=e2;obtain rfl:lvl=lvl':=zO;exact⟨rfl,rfl,by rw[<-m.items _ _ hs,<-m'.items _ _ wP]⟩

theorem qdx {S:Sto}:∀ (h:Nat) (xs:List It),(∀ x∈xs,zu x)->∀ y∈qC S h xs,zu y
 |0,xs,hx,y,hy=>hx y hy
 |h+1,xs,_,y,hy=>by
  rw[zy] at hy;obtain⟨z,hz,hy⟩:=List.mem_flatMap.1 hy;rcases hn:qt S z.r.toNat with _|⟨lvl,ys⟩
  ·rw[hn] at hy;cases hy
  ·rw[hn] at hy;exact qdx h ys (fun x hx=>((qM hn).2.1 x hx).1) y hy
theorem Gd {S:Sto} {root next:Int} {dead:List Int} {vs:List Vol} (h:Qb S root next dead vs):∀ v∈vs,JZ v:=fun v hv=>by
 obtain⟨a,rfl,h8,h256,lvl,xs,hn,hs⟩:=ZR h.top;have hvs:=h.vols;unfold Vr at hvs;rw[show ((a:Nat):Int).toNat=a from rfl,hn] at hvs;simp only[Int.toNat_natCast] at hvs;rw[Uc _ _ _ zA2] at hvs;split at hvs
 ·rename_i hc;simp only[Option.some.injEq,List.nil_append] at hvs;rw[<-hvs] at hv;obtain⟨x,hx,rfl⟩:=List.mem_map.1 hv;have h1:=qdx (S:=S) lvl xs (fun y hy=>((qM hn).2.1 y hy).1) x hx;have h2:=List.all_eq_true.1 hc.1 x hx;unfold Jn KG at h2;simp only[Bool.and_eq_true,decide_eq_true_eq] at h2;exact qhh h1 zO
 ·cases hvs
theorem QK.no {S:Sto} {root next:Int} {dead:List Int} {vs:List Vol} {refs nodes:Nat->Nat} (h:QK S root next dead) (hp:Qb S root next dead vs) (hc:qR S (Qk root dead vs) refs nodes) (he:Qw S refs):False:=by obtain⟨r,n,h1,h2⟩:=h vs hp;obtain⟨_,e⟩:=jU.same h1.mkd hc.mkd;subst e;exact h2 he
def GV (M:Nat->Bool) (a:Nat):Nat->Bool:=fun b=>if b=a then false else M b
theorem qea (M:Nat->Bool) (a:Nat):GV M a a=false:=by simp[GV]
theorem Gg {M:Nat->Bool} {a b:Nat} (h:b≠a):GV M a b=M b:=by simp[GV,h]
theorem VF {M:Nat->Bool} {a b:Nat} (h:GV M a b=true):M b=true/\b≠a:=by
 by_cases e:b=a
 ·subst e;rw[qea] at h;cases h
 ·rw[Gg e] at h;exact⟨h,e⟩
theorem qkD {M:Nat->Bool} {a:Nat} (h:M a=true):vG (GV M a) a=M:=by
 funext b;unfold vG GV;by_cases e:b=a
 ·subst e;simp[h]
 ·simp[e]
theorem GP {rs:Nat->List Nat} {M:Nat->Bool} {a b:Nat} (h:M a=true) (n:Nat):jS rs M b n=jS rs (GV M a) b n+if a<n then (rs a).count b else 0:=by rw[<-XR (qea M a) n,qkD h]
theorem XS {rs:Nat->List Nat} {M M':Nat->Bool} (h:∀ a,M a=true->M' a=true) (b:Nat):∀ n,jS rs M b n<=jS rs M' b n
 |0=>zM _
 |n+1=>by
  unfold jS;have h1:=XS (rs:=rs) h b n;by_cases hn:M n=true
  ·rw[if_pos hn,if_pos (h n hn)];omega
  ·rw[if_neg hn];omega
theorem qgV {rs:Nat->List Nat} {M:Nat->Bool} {a b:Nat} (ha:M a=true) (hb:b∈rs a) {n:Nat} (hn:a<n):0<jS rs M b n:=by rw[GP ha n,if_pos hn];have:=List.count_pos_iff.2 hb;omega
structure Cov (ks rs:Nat->List Nat) (t:List UInt8) (R:List Nat) (M:Nat->Bool):Prop where
 kid:∀ a,M a=true->∀ b∈ks a,M b=true
 sub:∀ a b,b∈ks a->b∈rs a
 cnt:∀ b,0<b->R.count b+jS rs M b 256<=qN t b
 live:∀ a,M a=true->qN t a≠0
 low:∀ a,M a=true->0<a/\a<256
structure Ya (R:List Nat) (M M':Nat->Bool):Prop where
 le:∀ a,M' a=true->M a=true
 keep:∀ a,a∈R->M a=true->M' a=true
theorem Ya.refl (R:List Nat) (M:Nat->Bool):Ya R M M:=⟨fun _ h=>h,fun _ _ h=>h⟩
theorem Ya.trans {R:List Nat} {M M' M'':Nat->Bool} (h:Ya R M M') (k:Ya R M' M''):Ya R M M'':=⟨fun a x=>h.le a (k.le a x),fun a x y=>k.keep a x (h.keep a x y)⟩
theorem Ya.mono {R R':List Nat} {M M':Nat->Bool} (h:Ya R M M') (hr:∀ a∈R',a∈R):Ya R' M M':=⟨h.le,fun a x y=>h.keep a (hr a x) y⟩
section
variable {ks rs:Nat->List Nat} {t t':List UInt8} {R R':List Nat} {M:Nat->Bool} {a b:Nat}
theorem Cov.perm (h:Cov ks rs t R M) (hc:∀ b,0<b->R'.count b<=R.count b):Cov ks rs t R' M:=⟨h.kid,h.sub,fun b hb=>Nat.le_trans (Nat.add_le_add_right (hc b hb) _) (h.cnt b hb),h.live,h.low⟩
theorem Cov.drop (h:Cov ks rs t R M) (ha:M a=true) (h0:jS rs M a 256=0):Cov ks rs t R (GV M a) where
 kid c hc d hd:=by
  obtain⟨h1,h2⟩:=VF hc;have e:d≠a:=fun e=>by have:=qgV h1 (h.sub c d hd) (h.low c h1).2;rw[e] at this;omega
  rw[Gg e];exact h.kid c h1 d hd
 sub:=h.sub
 cnt b hb:=Nat.le_trans (Nat.add_le_add_left (XS (fun c hc=>(VF hc).1) b 256) _) (h.cnt b hb)
 live c hc:=h.live c (VF hc).1
 low c hc:=h.low c (VF hc).1
theorem KD {t:List UInt8} {b:Nat} (h:qN t b≠0) (c:Nat):qN (vd t b) c=if c=b then qN t b-1 else qN t c:=by
 have hl:b<t.length:=by
  by_cases h1:b<t.length
  ·exact h1
  ·exact absurd (KC zO) h
 have h2:=XH t b;unfold vd;by_cases e:c=b
 ·subst e;rw[if_pos rfl,vM hl,UInt8.toNat_ofNat'];omega
 ·rw[if_neg e,jY e]
theorem Cov.loose (h:Cov ks rs t (b :: R) M) (hb:0<b):∃ M',Cov ks rs (vd t b) R M'/\Ya R M M':=by
 have h1:=h.cnt b hb;rw[List.count_cons_self] at h1;have aG:qN t b≠0:=zO;have hc:∀ c,0<c->R.count c+jS rs M c 256<=qN (vd t b) c:=fun c hc=>by
  rw[KD aG c];split
  ·rename_i e;subst e;omega
  ·rename_i e;have:=h.cnt c hc
   rwa [List.count_cons_of_ne (fun x=>e x.symm)] at this
 by_cases hM:M b=true/\qN t b=1
 ·have h0:jS rs M b 256=0:=zO;have hr:R.count b=0:=zO;have hd:=h.drop hM.1 h0;refine⟨GV M b,⟨hd.kid,h.sub,fun c di=>Nat.le_trans (Nat.add_le_add_left (XS (fun d hd=>(VF hd).1) c 256) _) (hc c di),fun c hcM=>?_,hd.low⟩,fun c hc=>(VF hc).1,fun c hcR hcM=>?_⟩
  ·obtain⟨k1,k2⟩:=VF hcM;rw[KD aG c,if_neg k2];exact h.live c k1
  ·rw[Gg]
   ·exact hcM
   ·rintro rfl;exact absurd hcR (List.count_eq_zero.1 hr)
 ·refine⟨M,⟨h.kid,h.sub,hc,fun c hcM=>?_,h.low⟩,Ya.refl _ _⟩;rw[KD aG c];split
  ·rename_i e;subst e;intro e;exact hM ⟨hcM,zO⟩
  ·exact h.live c hcM
theorem Cov.looseL:∀ {l:List Nat} {t t':List UInt8} {M:Nat->Bool},Cov ks rs t (l++R) M->looseL l t=.ok t'->∃ M',Cov ks rs t' R M'/\Ya R M M'
 | [],t,t',M,h,e=>by cases e;exact⟨M,h,Ya.refl _ _⟩
 |a :: l,t,t',M,h,e=>by
  by_cases ha:a=0
  ·subst ha;rw[jr] at e;exact Cov.looseL (h.perm fun b hb=>by rw[List.cons_append,List.count_cons_of_ne zO];exact zM _) e
  ·by_cases h0:qN t a=0
   ·rw[Jd ha h0] at e;cases e
   ·rw[jq ha h0] at e;obtain⟨M1,h1,l1⟩:=Cov.loose (R:=l++R) h zO;obtain⟨M2,h2,l2⟩:=Cov.looseL h1 e;exact⟨M2,h2,(l1.mono fun _ x=>List.mem_append_right _ x).trans l2⟩
end
section
variable {S:Sto} {R:List Nat}
theorem YA {S:Sto} {a:Nat} {lvl:Int} {xs:List It} (hn:qt S a=some (lvl,xs)) {b:Nat} (hb:0<b):(qz xs).count b=(QQ S a).count b:=by unfold QQ qz;rw[hn];simp only;rw[List.count_filter (by simpa using (show b≠0 by omega))]
theorem qjt {S:Sto} {a:Nat} {lvl:Int} {xs:List It} (hn:qt S a=some (lvl,xs)) (hl:0<lvl):zF S a=QQ S a:=by unfold zF;rw[hn];simp only;rw[if_pos hl]
theorem Cov.gone {t:List UInt8} {M:Nat->Bool} {a:Nat} {lvl:Int} {xs:List It} (h:Cov (zF S) (QQ S) t (a :: R) M) (hM:M a=true) (h1:qN t a=1) (hn:qt S a=some (lvl,xs)):Cov (zF S) (QQ S) (t.set a 0) (qz xs++R) (GV M a)/\R.count a=0/\(∀ r∈zF S a,GV M a r=true):=by
 obtain⟨uQ,ak⟩:=h.low a hM;have h2:=h.cnt a uQ;rw[List.count_cons_self,h1] at h2;have h0:jS (QQ S) M a 256=0:=zO;have hR:R.count a=0:=zO;have hd:=h.drop hM h0;have hl:a<t.length:=by
  by_cases hx:a<t.length
  ·exact hx
  ·rw[KC zO] at h1;cases h1
 have hra:(QQ S a).count a=0:=by have:=GP (rs:=QQ S) (b:=a) hM 256;rw[if_pos ak] at this;omega
 refine⟨⟨hd.kid,h.sub,fun b hb=>?_,fun c hc=>?_,hd.low⟩,hR,fun r hr=>?_⟩
 ·rw[List.count_append,YA hn hb];have h3:=GP (rs:=QQ S) (b:=b) hM 256;rw[if_pos ak] at h3;by_cases e:b=a
  ·subst e;rw[vM hl];show _<=0;omega
  ·rw[jY e];have h4:=h.cnt b hb;rw[List.count_cons_of_ne (fun x=>e x.symm)] at h4;omega
 ·obtain⟨k1,k2⟩:=VF hc;rw[jY k2];exact h.live c k1
 ·rw[Gg]
  ·exact h.kid a hM r hr
  ·rintro rfl;have:=List.count_pos_iff.2 (h.sub r r hr);omega
theorem Cov.foldl {f:List UInt8->Nat->Option (List UInt8)} (hf:∀ {t t':List UInt8} {a:Nat} {R:List Nat} {M:Nat->Bool},Cov (zF S) (QQ S) t (a :: R) M->M a=true->f t a=some t'->∃ M',Cov (zF S) (QQ S) t' R M'/\Ya R M M') : ∀ (l:List Nat) {t t':List UInt8} {M:Nat->Bool},Cov (zF S) (QQ S) t (l++R) M->(∀ r∈l,M r=true)->l.foldl (fun acc r=>acc.bind fun t=>f t r) (some t)=some t'->∃ M',Cov (zF S) (QQ S) t' R M'/\Ya R M M'
 | [],t,t',M,h,_,e=>by cases e;exact⟨M,h,Ya.refl _ _⟩
 |a :: l,t,t',M,h,hM,e=>by
  rw[List.foldl_cons,Option.bind_some] at e;rcases e1:f t a with _|t1
  ·rw[e1] at e;exfalso;have:∀ l:List Nat,l.foldl (fun acc r=>acc.bind fun t=>f t r) none=none:=fun l=>by
    induction l with
    |nil=>rfl
    |cons x l ih=>rw[List.foldl_cons];exact ih
   rw[this] at e;cases e
  ·rw[e1] at e;obtain⟨M1,h1,l1⟩:=hf (R:=l++R) h (hM a List.mem_cons_self) e1;obtain⟨M2,h2,l2⟩:=Cov.foldl hf l h1 (fun r hr=>l1.keep r (List.mem_append_left _ hr) (hM r (List.mem_cons_of_mem _ hr))) e;exact⟨M2,h2,(l1.mono fun _ x=>List.mem_append_right _ x).trans l2⟩
theorem Cov.leaveF:∀ (h:Nat) (lvl:Int) {t t':List UInt8} {a:Nat} {R:List Nat} {M:Nat->Bool},Cov (zF S) (QQ S) t (a :: R) M->M a=true->leaveF S h lvl t a=some t'->∃ M',Cov (zF S) (QQ S) t' R M'/\Ya R M M'
 |0,lvl,t,t',a,R,M,_,_,e=>by cases e
 |h+1,lvl,t,t',a,R,M,hc,hM,e=>by
  rw[Jc] at e;split at e
  ·cases e
  ·rename_i h0;split at e
   ·cases e;exact hc.loose (hc.low a hM).1
   ·rename_i h1;split at e
    ·cases e
    ·rename_i l xs hn;split at e
     ·cases e
     ·obtain⟨hg,hR,hk⟩:=hc.gone hM zO hn;have rG:Ya R M (GV M a):=⟨fun c hc=>(VF hc).1,fun c hcR hcM=>by
       rw[Gg]
       ·exact hcM
       ·rintro rfl;exact absurd hcR (List.count_eq_zero.1 hR)⟩
      split at e
      ·rename_i hl;obtain⟨M',h2,l2⟩:=Cov.foldl (R:=R) (f:=fun t r=>Go.Proofs.YtmeadnlmepcmbaaGreat.leaveF S h (l-1) t r) (fun hc hM e=>Cov.leaveF h (l-1) hc hM e) (qz xs) hg (fun r hr=>hk r (by rw[qjt hn hl];have h8:=(qbQ hn hl r hr).1;have:=YA hn (show 0<r by omega);have hp:=List.count_pos_iff.2 hr;exact List.count_pos_iff.1 zO)) e;exact⟨M',h2,rG.trans l2⟩
      ·split at e
       ·cases e
       ·rename_i t1 el;cases e;obtain⟨M',h2,l2⟩:=Cov.looseL (R:=R) hg el;exact⟨M',h2,rG.trans l2⟩
end
theorem Uu (S:Sto) (a b:Nat) (h:b∈zF S a):b∈QQ S a:=by
 unfold zF at h;split at h
 ·cases h
 ·split at h
  ·exact h
  ·cases h
theorem YC {rs rs':Nat->List Nat} {M:Nat->Bool} (h:∀ a,M a=true->rs' a=rs a) (b:Nat):∀ n,jS rs' M b n=jS rs M b n
 |0=>rfl
 |n+1=>by
  unfold jS;rw[YC h b n];by_cases hn:M n=true
  ·rw[if_pos hn,if_pos hn,h n hn]
  ·rw[if_neg hn,if_neg hn]
structure ZW (S:Sto) (R:List Nat) (M:Nat->Bool):Prop where
 cov:Cov (zF S) (QQ S) S.now R M
 nd:∀ a,M a=true->(qt S a).isSome=true
theorem XO {S S':Sto} {a:Nat} (h:qt S' a=qt S a):QQ S' a=QQ S a/\zF S' a=zF S a:=by
 have e:QQ S' a=QQ S a:=by unfold QQ;rw[h]
 refine⟨e,?_⟩;unfold zF;rw[h,e]
theorem ZW.perm {S:Sto} {R R':List Nat} {M:Nat->Bool} (h:ZW S R M) (hc:∀ b,0<b->R'.count b<=R.count b):ZW S R' M:=⟨h.cov.perm hc,h.nd⟩
theorem ZW.fell {S:Sto} {R:List Nat} {M:Nat->Bool} {t:List UInt8} (h:Cov (zF S) (QQ S) t R M) (hn:∀ a,M a=true->(qt S a).isSome=true) (hle:∀ a,qN t a<=qN S.now a):ZW (qw S t) R M:=by have he:∀ a,M a=true->qt (qw S t) a=qt S a:=fun a ha=>qbP (h.live a ha) (hle a);refine⟨⟨fun a ha b hb=>h.kid a ha b (by rw[<-(XO (he a ha)).2];exact hb),Uu _,fun b hb=>?_,h.live,h.low⟩,fun a ha=>by rw[he a ha];exact hn a ha⟩;rw[YC (fun a ha=>(XO (he a ha)).1)];exact h.cnt b hb
theorem ZW.leave {S:Sto} {R:List Nat} {M:Nat->Bool} {a:Nat} {t:List UInt8} (h:ZW S (a :: R) M) (hM:M a=true) (e:QH S (-1) S.now a=some t):∃ M',ZW (qw S t) R M'/\Ya R M M':=by obtain⟨M',h1,h2⟩:=Cov.leaveF 7 (-1) h.cov hM e;exact⟨M',ZW.fell h1 (fun a ha=>h.nd a (h2.le a ha)) (GA S 7 (-1) S.now a t e),h2⟩
theorem ZW.make {S S':Sto} {R:List Nat} {M:Nat->Bool} {h f:Nat} {p:List It} (hc:ZW S R M) (hS:ql S=true) (fQ:∀ x∈p,zu x) (aN:(qD S h p).isSome=true) (hk:0<h->∀ r∈qz p,M r=true) (e:Zz S (h:Int) p=.ok (f,S')):ZW S' (f :: R) (vG M f)/\SM S S':=by
 obtain⟨xm,hmay,-,hn,h8,hf⟩:=GC hS fQ aN e;obtain⟨t,hm,ht,hw,-,-,ry,rfl,xq⟩:=UE hS e;have hl:=YE xq;have dw:=TY ht;have h0:qN t f=0:=by unfold ZZ at ry;simp only[Bool.and_eq_true,decide_eq_true_eq] at ry;exact ry.2.1
 have fJ:∀ b,qN (JV (qw S t) f (Ze (Qu (h:Int) p))).now b=if b=f then 1 else qN t b:=fun b=>by show qN (t.set f 1) b=_;rw[Uj t zO];rfl
 have hMf:M f=false:=by
  rcases hx:M f with _|_
  ·rfl
  ·have h1:=hc.cov.live f hx;have h2:=dw f zO;omega
 have aG:∀ a,M a=true->a≠f:=fun a ha e=>by rw[e,hMf] at ha;cases ha
 have wQ:∀ a,M a=true->qt (JV (qw S t) f (Ze (Qu (h:Int) p))) a=qt S a:=fun a ha=>by obtain⟨nd,hnd⟩:=Option.isSome_iff_exists.1 (hc.nd a ha);rw[hnd];exact xm.node a nd hnd
 have wJ:∀ a,vG M f a=true->a=f\/M a=true:=fun a ha=>by
  unfold vG at ha;split at ha
  ·rename_i e;exact .inl e
  ·exact .inr ha
 have hin:∀ a,M a=true->vG M f a=true:=fun a ha=>by unfold vG;rw[if_neg (aG a ha)];exact ha
 refine⟨⟨⟨fun a ha b hb=>?_,Uu _,fun b hb=>?_,fun a ha=>?_,fun a ha=>?_⟩,fun a ha=>?_⟩,xm⟩
 ·rcases wJ a ha with rfl|ha
  ·obtain⟨h1,y,hy,e,hb0⟩:=qbF hn hb;exact hin b (hk h1 b (by rw[e];exact List.mem_map.2 ⟨y,hy,rfl⟩))
  ·exact hin b (hc.cov.kid a ha b (by rw[<-(XO (wQ a ha)).2];exact hb))
 ·rw[XR hMf,if_pos hf,YC (fun a ha=>(XO (wQ a ha)).1),<-YA hn hb,fJ b];have h1:=hc.cov.cnt b hb;have h2:=dw b zO;by_cases e:b=f
  ·subst e;rw[List.count_cons_self,if_pos rfl];omega
  ·rw[List.count_cons_of_ne (fun x=>e x.symm),if_neg e];omega
 ·rw[fJ a];rcases wJ a ha with rfl|ha
  ·rw[if_pos rfl];omega
  ·rw[if_neg (aG a ha)];have h1:=hc.cov.live a ha;have h2:=dw a (by have:=(hc.cov.low a ha).1;omega);omega
 ·rcases wJ a ha with rfl|ha
  ·omega
  ·exact hc.cov.low a ha
 ·rcases wJ a ha with rfl|ha
  ·rw[hn];rfl
  ·rw[wQ a ha];exact hc.nd a ha
section
variable {ks rs:Nat->List Nat} {R:List Nat} {M:Nat->Bool}
theorem Cov.loose' {t:List UInt8} {b:Nat} (h:Cov ks rs t (b :: R) M) (hb:0<b) (hp:0<jS rs M b 256):Cov ks rs (vd t b) R M:=by
 have h1:=h.cnt b hb;rw[List.count_cons_self] at h1;have aG:qN t b≠0:=zO;refine⟨h.kid,h.sub,fun c hc=>?_,fun c hcM=>?_,h.low⟩
 ·rw[KD aG c];split
  ·rename_i e;subst e;omega
  ·rename_i e;have:=h.cnt c hc
   rwa [List.count_cons_of_ne (fun x=>e x.symm)] at this
 ·rw[KD aG c];split
  ·rename_i e;subst e;omega
  ·exact h.live c hcM
theorem Cov.looseL':∀ {l:List Nat} {t t':List UInt8},Cov ks rs t (l++R) M->(∀ b∈l,b≠0->0<jS rs M b 256)->Go.Proofs.YtmeadnlmepcmbaaGreat.looseL l t=.ok t'->Cov ks rs t' R M
 | [],t,t',h,_,e=>by cases e;exact h
 |a :: l,t,t',h,hp,e=>by
  by_cases ha:a=0
  ·subst ha;rw[jr] at e;exact Cov.looseL' (h.perm fun b hb=>by rw[List.cons_append,List.count_cons_of_ne zO];exact zM _) (fun b hb=>hp b (List.mem_cons_of_mem _ hb)) e
  ·by_cases h0:qN t a=0
   ·rw[Jd ha h0] at e;cases e
   ·rw[jq ha h0] at e;exact Cov.looseL' (Cov.loose' (R:=l++R) h zO (hp a List.mem_cons_self ha)) (fun b hb=>hp b (List.mem_cons_of_mem _ hb)) e
end
theorem qdQ {S:Sto} {f h:Nat} {p:List It} (hn:qt S f=some ((h:Int),p)) {r:Nat} (hr:r∈qz p) (h0:r≠0):r∈QQ S f:=by have:=YA hn (show 0<r by omega);have hp:=List.count_pos_iff.2 hr;exact List.count_pos_iff.1 zO
theorem ZW.makeL {h:Nat}:∀ {ps:List (List It)} {S S':Sto} {up:List It} {R:List Nat} {M:Nat->Bool},(∀ p∈ps,(∀ x∈p,zu x)/\(qD S h p).isSome=true)->(0<h->∀ p∈ps,∀ r∈qz p,M r=true)->ql S=true->ZW S R M->Go.Proofs.YtmeadnlmepcmbaaGreat.makeL (h:Int) ps S=.ok (up,S') -> ∃ M',ZW S' (qz up++R) M'/\(∀ a,M a=true->M' a=true)/\(∀ r∈qz up,M' r=true)/\SM S S'/\ql S'=true/\∀ p∈ps,∀ r∈qz p,r≠0->∃ f,M' f=true/\r∈QQ S' f
 | [],S,S',up,R,M,_,_,hS,hc,e=>by cases e;exact⟨M,hc,fun _ h=>h,fun r hr=>by simp[qz] at hr,⟨fun _ _ e=>e,fun _ e=>e⟩,hS,fun p hp=>by cases hp⟩
 |p :: ps,S,S',up,R,M,hp,hk,hS,hc,e=>by
  simp only[Go.Proofs.YtmeadnlmepcmbaaGreat.makeL] at e;split at e
  ·cases e
  ·rename_i f S1 e1;obtain⟨fQ,aN⟩:=hp p List.mem_cons_self;obtain⟨m1,nG,-,lW,h8,hf⟩:=GC hS fQ aN e1;obtain⟨dE,-⟩:=hc.make hS fQ aN (fun h0=>hk h0 p List.mem_cons_self) e1;split at e
   ·cases e
   ·rename_i up1 S2 e2;cases e;have hin:∀ a,M a=true->vG M f a=true:=fun a ha=>by unfold vG;split <;> simp_all
    obtain⟨M2,h2,k2,r2,m2,yc,q2⟩:=ZW.makeL (fun q hq=>⟨(hp q (List.mem_cons_of_mem _ hq)).1,m1.spanOk (hp q (List.mem_cons_of_mem _ hq)).2⟩) (fun h0 q hq r hr=>hin r (hk h0 q (List.mem_cons_of_mem _ hq) r hr)) nG dE e2;have hfM:M2 f=true:=k2 f (by simp[vG]);have yN:(GD (VV p) f).r.toNat=f:=by show ((f:Int)).toNat=f;omega
    refine⟨M2,h2.perm fun b _=>?_,fun a ha=>k2 a (hin a ha),fun r hr=>?_,m1.trans m2,yc,fun q hq r hr h0=>?_⟩
    ·simp only[qz,List.map_cons,yN,List.cons_append,List.count_append,List.count_cons];omega
    ·simp only[qz,List.map_cons,yN,List.mem_cons] at hr;rcases hr with rfl|hr
     ·exact hfM
     ·exact r2 r hr
    ·rcases List.mem_cons.1 hq with rfl|hq
     ·exact⟨f,hfM,qdQ (m2.node _ _ lW) hr h0⟩
     ·exact q2 q hq r hr h0
theorem qdL {l p:List It} (hp:p∈Zq l):∃ a b,l=a++p++b:=by
 unfold Zq at hp;split at hp
 ·simp only[List.mem_cons,List.not_mem_nil,or_false] at hp;rcases hp with rfl|rfl
  ·exact⟨[],l.drop 3,zA2⟩
  ·exact⟨l.take 3,[],zA2⟩
 ·simp only[List.mem_cons,List.not_mem_nil,or_false] at hp;subst hp;exact⟨[],[],zA2⟩
theorem ZW.build {S S':Sto} {h:Nat} {l held up:List It} {R:List Nat} {M:Nat->Bool} (hc:ZW S (qz held++R) M) (hS:ql S=true) (hl:∀ x∈l,zu x) (aN:(qD S h l).isSome=true) (hBK:∀ r∈qz held,r∈qz l) (hk:0<h->∀ r∈qz l,M r=true) (e:QU S (h:Int) l held=.ok (up,S')):∃ M',ZW S' (qz up++R) M'/\(∀ a,M a=true->M' a=true)/\(∀ r∈qz up,M' r=true):=by
 unfold QU at e;split at e
 ·cases e
 ·rename_i up1 S1 e1;split at e
  ·cases e
  ·rename_i t e2;cases e;obtain⟨M1,h1,k1,r1,m1,nG,q1⟩:=ZW.makeL (fun p hp=>by
    obtain⟨a,b,rfl⟩:=qdL hp;exact⟨fun x hx=>hl x (by simp[hx]),kD aN⟩) (fun h0 p hp r hr=>by
    obtain⟨a,b,rfl⟩:=qdL hp;exact hk h0 r (by unfold qz at *;simp only[List.map_append,List.mem_append];exact .inl (.inr hr))) hS hc e1
   have h1':ZW S1 (qz held++(qz up++R)) M1:=h1.perm fun b _=>by simp only[List.count_append];omega
   have h2:=h1'.cov.looseL' (fun b hb h0=>by have cZ:=hBK b hb;rw[<-qbZ l] at cZ;obtain⟨x,hx,ex⟩:=List.mem_map.1 cZ;obtain⟨p,hp,hxp⟩:=List.mem_flatten.1 hx;obtain⟨f,yE,hf2⟩:=q1 p hp b (List.mem_map.2 ⟨x,hxp,ex⟩) h0;exact qgV yE hf2 (h1.cov.low f yE).2) e2;exact⟨M1,ZW.fell h2 h1.nd (VL e2).2,k1,r1⟩
theorem qga {S:Sto} {x:It} {R:List Nat} (hS:ql S=true) (hx:GY S x):∀ (h:Nat) {a:Nat} {xs up:List It} {S':Sto} {M:Nat->Bool},qt S a=some ((h:Int),xs)->(qD S h xs).isSome=true->ZW S (qz [x]++R) M->M a=true->jo (qo x) (kI S (qo x) h xs).reverse [x] S=.ok (up,S') -> ∃ M',ZW S' (qz up++R) M'/\(∀ a,M a=true->M' a=true)/\∀ r∈qz up,M' r=true
 |0,a,xs,up,S',M,hn,hs,hc,hM,e=>by
  rw[Gf,List.reverse_singleton,KE] at e;simp only at e;have ho:Ord xs:=(Vg hs).2;rw[qgm ho] at e;have hmx:=(qM hn).2.1;have eH:∀ y∈Vy (qo x) x xs,y=x\/y∈xs:=fun y hy=>by
   unfold Vy at hy;simp only[List.mem_append,List.mem_filter,List.mem_singleton] at hy;rcases hy with (hy|hy)|hy
   ·exact .inr hy.1
   ·exact .inl hy
   ·exact .inr hy.1
  have hl:∀ y∈Vy (qo x) x xs,zu y:=fun y hy=>by
   rcases eH y hy with rfl|hy
   ·exact hx.ok
   ·exact(hmx y hy).1
  have aN:(qD S 0 (Vy (qo x) x xs)).isSome=true:=Zf.2 ⟨fun y hy=>by
   rcases eH y hy with rfl|hy
   ·exact⟨_,hx.one⟩
   ·exact(Zf.1 hs).1 y hy,qba ho⟩
  exact hc.build (h:=0) hS hl aN (fun r hr=>by obtain⟨y,hy,rfl⟩:=List.mem_map.1 hr;rw[List.mem_singleton.1 hy];exact List.mem_map.2 ⟨x,by unfold Vy;simp,rfl⟩) (fun h=>absurd h zO) e
 |h+1,a,xs,up,S',M,hn,hs,hc,hM,e=>by
  have h0:=UF (qM hn).1 zO;have hlt:=jH (k:=qo x) h0;obtain⟨b,e1,hb8,-,zs,e4,e5⟩:=ZF (ZU hs _ (List.getElem_mem hlt));have iG:qt S (xs[zZ xs (qo x)].r).toNat=some ((h:Int),zs):=by rw[e1,Int.toNat_natCast];exact e4
  have hHX:∀ y∈xs,M y.r.toNat=true:=fun y hy=>hc.cov.kid a hM _ (by rw[qjt hn zO];obtain⟨c,f1,f8,-⟩:=ZF (ZU hs y hy);exact qdQ hn (List.mem_map.2 ⟨y,hy,rfl⟩) (by rw[f1,Int.toNat_natCast];omega));have hMb:M b=true:=by
   have:=hHX _ (List.getElem_mem hlt)
   rwa [e1,Int.toNat_natCast] at this
  rw[XB (zL hlt) iG,List.reverse_cons,vl] at e;split at e
  ·cases e
  ·rename_i up1 S1 eg;obtain⟨m1,nG,tH,ng,iH,iI⟩:=Yk hS hx h e4 e5 eg;obtain⟨M1,dE,k1,r1⟩:=qga hS hx h e4 e5 hc hMb eg;rw[KE] at e;simp only at e;have hm1:Jp (qo x) (h+1) xs=1:=by unfold Jp;rw[if_neg zO]
   rw[hm1] at e;unfold Vt at e;obtain⟨hA,hC⟩:=qcr (k:=qo x) hs h0;have hmx:=(qM hn).2.1;generalize hp:zZ xs (qo x)=p at *;have mg:xs=xs.take p++[xs[p]]++xs.drop (p+1):=by rw[List.append_assoc,List.singleton_append,List.getElem_cons_drop,List.take_append_drop]
   have wP:=hs;rw[mg] at wP;have hsA:(qD S (h+1) (xs.take p)).isSome=true:=kD (xs:=[]) (ys:=xs.take p) (zs:=[xs[p]]++xs.drop (p+1)) (by rw[List.nil_append,<-List.append_assoc];exact wP);have hsC:(qD S (h+1) (xs.drop (p+1))).isSome=true:=kD (xs:=xs.take p++[xs[p]]) (ys:=xs.drop (p+1)) (zs:=[]) (by rw[List.append_nil];exact wP);have hB:qC S (h+1) [xs[p]]=qC S h zs:=by simp only[qC,List.flatMap_cons,List.flatMap_nil,List.append_nil,iG]
   have og:qC S1 (h+1) (xs.take p++up1++xs.drop (p+1))=Vy (qo x) x (qC S (h+1) xs):=by
    conv=>rhs;rw[mg,Qm,Qm,qjq hA hC,hB,<-ng]
    rw[Qm,Qm,m1.items _ _ hsA,m1.items _ _ hsC]
   have hl:∀ y∈xs.take p++up1++xs.drop (p+1),zu y:=fun y hy=>by
    rcases List.mem_append.1 hy with hy|hy
    ·rcases List.mem_append.1 hy with hy|hy
     ·exact(hmx y (List.mem_of_mem_take hy)).1
     ·exact(iI y hy).1
    ·exact(hmx y (List.mem_of_mem_drop hy)).1
   have aN:(qD S1 (h+1) (xs.take p++up1++xs.drop (p+1))).isSome=true:=Zf.2 ⟨Ka (Ka (m1.each (Zf.1 hsA).1) (Zf.1 tH).1) (m1.each (Zf.1 hsC).1),by rw[og];exact qba (Vg hs).1⟩;obtain⟨M2,bG,k2,r2⟩:=dE.build (h:=h+1) nG hl aN (fun r hr=>by
    obtain⟨y,hy,rfl⟩:=List.mem_map.1 hr;exact List.mem_map.2 ⟨y,by simp[hy],rfl⟩) (fun _ r hr=>by
    obtain⟨y,hy,rfl⟩:=List.mem_map.1 hr;rcases List.mem_append.1 hy with hy|hy
    ·rcases List.mem_append.1 hy with hy|hy
     ·exact k1 _ (hHX y (List.mem_of_mem_take hy))
     ·exact r1 _ (List.mem_map.2 ⟨y,hy,rfl⟩)
    ·exact k1 _ (hHX y (List.mem_of_mem_drop hy))) e
   exact⟨M2,bG,fun a ha=>k2 a (k1 a ha),r2⟩
theorem put_cov {S S':Sto} {h a r:Nat} {xs:List It} {x:It} {R:List Nat} {M:Nat->Bool} (hS:ql S=true) (hx:GY S x) (hn:qt S a=some ((h:Int),xs)) (hs:(qD S h xs).isSome=true) (hc:ZW S (qz [x]++a :: R) M) (hM:M a=true) (e:putX S h xs a x=.ok (r,S')) : ∃ M',ZW S' (r :: R) M'/\M' r=true/\∀ b∈R,M b=true->M' b=true:=by
 unfold putX at e;split at e
 ·cases e
 ·split at e
  ·cases e
  ·rename_i up S1 eg;obtain⟨m1,nG,tH,ng,iH,iI⟩:=Yk hS hx h hn hs eg;obtain⟨M1,dE,k1,r1⟩:=qga hS hx h hn hs hc hM eg;have wS:=Ge (k:=qo x) h (qM hn).1 hs;split at e
   ·cases e
   ·rename_i up2 S2 eb;split at e
    ·cases e
    ·rename_i t hl;cases e;have aJ:∀ {y:It} {S2:Sto} {t:List UInt8} {M2:Nat->Bool},QH S2 (-1) S2.now a=some t->ZW S2 (qz [y]++a :: R) M2->(∀ a,M a=true->M2 a=true)->(∀ r∈qz [y],M2 r=true)->∃ M',ZW (qw S2 t) (y.r.toNat :: R) M'/\M' y.r.toNat=true/\∀ b∈R,M b=true->M' b=true:=fun {y S2 t M2} hl h2 k2 r2=>by
      have h3:ZW S2 (a :: (y.r.toNat :: R)) M2:=h2.perm fun b _=>by simp only[qz,List.map_cons,List.map_nil,List.cons_append,List.nil_append,List.count_cons];omega
      obtain⟨M3,h4,l4⟩:=h3.leave (k2 a hM) hl;exact⟨M3,h4,l4.keep _ List.mem_cons_self (r2 _ (by simp[qz])),fun b hb hMb=>l4.keep b (List.mem_cons_of_mem _ hb) (k2 b hMb)⟩
     split at eb
     ·rename_i hlen;rw[wS] at eb;have hmay:=VS (fun y hy=>(iI y hy).1) (fun y hy=>(iI y hy).2) nG eb;have hup:up.length<=2:=Gw eg zA2;obtain⟨y,hy⟩:∃ y,up2=[y]:=by have h1:=hmay.2.1;unfold Zq at h1;rw[if_neg zO] at h1;exact List.length_eq_one_iff.1 (by simpa using h1)
      obtain⟨M2,h2,k2,r2⟩:=dE.build (h:=h+1) nG (fun y hy=>(iI y hy).1) tH (fun r hr=>hr) (fun _ r hr=>r1 r hr) eb;subst hy;exact aJ hl h2 (fun a ha=>k2 a (k1 a ha)) r2
     ·cases eb;rename_i hlen;obtain⟨y,hy⟩:∃ y,up=[y]:=List.length_eq_one_iff.1 (by have:=List.length_pos_iff.2 iH;omega);subst hy;exact aJ hl dE k1 r1
set_option maxRecDepth 100000 in
theorem qiB (bp be:Nat) (aG:bp≠be) (A1 n1 c1 A2 n2 c2 A3 n3 c3 A4 n4 c4) (gen root next:Int) (v5:Value) (e:Int) (S:Sto) (u:FrameMode) (w:World) (hp:w.heap[bp]?=some (.cells (qF (.slice A1 n1 c1) (.slice A2 n2 c2) (.slice A3 n3 c3) (.slice A4 n4 c4) gen root next v5) 32 (0,0))) (he:w.heap[be]?=some (.cells #[.int .i64 e] 37 (0,0))) (h:e=0->qV w w.heap.size (.slice A1 n1 c1) (.slice A2 n2 c2) (.slice A3 n3 c3) (.slice A4 n4 c4) S):CallsD prog 89 #[.pointer (some ⟨bp,0,none⟩),.pointer (some ⟨be,0,none⟩)] u w (fun x u' w'=>u'=u/\x=.returned (.tuple #[])/\RoomyQ bp be (qF (.slice A1 n1 c1) (.slice A2 n2 c2) (.slice A3 n3 c3) (.slice A4 n4 c4) gen root next v5) e S w w'):=by
 have kp:=qa hp;have ke:=qa he;have fp:=qe hp;have fe:=qe he;by_cases h0:e=0
 ·subst h0;have HF:=GL A1 n1 c1 A2 n2 c2 A3 n3 c3 A4 n4 c4 S w (h rfl);clear h;go_enter_d func89,ntmps89;go_wp2_with fail;refine HF.mono ?_;rintro x w2 ⟨hB,hQ⟩;have x2:Ext w w2:=hB;have dV:=qb hp x2;have fG:=qb he x2;have kp2:=qa dV;have ke2:=qa fG;have fp2:=qe dV;have fe2:=qe fG;clear kp ke fp fe hB HF hp he;rcases hQ with ⟨hm,rfl⟩|⟨hm,v,rfl,aB⟩
  ·have hE:zh S=9:=by unfold zh;rw[hm];rfl
   replace hE:=zH hE;replace hm:=zH hm;have iU:¬be=bp:=fun e=>aG e.symm;go_wp2_with fail;go_end0;exact⟨rfl,(Two.of_ext x2).trans ((Two.setE _ _ _).trans (Two.set8 _ _ _ _ _ _ _ _ _)),.inr ⟨9,zD,.inl ⟨rfl,hE.out.symm⟩,ji ((zJ _ _ _ _ aG).trans dV) _ _ _ _ _ _ _ _,(jK iU _ _ _ _ _ _ _ _).trans (qi fG 0 _)⟩⟩
  ·obtain⟨A,c,rfl,-,-⟩:=qE aB;clear aB;by_cases hl:(Zh S).length<16
   ·have hE:zh S=9:=by unfold zh;rw[if_neg zO]
    replace hE:=zH hE;have d1:decide (((Zh S).length:Int)<16)=true:=decide_eq_true zO;replace hl:=zH hl;replace hm:=zH hm;have iU:¬be=bp:=fun e=>aG e.symm;go_wp2_with fail;go_end0;exact⟨rfl,(Two.of_ext x2).trans ((Two.setE _ _ _).trans (Two.set8 _ _ _ _ _ _ _ _ _)),.inr ⟨9,zD,.inl ⟨rfl,hE.out.symm⟩,ji ((zJ _ _ _ _ aG).trans dV) _ _ _ _ _ _ _ _,(jK iU _ _ _ _ _ _ _ _).trans (qi fG 0 _)⟩⟩
   ·have hE:zh S=0:=by unfold zh;rw[if_pos ⟨hm,zO⟩]
    replace hE:=zH hE;have d1:decide (((Zh S).length:Int)<16)=false:=decide_eq_false zO;replace hl:=zH hl;replace hm:=zH hm;go_wp2_with fail;go_end0;exact⟨rfl,Two.of_ext x2,.inl ⟨rfl,hE.out,dV,fG⟩⟩
 ·have b0:(e == 0)=false:=by rw[beq_eq_false_iff_ne];exact h0
  have b1:(e != 0)=true:=by rw[bne_iff_ne];exact h0
  replace h0:=zH h0;replace aG:=zH aG;clear h;go_enter_d func89,ntmps89;go_wp2_with fail;go_end0;exact⟨rfl,Two.set8 _ _ _ _ _ _ _ _ _,.inr ⟨e,h0.out,.inr ⟨h0.out,rfl⟩,ji hp _ _ _ _ _ _ _ _,(jK (fun x=>aG.out x.symm) _ _ _ _ _ _ _ _).trans he⟩⟩
end Go.Proofs.YtmeadnlmepcmbaaGreat
