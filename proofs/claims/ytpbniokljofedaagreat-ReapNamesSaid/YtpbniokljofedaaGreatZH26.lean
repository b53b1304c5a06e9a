/- Texts FSet, Make0, NewD, NewP, joined. -/
import Derived.Test.YtpbniokljofedaaGreatZH25
set_option linter.unusedSimpArgs false
set_option linter.unusedVariables false
set_option maxHeartbeats 8000000
open Go.Proofs.Tryz
namespace Go.Proofs.YtpbniokljofedaaGreat
open Go.RowKit
def qbk (v:Vol):It:=⟨1,v.id,0,0,Qt v⟩
theorem volIt_ok {v:Vol} (h:qcs v):jq (qbk v):=by have:=vk v;exact⟨⟨(by decide:(0:Int)<=1),(by decide:(1:Int)<256)⟩,h.1,⟨(by decide:(0:Int)<=0),(by decide:(0:Int)<4294967296)⟩,⟨(by decide:(0:Int)<=0),(by decide:(0:Int)<256)⟩,by show (Qt v).length<=12;omega⟩
def setE (S:Sto) (root:Int) (v:Vol):Except Int (Nat×Sto):=match qv S root.toNat with
 |none=>.error 8
 |some (lvl,xs)=>To S lvl.toNat xs root.toNat (qbk v)
def SetQ (S:Sto) (gen root next:Int) (dead:List Int) (v:Vol) (w:World) (e:Ending) (w':World):Prop:=Below w.heap.size w w' /\
 ((e=.returned (.tuple #[Vg,.int .i64 8])/\Zm S root next dead)\/∃ vs refs nodes,Zd S root next dead vs/\Qv S (Zg root dead vs) refs nodes/\Zz S refs /\
  ((∃ er,er≠0/\e=.returned (.tuple #[Vg,.int .i64 er])/\(ZI S next v vs refs=er\/(ZI S next v vs refs=0/\(setE S root v=.error er\/(er=8/\∃ r S',setE S root v=.ok (r,S')/\Zm S' (r:Int) next dead))))) \/
   ∃ r S' vs' u,ZI S next v vs refs=0/\setE S root v=.ok (r,S')/\qen S' (r:Int) next dead vs'/\e=.returned (.tuple #[u,.int .i64 0])/\Jf w.heap.size S' gen (r:Int) next dead u w'))
def qbV (lo:Nat) (S:Sto) (r:Nat):qS:=⟨(Nat×Nat)×(Option Addr×Nat)×(Option Addr×Nat),fun p=>.tuple #[Qe (some ⟨p.1.1,0,none⟩) S.bs.length S.bs.length (some ⟨p.1.2,0,none⟩) S.ws.length (S.ws.length+1) p.2.1.1 S.now.length p.2.1.2 p.2.2.1 S.last.length p.2.2.2,.int .i64 (r:Int),.int .i64 0],
 fun p W=>QF lo S (Qe (some ⟨p.1.1,0,none⟩) S.bs.length S.bs.length (some ⟨p.1.2,0,none⟩) S.ws.length (S.ws.length+1) p.2.1.1 S.now.length p.2.1.2 p.2.2.1 S.last.length p.2.2.2) W⟩
theorem QY (lo:Nat) (S:Sto) (r b c:Nat) (A3:Option Addr) (c3:Nat) (A4:Option Addr) (c4:Nat):(qbV lo S r).f ((b,c),(A3,c3),(A4,c4))=.tuple #[Qe (some ⟨b,0,none⟩) S.bs.length S.bs.length (some ⟨c,0,none⟩) S.ws.length (S.ws.length+1) A3 S.now.length c3 A4 S.last.length c4,.int .i64 (r:Int),.int .i64 0]:=rfl
theorem qaq (lo:Nat) (S:Sto) (r:Nat):∀ p,qB qk ((qbV lo S r).φ p):=fun p W W' he h=>by have he:Ext W W':=he;exact QF.keep h (zM _) he.size fun b _ hb=>he.block b hb
def qbR (e:Int):qS:=⟨Unit,fun _=>.tuple #[Qe none 0 0 none 0 0 none 0 0 none 0 0,.int .i64 0,.int .i64 e],fun _ _=>True⟩
theorem QX (e:Int) (u:Unit):(qbR e).f u=.tuple #[Qe none 0 0 none 0 0 none 0 0 none 0 0,.int .i64 0,.int .i64 e]:=rfl
theorem qan (e:Int):∀ p,qB qk ((qbR e).φ p):=fun _ _ _ _ _=>trivial
theorem qdS {W C:World} {b:Nat} {ty:TypeId} {u0 u1 u2 u3 x0 x1 x2 x3:Value} (h:W.heap[b]?=some (.cells #[u0,u1,u2,u3] ty (0,0))) (hC:C=(((W.setCell ⟨b,0,none⟩ x0).setCell ⟨b,1,none⟩ x1).setCell ⟨b,2,none⟩ x2).setCell ⟨b,3,none⟩ x3):C.heap[b]?=some (.cells #[x0,x1,x2,x3] ty (0,0))/\(∀ k,k≠b->C.heap[k]?=W.heap[k]?)/\C.heap.size=W.heap.size/\∀ {B:Nat} {w0:World},B<=b->Below B w0 W->Below B w0 C:=by
 subst hC;exact⟨Xd h _ _ _ _,fun k hk=>(zJ _ _ _ _ hk).trans ((zJ _ _ _ _ hk).trans ((zJ _ _ _ _ hk).trans (zJ _ _ _ _ hk))),zA3,fun hb h0=>ZW h0 hb _ _ _ _⟩
theorem qdT {W C:World} {b:Nat} {ty:TypeId} {u0 u1 u2 u3 u4 u5 u6 u7 x0 x1 x2 x3 x5 x7:Value} (h:W.heap[b]?=some (.cells #[u0,u1,u2,u3,u4,u5,u6,u7] ty (0,0))) (hC:C=(((((W.setCell ⟨b,0,none⟩ x0).setCell ⟨b,1,none⟩ x1).setCell ⟨b,2,none⟩ x2).setCell ⟨b,3,none⟩ x3).setCell ⟨b,5,none⟩ x5).setCell ⟨b,7,none⟩ x7):C.heap[b]?=some (.cells #[x0,x1,x2,x3,u4,x5,u6,x7] ty (0,0))/\(∀ k,k≠b->C.heap[k]?=W.heap[k]?)/\C.heap.size=W.heap.size/\∀ {B:Nat} {w0:World},B<=b->Below B w0 W->Below B w0 C:=by
 subst hC;refine⟨?_,fun k hk=>?_,zA3,fun hb h0=>Below.setCell (Below.setCell (ZW h0 hb _ _ _ _) (p:=⟨b,5,none⟩) hb _) (p:=⟨b,7,none⟩) hb _⟩
 ·exact qi (qi (qi (qi (qi (qi h 0 x0) 1 x1) 2 x2) 3 x3) 5 x5) 7 x7
 ·rw[zJ _ _ _ _ hk,zJ _ _ _ _ hk,zJ _ _ _ _ hk,zJ _ _ _ _ hk,zJ _ _ _ _ hk,zJ _ _ _ _ hk]
theorem VN {lo:Nat} {S:Sto} {A1:Option Addr} {n1 c1:Nat} {A2:Option Addr} {n2 c2:Nat} {A3:Option Addr} {n3 c3:Nat} {A4:Option Addr} {n4 c4:Nat} {W:World} (h:NewSto lo S (Qe A1 n1 c1 A2 n2 c2 A3 n3 c3 A4 n4 c4) W):∀ C:World,PosZ lo W C->qX C W.heap.size (.slice A1 n1 c1) (.slice A2 n2 c2) (.slice A3 n3 c3) (.slice A4 n4 c4) S:=by obtain⟨B1,d1,B2,d2,B3,d3,B4,d4,e,hc⟩:=h;simp only[Value.agg.injEq,Array.mk.injEq,List.cons.injEq,Value.slice.injEq,and_true] at e;obtain⟨⟨rfl,rfl,rfl⟩,⟨rfl,rfl,rfl⟩,⟨rfl,rfl,rfl⟩,⟨rfl,rfl,rfl⟩⟩:=e;exact hc
theorem Ke {w:World} {b:Nat} {x0 x1 x2 x3 x4 x5 x6 x7:Value}:((((((((w.setCell ⟨b,0,none⟩ x0).setCell ⟨b,1,none⟩ x1).setCell ⟨b,2,none⟩ x2).setCell ⟨b,3,none⟩ x3).setCell ⟨b,4,none⟩ x4).setCell ⟨b,5,none⟩ x5).setCell ⟨b,6,none⟩ x6).setCell ⟨b,7,none⟩ x7).heap.size=w.heap.size:=zA3
theorem outIFs {lo:Nat} {k i o r:Int} {n:Nat} {l:List UInt8}:∀ p,QJ ((qaW lo k i o r n l).φ p):=fun p W W' he h=>⟨(h.1.below he).more he.size,h.2⟩
theorem Kt {R:Ending->World->Prop} {a:Act} {W:World} {b:Nat} {x0 x1 x2 x3 x4 x5 x6 x7 v:Value} (h4:a.tmps[4]?.getD undef=.pointer (some ⟨b,0,none⟩)) (h5:a.tmps[5]?.getD undef=v) (hd:a.defers=[]) (aC:W.heap[b]?=some (.cells #[x0,x1,x2,x3,x4,x5,x6,x7] 32 (0,0))) (hR:R (.returned (.tuple #[.agg #[x0,x1,x2,x3,x4,x5,x6,x7],v])) W):bodyPost prog Tryz.f24 R .ret a W:=by
 refine bodyPost_ret (v:=.tuple #[.agg #[x0,x1,x2,x3,x4,x5,x6,x7],v]) ?_ hd hR;have k:=qa aC;simp[results,results24,go_sem,h4,h5,k]
set_option maxRecDepth 100000 in
theorem fset_any (A1:Option Addr) (n1 c1:Nat) (A2:Option Addr) (n2 c2:Nat) (A3:Option Addr) (n3 c3:Nat) (A4:Option Addr) (n4 c4:Nat) (gen root next:Int) (A5:Option Addr) (c5:Nat) (S:Sto) (dead:List Int) (v:Vol) (hv:qcs v) (hT:8<=v.root->v.root<256->ZD S v.root.toNat≠0->okL S (-1) v.root=true) (w:World) (h:qX w w.heap.size (.slice A1 n1 c1) (.slice A2 n2 c2) (.slice A3 n3 c3) (.slice A4 n4 c4) S) (hd:Zs w w.heap.size (.slice A5 dead.length c5) dead):Calls prog 24 #[.agg (qH (.slice A1 n1 c1) (.slice A2 n2 c2) (.slice A3 n3 c3) (.slice A4 n4 c4) gen root next (.slice A5 dead.length c5)),vP v] w (SetQ S gen root next dead v w):=by
 have HA:=zH (fun W (hx:Ext w W)=>qeF A1 n1 c1 A2 n2 c2 A3 n3 c3 A4 n4 c4 gen root next A5 c5 S dead v hT W (h.ext hx) (hd.ext_ hx));have HO:=zH (fun W=>qgb v hv W);have hvi:=volIt_ok hv;have HP:=zH (fun (hS:qm S=true) (a lvl:Nat) xs ha bK hn aW A c W (hx:Ext w W) hb=>put_any A1 n1 c1 A2 n2 c2 A3 n3 c3 A4 n4 c4 S hS a lvl xs ha bK hn aW (qbk v) hvi A c W (h.ext hx) hb);replace h:=zH h;replace hT:=zH hT;replace hd:=zH hd;replace hvi:=zH hvi;go_enter func24,ntmps24;go_wp2_with fail;generalize aA:(World.alloc (World.alloc (World.alloc w _) _) _)=w1;have x1:Ext w w1:=by rw[<-aA];exact((zN _ _).trans (zN _ _)).trans (zN _ _)
 have pX:w1.heap[w.heap.size]?=some (.cells (qH (.slice A1 n1 c1) (.slice A2 n2 c2) (.slice A3 n3 c3) (.slice A4 n4 c4) gen root next (.slice A5 dead.length c5)) 32 (0,0)):=by rw[<-aA];exact(zK _ _ _ zA2).trans ((zK _ _ _ zA3).trans (zI _ _ _ rfl))
 have rv1:w1.heap[w.heap.size+1]?=some (.cells #[.int .u32 v.id,.int .i64 v.root,.bool v.fz,.int .u32 v.frm] 40 (0,0)):=by rw[<-aA];exact(zK _ _ _ zA3).trans (zI _ _ _ zA3)
 have yO:w1.heap[w.heap.size+2]?=some (.cells (qH (.slice none 0 0) (.slice none 0 0) (.slice none 0 0) (.slice none 0 0) 0 0 0 (.slice none 0 0)) 32 (0,0)):=by rw[<-aA];exact zI _ _ _ zA3
 clear aA;refine(HA.out w1 x1).mono ?_;clear HA;rintro e w2 ⟨hB,hQ⟩;have x2:Ext w w2:=Ext.trans x1 hB;have nU:=qb pX hB;have uI:=qb rv1 hB;have lF:=qb yO hB;have zo2:w.heap.size+2<w2.heap.size:=(zG.1 lF).1;clear hB pX rv1 yO x1;have ko2:=qa lF;have fo2:=qe lF;rcases hQ with ⟨rfl,bQ⟩|⟨vs,refs,nodes,hp,nZ,xP,rfl⟩
 ·replace bQ:=zH bQ;go_wp2_with fail;exact Kt (b:=w.heap.size+2) rfl rfl rfl (VP lF _ _ _ _ _ _ _ _) ⟨ji x2 zO _ _ _ _ _ _ _ _,.inl ⟨rfl,bQ.out⟩⟩
 ·have aI:=zH (fun e W (hb:Below w.heap.size w W) hx=>(⟨hb,.inr ⟨vs,refs,nodes,hp,nZ,xP,hx⟩⟩:SetQ S gen root next dead v w e W));by_cases h0:ZI S next v vs refs=0
  case neg =>
   obtain⟨er,xQ⟩:∃ er,ZI S next v vs refs=er:=⟨_,rfl⟩
   rw[xQ] at h0 ⊢;have aN:(er != 0)=true:=by rw[bne_iff_ne];exact h0
   replace h0:=zH h0;replace xQ:=zH xQ;replace hp:=zH hp;replace nZ:=zH nZ;replace xP:=zH xP;go_wp2_with fail;exact Kt (b:=w.heap.size+2) rfl rfl rfl (VP lF _ _ _ _ _ _ _ _) (aI.out _ _ (ji x2 zO _ _ _ _ _ _ _ _) (.inl ⟨er,h0.out,rfl,.inl xQ.out⟩))
  case pos =>
   rw[h0];obtain⟨a,ha,h8,h256,lvl,xs,hn,aW⟩:=KC hp.top;have hse:setE S root v=To S lvl xs a (qbk v):=by unfold setE;rw[ha,Int.toNat_natCast,hn];rfl
   have HP2:=zH (HP.out hp.may a lvl xs h8 h256 hn aW);have af:=zH (fun r S' (he:To S lvl xs a (qbk v)=.ok (r,S'))=>putY_may hp.may h8 hn aW hvi.out he);have wJ:=zH (fun er (he:To S lvl xs a (qbk v)=.error er)=>putY_err he);rw[<-hse] at HP2 af wJ;rw[<-ha] at HP2;have dU:=zH hp.few;replace h0:=zH h0;replace hp:=zH hp;replace nZ:=zH nZ;replace xP:=zH xP;clear hse HP hn aW hT ha;go_upto_region 4 with fail;rcases hq:setE S root v with er|⟨r,S'⟩
   ·have gP:∀ W,qk.r w2 W->∀ i,W.cell? ⟨w.heap.size,i,none⟩=(qH (.slice A1 n1 c1) (.slice A2 n2 c2) (.slice A3 n3 c3) (.slice A4 n4 c4) gen root next (.slice A5 dead.length c5))[i]?:=fun W h=>qa (qb nU h);have gV:∀ W,qk.r w2 W->∀ i,W.cell? ⟨w.heap.size+1,i,none⟩=#[.int .u32 v.id,.int .i64 v.root,.bool v.fz,.int .u32 v.frm][i]?:=fun W h=>qa (qb uI h);clear ko2 fo2;refine qo zQ ?_;refine Xi 12 9 zE zQ rfl rfl zQ zQ zQ zQ ?_;dsimp only[jC,Array.push,List.push_toArray,List.concat_eq_append];refine Xi 12 10 zE zQ rfl rfl zQ zQ zQ zQ ?_;dsimp only[jC,Array.push,List.push_toArray,List.concat_eq_append];refine qP (w:=w2) qk (qD [(5,qaW w2.heap.size 1 v.id 0 0 (Qt v).length (Qt v)),(6,qbR er),(11,jM w2.heap.size 28 #[.slice none 0 0,.slice none 0 0,.slice none 0 0,.slice none 0 0])]) (List.replicate 12 true) 3 zQ zQ zQ zQ zQ zQ zQ ?st (Rel.drew _ _) ?walk
    case st=>exact qj (by simp only[List.forall_mem_cons];exact⟨fun p=>QI (outIFs p),qan _,fun p=>QI (ZV _ _ _ p),fun _ h=>by cases h⟩)
    case walk =>
     intro K hK;dsimp only[qp,List.replicate];repeat ((first|(refine qd ?_ zA0 zA0 (fun W hW _=>⟨W,?_,Rel.refl _ W⟩) ?_;rotate_left;(go_simp<;>with_reducible rfl))|(refine qh zA0 ?_));try simp only[Act.put,ql,qf,qc,qg,Zh,QY,QX,ja,qc,zA,zB,zC])
     refine qw (qaW w2.heap.size 1 v.id 0 0 (Qt v).length (Qt v)) zA0 zA0 (fun W hW _=>?_) (fun p5=>?_)
     ·have hW:Ext w2 W:=hW;refine Qa ?_ ((HO.out W).mono fun e w' h=>?_)
      ·go_simp
      obtain⟨u,rfl,⟨A,c,rfl,hb,hf⟩,hB⟩:=h;exact⟨(A,c),rfl,⟨hb,hf.mono hW.size⟩,hB⟩
     obtain⟨A8,c8⟩:=p5;simp only[Act.put,qf,qc,qg,Zh,QY,QX,ja,qc,zA,zB,zC];repeat ((first|(refine qd ?_ zA0 zA0 (fun W hW _=>⟨W,?_,Rel.refl _ W⟩) ?_;rotate_left;(go_simp<;>with_reducible rfl))|(refine qh zA0 ?_));try simp only[Act.put,ql,qf,qc,qg,Zh,QY,QX,ja,qc,zA,zB,zC])
     refine qw (qbR er) zA0 zA0 (fun W hW hp=>?_) (fun (p:Unit)=>?_)
     ·have hW:Ext w2 W:=hW;have hb:Bys W W.heap.size (.slice A8 (Qt v).length c8) (Qt v):=(hp 5 zA1).1.1;refine Qa ?_ ((HP2.out A8 c8 W (x2.trans hW) hb).mono fun e w' h=>?_)
      ·go_simp;exact⟨rfl,rfl,rfl,rfl,rfl⟩
      obtain⟨u,rfl,hu,hB⟩:=h;rw[hq] at hu;obtain rfl:u=_:=hu;exact⟨(),rfl,trivial,hB⟩
     simp only[Act.put,qf,qc,qg,Zh,QY,QX,ja,qc,zA,zB,zC];repeat ((first|(refine qd ?_ zA0 zA0 (fun W hW _=>⟨W,?_,Rel.refl _ W⟩) ?_;rotate_left;(go_simp<;>with_reducible rfl))|(refine qh zA0 ?_));try simp only[Act.put,ql,qf,qc,qg,Zh,QY,QX,ja,qc,zA,zB,zC])
     refine qw (jM w2.heap.size 28 #[.slice none 0 0,.slice none 0 0,.slice none 0 0,.slice none 0 0]) zA0 zA0 (fun W hW _=>?_) (fun (p11:Nat)=>?_)
     ·refine jR ?_ (Below.size hW);go_simp
     simp only[Act.put,qf,qc,qg,Zh,QY,QX,ja,qc,zA,zB,zC];repeat ((first|(refine qd ?_ zA0 zA0 (fun W hW _=>⟨W,?_,Rel.refl _ W⟩) ?_;rotate_left;(go_simp<;>with_reducible rfl))|(refine qh zA0 ?_));try simp only[Act.put,ql,qf,qc,qg,Zh,QY,QX,ja,qc,zA,zB,zC])
     refine qu (hK _ _ fun W hW hF=>?_);obtain⟨f11,aO⟩:W.heap[p11]?=some (.cells #[.slice none 0 0,.slice none 0 0,.slice none 0 0,.slice none 0 0] 28 (0,0))/\w2.heap.size<=p11:=(hF 11).1;clear hF hK gP gV;have hW:Ext w2 W:=hW;refine zC3 ?_;have k11:=qa f11;have h11:=qe f11;have rq2:=qb nU hW;have rz2:=qb lF hW;go_wp2;refine Qo ?_;generalize aK:World.setCell (World.setCell (World.setCell (World.setCell W _ _) _ _) _ _) _ _=w3;obtain⟨r3,o3,z3,b3⟩:=qdS f11 aK.symm;clear aK k11 h11 f11;have oP:=(o3 (w.heap.size+2) zO).trans rz2;have x3:Below w.heap.size w w3:=b3 zO (x2.trans hW);have ko3:=qa oP;have fo3:=qe oP;clear rq2 rz2;have aN:=wJ.out er hq;have rJ:(er != 0)=true:=by rw[bne_iff_ne];exact aN
     replace aN:=zH aN;replace hq:=zH hq;go_wp2_with fail;exact Kt (b:=w.heap.size+2) rfl rfl rfl (VP oP _ _ _ _ _ _ _ _) (aI.out _ _ (ji x3 zO _ _ _ _ _ _ _ _) (.inl ⟨er,aN.out,rfl,.inr ⟨h0.out,.inl hq.out⟩⟩))
   ·have gP:∀ W,qk.r w2 W->∀ i,W.cell? ⟨w.heap.size,i,none⟩=(qH (.slice A1 n1 c1) (.slice A2 n2 c2) (.slice A3 n3 c3) (.slice A4 n4 c4) gen root next (.slice A5 dead.length c5))[i]?:=fun W h=>qa (qb nU h);have gV:∀ W,qk.r w2 W->∀ i,W.cell? ⟨w.heap.size+1,i,none⟩=#[.int .u32 v.id,.int .i64 v.root,.bool v.fz,.int .u32 v.frm][i]?:=fun W h=>qa (qb uI h);clear ko2 fo2;refine qo zQ ?_;refine Xi 12 9 zE zQ rfl rfl zQ zQ zQ zQ ?_;dsimp only[jC,Array.push,List.push_toArray,List.concat_eq_append];refine Xi 12 10 zE zQ rfl rfl zQ zQ zQ zQ ?_;dsimp only[jC,Array.push,List.push_toArray,List.concat_eq_append];refine qP (w:=w2) qk (qD [(5,qaW w2.heap.size 1 v.id 0 0 (Qt v).length (Qt v)),(6,qbV w2.heap.size S' r),(11,jM w2.heap.size 28 #[.slice none 0 0,.slice none 0 0,.slice none 0 0,.slice none 0 0])]) (List.replicate 12 true) 3 zQ zQ zQ zQ zQ zQ zQ ?st (Rel.drew _ _) ?walk
    case st=>exact qj (by simp only[List.forall_mem_cons];exact⟨fun p=>QI (outIFs p),qaq _ _ _,fun p=>QI (ZV _ _ _ p),fun _ h=>by cases h⟩)
    case walk =>
     intro K hK;dsimp only[qp,List.replicate];repeat ((first|(refine qd ?_ zA0 zA0 (fun W hW _=>⟨W,?_,Rel.refl _ W⟩) ?_;rotate_left;(go_simp<;>with_reducible rfl))|(refine qh zA0 ?_));try simp only[Act.put,ql,qf,qc,qg,Zh,QY,QX,ja,qc,zA,zB,zC])
     refine qw (qaW w2.heap.size 1 v.id 0 0 (Qt v).length (Qt v)) zA0 zA0 (fun W hW _=>?_) (fun p5=>?_)
     ·have hW:Ext w2 W:=hW;refine Qa ?_ ((HO.out W).mono fun e w' h=>?_)
      ·go_simp
      obtain⟨u,rfl,⟨A,c,rfl,hb,hf⟩,hB⟩:=h;exact⟨(A,c),rfl,⟨hb,hf.mono hW.size⟩,hB⟩
     obtain⟨A8,c8⟩:=p5;simp only[Act.put,qf,qc,qg,Zh,QY,QX,ja,qc,zA,zB,zC];repeat ((first|(refine qd ?_ zA0 zA0 (fun W hW _=>⟨W,?_,Rel.refl _ W⟩) ?_;rotate_left;(go_simp<;>with_reducible rfl))|(refine qh zA0 ?_));try simp only[Act.put,ql,qf,qc,qg,Zh,QY,QX,ja,qc,zA,zB,zC])
     refine qw (qbV w2.heap.size S' r) zA0 zA0 (fun W hW hp=>?_) (fun p=>?_)
     ·have hW:Ext w2 W:=hW;have hb:Bys W W.heap.size (.slice A8 (Qt v).length c8) (Qt v):=(hp 5 zA1).1.1;refine Qa ?_ ((HP2.out A8 c8 W (x2.trans hW) hb).mono fun e w' h=>?_)
      ·go_simp;exact⟨rfl,rfl,rfl,rfl,rfl⟩
      obtain⟨u,rfl,hu,hB⟩:=h;rw[hq] at hu;obtain⟨v',rfl,hT⟩:=hu;obtain⟨BB,WW,gg,A3',c3',A4',eG,rfl,-⟩:=id hT;exact⟨((BB,WW),(A3',c3'),(A4',eG)),rfl,QF.keep hT hW.size (zM _) (fun _ _ _=>rfl),hB⟩
     obtain⟨⟨BB,WW⟩,⟨A3',c3'⟩,⟨A4',eG⟩⟩:=p;simp only[Act.put,qf,qc,qg,Zh,QY,QX,ja,qc,zA,zB,zC];repeat ((first|(refine qd ?_ zA0 zA0 (fun W hW _=>⟨W,?_,Rel.refl _ W⟩) ?_;rotate_left;(go_simp<;>with_reducible rfl))|(refine qh zA0 ?_));try simp only[Act.put,ql,qf,qc,qg,Zh,QY,QX,ja,qc,zA,zB,zC])
     refine qw (jM w2.heap.size 28 #[.slice none 0 0,.slice none 0 0,.slice none 0 0,.slice none 0 0]) zA0 zA0 (fun W hW _=>?_) (fun (p11:Nat)=>?_)
     ·refine jR ?_ (Below.size hW);go_simp
     simp only[Act.put,qf,qc,qg,Zh,QY,QX,ja,qc,zA,zB,zC];repeat ((first|(refine qd ?_ zA0 zA0 (fun W hW _=>⟨W,?_,Rel.refl _ W⟩) ?_;rotate_left;(go_simp<;>with_reducible rfl))|(refine qh zA0 ?_));try simp only[Act.put,ql,qf,qc,qg,Zh,QY,QX,ja,qc,zA,zB,zC])
     refine qu (hK _ _ fun W hW hF=>?_);obtain⟨f11,aO⟩:W.heap[p11]?=some (.cells #[.slice none 0 0,.slice none 0 0,.slice none 0 0,.slice none 0 0] 28 (0,0))/\w2.heap.size<=p11:=(hF 11).1;have yZ:QF w2.heap.size S' (Qe (some ⟨BB,0,none⟩) S'.bs.length S'.bs.length (some ⟨WW,0,none⟩) S'.ws.length (S'.ws.length+1) A3' S'.now.length c3' A4' S'.last.length eG) W:=(hF 6).1;clear hF hK gP gV;have hW:Ext w2 W:=hW;refine zC3 ?_;have k11:=qa f11;have h11:=qe f11;have z11:=(zG.1 f11).1;have rq2:=qb nU hW;have rz2:=qb lF hW;go_wp2;refine Qo ?_;generalize aK:World.setCell (World.setCell (World.setCell (World.setCell W _ _) _ _) _ _) _ _=w3;obtain⟨r3,o3,z3,b3⟩:=qdS f11 aK.symm;have hTw3:=QF.keepT (lo':=w2.heap.size) yZ (zM _) zO f11 zA1 (fun b _ _ aN=>o3 b aN);clear aK k11 h11 f11;have lG:=(o3 w.heap.size zO).trans rq2;have oP:=(o3 (w.heap.size+2) zO).trans rz2;have x3:Below w.heap.size w w3:=b3 zO (x2.trans hW);have ko3:=qa oP;have fo3:=qe oP;have zo3:w.heap.size+1+1<w3.heap.size:=(zG.1 oP).1;clear rq2 rz2;have hmay:=af.out r S' hq;have iy:=VN (hTw3.newSto (za hmay.1));replace hq:=zH hq;replace iy:=zH iy;replace hmay:=zH hmay;clear hTw3 af wJ HP2;go_upto_region 7 with fail;have HI:=zH (fun W (hW:Ext w3 W)=>Gb (.slice A5 dead.length c5) dead (by have:=dU.out;omega) W (hd.out.ext_ (x3.trans (Below.mono hW x3.size))));have gP:∀ W,qk.r w3 W->∀ i,W.cell? ⟨w.heap.size,i,none⟩=(qH (.slice A1 n1 c1) (.slice A2 n2 c2) (.slice A3 n3 c3) (.slice A4 n4 c4) gen root next (.slice A5 dead.length c5))[i]?:=fun W h=>qa (qb lG h);obtain⟨nb,rJ⟩:∃ nb,S'.bs.length=nb:=⟨_,rfl⟩
     obtain⟨nw,hnw⟩:∃ nw,S'.ws.length=nw:=⟨_,rfl⟩
     obtain⟨nn,nN⟩:∃ nn,S'.now.length=nn:=⟨_,rfl⟩
     obtain⟨nl,hnl⟩:∃ nl,S'.last.length=nl:=⟨_,rfl⟩
     rw[rJ,hnw,nN,hnl] at iy r3 ⊢;have bn:=zH (And.intro rJ (And.intro hnw (And.intro nN hnl)));clear rJ hnw nN hnl;have gS:∀ W,qk.r w3 W->∀ i,W.cell? ⟨p11,i,none⟩=#[.slice (some ⟨BB,0,none⟩) nb nb,.slice (some ⟨WW,0,none⟩) nw (nw+1),.slice A3' nn c3',.slice A4' nl eG][i]?:=fun W h=>qa (qb r3 h);clear ko3 fo3;refine qo zQ ?_;refine zu 1 10 (.int .i64 (r:Int)) zQ zA6 zQ zQ zQ zA0 (fun W=>?_) ?_
     ·go_simp
     simp only[Act.put,qf,qc,qg,Zh,QY,QX,ja,qc,zA,zB,zC];refine qP (w:=w3) qk (qD [(4,outN w3.heap.size dead.length dead)]) [true,false,true,true,true,true] 5 zQ zQ zQ zQ zQ zQ zQ ?st (Rel.drew _ _) ?walk
     case st=>exact qj (by simp only[List.forall_mem_cons];exact⟨fun p=>QI (qdD _ _ _ p),fun _ h=>by cases h⟩)
     case walk =>
      intro K hK;dsimp only[qp,List.replicate];repeat ((first|(refine qd ?_ zA0 zA0 (fun W hW _=>⟨W,?_,Rel.refl _ W⟩) ?_;rotate_left;(go_simp<;>with_reducible rfl))|(refine qh zA0 ?_));try simp only[Act.put,ql,qf,qc,qg,Zh,QY,QX,ja,qc,zA,zB,zC])
      refine qw (outN w3.heap.size dead.length dead) zA0 zA0 (fun W hW _=>?_) (fun p=>?_)
      ·have hW:Ext w3 W:=hW;refine Qa ?_ ((HI.out W hW).mono fun e w' h=>?_)
       ·go_simp
       obtain⟨u,rfl,hu,hB⟩:=h;obtain⟨A',c',rfl,_,_⟩:=qy hu;exact⟨(A',c'),rfl,⟨Zs.of_ownT hu,(Zb.of_own hu).mono hW.size⟩,hB⟩
      obtain⟨B5,d5⟩:=p;simp only[Act.put,qf,qc,qg,Zh,QY,QX,ja,qc,zA,zB,zC];repeat ((first|(refine qd ?_ zA0 zA0 (fun W hW _=>⟨W,?_,Rel.refl _ W⟩) ?_;rotate_left;(go_simp<;>with_reducible rfl))|(refine qh zA0 ?_));try simp only[Act.put,ql,qf,qc,qg,Zh,QY,QX,ja,qc,zA,zB,zC])
      refine qu (hK _ _ fun V hV hF=>?_);have hI:Zs (thaw V) V.heap.size (.slice B5 dead.length d5) dead/\Zb w3.heap.size (.slice B5 dead.length d5):=(hF 4).1;clear hF hK gP gS HI;have hV:Ext w3 V:=hV;refine zC3 ?_;have tV:=qb lG hV;have ro4:=qb oP hV;have kp4:=qa tV;have fp4:=qe tV;replace hI:=zH hI;clear lG oP;go_wp2;refine Qo ?_;generalize aQ:World.setCell (World.setCell (World.setCell (World.setCell (World.setCell (World.setCell V _ _) _ _) _ _) _ _) _ _) _ _=w5;obtain⟨wV,o5,z5,b5⟩:=qdT tV aQ.symm;clear aQ kp4 fp4;have ro5:=(o5 (w.heap.size+2) zO).trans ro4;have x5:Below w.heap.size w w5:=b5 (zM _) (x3.trans (Below.mono hV x3.size));have hzV:=hV.size;have hDQ:∀ k,w.heap.size<k->k<w3.heap.size->w5.heap[k]?=w3.heap[k]?:=fun k h1 h2=>(o5 k zO).trans (hV.block k h2);have hBA:=(iy.out w5 (KH fun k h1 h2=>hDQ k zO h2)).more (show w3.heap.size<=w5.heap.size by omega);have hin5:Zs w5 w5.heap.size (.slice B5 dead.length d5) dead:=by rw[z5];exact hI.out.1.pos hI.out.2 fun q u h1 h2 h3=>(World.cell?_of_block (o5 q.block zO)).trans (Yl h3).1
      have HCk:=zH (Xc (some ⟨BB,0,none⟩) nb nb (some ⟨WW,0,none⟩) nw (nw+1) A3' nn c3' A4' nl eG gen (r:Int) next B5 d5 S' dead w5 hBA hin5);have kp5:=qa wV;replace hDQ:=zH hDQ;clear hBA hin5;go_wp2_with fail;refine HCk.out.mono ?_;clear HCk;rintro e w6 ⟨eH,hQ6⟩;have x6:Below w.heap.size w w6:=x5.trans (Below.mono eH x5.size);have uu:=qb wV eH;have ro6:=qb ro5 eH;have ko6:=qa ro6;have fo6:=qe ro6;have h56:=zH (fun k (hk:k<w5.heap.size)=>Below.block eH k hk);have z56:=eH.size;clear eH tV ro4 kp5;rcases hQ6 with ⟨rfl,az⟩|⟨rfl,vs',refs',nodes',hp',hc',he'⟩
      ·replace az:=zH az;go_wp2_with fail;exact Kt (b:=w.heap.size+2) rfl rfl rfl (VP ro6 _ _ _ _ _ _ _ _) (aI.out _ _ (ji x6 zO _ _ _ _ _ _ _ _) (.inl ⟨8,zA1,rfl,.inr ⟨h0.out,.inr ⟨rfl,r,S',hq.out,az.out⟩⟩⟩))
      ·have hok:=zH (⟨refs',nodes',hp',hc',he'⟩:qen S' (r:Int) next dead vs');have kp6:=qa uu;clear hp' hc' he';go_wp2_with fail;refine Kt (b:=w.heap.size+2) rfl rfl rfl (VP ro6 _ _ _ _ _ _ _ _) (aI.out _ _ (ji x6 zO _ _ _ _ _ _ _ _) (.inr ⟨r,S',vs',_,h0.out,hq.out,hok.out,rfl,?_⟩));refine⟨some ⟨BB,0,none⟩,nb,some ⟨WW,0,none⟩,nw+1,A3',c3',A4',eG,B5,d5,?_,fun C hC=>?_⟩
       ·rw[bn.out.1,bn.out.2.1,bn.out.2.2.1,bn.out.2.2.2]
       ·rw[bn.out.1,bn.out.2.1,bn.out.2.2.1,bn.out.2.2.2];rw[Ke];have hs:=fun (k:Nat) (hk:k≠w.heap.size+2)=>jK (w:=w6) hk (.slice (some ⟨BB,0,none⟩) nb nb) (.slice (some ⟨WW,0,none⟩) nw (nw+1)) (.slice A3' nn c3') (.slice A4' nl eG) (.int .u32 gen) (.int .i64 (r:Int)) (.int .u32 next) (.slice B5 dead.length d5);have q1:=iy.out C fun q u h1 h2 h3=>hC q u zO (by rw[Ke];omega) ((QR ((hs q.block zO).trans ((h56.out q.block zO).trans (hDQ.out q.block zO h2)))).trans h3);have q2:=hI.out.1.pos hI.out.2 (C:=C) fun q u h1 h2 h3=>hC q u zO (by rw[Ke];omega) ((QR ((hs q.block zO).trans ((h56.out q.block zO).trans (o5 q.block zO)))).trans h3);exact⟨q1.more zO,q2.more zO⟩
set_option maxRecDepth 100000 in
theorem qev (b lo:Nat) (A1:Option Addr) (n1 c1:Nat) (g c3:Nat) (A4:Option Addr) (c4:Nat) (bs:List (List UInt8)) (now last:List UInt8) (hn:now.length=256) (hl:last.length=256) (hn8:now[8]?=some 0) (hl8:last[8]?=some 0) (w:World) (aO:lo<=b) (hr:w.heap[b]?=some (.cells #[.slice A1 n1 c1,.slice none 0 0,.slice (some ⟨g,0,none⟩) 256 c3,.slice A4 256 c4] 191 (0,0))) (ho:w.ownsRow lo 5 1 (.slice (some ⟨g,0,none⟩) 256 c3) 256 (now.map bv)) (hb:Bls w lo (.slice A1 n1 c1) bs) (ha:Bys w lo (.slice A4 256 c4) last):Calls prog 142 #[.pointer (some ⟨b,0,none⟩),jd 0 none 0 0] w (fun e W=>e=.returned (.tuple #[.int .i64 8,.int .i64 0])/\Below lo w W/\∃ A2 c2,W.heap[b]?=some (.cells #[.slice A1 n1 c1,.slice A2 1 c2,.slice (some ⟨g,0,none⟩) 256 c3,.slice A4 256 c4] 191 (0,0)) /\
   qX W W.heap.size (.slice A1 n1 c1) (.slice A2 1 c2) (.slice (some ⟨g,0,none⟩) 256 c3) (.slice A4 256 c4) ⟨bs,[(8,je (zy 0 []))],now.set 8 1,last⟩):=by
 have nJ:=(zm ho).1 8 zO;rw[hn8] at nJ;replace nJ:w.cell? ⟨g,8,none⟩=some (.int .u8 0):=nJ;obtain⟨_,uQ,uV,hzg⟩:=zm ho;obtain⟨A,c,e,hac,_,har⟩:=ha;rw[hl] at e hac har;simp only[Value.slice.injEq,true_and] at e;obtain⟨rfl,rfl⟩:=e;obtain⟨b4,o4,rfl,gu,hc4⟩:=har.2 zO;have sF:w.cell? ⟨b4,o4+8,none⟩=some (.int .u8 0):=hc4 8 (bv 0) (by rw[List.getElem?_map,hl8];rfl);have zb:b<w.heap.size:=(zG.1 hr).1;have hW:=zH (fun W=>Gs 0 none 0 0 [] W (Its.nil W W.heap.size) zA1 (fun x hx=>by cases hx));go_enter func142,ntmps142;go_wp2_with fail;generalize aA:World.alloc _ _=w1;have x1:Ext w w1:=by rw[<-aA];exact zN _ _
 have p1:w1.heap[w.heap.size]?=some (.cells #[.int .i64 0,.slice none 0 0] 49 (0,0)):=by rw[<-aA];exact zI _ _ _ rfl
 clear aA;refine(hW.out w1).mono ?_;rintro e w2 ⟨u,rfl,⟨u,rfl,⟨A0,c0,rfl,hu,hf⟩⟩,hB⟩;have hB:Ext w1 w2:=hB;have x2:Ext w w2:=x1.trans hB;have p2:=qb p1 hB;have r2:=qb hr x2;have o2:=QM ho x2;have kp:=qa p2;have kr:=qa r2;have fr:=qe r2;have kn:w2.cell? ⟨g,8,none⟩=some (.int .u8 0):=Ext.cell x2 nJ;have z2:=x2.size;have z1:w.heap.size<w1.heap.size:=(zG.1 p1).1;have kl:w2.cell? ⟨b4,o4+8,none⟩=some (.int .u8 0):=Ext.cell x2 sF;clear hB x1 p1 nJ sF hc4 hW;go_wp2_with fail;go_loopw [21] (fun i wr=>i=.int .i64 0/\wr=w2) (fun _ _=>0)
 case atStart=>exact⟨rfl,rfl⟩
 case round =>
  obtain⟨rfl,hw⟩:=hrel;replace hw:=hw.symm;subst hw;go_wp2_with fail;go_loopw [4] (fun i W=>i=.int .i64 8/\Ext w2 W) (fun _ _=>0)
  case atStart=>exact⟨rfl,Ext.refl _⟩
  case round =>
   obtain⟨rfl,hE⟩:=hrel;have g1:∀ W,qk.r wr W->∀ i,W.cell? ⟨b,i,none⟩=#[.slice A1 n1 c1,.slice none 0 0,.slice (some ⟨g,0,none⟩) 256 c3,.slice (some ⟨b4,o4,none⟩) 256 c4][i]?:=fun W h=>qa (qb (qb r2 hE) h);have g2:∀ W,qk.r wr W->W.cell? ⟨g,8,none⟩=some (.int .u8 0):=fun W h=>Ext.cell (hE.trans h) kn;have g3:∀ W,qk.r wr W->W.cell? ⟨b4,o4+8,none⟩=some (.int .u8 0):=fun W h=>Ext.cell (hE.trans h) kl;clear kp kr fr kn kl;go_wp2_with fail;refine qo zQ ?_;refine qP (w:=wr) qk (qD []) [true,true,true,true,true,true,true,true,true,true,true,true,true,true,true,true,true,true,true,true,true,true] 0 zQ zQ zQ zQ zQ zQ zQ ?st (Rel.drew _ _) ?walk
   case st=>exact qj (fun _ h=>by cases h)
   case walk =>
    intro K hK;dsimp only[qp];repeat ((first|(refine qd ?_ zA0 zA0 (fun W hW _=>⟨W,?_,Rel.refl _ W⟩) ?_;rotate_left;(go_simp<;>with_reducible rfl))|(refine qh zA0 ?_));try simp only[Act.put,ql,qf,qc,qg,QS,zA,zB,zC])
    refine qu (hK _ _ fun W hW hF=>?_);have hW:Ext wr W:=hW;have x3:Ext w2 W:=hE.trans hW;clear hF hK g1 g2 g3 hE hW;refine zB5 ?_;have r3:=qb r2 x3;have o3:=QM o2 x3;have kr:=qa r3;have fr:=qe r3;obtain⟨i0,hi,aX,aU,aV⟩:=info_parts Tryz.info_write;have z3:=x3.size;have hu3:=(hu.below x3).more x3.size;have xw3:Ext w W:=x2.trans x3;have x2z:=x2.size;clear r2 o2 x2 x3 hu p2;replace o3:=zH o3;replace hu3:=zH hu3;go_wp2;refine Qo ?_;go_wp2_with (at_builtin;refine qI ?_);refine Qh.go (zZ _ rfl (.tmp 78) (.tmp 82) 23 rfl W.heap.size 130 i0 (.agg #[.int .i64 0,.slice none 0 0]) 2 32 underlying23 hi aX aU aV rfl zA1 _ 0 [] rfl (World.ownsRow_nil _ _ _ _) #[.int .i64 8,.slice A0 128 c0] rfl rfl zA8 zO zA1 (zM _) ?_);intro v4 w4 own4 _ dG _;have dG:Ext W w4:=dG;simp only[Nat.zero_add,List.nil_append] at own4;obtain⟨A2,c2,rfl,hc21,hc22⟩:=qy own4;have r4:=qb r3 dG;have kr4:=qa r4;have fr4:=qe r4;have o4':=QM o3.out dG;have z5:=dG.size;have kg:=(zm o4').1 8 zO;have fg:=(zm o4').2.1 8;have hlt:=Ql own4;have yh:g≠b:=by
     intro e;subst e;obtain⟨_,h2⟩:=o4';rcases h2 with ⟨e,_⟩|⟨g',cap,cur,e,_,lK,_⟩
     ·cases e
     ·cases e;exact qM lK r4 zA1 rfl
    have z6:b<w2.heap.size:=by have:=x2z;omega
    replace own4:=zH own4;replace o4':=zH o4';have hf1:=hf.mono (lo':=w.heap.size) zO;clear r3 kr fr hc21 hc22;go_wp2_with fail;have st:∀ q,q≠b->q≠g->((w4.setCell ⟨b,1,none⟩ (.slice A2 1 c2)).setCell ⟨g,8,none⟩ (.int .u8 1)).heap[q]?=w4.heap[q]?:=fun q h1 h2=>(zJ _ _ _ _ h2).trans (zJ _ _ _ _ h1);have xw4:Ext w w4:=xw3.trans dG;have hB:Below lo w ((w4.setCell ⟨b,1,none⟩ (.slice A2 1 c2)).setCell ⟨g,8,none⟩ (.int .u8 1)):=Below.setCell (Below.setCell (Below.mono xw4 zO) (p:=⟨b,1,none⟩) aO _) (p:=⟨g,8,none⟩) uV _;have rf:=qi r4 1 (.slice A2 1 c2);have rf2:=(zJ (w4.setCell ⟨b,1,none⟩ (.slice A2 1 c2)) ⟨g,8,none⟩ (.int .u8 1) b (fun e=>yh e.symm)).trans rf;have of4:=UA (qdE (k:=1) (v:=.slice A2 1 c2) o4'.out yh) (k:=8) zO 1;have hz:((w4.setCell ⟨b,1,none⟩ (.slice A2 1 c2)).setCell ⟨g,8,none⟩ (.int .u8 1)).heap.size=w4.heap.size:=zA3;have ow:=Zf (w':=(w4.setCell ⟨b,1,none⟩ (.slice A2 1 c2)).setCell ⟨g,8,none⟩ (.int .u8 1)) own4.out (fun q h1 _=>st q zO zO);have hu4:Bys ((w4.setCell ⟨b,1,none⟩ (.slice A2 1 c2)).setCell ⟨g,8,none⟩ (.int .u8 1)) w4.heap.size (.slice A0 128 c0) (je (zy 0 [])):=(((hu3.out.below dG).more dG.size).setCell hf1 (p:=⟨b,1,none⟩) zb _).setCell hf1 (p:=⟨g,8,none⟩) hzg _;have hsl:(je (zy 0 [])).length=128:=vz zA1;refine bodyPost_ret (v:=.tuple #[.int .i64 8,.int .i64 0]) (by simp[results,results142,go_sem]) rfl ⟨rfl,hB,A2,c2,rf2,⟨?_,?_,?_,?_⟩⟩
    ·exact(hb.below hB).more zO
    ·rw[hz];refine⟨[((8,je (zy 0 [])),.slice A0 128 c0)],rfl,?_,?_⟩
     ·obtain⟨A',c',e,q1,q2⟩:=qy ow;cases e;exact⟨A2,c2,rfl,q1,q2,by have:=Rd.of_own ow;rw[hz] at this;exact this⟩
     ·intro p hp;simp only[List.mem_singleton] at hp;subst hp;exact⟨⟨A0,c0,by rw[hsl]⟩,hu4⟩
    ·exact Bys.of_own of4
    ·have e1:Bys w lo (.slice (some ⟨b4,o4,none⟩) 256 c4) last:=⟨_,c4,by rw[hl],zO,by assumption,by rw[hl];exact har⟩
     exact(e1.below hB).more zO
def ZG (n:Nat):List UInt8:=List.replicate n 0
theorem Za (n:Nat):(ZG n).length=n:=by simp[ZG]
theorem qfH (n:Nat):madeCells #[.int .u8 0] n=((ZG n).map bv).toArray:=by
 apply Array.ext_getElem?;intro i;unfold madeCells ZG;rw[Array.getElem?_map,Array.getElem?_range,List.getElem?_toArray,List.getElem?_map,List.getElem?_replicate];by_cases h:i<n
 ·rw[if_pos h,if_pos h];simp[Nat.mod_one,bv]
 ·rw[if_neg h,if_neg h];rfl
theorem qgj {n:Nat} (hn:n<1000000) (w:World):(Instr.makeSlice 26 (.int .i64 (n:Int)) (.int .i64 (n:Int))).run prog w=.ok (.slice (some ⟨w.heap.size,0,none⟩) n n) (w.alloc (.cells ((ZG n).map bv).toArray 5)):=by obtain⟨i0,hi,aX,aU,aV⟩:=info_parts Tryz.info_u8;have h:=run_make (P:=prog) w 26 5 i0 _ underlying26 hi aX .i64 .i64 (n:Int) (n:Int) zO zO (by rw[aV];omega) zO;rw[aU,Int.toNat_natCast,Nat.mul_one] at h;rw[<-qfH];exact h
theorem qcT (w:World):Calls prog 94 #[] w (QV (fun u W=>u=.slice (some ⟨w.heap.size,0,none⟩) 256 256/\W.heap[w.heap.size]?=some (.cells ((ZG 256).map bv).toArray 5 (0,0))) w):=by have hmk:∀ w,(Instr.makeSlice 26 (.int .i64 256) (.int .i64 256)).run prog w=.ok (.slice (some ⟨w.heap.size,0,none⟩) 256 256) (w.alloc (.cells ((ZG 256).map bv).toArray 5)):=fun w=>qgj (n:=256) zO w;go_enter func94,ntmps94;go_wp2;go_ret;exact⟨_,rfl,⟨rfl,zI _ _ _ rfl⟩,zN _ _⟩
structure NewI (w2:World) (BB:Nat) (i:Value) (wr:World):Prop where
 ex:∃ (k:Nat) (cs:Array Value),k<=256/\i=.int .i64 (k:Int)/\Below BB w2 wr/\BB<wr.heap.size/\wr.heap[BB]?=some (.cells cs 26 (0,0))/\cs.size=256 /\
  wr.heap[BB+1]?=some (.cells #[.slice (some ⟨BB,0,none⟩) 256 256,.slice none 0 0] 25 (0,0))/\∀ i,i<k->∃ b,cs[i]?=some (.slice (some ⟨b,0,none⟩) 128 128)/\BB<b/\wr.heap[b]?=some (.cells ((ZG 128).map bv).toArray 5 (0,0))
def jZ:List (List UInt8):=List.replicate 256 (ZG 128)
set_option maxRecDepth 100000 in
theorem dnew_any (w:World):Calls prog 93 #[] w (QV (fun u W=>∃ BB,u=Yv (some ⟨BB,0,none⟩) 256 256 none 0 0/\∀ W2:World,(∀ q:Addr,w.heap.size<=q.block->q.block<W.heap.size->W2.cell? q=W.cell? q)->Bls W2 W.heap.size (.slice (some ⟨BB,0,none⟩) 256 256) jZ) w):=by
 have hmk:∀ w,(Instr.makeSlice 26 (.int .i64 128) (.int .i64 128)).run prog w=.ok (.slice (some ⟨w.heap.size,0,none⟩) 128 128) (w.alloc (.cells ((ZG 128).map bv).toArray 5)):=fun w=>qgj (n:=128) zO w;have hmk2:∀ w,(Instr.makeSlice 22 (.int .i64 256) (.int .i64 256)).run prog w=.ok (.slice (some ⟨w.heap.size,0,none⟩) 256 256) (w.alloc (.cells (madeCells #[.slice none 0 0] 256) 26)):=fun w=>XR (n:=256) zO w;go_enter func93,ntmps93;go_wp2_with fail;generalize cZ:(World.alloc (World.alloc (World.alloc _ _) _) _)=w2;have x2:Ext w w2:=by rw[<-cZ];exact((zN _ _).trans (zN _ _)).trans (zN _ _)
 have q2:w2.heap[w.heap.size]?=some (.cells #[.slice none 0 0,.slice none 0 0] 25 (0,0)):=by rw[<-cZ];exact(zK _ _ _ zA2).trans ((zK _ _ _ zA3).trans (zI _ _ _ rfl))
 have b2:w2.heap[w.heap.size+1]?=some (.cells (madeCells #[.slice none 0 0] 256) 26 (0,0)):=by rw[<-cZ];exact(zK _ _ _ zA3).trans (zI _ _ _ zA3)
 have d2:w2.heap[w.heap.size+1+1]?=some (.cells #[.slice (some ⟨w.heap.size+1,0,none⟩) 256 256,.slice none 0 0] 25 (0,0)):=by rw[<-cZ];exact zI _ _ _ zA3
 have I0:NewI w2 (w.heap.size+1) (.int .i64 0) w2:=⟨0,_,zO,rfl,Below.refl _ _,(zG.1 b2).1,b2,size_madeCells _ _,d2,fun i hi=>zO⟩
 have kd:=qa d2;replace I0:=zH I0;clear cZ hmk2 b2 d2;go_wp2_with fail;go_loopw [8] (fun i wr=>NewI w2 (w.heap.size+1) i wr) (fun i _=>256-(intOf i).toNat)
 case atStart=>exact I0.out
 case round =>
  obtain⟨k,cs,hk,rfl,hE,hz,aC,hsz,hd,bU⟩:=hrel.ex;clear hrel I0 kd;have xw:Below w.heap.size w wr:=Below.trans x2 (Below.mono hE zO);by_cases hlt:k<256
  ·have aJ:=hlt;have g1:∀ W,qk.r wr W->∀ i,W.cell? ⟨w.heap.size+1+1,i,none⟩=#[.slice (some ⟨w.heap.size+1,0,none⟩) 256 256,.slice none 0 0][i]?:=fun W h=>qa (qb hd h);have uB:=zH (IntWalk.wrap64_in ((k:Int)+1) zO);have hEh:=zH hE;have hcsh:=zH bU;have hQU:=zH aC;have hdh:=zH hd;clear hE bU aC hd;go_wp2_with fail;refine qo zQ ?_;refine qP (w:=wr) qk (qD [(3,TX wr.heap.size 128 128 5 ((ZG 128).map bv).toArray)]) [true,true,true,true,true] 1 zQ zQ zQ zQ zQ zQ zQ ?st (Rel.drew _ _) ?walk
   case st=>exact qj (by simp only[List.forall_mem_cons];exact⟨kI _ _ _ _ _,fun _ h=>by cases h⟩)
   case walk =>
    intro K hK;dsimp only[qp];repeat ((first|(refine qd ?_ zA0 zA0 (fun W hW _=>⟨W,?_,Rel.refl _ W⟩) ?_;rotate_left;(go_simp<;>with_reducible rfl))|(refine qh zA0 ?_));try simp only[Act.put,ql,qf,qc,qg,QS,zA,zB,zC])
    refine qw (TX wr.heap.size 128 128 5 ((ZG 128).map bv).toArray) zA0 zA0 (fun W hW _=>?_) (fun (b:Nat)=>?_)
    ·have hW:Ext wr W:=hW;refine ZU (u:=.slice (some ⟨W.heap.size,0,none⟩) 128 128) (w':=W.alloc (.cells ((ZG 128).map bv).toArray 5)) ?_ ⟨W.heap.size,rfl,⟨zI _ _ _ rfl,hW.size⟩,zN _ _⟩;go_simp
    simp only[Act.put,qf,qc,qg,QS,zA,zB,zC];repeat ((first|(refine qd ?_ zA0 zA0 (fun W hW _=>⟨W,?_,Rel.refl _ W⟩) ?_;rotate_left;(go_simp<;>with_reducible rfl))|(refine qh zA0 ?_));try simp only[Act.put,ql,qf,qc,qg,QS,zA,zB,zC])
    first
     |(refine qd (.pointer (some ⟨w.heap.size+1,0+k,none⟩)) zA0 zA0 (fun W hW _=>⟨W,?_,Rel.refl _ W⟩) ?_
       ·go_simp;rw[IntWalk.i64_in (k:Int) zO,if_pos zO];simp
       simp only[Act.put,ql,qf,qc,qg,QS,zA,zB,zC])
     |skip
    repeat ((first|(refine qd ?_ zA0 zA0 (fun W hW _=>⟨W,?_,Rel.refl _ W⟩) ?_;rotate_left;(go_simp<;>with_reducible rfl))|(refine qh zA0 ?_));try simp only[Act.put,ql,qf,qc,qg,QS,zA,zB,zC])
    refine qu (hK _ _ fun W hW hF=>?_);have hb:W.heap[b]?=some (.cells ((ZG 128).map bv).toArray 5 (0,0))/\wr.heap.size<=b:=(hF 3).1;have hW:Ext wr W:=hW;clear hF hK g1 hmk;refine zB5 ?_;have rB:=qb hQU.out hW;have kB:=qa rB k;have fB:=qe rB k;rw[Array.getElem?_eq_getElem zO] at kB;have IR:NewI w2 (w.heap.size+1) (.int .i64 ((k:Int)+1)) (W.setCell ⟨w.heap.size+1,k,none⟩ (.slice (some ⟨b,0,none⟩) 128 128)):=⟨k+1,_,zO,rfl,Below.setCell (Below.trans hEh.out (Below.mono hW zO)) (p:=⟨w.heap.size+1,k,none⟩) (zM _) _,by have:=hW.size;simp;omega,qi rB k _,by simpa using hsz,
     (zJ _ _ _ _ (by show _≠w.heap.size+1;omega)).trans (qb hdh.out hW),fun i hi=>by
      rw[Array.getElem?_setIfInBounds];by_cases e:k=i
      ·subst e;rw[if_pos rfl,if_pos zO];exact⟨b,rfl,zO,(zJ _ _ _ _ (by show _≠w.heap.size+1;omega)).trans hb.1⟩
      ·rw[if_neg e];obtain⟨b',e1,e2,e3⟩:=hcsh.out i zO;exact⟨b',e1,e2,(zJ _ _ _ _ (by show _≠w.heap.size+1;omega)).trans (qb e3 hW)⟩⟩
    replace IR:=zH IR;generalize cs[k]=u0 at *;clear hb hW rB;go_wp2;refine Qo ?_;go_wp2_with fail;try rw[uB.out]
    refine⟨IR.out,?_⟩;simp[intOf];omega
  ·obtain rfl:k=256:=zO;have qq:=(hE.block w.heap.size zO).trans q2;have kq:=qa qq;have fq:=qe qq;have kd:=qa hd;have rf:=qi (qi qq 0 (.slice (some ⟨w.heap.size+1,0,none⟩) 256 256)) 1 (.slice none 0 0);have kf:=qa rf;have bf:Below w.heap.size w ((wr.setCell ⟨w.heap.size,0,none⟩ (.slice (some ⟨w.heap.size+1,0,none⟩) 256 256)).setCell ⟨w.heap.size,1,none⟩ (.slice none 0 0)):=Below.setCell (Below.setCell xw (p:=⟨w.heap.size,0,none⟩) (zM _) _) (p:=⟨w.heap.size,1,none⟩) (zM _) _;have DF:∀ W2:World,(∀ q:Addr,w.heap.size<=q.block->q.block<((wr.setCell ⟨w.heap.size,0,none⟩ (.slice (some ⟨w.heap.size+1,0,none⟩) 256 256)).setCell ⟨w.heap.size,1,none⟩ (.slice none 0 0)).heap.size->W2.cell? q=((wr.setCell ⟨w.heap.size,0,none⟩ (.slice (some ⟨w.heap.size+1,0,none⟩) 256 256)).setCell ⟨w.heap.size,1,none⟩ (.slice none 0 0)).cell? q)->Bls W2 ((wr.setCell ⟨w.heap.size,0,none⟩ (.slice (some ⟨w.heap.size+1,0,none⟩) 256 256)).setCell ⟨w.heap.size,1,none⟩ (.slice none 0 0)).heap.size (.slice (some ⟨w.heap.size+1,0,none⟩) 256 256) jZ:=by
    have st:∀ b,b≠w.heap.size->((wr.setCell ⟨w.heap.size,0,none⟩ (.slice (some ⟨w.heap.size+1,0,none⟩) 256 256)).setCell ⟨w.heap.size,1,none⟩ (.slice none 0 0)).heap[b]?=wr.heap[b]?:=fun b hb=>(zJ _ _ _ _ hb).trans (zJ _ _ _ _ hb);generalize World.setCell (World.setCell wr _ _) _ _=wf at *;intro W2 hk;have rB:=(st (w.heap.size+1) zO).trans aC;have zB:=(zG.1 rB).1;refine⟨cs.toList,some ⟨w.heap.size+1,0,none⟩,256,by simp[jZ],by simp[jZ],zA7,⟨by simp[jZ,hsz],fun _=>⟨w.heap.size+1,0,rfl,zB,fun j u hu=>?_⟩⟩,fun i u l hu hl=>?_⟩
    ·rw[hk ⟨w.heap.size+1,0+j,none⟩ (by show w.heap.size<=w.heap.size+1;omega) zB,Nat.zero_add,qa rB];simpa using hu
    have hi:i<256:=by have:=(List.getElem?_eq_some_iff.1 hl).1;simpa [jZ] using this
    have e0:cs.toList[i]?=cs[i]?:=zA3;obtain⟨b,e1,e2,e3⟩:=bU i hi;rw[e0,e1] at hu;cases hu;have uU:l=ZG 128:=by
     have:jZ[i]?=some (ZG 128):=by unfold jZ;rw[List.getElem?_replicate,if_pos hi]
     rw[this] at hl;cases hl;rfl
    subst uU;have e4:=(st b zO).trans e3;have zb:=(zG.1 e4).1;refine⟨_,128,by rw[Za],by rw[Za];omega,zA7,zA3,fun _=>⟨b,0,rfl,zb,fun j u hu=>?_⟩⟩;rw[hk ⟨b,0+j,none⟩ (by show w.heap.size<=b;omega) zb,Nat.zero_add,qa e4];simpa using hu
   replace kf:=zH kf;replace bf:=zH bf;replace DF:=zH DF;clear rf hE aC bU hd;go_wp2;have kf:=kf.out;exact bodyPost_ret (v:=Yv (some ⟨w.heap.size+1,0,none⟩) 256 256 none 0 0) (by simp[results,results93,go_sem,kf]) rfl ⟨_,rfl,⟨w.heap.size+1,rfl,DF.out⟩,bf.out⟩
def newS:Sto:=⟨jZ,[],ZG 256,ZG 256⟩
def qF:Sto:=⟨jZ,[(8,je (zy 0 []))],(ZG 256).set 8 1,ZG 256⟩
theorem newS_may:qm newS=true:=by decide +kernel
theorem Wrs.nil (w:World) (B:Nat):Wrs w B (.slice none 0 0) []:=⟨[],rfl,⟨none,0,rfl,zM _,by simp[maxLen],Rd.none_⟩,fun p h=>by cases h⟩
set_option maxRecDepth 100000 in
theorem jV:Xh qF:=by
 have h1:jZ.length=256:=by unfold jZ;rw[List.length_replicate]
 have h2:∀ l∈jZ,l.length<1000000:=fun l hl=>by unfold jZ at hl;rw[List.mem_replicate] at hl;rw[hl.2,Za];omega
 have h3:(je (zy 0 [])).length=128:=vz zA1;refine⟨by show jZ.length<_;omega,by show 1<1000000;omega,h2,fun p hp=>?_,by show ((ZG 256).set 8 1).length<_;rw[List.length_set,Za];omega,by show (ZG 256).length<_;rw[Za];omega⟩;have:p=(8,je (zy 0 [])):=by simpa [qF] using hp
 rw[this];show (je (zy 0 [])).length<_;omega
set_option maxRecDepth 100000 in
theorem rnew_any (w:World):Calls prog 52 #[] w (QV (fun u W=>∃ B n1 n2,u=Qe (some ⟨B,0,none⟩) 256 256 none 0 0 (some ⟨n1,0,none⟩) 256 256 (some ⟨n2,0,none⟩) 256 256/\qX W W.heap.size (.slice (some ⟨B,0,none⟩) 256 256) (.slice none 0 0) (.slice (some ⟨n1,0,none⟩) 256 256) (.slice (some ⟨n2,0,none⟩) 256 256) newS) w):=by
 go_enter func52,ntmps52;go_wp2_with fail;generalize aA:World.alloc _ _=w1;have x1:Ext w w1:=by rw[<-aA];exact zN _ _
 have q1:w1.heap[w.heap.size]?=some (.cells #[.slice none 0 0,.slice none 0 0,.slice none 0 0,.slice none 0 0] 28 (0,0)):=by rw[<-aA];exact zI _ _ _ zA3
 have z0:w1.heap.size=w.heap.size+1:=by rw[<-aA];simp
 clear aA;refine(dnew_any w1).mono ?_;rintro e w2 ⟨u,rfl,⟨B,rfl,yt⟩,hB⟩;have hB:Ext w1 w2:=hB;have x2:=x1.trans hB;have q2:=qb q1 hB;have hx12:=hB;clear q1 hB x1;go_wp2_with fail;refine(qcT w2).mono ?_;rintro e w3 ⟨u,rfl,⟨rfl,rH⟩,hB⟩;have oQ:Ext w2 w3:=hB;have x3:=x2.trans oQ;have q3:=qb q2 oQ;clear q2 hB;go_wp2_with fail;refine(qcT w3).mono ?_;rintro e w4 ⟨u,rfl,⟨rfl,hn2⟩,hB⟩;have dG:Ext w3 w4:=hB;have x4:=x3.trans dG;have q4:=qb q3 dG;have hn14:=qb rH dG;have kq:=qa q4;have fq:=qe q4;have z23:=oQ.size;have z34:=dG.size;have z2':=hx12.size;have P5:∀ wx:World,wx=vL w4 w.heap.size 0 [.slice (some ⟨B,0,none⟩) 256 256,.slice none 0 0,.slice (some ⟨w2.heap.size,0,none⟩) 256 256,.slice (some ⟨w3.heap.size,0,none⟩) 256 256] ->
   wx.heap[w.heap.size]?=some (.cells #[.slice (some ⟨B,0,none⟩) 256 256,.slice none 0 0,.slice (some ⟨w2.heap.size,0,none⟩) 256 256,.slice (some ⟨w3.heap.size,0,none⟩) 256 256] 28 (0,0))/\Below w.heap.size w wx /\
    qX wx wx.heap.size (.slice (some ⟨B,0,none⟩) 256 256) (.slice none 0 0) (.slice (some ⟨w2.heap.size,0,none⟩) 256 256) (.slice (some ⟨w3.heap.size,0,none⟩) 256 256) newS:=fun wx e=>by
  have hk:∀ b,b≠w.heap.size->wx.heap[b]?=w4.heap[b]?:=fun b h1=>by rw[e];exact ZM h1 _ _ _
  have hs:wx.heap.size=w4.heap.size:=by rw[e,jp]
  have h1:=Bys.lit ((hk _ zO).trans hn14) (by rw[Za];unfold maxLen;omega);have h2:=Bys.lit ((hk _ zO).trans hn2) (by rw[Za];unfold maxLen;omega);rw[Za] at h1 h2;refine⟨by rw[e];refine(jO _ _ _ _ q4).trans ?_;simp[KM],by rw[e];exact ZL (zM _) _ _ _ x4,?_,Wrs.nil _ _,h1,h2⟩;refine(yt wx fun q h1 h2=>?_).more zO;refine(World.cell?_of_block (hk q.block zO)).trans ((World.cell?_of_block (dG.block q.block zO)).trans (World.cell?_of_block (oQ.block q.block h2)))
 replace P5:=zH P5;clear yt rH hn2 hn14 q4 q3;go_wp2_with fail;have P5:=P5.out;generalize aQ:World.setCell (World.setCell (World.setCell (World.setCell w4 _ _) _ _) _ _) _ _=w5;obtain⟨r5,x5,h5⟩:=P5 w5 aQ.symm;clear P5 aQ;have k5:=qa r5;exact bodyPost_ret (v:=Qe (some ⟨B,0,none⟩) 256 256 none 0 0 (some ⟨w2.heap.size,0,none⟩) 256 256 (some ⟨w3.heap.size,0,none⟩) 256 256) (by simp[results,results52,go_sem,k5]) rfl ⟨_,rfl,⟨B,_,_,rfl,h5⟩,x5⟩
end Go.Proofs.YtpbniokljofedaaGreat
