/- Lemmas of the proof. -/
import Derived.Test.YtmeadnlmepcmbaaGreatZT19
set_option linter.all false
set_option maxHeartbeats 8000000
open Go.Proofs.Tryz
open Go.Value renaming slice→E,int→Y,tuple→Z,pointer→Od
open Option renaming none→F,some→I
open Go.Ending renaming returned→O
open Go.World renaming setCell→Q,alloc→Of
open Bool renaming true→U
open Go.IntKind renaming i64→Oa
open Go.Obj renaming cells→Ob
open Go renaming World→Oc,Value→Oe
namespace Go.Proofs.YtmeadnlmepcmbaaGreat
open Go.RowKit
variable {v:Vol}{W C w w' W':World}{ty:TypeId}{lo n1 c1 n2 c2 n3 c3 n4 c4 n lo' B:Nat}{S:Sto}{A1 A2 A3 A4:OA}{l:List UInt8}{R:Ending->World->Prop}{a:Act}{u:Value}{dead:List Int}{e:Ending}{X:Nat->Prop}{o:Obj}{y x:It}{vs:List Vol}{xs xs':List It}{refs nodes:Nat->Nat}{M M':Nat->Bool}{rs:Nat->List Nat}{R':List Nat}{nd:Int×List It}
def qft(v:Vol):It:=⟨1,v.id,0,0,QS v⟩
theorem volIt_ok(h:qeu v):Zb (qft v):=by have:=kO v;exact⟨⟨(by decide:(0:Int)<=1),(by decide:(1:Int)<256)⟩,h.1,⟨(by decide:(0:Int)<=0),(by decide:(0:Int)<4294967296)⟩,⟨(by decide:(0:Int)<=0),(by decide:(0:Int)<256)⟩,by show(QS v).length<=12;omega⟩
def setE(S:Sto)(root:Int)(v:Vol):Except Int (Nat×Sto):=match qo S root.toNat with
 |none=>.error 8
 |some (lvl,xs)=>qaJ S lvl.toNat xs root.toNat (qft v)
def SetQ(S:Sto)(gen root next:Int)(dead:List Int)(v:Vol)(w:Oc)(e:Ending)(w':Oc):Prop:=Below w w w' /\
 ((e=O (Z #[vP,Y Oa 8])/\QI S root next dead)\/∃vs refs nodes,QH S root next dead vs/\Qu S (Qp root dead vs) refs nodes/\ZJ S refs /\
  ((∃er,er≠0/\e=O (Z #[vP,Y Oa er])/\(jN S next v vs refs=er\/(jN S next v vs refs=0/\(setE S root v=.error er\/(er=8/\∃r S',setE S root v=.ok (r,S')/\QI S' (r:Int) next dead))))) \/
   ∃r S' vs' u,jN S next v vs refs=0/\setE S root v=.ok (r,S')/\Zy S' (r:Int) next dead vs'/\e=O (Z #[u,Y Oa 0])/\vB w S' gen (r:Int) next dead u w'))
def qgj(lo:Nat)(S:Sto)(r:Nat):Qb:=⟨(Nat×Nat)×(OA×Nat)×(OA×Nat),λp=>Z #[Qo p.1.1 S.bs.length S.bs.length p.1.2 S.ws.length (S.ws.length+1) p.2.1.1 S.now.length p.2.1.2 p.2.2.1 S.last.length p.2.2.2,(r:Int),Y Oa 0],
 λp W=>QY lo S (Qo p.1.1 S.bs.length S.bs.length p.1.2 S.ws.length (S.ws.length+1) p.2.1.1 S.now.length p.2.1.2 p.2.2.1 S.last.length p.2.2.2) W⟩
theorem Zn(lo:Nat)(S:Sto)(r b c:Nat)(A3:OA)(c3:Nat)(A4:OA)(c4:Nat):(qgj lo S r).f ((b,c),(A3,c3),(A4,c4))=Z #[Qo b S.bs.length S.bs.length c S.ws.length (S.ws.length+1) A3 S.now.length c3 A4 S.last.length c4,(r:Int),Y Oa 0]:=rfl
theorem qec(lo:Nat)(S:Sto)(r:Nat):∀p,qS qm ((qgj lo S r).φ p):=λp W W' he h=>by have he:Ext W W':=he;exact QY.keep h (zM _) he.size λb _ hb=>he.block b hb
def qge(e:Int):Qb:=⟨Unit,λ_=>Z #[Qo F 0 0 F 0 0 F 0 0 F 0 0,Y Oa 0,e],λ_ _=>True⟩
theorem Zm(e:Int)(u:Unit):(qge e).f u=Z #[Qo F 0 0 F 0 0 F 0 0 F 0 0,Y Oa 0,e]:=rfl
theorem qdZ(e:Int):∀p,qS qm ((qge e).φ p):=λ_ _ _ _ _=>trivial
theorem qix{b:Nat}{u0 u1 u2 u3 x0 x1 x2 x3:Oe}(h:W.heap[b]?=I (Ob #[u0,u1,u2,u3] ty))(hC:C=(((W.setCell b x0).setCell (b,1) x1).setCell (b,2) x2).setCell (b,3) x3):C.heap[b]?=I (Ob #[x0,x1,x2,x3] ty)/\(∀k,k≠b->C.heap[k]?=W.heap[k]?)/\C.heap.size=W/\∀{B:Nat}{w0:Oc},B<=b->Below B w0 W->Below B w0 C:=by subst hC;exact⟨UX h _ _ _ _,λk hk=>(zJ _ _ _ _ hk).trans ((zJ _ _ _ _ hk).trans ((zJ _ _ _ _ hk).trans (zJ _ _ _ _ hk))),zA3,λhb h0=>Je h0 hb _ _ _ _⟩
theorem qiy{b:Nat}{u0 u1 u2 u3 u4 u5 u6 u7 x0 x1 x2 x3 x5 x7:Oe}(h:W.heap[b]?=I (Ob #[u0,u1,u2,u3,u4,u5,u6,u7] ty))(hC:C=(((((W.setCell b x0).setCell (b,1) x1).setCell (b,2) x2).setCell (b,3) x3).setCell (b,5) x5).setCell (b,7) x7):C.heap[b]?=I (Ob #[x0,x1,x2,x3,u4,x5,u6,x7] ty)/\(∀k,k≠b->C.heap[k]?=W.heap[k]?)/\C.heap.size=W/\∀{B:Nat}{w0:Oc},B<=b->Below B w0 W->Below B w0 C:=by subst hC;refine⟨?_,λk hk=>?_,zA3,λhb h0=>Below.setCell (Below.setCell (Je h0 hb _ _ _ _) (p:=⟨b,5,F⟩) hb _) (p:=⟨b,7,F⟩) hb _⟩;exact qi (qi (qi (qi (qi (qi h 0 x0) 1 x1) 2 x2) 3 x3) 5 x5) 7 x7;rw[zJ _ _ _ _ hk,zJ _ _ _ _ hk,zJ _ _ _ _ hk,zJ _ _ _ _ hk,zJ _ _ _ _ hk,zJ _ _ _ _ hk]
theorem YG(h:NewSto lo S (Qo A1 n1 c1 A2 n2 c2 A3 n3 c3 A4 n4 c4) W):∀C:Oc,PosZ lo W C->Qh C W (E A1 n1 c1) (E A2 n2 c2) (E A3 n3 c3) (E A4 n4 c4) S:=by obtain⟨B1,d1,B2,d2,B3,d3,B4,d4,e,hc⟩:=h;simp only[Value.agg.injEq,Array.mk.injEq,List.cons.injEq,Value.slice.injEq,and_true]at e;obtain⟨⟨rfl,rfl,rfl⟩,⟨rfl,rfl,rfl⟩,⟨rfl,rfl,rfl⟩,⟨rfl,rfl,rfl⟩⟩:=e;exact hc
theorem TC{b:Nat}{x0 x1 x2 x3 x4 x5 x6 x7:Oe}:((((((((w.setCell b x0).setCell (b,1) x1).setCell (b,2) x2).setCell (b,3) x3).setCell (b,4) x4).setCell (b,5) x5).setCell (b,6) x6).setCell (b,7) x7).heap.size=w:=zA3
theorem outIFs{k i o r:Int}:∀p,za ((qeW lo k i o r n l).φ p):=λp W W' he h=>⟨(h.1.below he).more he.size,h.2⟩
theorem XZ{b:Nat}{x0 x1 x2 x3 x4 x5 x6 x7 v:Oe}(h4:a.tmps[4]?.getD undef=Od b)(h5:a.tmps[5]?.getD undef=v)(hd:a.defers=[])(aC:W.heap[b]?=I (Ob #[x0,x1,x2,x3,x4,x5,x6,x7] 32))(hR:R (O (Z #[.agg #[x0,x1,x2,x3,x4,x5,x6,x7],v])) W):bodyPost prog Tryz.f19 R .ret a W:=by refine bodyPost_ret (v:=Z #[.agg #[x0,x1,x2,x3,x4,x5,x6,x7],v]) ?_ hd hR;have k:=qa aC;simp[results,results19,go_sem,h4,h5,k]
set_option maxRecDepth 100000 in
theorem fset_any(A1 n1 c1 A2 n2 c2 A3 n3 c3 A4 n4 c4)(gen root next:Int)(A5 c5)(S:Sto)(dead:List Int)(v:Vol)(hv:qeu v)(hT:8<=v.root->v.root<256->js S v.root.toNat≠0->okL S (-1) v.root=U)(w:Oc)(h:Qh w w (E A1 n1 c1) (E A2 n2 c2) (E A3 n3 c3) (E A4 n4 c4) S)(hd:ZS w w (E A5 dead.length c5) dead):Calls prog 19 #[.agg (qR (E A1 n1 c1) (E A2 n2 c2) (E A3 n3 c3) (E A4 n4 c4) gen root next (E A5 dead.length c5)),vV v] w (SetQ S gen root next dead v w):=by
 have HA:=zH (λW (hx:Ext w W)=>qjn A1 n1 c1 A2 n2 c2 A3 n3 c3 A4 n4 c4 gen root next A5 c5 S dead v hT W (h.ext hx) (hd.ext_ hx));have HO:=zH (λW=>qlc v hv W);have hvi:=volIt_ok hv;have HP:=zH (λ(hS:qj S=U)(a lvl:Nat) xs ha bC hn aK A c W (hx:Ext w W) hb=>put_any A1 n1 c1 A2 n2 c2 A3 n3 c3 A4 n4 c4 S hS a lvl xs ha bC hn aK (qft v) hvi A c W (h.ext hx) hb);replace⟨h,hT,hd,hvi⟩:=zH4 h hT hd hvi;go_enter func19,ntmps19;go_wp2_with fail;generalize aA:(Of (Of (Of w _) _) _)=w1;have x1:Ext w w1:=by rw[<-aA];exact((zN _ _).trans (zN _ _)).trans (zN _ _)
 have rp1:w1.heap[w.heap.size]?=I (Ob (qR (E A1 n1 c1) (E A2 n2 c2) (E A3 n3 c3) (E A4 n4 c4) gen root next (E A5 dead.length c5)) 32 (0,0)):=by rw[<-aA];exact(zK _ _ _ zA2).trans ((zK _ _ _ zA3).trans (zI _ _ _ rfl))
 have rv1:w1.heap[w.heap.size+1]?=I (Ob #[Y .u32 v.id,Y Oa v.root,.bool v.fz,Y .u32 v.frm] 36):=by rw[<-aA];exact(zK _ _ _ zA3).trans (zI _ _ _ zA3)
 have ro1:w1.heap[w.heap.size+2]?=I (Ob (qR (E F 0 0) (E F 0 0) (E F 0 0) (E F 0 0) 0 0 0 (E F 0 0)) 32 (0,0)):=aA▸zI _ _ _ zA3;clear aA;refine(HA.out w1 x1).mono ?_;clear HA;rintro e w2 ⟨hB,hQ⟩;have x2:Ext w w2:=Ext.trans x1 hB;have rp2:=qb rp1 hB;have rv2:=qb rv1 hB;have ro2:=qb ro1 hB;have zo2:w.heap.size+2<w2:=(zG.1 ro2).1;clear hB rp1 rv1 ro1 x1;have ko2:=qa ro2;have fo2:=qe ro2;rcases hQ with⟨rfl,aj⟩|⟨vs,refs,nodes,hp,di,tJ,rfl⟩
 ·replace aj:=zH aj;go_wp2_with fail;exact XZ (b:=w.heap.size+2) rfl rfl rfl (kI ro2 _ _ _ _ _ _ _ _) ⟨je x2 zO _ _ _ _ _ _ _ _,.inl ⟨rfl,aj.out⟩⟩
 have aN:=zH (λe W (hb:Below w.heap.size w W) hx=>(⟨hb,.inr ⟨vs,refs,nodes,hp,di,tJ,hx⟩⟩:SetQ S gen root next dead v w e W));by_cases h0:jN S next v vs refs=0
 case neg=>
  obtain⟨er,yu⟩:∃er,jN S next v vs refs=er:=⟨_,rfl⟩
  rw[yu]at h0⊢;have aH:(er != 0)=U:=by rw[bne_iff_ne];exact h0
  replace⟨h0,yu,hp,di,tJ⟩:=zH5 h0 yu hp di tJ;go_wp2_with fail;exact XZ (b:=w.heap.size+2) rfl rfl rfl (kI ro2 _ _ _ _ _ _ _ _) (aN.out _ _ (je x2 zO _ _ _ _ _ _ _ _) (.inl ⟨er,h0.out,rfl,.inl yu.out⟩))
 case pos=>
  rw[h0];obtain⟨a,ha,h8,h256,lvl,xs,hn,aK⟩:=Zl hp.top;have hse:setE S root v=qaJ S lvl xs a (qft v):=by unfold setE;rw[ha,Int.toNat_natCast,hn];rfl
  have HP2:=zH (HP.out hp.may a lvl xs h8 h256 hn aK);have ag:=zH (λr S' (he:qaJ S lvl xs a (qft v)=.ok (r,S'))=>putY_may hp.may h8 hn aK hvi.out he);have wO:=zH (λer (he:qaJ S lvl xs a (qft v)=.error er)=>putY_err he);rw[<-hse]at HP2 ag wO;rw[<-ha]at HP2;have dV:=zH hp.few;replace⟨h0,hp,di,tJ⟩:=zH4 h0 hp di tJ;clear hse HP hn aK hT ha;go_upto_region 4 with fail;rcases hq:setE S root v with er|⟨r,S'⟩
  ·have gP:∀W,qm.r w2 W->∀i,W.cell? ⟨w,i,F⟩=(qR (E A1 n1 c1) (E A2 n2 c2) (E A3 n3 c3) (E A4 n4 c4) gen root next (E A5 dead.length c5))[i]?:=λW h=>qa (qb rp2 h);have gV:∀W,qm.r w2 W->∀i,W.cell? ⟨w.heap.size+1,i,F⟩=#[Y .u32 v.id,Y Oa v.root,.bool v.fz,Y .u32 v.frm][i]?:=λW h=>qa (qb rv2 h);clear ko2 fo2;refine qt zQ ?_;refine Gh 12 9 zE zQ rfl rfl zQ zQ zQ zQ ?_;dsimp only[JN,Array.push,List.push_toArray,List.concat_eq_append];refine Gh 12 10 zE zQ rfl rfl zQ zQ zQ zQ ?_;dsimp only[JN,Array.push,List.push_toArray,List.concat_eq_append];refine qY (w:=w2) qm (qP [(5,qeW w2.heap.size 1 v.id 0 0 (QS v).length (QS v)),(6,qge er),(11,Ju w2.heap.size 28 #[E F 0 0,E F 0 0,E F 0 0,E F 0 0])]) (List.replicate 12 U) 3 zQ zQ zQ zQ zQ zQ zQ ?st (Rel.drew _ _) ?walk
   case st=>exact qk (by simp only[List.forall_mem_cons];exact⟨λp=>Qr (outIFs p),qdZ _,λp=>Qr (jv _ _ _ p),λ_ h=>by cases h⟩)
   case walk=>
    intro K hK;dsimp only[qv,List.replicate];refine zC7 ?_;refine qH (qeW w2.heap.size 1 v.id 0 0 (QS v).length (QS v)) zA0 zA0 (λW hW _=>?_) (λp5=>?_)
    ·have hW:Ext w2 W:=hW;refine Qk ?_ ((HO.out W).mono λe w' h=>?_)
     ·go_simp
     obtain⟨u,rfl,⟨A,c,rfl,hb,hf⟩,hB⟩:=h;exact⟨(A,c),rfl,⟨hb,hf.mono hW.size⟩,hB⟩
    obtain⟨A8,c8⟩:=p5;refine zC7 ?_;refine qH (qge er) zA0 zA0 (λW hW hp=>?_) (λ(p:Unit)=>?_)
    ·have hW:Ext w2 W:=hW;have hb:Bys W W (E A8 (QS v).length c8) (QS v):=(hp 5 zA1).1.1;refine Qk ?_ ((HP2.out A8 c8 W (x2.trans hW) hb).mono λe w' h=>?_)
     ·go_simp;exact⟨rfl,rfl,rfl,rfl,rfl⟩
     obtain⟨u,rfl,hu,hB⟩:=h;rw[hq]at hu;obtain rfl:u=_:=hu;exact⟨(),rfl,trivial,hB⟩
    refine zC7 ?_;refine qH (Ju w2.heap.size 28 #[E F 0 0,E F 0 0,E F 0 0,E F 0 0]) zA0 zA0 (λW hW _=>?_) (λ(p11:Nat)=>?_)
    ·refine Jq ?_ (Below.size hW);go_simp
    refine zC7 ?_;refine qB (hK _ _ λW hW hF=>?_);obtain⟨f11,aQ⟩:W.heap[p11]?=I (Ob #[E F 0 0,E F 0 0,E F 0 0,E F 0 0] 28)/\w2.heap.size<=p11:=(hF 11).1;clear hF hK gP gV;have hW:Ext w2 W:=hW;refine zC4 ?_;have k11:=qa f11;have h11:=qe f11;have rq2:=qb rp2 hW;have rz2:=qb ro2 hW;go_wp2;refine Qq ?_;generalize aP:Q (Q (Q (Q W _ _) _ _) _ _) _ _=w3;obtain⟨r3,o3,z3,b3⟩:=qix f11 aP.symm;clear aP k11 h11 f11;have ro3:=(o3 (w.heap.size+2) zO).trans rz2;have x3:Below w w w3:=b3 zO (x2.trans hW);have ko3:=qa ro3;have fo3:=qe ro3;clear rq2 rz2;have aH:=wO.out er hq;have iK:(er != 0)=U:=by rw[bne_iff_ne];exact aH
    replace⟨aH,hq⟩:=zH2 aH hq;go_wp2_with fail;exact XZ (b:=w.heap.size+2) rfl rfl rfl (kI ro3 _ _ _ _ _ _ _ _) (aN.out _ _ (je x3 zO _ _ _ _ _ _ _ _) (.inl ⟨er,aH.out,rfl,.inr ⟨h0.out,.inl hq.out⟩⟩))
  have gP:∀W,qm.r w2 W->∀i,W.cell? ⟨w,i,F⟩=(qR (E A1 n1 c1) (E A2 n2 c2) (E A3 n3 c3) (E A4 n4 c4) gen root next (E A5 dead.length c5))[i]?:=λW h=>qa (qb rp2 h);have gV:∀W,qm.r w2 W->∀i,W.cell? ⟨w.heap.size+1,i,F⟩=#[Y .u32 v.id,Y Oa v.root,.bool v.fz,Y .u32 v.frm][i]?:=λW h=>qa (qb rv2 h);clear ko2 fo2;refine qt zQ ?_;refine Gh 12 9 zE zQ rfl rfl zQ zQ zQ zQ ?_;dsimp only[JN,Array.push,List.push_toArray,List.concat_eq_append];refine Gh 12 10 zE zQ rfl rfl zQ zQ zQ zQ ?_;dsimp only[JN,Array.push,List.push_toArray,List.concat_eq_append];refine qY (w:=w2) qm (qP [(5,qeW w2.heap.size 1 v.id 0 0 (QS v).length (QS v)),(6,qgj w2.heap.size S' r),(11,Ju w2.heap.size 28 #[E F 0 0,E F 0 0,E F 0 0,E F 0 0])]) (List.replicate 12 U) 3 zQ zQ zQ zQ zQ zQ zQ ?st (Rel.drew _ _) ?walk
  case st=>exact qk (by simp only[List.forall_mem_cons];exact⟨λp=>Qr (outIFs p),qec _ _ _,λp=>Qr (jv _ _ _ p),λ_ h=>by cases h⟩)
  case walk=>
   intro K hK;dsimp only[qv,List.replicate];refine zC7 ?_;refine qH (qeW w2.heap.size 1 v.id 0 0 (QS v).length (QS v)) zA0 zA0 (λW hW _=>?_) (λp5=>?_)
   ·have hW:Ext w2 W:=hW;refine Qk ?_ ((HO.out W).mono λe w' h=>?_)
    ·go_simp
    obtain⟨u,rfl,⟨A,c,rfl,hb,hf⟩,hB⟩:=h;exact⟨(A,c),rfl,⟨hb,hf.mono hW.size⟩,hB⟩
   obtain⟨A8,c8⟩:=p5;refine zC7 ?_;refine qH (qgj w2.heap.size S' r) zA0 zA0 (λW hW hp=>?_) (λp=>?_)
   ·have hW:Ext w2 W:=hW;have hb:Bys W W (E A8 (QS v).length c8) (QS v):=(hp 5 zA1).1.1;refine Qk ?_ ((HP2.out A8 c8 W (x2.trans hW) hb).mono λe w' h=>?_)
    ·go_simp;exact⟨rfl,rfl,rfl,rfl,rfl⟩
    obtain⟨u,rfl,hu,hB⟩:=h;rw[hq]at hu;obtain⟨v',rfl,hT⟩:=hu;obtain⟨BB,WW,gg,A3',c3',A4',c4',rfl,-⟩:=id hT;exact⟨((BB,WW),(A3',c3'),(A4',c4')),rfl,QY.keep hT hW.size (zM _) (λ_ _ _=>rfl),hB⟩
   obtain⟨⟨BB,WW⟩,⟨A3',c3'⟩,⟨A4',c4'⟩⟩:=p;refine zC7 ?_;refine qH (Ju w2.heap.size 28 #[E F 0 0,E F 0 0,E F 0 0,E F 0 0]) zA0 zA0 (λW hW _=>?_) (λ(p11:Nat)=>?_)
   ·refine Jq ?_ (Below.size hW);go_simp
   refine zC7 ?_;refine qB (hK _ _ λW hW hF=>?_);obtain⟨f11,aQ⟩:W.heap[p11]?=I (Ob #[E F 0 0,E F 0 0,E F 0 0,E F 0 0] 28)/\w2.heap.size<=p11:=(hF 11).1;have hTw:QY w2 S' (Qo BB S'.bs.length S'.bs.length WW S'.ws.length (S'.ws.length+1) A3' S'.now.length c3' A4' S'.last.length c4') W:=(hF 6).1;clear hF hK gP gV;have hW:Ext w2 W:=hW;refine zC4 ?_;have k11:=qa f11;have h11:=qe f11;have z11:=(zG.1 f11).1;have rq2:=qb rp2 hW;have rz2:=qb ro2 hW;go_wp2;refine Qq ?_;generalize aP:Q (Q (Q (Q W _ _) _ _) _ _) _ _=w3;obtain⟨r3,o3,z3,b3⟩:=qix f11 aP.symm;have hTw3:=QY.keepT (lo':=w2.heap.size) hTw (zM _) zO f11 zA1 (λb _ _ aH=>o3 b aH);clear aP k11 h11 f11;have rp3:=(o3 w.heap.size zO).trans rq2;have ro3:=(o3 (w.heap.size+2) zO).trans rz2;have x3:Below w w w3:=b3 zO (x2.trans hW);have ko3:=qa ro3;have fo3:=qe ro3;have zo3:w.heap.size+1+1<w3:=(zG.1 ro3).1;clear rq2 rz2;have hmay:=ag.out r S' hq;have nM:=YG (hTw3.newSto (Zw hmay.1));replace⟨hq,nM,hmay⟩:=zH3 hq nM hmay;clear hTw3 ag wO HP2;go_upto_region 7 with fail;have HI:=zH (λW (hW:Ext w3 W)=>UO (E A5 dead.length c5) dead (by have:=dV.out;omega) W (hd.out.ext_ (x3.trans (Below.mono hW x3.size))));have gP:∀W,qm.r w3 W->∀i,W.cell? ⟨w,i,F⟩=(qR (E A1 n1 c1) (E A2 n2 c2) (E A3 n3 c3) (E A4 n4 c4) gen root next (E A5 dead.length c5))[i]?:=λW h=>qa (qb rp3 h);obtain⟨nb,iK⟩:∃nb,S'.bs.length=nb:=⟨_,rfl⟩
   obtain⟨nw,hnw⟩:∃nw,S'.ws.length=nw:=⟨_,rfl⟩
   obtain⟨nn,nX⟩:∃nn,S'.now.length=nn:=⟨_,rfl⟩
   obtain⟨nl,hnl⟩:∃nl,S'.last.length=nl:=⟨_,rfl⟩
   rw[iK,hnw,nX,hnl]at nM r3⊢;have dL:=zH (And.intro iK (And.intro hnw (And.intro nX hnl)));clear iK hnw nX hnl;have gS:∀W,qm.r w3 W->∀i,W.cell? ⟨p11,i,F⟩=#[E BB nb nb,E WW nw (nw+1),E A3' nn c3',E A4' nl c4'][i]?:=λW h=>qa (qb r3 h);clear ko3 fo3;refine qt zQ ?_;refine Zz 1 10 (Y Oa (r:Int)) zQ zA6 zQ zQ zQ zA0 (λW=>?_) ?_
   ·go_simp
   simp only[Act.put,qf,qc,qg,jc,Zn,Zm,Jf,zA,zB,zC];refine qY (w:=w3) qm (qP [(4,outN w3.heap.size dead.length dead)]) [U,false,U,U,U,U] 5 zQ zQ zQ zQ zQ zQ zQ ?st (Rel.drew _ _) ?walk
   case st=>exact qk (by simp only[List.forall_mem_cons];exact⟨λp=>Qr (qii _ _ _ p),λ_ h=>by cases h⟩)
   case walk=>
    intro K hK;dsimp only[qv,List.replicate];refine zC7 ?_;refine qH (outN w3.heap.size dead.length dead) zA0 zA0 (λW hW _=>?_) (λp=>?_)
    ·have hW:Ext w3 W:=hW;refine Qk ?_ ((HI.out W hW).mono λe w' h=>?_)
     ·go_simp
     obtain⟨u,rfl,hu,hB⟩:=h;obtain⟨A',c',rfl,_,_⟩:=qC hu;exact⟨(A',c'),rfl,⟨ZS.of_ownT hu,(ZK.of_own hu).mono hW.size⟩,hB⟩
    obtain⟨B5,d5⟩:=p;refine zC7 ?_;refine qB (hK _ _ λV hV hF=>?_);have hI:ZS (thaw V) V (E B5 dead.length d5) dead/\ZK w3 (E B5 dead.length d5):=(hF 4).1;clear hF hK gP gS HI;have hV:Ext w3 V:=hV;refine zC4 ?_;have rp4:=qb rp3 hV;have ro4:=qb ro3 hV;have kp4:=qa rp4;have fp4:=qe rp4;replace hI:=zH hI;clear rp3 ro3;go_wp2;refine Qq ?_;generalize aS:Q (Q (Q (Q (Q (Q V _ _) _ _) _ _) _ _) _ _) _ _=w5;obtain⟨rp5,o5,z5,b5⟩:=qiy rp4 aS.symm;clear aS kp4 fp4;have ro5:=(o5 (w.heap.size+2) zO).trans ro4;have x5:Below w w w5:=b5 (zM _) (x3.trans (Below.mono hV x3.size));have hzV:=hV.size;have hHO:∀k,w.heap.size<k->k<w3.heap.size->w5.heap[k]?=w3.heap[k]?:=λk h1 h2=>(o5 k zO).trans (hV.block k h2);have hFM:=(nM.out w5 (Ts λk h1 h2=>hHO k zO h2)).more (show w3.heap.size<=w5.heap.size by omega);have hin5:ZS w5 w5 (E B5 dead.length d5) dead:=by rw[z5];exact hI.out.1.pos hI.out.2 λq u h1 h2 h3=>(World.cell?_of_block (o5 q.block zO)).trans (qaP h3).1
    have HCk:=zH (UW (I ⟨BB,0,F⟩) nb nb (I ⟨WW,0,F⟩) nw (nw+1) A3' nn c3' A4' nl c4' gen (r:Int) next B5 d5 S' dead w5 hFM hin5);have kp5:=qa rp5;replace hHO:=zH hHO;clear hFM hin5;go_wp2_with fail;refine HCk.out.mono ?_;clear HCk;rintro e w6 ⟨fU,hQ6⟩;have x6:Below w w w6:=x5.trans (Below.mono fU x5.size);have rp6:=qb rp5 fU;have ro6:=qb ro5 fU;have ko6:=qa ro6;have fo6:=qe ro6;have h56:=zH (λk (hk:k<w5.heap.size)=>Below.block fU k hk);have z56:=fU.size;clear fU rp4 ro4 kp5;rcases hQ6 with⟨rfl,bQ⟩|⟨rfl,vs',refs',nodes',hp',hc',he'⟩
    ·replace bQ:=zH bQ;go_wp2_with fail;exact XZ (b:=w.heap.size+2) rfl rfl rfl (kI ro6 _ _ _ _ _ _ _ _) (aN.out _ _ (je x6 zO _ _ _ _ _ _ _ _) (.inl ⟨8,zA1,rfl,.inr ⟨h0.out,.inr ⟨rfl,r,S',hq.out,bQ.out⟩⟩⟩))
    have hok:=zH (⟨refs',nodes',hp',hc',he'⟩:Zy S' (r:Int) next dead vs');have kp6:=qa rp6;clear hp' hc' he';go_wp2_with fail;refine XZ (b:=w.heap.size+2) rfl rfl rfl (kI ro6 _ _ _ _ _ _ _ _) (aN.out _ _ (je x6 zO _ _ _ _ _ _ _ _) (.inr ⟨r,S',vs',_,h0.out,hq.out,hok.out,rfl,?_⟩));refine⟨I ⟨BB,0,F⟩,nb,I ⟨WW,0,F⟩,nw+1,A3',c3',A4',c4',B5,d5,?_,λC hC=>?_⟩;rw[dL.out.1,dL.out.2.1,dL.out.2.2.1,dL.out.2.2.2];rw[dL.out.1,dL.out.2.1,dL.out.2.2.1,dL.out.2.2.2];rw[TC];have hs:=λ(k:Nat)(hk:k≠w.heap.size+2)=>ve (w:=w6) hk (E (I ⟨BB,0,F⟩) nb nb) (E (I ⟨WW,0,F⟩) nw (nw+1)) (E A3' nn c3') (E A4' nl c4') (Y .u32 gen) (Y Oa (r:Int)) (Y .u32 next) (E B5 dead.length d5);have q1:=nM.out C λq u h1 h2 h3=>hC q u zO (by rw[TC];omega) ((Zd ((hs q.block zO).trans ((h56.out q.block zO).trans (hHO.out q.block zO h2)))).trans h3);have q2:=hI.out.1.pos hI.out.2 (C:=C) λq u h1 h2 h3=>hC q u zO (by rw[TC];omega) ((Zd ((hs q.block zO).trans ((h56.out q.block zO).trans (o5 q.block zO)))).trans h3);exact⟨q1.more zO,q2.more zO⟩
def qiS(S:Sto)(root next:Int)(dead:List Int)(w:Oc)(e:Ending)(w':Oc):Prop:=Below w w w' /\
 ((e=O (Z #[E F 0 0,Y Oa 8])/\∀vs,QH S root next dead vs->∃refs nodes,Qu S (Qp root dead vs) refs nodes/\¬ZJ S refs) \/
  ∃vs refs nodes cb ca vv lo,e=O (Z #[vv,Y Oa 0])/\w.heap.size<=lo/\Taken S root next dead vs refs nodes lo cb ca vv w')
theorem qeG{v:Oe}(h2:a.tmps[2]?.getD undef=u)(h3:a.tmps[3]?.getD undef=v)(hd:a.defers=[])(hR:R (O (Z #[u,v])) W):bodyPost prog Tryz.f67 R .ret a W:=by refine bodyPost_ret (v:=Z #[u,v]) ?_ hd hR;simp[results,results67,go_sem,h2,h3]
set_option maxRecDepth 100000 in
theorem qax(A1 n1 c1 A2 n2 c2 A3 n3 c3 A4 n4 c4)(gen root next:Int)(A5 c5)(S:Sto)(dead:List Int)(w:Oc)(h:Qh w w (E A1 n1 c1) (E A2 n2 c2) (E A3 n3 c3) (E A4 n4 c4) S)(hd:ZS w w (E A5 dead.length c5) dead):Calls prog 67 #[.agg (qR (E A1 n1 c1) (E A2 n2 c2) (E A3 n3 c3) (E A4 n4 c4) gen root next (E A5 dead.length c5))] w (qiS S root next dead w):=by
 have HT:=zH (λW (hx:Ext w W)=>qae A1 n1 c1 A2 n2 c2 A3 n3 c3 A4 n4 c4 gen root next A5 c5 S dead W (h.ext hx) (by obtain⟨A,c,e,q1,q2,q3⟩:=hd;exact⟨A,c,e,q1,q2,(q3.below hx).more hx.size⟩));clear h hd;go_enter func67,ntmps67;go_wp2_with fail;generalize aA:Of w _=w1;have x1:Ext w w1:=aA▸zN _ _;clear aA;refine(HT.out w1 x1).mono ?_;rintro e w2 ⟨hB,hQ⟩;have x2:Below w w w2:=Ext.trans x1 hB;rcases hQ with⟨rfl,aj⟩|⟨vs,refs,nodes,cb,ca,vv,rfl,hT⟩
 ·have HB:qiS S root next dead w (O (Z #[E F 0 0,Y Oa 8])) w2:=⟨x2,.inl ⟨rfl,aj⟩⟩
  replace HB:=zH HB;clear aj hB;go_wp2_with fail;exact qeG rfl rfl rfl HB.out
 have kc:w2.cell? (cb,518)=vv:=by rw[qa hT.row];exact hT.ar.vol
 obtain⟨AV,cV,rfl,-,-⟩:=qC hT.own;have HB:qiS S root next dead w (O (Z #[E AV vs.length cV,Y Oa 0])) w2:=⟨x2,.inr ⟨vs,refs,nodes,cb,ca,_,_,rfl,x1.size,hT⟩⟩
 replace HB:=zH HB;clear hT hB;go_wp2_with fail;exact qeG rfl rfl rfl HB.out
def leaveP(S:Sto)(a:Nat):Except Int Sto:=match QK S (-1) S.now a with
 |none=>.error 8
 |some t=>.ok (qp S t)
def leaveE(S:Sto)(a:Int):Except Int Sto:=if Jj S a=0 then leaveP S a.toNat else .error (Jj S a)
def qfy(S:Sto)(root next:Int)(dead:List Int)(v:Vol)(er:Int):Prop:=(er=8/\QI S root next dead)\/∃vs refs nodes,QH S root next dead vs/\Qu S (Qp root dead vs) refs nodes/\ZJ S refs /\
 (jN S next v vs refs=er\/(jN S next v vs refs=0/\(setE S root v=.error er\/(er=8/\∃r S',setE S root v=.ok (r,S')/\QI S' (r:Int) next dead))))
def qgP(S:Sto)(root next:Int)(dead:List Int)(v:Vol)(r:Nat)(S':Sto)(vs':List Vol):Prop:=∃vs refs nodes,QH S root next dead vs/\Qu S (Qp root dead vs) refs nodes/\ZJ S refs /\
 jN S next v vs refs=0/\setE S root v=.ok (r,S')/\Zy S' (r:Int) next dead vs'
theorem SetQ.split{gen root next:Int}(h:SetQ S gen root next dead v w e w'):Below w w w'/\((∃er,er≠0/\e=O (Z #[vP,Y Oa er])/\qfy S root next dead v er) \/
   ∃r S' vs' u,qgP S root next dead v r S' vs'/\e=O (Z #[u,Y Oa 0])/\vB w S' gen (r:Int) next dead u w'):=by
 obtain⟨hB,h⟩:=h;refine⟨hB,?_⟩;rcases h with⟨rfl,hb⟩|⟨vs,refs,nodes,hp,hc,he,h⟩
 exact .inl ⟨8,zA1,rfl,.inl ⟨rfl,hb⟩⟩;rcases h with⟨er,h0,e1,h⟩|⟨r,S',vs',u,h1,h2,h3,h4,h5⟩
 exact .inl ⟨er,h0,e1,.inr ⟨vs,refs,nodes,hp,hc,he,h⟩⟩;exact .inr ⟨r,S',vs',u,⟨vs,refs,nodes,hp,hc,he,h1,h2,h3⟩,h4,h5⟩
theorem vB.sto{gen root next:Int}(h:vB lo S gen root next dead u W):∃A1 c1 A2 c2 A3 c3 A4 c4 A5 c5,u=.agg (qR (E A1 S.bs.length c1) (E A2 S.ws.length c2) (E A3 S.now.length c3) (E A4 S.last.length c4) gen root next (E A5 dead.length c5)) /\
  Qh W W (E A1 S.bs.length c1) (E A2 S.ws.length c2) (E A3 S.now.length c3) (E A4 S.last.length c4) S/\ZS W W (E A5 dead.length c5) dead:=by
 obtain⟨A1,c1,A2,c2,A3,c3,A4,c4,A5,c5,e,h⟩:=h;exact⟨A1,c1,A2,c2,A3,c3,A4,c4,A5,c5,e,h W λq v h1 h2 h3=>(qaP h3).1⟩
theorem vB.keep{gen root next:Int}(h:vB lo S gen root next dead u W)(hl:lo'<=lo)(hs:W.heap.size<=W')(hk:∀k,lo<=k->k<W.heap.size->W'.heap[k]?=W.heap[k]?):vB lo' S gen root next dead u W':=by obtain⟨A1,c1,A2,c2,A3,c3,A4,c4,A5,c5,e,h⟩:=h;refine⟨A1,c1,A2,c2,A3,c3,A4,c4,A5,c5,e,λC hC=>?_⟩;obtain⟨h1,h2⟩:=h C λq v h1 h2 h3=>hC q v zO zO ((Zd (hk q.block h1 h2)).trans h3);exact⟨h1.more hs,h2.more hs⟩
theorem same8{b:Nat}{x0 x1 x2 x3 x4 x5 x6 x7:Oe}(h:w.heap[b]?=I (Ob #[x0,x1,x2,x3,x4,x5,x6,x7] ty)):Ext w ((((((((w.setCell b x0).setCell (b,1) x1).setCell (b,2) x2).setCell (b,3) x3).setCell (b,4) x4).setCell (b,5) x5).setCell (b,6) x6).setCell (b,7) x7):=by have e0:=QD (j:=0) (v:=x0) h rfl;have h0:=qb h e0;have e1:=QD (j:=1) (v:=x1) h0 rfl;have h1:=qb h0 e1;have e2:=QD (j:=2) (v:=x2) h1 rfl;have h2:=qb h1 e2;have e3:=QD (j:=3) (v:=x3) h2 rfl;have h3:=qb h2 e3;have e4:=QD (j:=4) (v:=x4) h3 rfl;have h4:=qb h3 e4;have e5:=QD (j:=5) (v:=x5) h4 rfl;have h5:=qb h4 e5;have e6:=QD (j:=6) (v:=x6) h5 rfl;have h6:=qb h5 e6;exact((((((e0.trans e1).trans e2).trans e3).trans e4).trans e5).trans e6).trans (QD (j:=7) (v:=x7) h6 rfl)
structure Sets(X:Nat->Prop)(W C:Oc):Prop where
 os:C.os=W.os
 tape:C.tape=W.tape
 output:C.output=W.output
 size:C.heap.size=W
 same:∀k,¬X k->C.heap[k]?=W.heap[k]?
theorem Sets.refl(X:Nat->Prop)(W:Oc):Sets X W W:=⟨rfl,rfl,rfl,rfl,λ_ _=>rfl⟩
theorem Sets.set(h:Sets X W C){b:Nat}(j:Nat)(hb:X b)(v:Oe):Sets X W (C.setCell (b,j) v):=⟨h.os,h.tape,h.output,by simpa using h.size,λk hk=>(zJ _ _ _ _ λe=>hk (by have e':k=b:=e;rw[e'];exact hb)).trans (h.same k hk)⟩
theorem Sets.row(h:Sets X W C){b:Nat}(hr:W.heap[b]?=o)(hb:¬X b):C.heap[b]?=o:=(h.same b hb).trans hr
theorem Sets.below(h:Sets X W C)(hB:Below B w W)(hX:∀k,X k->B<=k):Below B w C:=hB.trans ⟨h.os,h.tape,h.output,by rw[h.size];exact zM _,λk hk=>h.same k λhx=>by have:=hX k hx;omega⟩
theorem qkG{f:List UInt8->Nat->Option (List UInt8)}(hf:∀t r t',f t r=I t'->∀j,qL t' j<=qL t j):∀(rs:List Nat)(o:Option (List UInt8))(t':List UInt8),rs.foldl (λacc r=>acc.bind λt=>f t r) o=t'->∃t,o=I t/\∀j,qL t' j<=qL t j
 |[],o,t',h=>⟨t',h,λ_=>zM _⟩
 |r::rs,o,t',h=>by
  rw[List.foldl_cons]at h;obtain⟨t1,h1,h2⟩:=qkG hf rs _ t' h;cases o with
  |none=>cases h1
  |some t=>
   exact⟨t,rfl,λj=>Nat.le_trans (h2 j) (hf t r t1 h1 j)⟩
theorem TP(S:Sto):∀(h:Nat)(lvl:Int)(t:List UInt8)(a:Nat)(t':List UInt8),leaveF S h lvl t a=t'->∀j,qL t' j<=qL t j
 |0,lvl,t,a,t',e=>by cases e
 |h+1,lvl,t,a,t',e=>by rw[vw]at e;split at e;cases e;split at e;cases e;exact λj=>qfP t a j;split at e;cases e;rename_i l xs _;split at e;cases e;split at e;obtain⟨t0,h0,h1⟩:=qkG (λt r t'=>TP S h (l-1) t r t') _ _ _ e;cases h0;exact λj=>Nat.le_trans (h1 j) (zero_le t a j);split at e;cases e;rename_i t1 hl;cases e;exact λj=>Nat.le_trans ((Kd hl).2 j) (zero_le t a j)
theorem qlp{t:List UInt8}(h:∀j,qL t j<=qL S.now j):SM (qp S t) S where
 node r nd e:=by unfold qo at e⊢;split at e;cases e;rename_i h1;rw[if_neg (by have:=h r;unfold qL at this;simp only[qp]at h1;omega)];exact e
 pos r e:=by have:=h r;unfold qL at this;simp only[qp]at e;omega
theorem vol_key(h:Ks y=U):qw y=(1,y.i,0):=by unfold Ks at h;simp only[Bool.and_eq_true]at h;have h2:=h.2;unfold XJ at h2;simp only[decide_eq_true_eq]at h2;obtain⟨h1,-,h3,-⟩:=h2;unfold qw;rw[<-h1,<-h3]
theorem qmO{next:Int}{l:List It}(h:Zq next [] l=vs):(∀y∈l,Ks y=U)/\vs=l.map JG:=by rw[XB next l [] zA3]at h;split at h;rename_i hc;cases h;refine⟨λy hy=>?_,zA3⟩;have:=List.all_eq_true.1 hc.1 y hy;unfold jq at this;simp only[Bool.and_eq_true]at this;exact this.1;cases h
theorem qjD{S' S2:Sto}(m:SM S S2)(m':SM S' S2){a lvl lvl':Nat}(hn:qo S a=I ((lvl:Int),xs))(hs:(qz S lvl xs).isSome=U)(tu:qo S' a=I ((lvl':Int),xs'))(rJ:(qz S' lvl' xs').isSome=U):lvl'=lvl/\xs'=xs/\qu S' lvl' xs'=qu S lvl xs:=by have e1:=m.node _ _ hn;have e2:=m'.node _ _ tu;rw[e1]at e2;simp only[Option.some.injEq,Prod.mk.injEq]at e2;obtain⟨h1,rfl⟩:=e2;obtain rfl:lvl=lvl':=zO;exact⟨rfl,rfl,by rw[<-m.items _ _ hs,<-m'.items _ _ rJ]⟩
theorem qeJ(h:Ks x=U):qw x=(1,x.i,0)/\x.r=0:=by unfold Ks XJ at h;simp only[Bool.and_eq_true,decide_eq_true_eq]at h;obtain⟨_,h1,_,h3,h4,_⟩:=h;exact⟨by unfold qw;rw[<-h1,<-h3],h4.symm⟩
theorem qjX{root next:Int}(h:QH S root next dead vs):∃its:List It,vs=its.map JG/\its.length<=16/\(∀x∈its,jq next x=U)/\its.Pairwise (λa b=>Qg (qw a) (qw b)=U):=by obtain⟨a,rfl,h8,h256,lvl,xs,hn,hs⟩:=Zl h.top;have hv:=h.vols;unfold kA at hv;rw[show((a:Nat):Int).toNat=a from rfl,hn]at hv;simp only[Int.toNat_natCast]at hv;rw[XB _ _ _ zA3]at hv;split at hv;rename_i hc;simp only[Option.some.injEq,List.nil_append]at hv;exact⟨qu S lvl xs,hv.symm,by simpa using hc.2,λx hx=>List.all_eq_true.1 hc.1 x hx,(jI hs).1⟩;cases hv
structure VolsL(S:Sto)(root next:Int)(vs:List Vol)(refs:Nat->Nat):Prop where
 len:vs.length<=16
 rise:vs.Pairwise λa b=>a.id<b.id
 num:∀v∈vs,1<=v.id/\v.id<next
 at_:∀v∈vs,∃r:Nat,v.root=(r:Int)/\8<=r/\r<256/\1<=refs r
 top:∃r:Nat,root=(r:Int)/\8<=r/\r<256/\1<=refs r
 now:∀a,a<256->refs a<=(S.now[a]?.getD 0).toNat
theorem qiG(x:It):(JG x).id=x.i:=rfl
theorem pool_law{root next:Int}(h:QH S root next dead vs)(hc:Qu S (Qp root dead vs) refs nodes)(he:ZJ S refs)(h0:∀v∈vs,0<=v.id):VolsL S root next vs refs:=by
 obtain⟨its,rfl,hl,hg,ho⟩:=qjX h;have lM:∀r∈QJ root dead (its.map JG),∃n:Nat,r=(n:Int)/\8<=n/\n<256/\1<=refs n:=λr hr=>by obtain⟨n,e,h1,h2,_⟩:=Zl (h.ok r hr);refine⟨n,e,h1,h2,?_⟩;rw[hc.mkd.sum n];have:1<=(Qp root dead (its.map JG)).count n:=List.one_le_count_iff.2 (List.mem_map.2 ⟨r,hr,by rw[e];rfl⟩);omega
 refine⟨by simpa using hl,?_,λv hv=>?_,λv hv=>lM _ (List.mem_append_right _ (List.mem_map_of_mem hv)),lM _ (List.mem_append_left _ List.mem_cons_self),he⟩;rw[List.pairwise_map];refine(List.Pairwise.and_mem.1 ho).imp ?_;rintro a b ⟨ha,hb,hlt⟩;have ka:=(qeJ (x:=a) (by have:=hg a ha;unfold jq at this;simp only[Bool.and_eq_true]at this;exact this.1)).1;have kb:=(qeJ (x:=b) (by have:=hg b hb;unfold jq at this;simp only[Bool.and_eq_true]at this;exact this.1)).1;rw[ka,kb,Yz]at hlt;simp only[qiG];simp only at hlt;omega;obtain⟨x,hx,rfl⟩:=List.mem_map.1 hv;have:=hg x hx;have h0':=h0 _ hv;unfold jq at this;simp only[Bool.and_eq_true,decide_eq_true_eq]at this;rw[qiG]at h0'⊢;omega
theorem qkR(h:vs.Pairwise λa b=>a.id<b.id)(hv:v∈vs):(vs.find? λx=>decide (x.id=v.id))=v:=by
 induction vs with
 |nil=>cases hv
 |cons a r ih=>
  rw[List.pairwise_cons]at h;rcases List.mem_cons.1 hv with rfl|hv
  simp;have:=h.1 v hv;rw[List.find?_cons,decide_eq_false zO];exact ih h.2 hv
theorem qeM{S:Sto}:∀(h:Nat)(xs:List It),(∀x∈xs,Zb x)->∀y∈qu S h xs,Zb y
 |0,xs,hx,y,hy=>hx y hy
 |h+1,xs,_,y,hy=>by
  rw[Ze]at hy;obtain⟨z,hz,hy⟩:=List.mem_flatMap.1 hy;rcases hn:qo S z.r.toNat with _|⟨lvl,ys⟩
  rw[hn]at hy;cases hy;rw[hn]at hy;exact qeM h ys (λx hx=>((qI hn).2.1 x hx).1) y hy
theorem vols_okV{root next:Int}(h:QH S root next dead vs):∀v∈vs,qeu v:=λv hv=>by obtain⟨a,rfl,h8,h256,lvl,xs,hn,hs⟩:=Zl h.top;have hvs:=h.vols;unfold kA at hvs;rw[show((a:Nat):Int).toNat=a from rfl,hn]at hvs;simp only[Int.toNat_natCast]at hvs;rw[XB _ _ _ zA3]at hvs;split at hvs;rename_i hc;simp only[Option.some.injEq,List.nil_append]at hvs;rw[<-hvs]at hv;obtain⟨x,hx,rfl⟩:=List.mem_map.1 hv;have h1:=qeM (S:=S) lvl xs (λy hy=>((qI hn).2.1 y hy).1) x hx;have h2:=List.all_eq_true.1 hc.1 x hx;unfold jq Ks at h2;simp only[Bool.and_eq_true,decide_eq_true_eq]at h2;exact qiH h1 zO;cases hvs
theorem QI.no{root next:Int}(h:QI S root next dead)(hp:QH S root next dead vs)(hc:Qu S (Qp root dead vs) refs nodes)(he:ZJ S refs):False:=by obtain⟨r,n,h1,h2⟩:=h vs hp;obtain⟨_,e⟩:=JI.same h1.mkd hc.mkd;subst e;exact h2 he
theorem qfe{root next:Int}(h:QH S root next dead vs)(hc:Qu S (Qp root dead vs) refs nodes)(he:ZJ S refs):VolsL S root next vs refs:=pool_law h hc he λv hv=>(vols_okV h v hv).1.1
def qaR(M:Nat->Bool)(a:Nat):Nat->Bool:=λb=>if b=a then false else M b
theorem qfu(M:Nat->Bool)(a:Nat):qaR M a a=false:=by simp[qaR]
theorem qaf{a b:Nat}(h:b≠a):qaR M a b=M b:=by simp[qaR,h]
theorem kQ{a b:Nat}(h:qaR M a b=U):M b=U/\b≠a:=by by_cases e:b=a;subst e;rw[qfu]at h;cases h;rw[qaf e]at h;exact⟨h,e⟩
theorem qmh{a:Nat}(h:M a=U):vM (qaR M a) a=M:=by funext b;unfold vM qaR;by_cases e:b=a;subst e;simp[h];simp[e]
theorem qaM{a b:Nat}(h:M a=U)(n:Nat):JE rs M b n=JE rs (qaR M a) b n+if a<n then(rs a).count b else 0:=by rw[<-TY (qfu M a) n,qmh h]
theorem TZ{rs:Nat->List Nat}{M M':Nat->Bool}(h:∀a,M a=U->M' a=U)(b:Nat):∀n,JE rs M b n<=JE rs M' b n
 |0=>zM _
 |n+1=>by unfold JE;have h1:=TZ (rs:=rs) h b n;by_cases hn:M n=U;rw[if_pos hn,if_pos (h n hn)];omega;rw[if_neg hn];omega
theorem GW{a b:Nat}(ha:M a=U)(hb:b∈rs a)(hn:a<n):0<JE rs M b n:=by rw[qaM ha n,if_pos hn];have:=List.count_pos_iff.2 hb;omega
structure Cov(ks rs:Nat->List Nat)(t:List UInt8)(R:List Nat)(M:Nat->Bool):Prop where
 kid:∀a,M a=U->∀b∈ks a,M b=U
 sub:∀a b,b∈ks a->b∈rs a
 cnt:∀b,0<b->R.count b+JE rs M b 256<=qL t b
 live:∀a,M a=U->qL t a≠0
 low:∀a,M a=U->0<a/\a<256
structure YU(R:List Nat)(M M':Nat->Bool):Prop where
 le:∀a,M' a=U->M a=U
 keep:∀a,a∈R->M a=U->M' a=U
theorem YU.refl(R:List Nat)(M:Nat->Bool):YU R M M:=⟨λ_ h=>h,λ_ _ h=>h⟩
theorem YU.trans{R:List Nat}{M'':Nat->Bool}(h:YU R M M')(k:YU R M' M''):YU R M M'':=⟨λa x=>h.le a (k.le a x),λa x y=>k.keep a x (h.keep a x y)⟩
theorem YU.mono{R:List Nat}(h:YU R M M')(hr:∀a∈R',a∈R):YU R' M M':=⟨h.le,λa x y=>h.keep a (hr a x) y⟩
section
variable {ks rs:Nat->List Nat} {t t':List UInt8} {R R':List Nat} {M:Nat->Bool} {a b:Nat}
theorem Cov.perm(h:Cov ks rs t R M)(hc:∀b,0<b->R'.count b<=R.count b):Cov ks rs t R' M:=⟨h.kid,h.sub,λb hb=>Nat.le_trans (Nat.add_le_add_right (hc b hb) _) (h.cnt b hb),h.live,h.low⟩
theorem Cov.drop(h:Cov ks rs t R M)(ha:M a=U)(h0:JE rs M a 256=0):Cov ks rs t R (qaR M a) where
 kid c hc d hd:=by
  obtain⟨h1,h2⟩:=kQ hc;have e:d≠a:=λe=>by have:=GW h1 (h.sub c d hd) (h.low c h1).2;rw[e]at this;omega
  rw[qaf e];exact h.kid c h1 d hd
 sub:=h.sub
 cnt b hb:=Nat.le_trans (Nat.add_le_add_left (TZ (λc hc=>(kQ hc).1) b 256) _) (h.cnt b hb)
 live c hc:=h.live c (kQ hc).1
 low c hc:=h.low c (kQ hc).1
theorem Ko{t:List UInt8}{b:Nat}(h:qL t b≠0)(c:Nat):qL (jf t b) c=if c=b then qL t b-1 else qL t c:=by
 have hl:b<t.length:=by by_cases h1:b<t.length;exact h1;exact absurd (Yu zO) h
 have h2:=TL t b;unfold jf;by_cases e:c=b;subst e;rw[if_pos rfl,Vw hl,UInt8.toNat_ofNat'];omega;rw[if_neg e,Jm e]
theorem Cov.loose(h:Cov ks rs t (b::R) M)(hb:0<b):∃M',Cov ks rs (jf t b) R M'/\YU R M M':=by
 have h1:=h.cnt b hb;rw[List.count_cons_self]at h1;have aH:qL t b≠0:=zO;have hc:∀c,0<c->R.count c+JE rs M c 256<=qL (jf t b) c:=λc hc=>by
  rw[Ko aH c];split;rename_i e;subst e;omega;rename_i e;have:=h.cnt c hc
  rwa [List.count_cons_of_ne (λx=>e x.symm)]at this
 by_cases hM:M b=U/\qL t b=1;have h0:JE rs M b 256=0:=zO;have hr:R.count b=0:=zO;have hd:=h.drop hM.1 h0;refine⟨qaR M b,⟨hd.kid,h.sub,λc dU=>Nat.le_trans (Nat.add_le_add_left (TZ (λd hd=>(kQ hd).1) c 256) _) (hc c dU),λc hcM=>?_,hd.low⟩,λc hc=>(kQ hc).1,λc hcR hcM=>?_⟩;obtain⟨k1,k2⟩:=kQ hcM;rw[Ko aH c,if_neg k2];exact h.live c k1;rw[qaf];exact hcM;rintro rfl;exact absurd hcR (List.count_eq_zero.1 hr);refine⟨M,⟨h.kid,h.sub,hc,λc hcM=>?_,h.low⟩,YU.refl _ _⟩;rw[Ko aH c];split;rename_i e;subst e;intro e;exact hM ⟨hcM,zO⟩;exact h.live c hcM
theorem Cov.looseL:∀{l:List Nat}{t t':List UInt8}{M:Nat->Bool},Cov ks rs t (l++R) M->looseL l t=.ok t'->∃M',Cov ks rs t' R M'/\YU R M M'
 |[],t,t',M,h,e=>by cases e;exact⟨M,h,YU.refl _ _⟩
 |a::l,t,t',M,h,e=>by by_cases ha:a=0;subst ha;rw[jk]at e;exact Cov.looseL (h.perm λb hb=>by rw[List.cons_append,List.count_cons_of_ne zO];exact zM _) e;by_cases h0:qL t a=0;rw[jR ha h0]at e;cases e;rw[jj ha h0]at e;obtain⟨M1,h1,l1⟩:=Cov.loose (R:=l++R) h zO;obtain⟨M2,h2,l2⟩:=Cov.looseL h1 e;exact⟨M2,h2,(l1.mono λ_ x=>List.mem_append_right _ x).trans l2⟩
end
section
variable {S:Sto} {R:List Nat}
theorem Xt{S:Sto}{a:Nat}{lvl:Int}{xs:List It}(hn:qo S a=I (lvl,xs)){b:Nat}(hb:0<b):(qA xs).count b=(QV S a).count b:=by unfold QV qA;rw[hn];simp only;rw[List.count_filter (by simpa using(show b≠0 by omega))]
theorem Gs{S:Sto}{a:Nat}{lvl:Int}{xs:List It}(hn:qo S a=I (lvl,xs))(hl:0<lvl):Zr S a=QV S a:=by unfold Zr;rw[hn];simp only;rw[if_pos hl]
theorem Cov.gone{t:List UInt8}{M:Nat->Bool}{a:Nat}{lvl:Int}{xs:List It}(h:Cov (Zr S) (QV S) t (a::R) M)(hM:M a=U)(h1:qL t a=1)(hn:qo S a=I (lvl,xs)):Cov (Zr S) (QV S) (t.set a 0) (qA xs++R) (qaR M a)/\R.count a=0/\(∀r∈Zr S a,qaR M a r=U):=by
 obtain⟨xy,bC⟩:=h.low a hM;have h2:=h.cnt a xy;rw[List.count_cons_self,h1]at h2;have h0:JE (QV S) M a 256=0:=zO;have hR:R.count a=0:=zO;have hd:=h.drop hM h0;have hl:a<t.length:=by by_cases hx:a<t.length;exact hx;rw[Yu zO]at h1;cases h1
 have hra:(QV S a).count a=0:=by have:=qaM (rs:=QV S) (b:=a) hM 256;rw[if_pos bC]at this;omega
 refine⟨⟨hd.kid,h.sub,λb hb=>?_,λc hc=>?_,hd.low⟩,hR,λr hr=>?_⟩;rw[List.count_append,Xt hn hb];have h3:=qaM (rs:=QV S) (b:=b) hM 256;rw[if_pos bC]at h3;by_cases e:b=a;subst e;rw[Vw hl];show _<=0;omega;rw[Jm e];have h4:=h.cnt b hb;rw[List.count_cons_of_ne (λx=>e x.symm)]at h4;omega;obtain⟨k1,k2⟩:=kQ hc;rw[Jm k2];exact h.live c k1;rw[qaf];exact h.kid a hM r hr;rintro rfl;have:=List.count_pos_iff.2 (h.sub r r hr);omega
theorem Cov.foldl{f:List UInt8->Nat->Option (List UInt8)}(hf:∀{t t':List UInt8}{a:Nat}{R:List Nat}{M:Nat->Bool},Cov (Zr S) (QV S) t (a::R) M->M a=U->f t a=t'->∃M',Cov (Zr S) (QV S) t' R M'/\YU R M M'):∀(l:List Nat){t t':List UInt8}{M:Nat->Bool},Cov (Zr S) (QV S) t (l++R) M->(∀r∈l,M r=U)->l.foldl (λacc r=>acc.bind λt=>f t r) (I t)=t'->∃M',Cov (Zr S) (QV S) t' R M'/\YU R M M'
 |[],t,t',M,h,_,e=>by cases e;exact⟨M,h,YU.refl _ _⟩
 |a::l,t,t',M,h,hM,e=>by
  rw[List.foldl_cons,Option.bind_some]at e;rcases e1:f t a with _|t1
  rw[e1]at e;exfalso;have:∀l:List Nat,l.foldl (λacc r=>acc.bind λt=>f t r) F=F:=λl=>by
   induction l with
   |nil=>rfl
   |cons x l ih=>rw[List.foldl_cons];exact ih
  rw[this]at e;cases e;rw[e1]at e;obtain⟨M1,h1,l1⟩:=hf (R:=l++R) h (hM a List.mem_cons_self) e1;obtain⟨M2,h2,l2⟩:=Cov.foldl hf l h1 (λr hr=>l1.keep r (List.mem_append_left _ hr) (hM r (List.mem_cons_of_mem _ hr))) e;exact⟨M2,h2,(l1.mono λ_ x=>List.mem_append_right _ x).trans l2⟩
theorem Cov.leaveF:∀(h:Nat)(lvl:Int){t t':List UInt8}{a:Nat}{R:List Nat}{M:Nat->Bool},Cov (Zr S) (QV S) t (a::R) M->M a=U->leaveF S h lvl t a=t'->∃M',Cov (Zr S) (QV S) t' R M'/\YU R M M'
 |0,lvl,t,t',a,R,M,_,_,e=>by cases e
 |h+1,lvl,t,t',a,R,M,hc,hM,e=>by
  rw[vw]at e;split at e;cases e;rename_i h0;split at e;cases e;exact hc.loose (hc.low a hM).1;rename_i h1;split at e;cases e;rename_i l xs hn;split at e;cases e;obtain⟨hg,hR,hk⟩:=hc.gone hM zO hn;have oL:YU R M (qaR M a):=⟨λc hc=>(kQ hc).1,λc hcR hcM=>by
   rw[qaf];exact hcM
   ·rintro rfl;exact absurd hcR (List.count_eq_zero.1 hR)⟩
  split at e;rename_i hl;obtain⟨M',h2,l2⟩:=Cov.foldl (R:=R) (f:=λt r=>Go.Proofs.YtmeadnlmepcmbaaGreat.leaveF S h (l-1) t r) (λhc hM e=>Cov.leaveF h (l-1) hc hM e) (qA xs) hg (λr hr=>hk r (by rw[Gs hn hl];have h8:=(qcV hn hl r hr).1;have:=Xt hn (show 0<r by omega);have hp:=List.count_pos_iff.2 hr;exact List.count_pos_iff.1 zO)) e;exact⟨M',h2,oL.trans l2⟩;split at e;cases e;rename_i t1 el;cases e;obtain⟨M',h2,l2⟩:=Cov.looseL (R:=R) hg el;exact⟨M',h2,oL.trans l2⟩
end
theorem qcO{h r b:Nat}{t t':List UInt8}(hl:S.now.length=256)(hn:qo S r=I (((h+1:Nat):Int),[y]))(hy:y.r=(b:Int))(h8:8<=b)(hb:b<256)(uq:b≠r)(h0:qL S.now b≠0)(e:ZR S.now b=.ok t)(e':QK (qp S t) (-1) t r=t'):t=zj S.now b 1/\∀q (l:Int) nd,q≠r->qo S q=I (l,nd)->qo (qp S t') q=I (l,nd):=by
 unfold ZR at e;rw[if_neg zO,if_neg h0]at e;split at e;cases e;rename_i xY;cases e;refine⟨rfl,?_⟩;have di:∀q,qL (zj S.now b 1) q=qL S.now q+if q=b then 1 else 0:=λq=>by unfold zj;rw[KI _ zO];split;rename_i e;subst e;have h2:=TL S.now q;rw[UInt8.toNat_ofNat'];omega;rfl
 have dA:∀q,q≠r->qL S.now q≠0->qL t' q≠0:=λq hq hc=>by
  have h1:=di q;rw[VM]at e';split at e';cases e';split at e';cases e';rw[Ko (by assumption)];rw[if_neg hq];omega;have eY:qo (qp S (zj S.now b 1)) r=I (((h+1:Nat):Int),[y]):=by have h3:=di r;rw[if_neg (λe=>uq e.symm)]at h3;unfold qo at hn⊢;unfold qL at h3;split at hn;cases hn;rename_i hz;rw[if_neg (by show ¬((zj S.now b 1)[r]?.getD 0).toNat=0;omega)];exact hn
  rw[eY]at e';simp only at e';rw[if_neg zO,if_pos zO]at e';have uU:qA [y]=[b]:=by simp[qA,hy]
  rw[uU]at e';simp only[List.map_cons,List.map_nil,JK]at e';have ay:∀q,qL ((zj S.now b 1).set r 0) q=if q=r then 0 else qL (zj S.now b 1) q:=λq=>by by_cases hr:r<(zj S.now b 1).length;rw[KI _ hr];rfl;rw[List.set_eq_of_length_le zO];split;rename_i e;subst e;unfold qL;rw[List.getElem?_eq_none zO];rfl;rfl
  have bP:qL ((zj S.now b 1).set r 0) b=qL S.now b+1:=by rw[ay,if_neg uq,di,if_pos rfl]
  split at e';cases e';rename_i t1 lq;cases e';rw[VM,if_neg zO,if_pos zO]at lq;cases lq;rw[Ko zO];split;omega;rw[ay,if_neg hq];omega
 intro q l nd hq yP;unfold qo at yP⊢;split at yP;cases yP;rename_i hz;rw[if_neg (by have:=dA q hq hz;exact this)];exact yP
theorem qaD{a:Nat}(h:qo S a=nd):qL S.now a≠0:=λe=>by
 have e2:qo S a=if qL S.now a=0 then F else QL (Ji S a):=rfl
 rw[e2,if_pos e]at h;cases h
def LowQ(D:Nat->Prop)(B lo b g:Nat)(k:Option Nat)(q:Except Int (Nat×Sto))(w:Oc)(e:Ending)(W:Oc):Prop:=Qi lo b g k w W /\
 match q with
 |.error er=>er≠0/\∃v:Int,e=O (Z #[v,er])
 |.ok (r,S')=>qj S'=U/\r<256/\e=O (Z #[(r:Int),Y Oa 0])/\Bch D B lo b g k S' W
theorem Kq{v:Oe}(h4:a.tmps[4]?.getD undef=u)(h5:a.tmps[5]?.getD undef=v)(hd:a.defers=[])(hR:R (O (Z #[u,v])) W):bodyPost prog Tryz.f120 R .ret a W:=by refine bodyPost_ret (v:=Z #[u,v]) ?_ hd hR;simp[results,results120,go_sem,h4,h5]
structure LowI(D:Nat->Prop)(B lo b g:Nat)(k:Option Nat)(S:Sto)(q:Except Int (Nat×Sto))(w:Oc)(i:Oe)(W:Oc):Prop where
 ex:∃(r:Nat)(S':Sto)(n:Nat)(ys:List It)(m:Nat),i=Y Oa (r:Int)/\8<=r/\r<256/\qj S'=U/\qo S r=I ((n:Int),ys)/\XG S n ys/\(∀q (l:Int) nd,l<=(n:Int)->qo S q=I (l,nd)->qo S' q=I (l,nd))/\n<m/\ZL m S' r=q/\Bch D B lo b g k S' W
 keep:Qi lo b g k w W
set_option maxRecDepth 100000 in
theorem qjk(D:Nat->Prop)(B lo b g:Nat)(k:Option Nat)(S:Sto)(hS:qj S=U)(f:Nat)(hf:8<=f)(yD:f<256)(H:Nat)(its:List It)(hn:qo S f=I ((H:Int),its))(dI:XG S H its)(m:Nat)(hm:H<m)(w:Oc)(h:Bch D B lo b g k S w):Calls prog 120 #[Od b,(f:Int)] w (LowQ D B lo b g k (ZL m S f) w):=by
 obtain⟨q,hq⟩:∃q,ZL m S f=q:=⟨_,rfl⟩
 rw[hq];have I0:Hid (LowI D B lo b g k S q w (f:Int) w):=zH ⟨⟨f,S,H,its,m,rfl,hf,yD,hS,hn,dI,λ_ _ _ _ h=>h,hm,hq,h⟩,Qi.refl _ _ _ _ _⟩;clear hS hf yD hn dI hm h hq;go_enter func120,ntmps120;go_wp2_with fail;go_loopw [1,4,5] (λv x y wr=>LowI D B lo b g k S q w v wr) (λv _ _ _=>vx S v)
 case atStart=>exact I0.out
 case round=>
  obtain⟨⟨r,S',n,ys,m,rfl,iw,sH,fO,hn,dI,aW,yO,hq,hb⟩,hk⟩:=hrel;clear I0;have hMV:=zH (VO hn);have tu:=aW r _ _ (Int.le_refl _) hn;have fZ:=hb.size.1;have HN:=zH (by obtain⟨A1',n1',c1',A2',n2',c2',c3',A4',c4',iq,eQ⟩:=hb.sto;exact Ve lo b A1' n1' c1' A2' n2' c2' _ 256 c3' A4' 256 c4' S' fO r iw sH wr ⟨fZ,iq,eQ⟩:Calls prog 145 #[Od (I ⟨b,0,F⟩),Y Oa (r:Int)] wr (zZ (qce wr.heap.size (qo S' r)) wr));rw[tu]at HN;replace⟨hb,hk,hn,tu,dI,aW⟩:=zH6 hb hk hn tu dI aW;replace⟨hq,fO,yO,fZ,iw,sH⟩:=zH6 hq fO yO fZ iw sH;go_wp2_with fail;refine HN.out.mono ?_;clear HN;rintro e w2 ⟨u,rfl,⟨A9,c9,rfl,aG⟩,hB⟩;have x2:Ext wr w2:=hB;replace aG:=zH aG;clear hB;go_upto_region 2 with fail;generalize aP:Of w2 _=w3;have x23:Ext w2 w3:=aP▸zN _ _;have x3:Ext wr w3:=x2.trans x23;have r3:w3.heap[w2.heap.size]?=I (Ob #[n,E A9 ys.length c9] 113):=aP▸zI _ _ _ rfl;have k3:=qa r3;have dC:=zH (hb.out.ext x3);have gy:Hid (Qi lo b g k w w3):=zH (hk.out.trans (Qi.of_ext x3 (by have:=hb.out.size.2.2.2.2.2.1;omega)) (Zs.refl _ _));replace aG:=zH (aG.out.ext x23);clear aP x2 x23 hb hk;have hFG:Hid (∀W,Ext w3 W->ZL m S' r=.ok (r,S')->LowQ D B lo b g k q w (O (Z #[(r:Int),Y Oa 0])) W):=zH λW hW e=>⟨gy.out.trans (Qi.of_ext hW (by have:=dC.out.size.2.2.2.2.2.1;omega)) (Zs.refl _ _),by rw[<-hq.out,e];exact⟨fO.out,sH.out,rfl,dC.out.ext hW⟩⟩
  obtain⟨m',rfl⟩:∃m',m=m'+1:=⟨m-1,by have:=yO.out;omega⟩
  rcases Nat.eq_zero_or_pos n with h0|h0
  ·have z1:((n:Int)==0)=U:=by rw[beq_iff_eq];omega
   have z2:decide (n=0)=U:=decide_eq_true h0;have he:ZL (m'+1) S' r=.ok (r,S'):=by simp only[ZL,tu.out];split;rw[if_pos zO];rfl
   have hR:=zH (hFG.out w3 (Ext.refl _) he);replace h0:=zH h0;clear hFG he hq yO aW dI hn tu dC gy aG hMV;go_wp2_with fail;exact Kq rfl rfl rfl hR.out
  have z1:((n:Int)==0)=false:=by rw[beq_eq_false_iff_ne];omega
  have z2:decide (n=0)=false:=decide_eq_false zO;by_cases h1:ys.length=1
  ·obtain⟨y,hy⟩:∃y,ys=[y]:=List.length_eq_one_iff.1 h1;obtain⟨n',eY⟩:∃n',n=n'+1:=⟨n-1,zO⟩
   have pX:=dI.out;rw[eY]at pX;obtain⟨c,zs,e1,hc8,au,di,az⟩:=pX y hy;have hA:=aG.out.its.at_.2.2.2;obtain⟨b9,off,rfl,hb9⟩:=hA zO;obtain⟨A',c',-,-,-,d3,-,-⟩:=aG.out.its.item 0 zO;have d3':w3.cell? (b9,off+3)=I (Y Oa (c:Int)):=by
    have e:ys[0]'(by omega)=y:=by simp[hy]
    rw[e,e1,Nat.zero_mul,Nat.add_zero]at d3;exact d3
   rw[h1]at k3;clear r3;have hS3:=dC.out;have lZ:qL S'.now c≠0:=qaD (aW.out c _ _ zO di);have hcr:c≠r:=λe=>by subst e;have h5:=hn.out;rw[di]at h5;simp only[Option.some.injEq,Prod.mk.injEq]at h5;omega
   have bI:Hid (ZL (m'+1) S' r=match ZR S'.now c with
    |.error e=>.error e
    |.ok t=>match QK (qp S' t) (-1) t r with
     |none=>.error 8
     |some t'=>ZL m' (qp S' t') c):=zH (by
    simp only[ZL,tu.out,hy,e1,Int.toNat_natCast];rw[if_neg zO];rfl)
   have HSh:=zH (qcj D B lo b g k S' c au w3 dC.out);replace⟨h1,hy,az,di,eY,lZ⟩:=zH6 h1 hy az di eY lZ;replace⟨hcr,hc8,au,e1⟩:=zH4 hcr hc8 au e1;clear hS3 d3 hA pX h0 aG hFG;go_wp2_with fail;refine HSh.out.mono ?_;clear HSh;rintro e V1 ⟨pR,aI⟩;have rY:=gy.out.trans pR (Zs.refl _ _);rcases aI with⟨h0,-⟩|⟨xY,rfl⟩|⟨-,xY,rfl,hb5⟩
   exact absurd h0 lZ.out
   ·have hQ:Hid (LowQ D B lo b g k q w (O (Z #[Y Oa 0,Y Oa 70])) V1):=zH ⟨rY,by rw[<-hq.out,bI.out];unfold ZR;rw[if_neg (by have:=hc8.out;omega),if_neg lZ.out,if_pos xY];exact⟨zA1,0,rfl⟩⟩;clear pR rY bI dC gy;go_wp2_with fail;exact Kq rfl rfl rfl hQ.out
   have gG:ZR S'.now c=.ok (zj S'.now c 1):=by unfold ZR;rw[if_neg (by have:=hc8.out;omega),if_neg lZ.out,if_neg xY]
   have hSt:qj (qp S' (zj S'.now c 1))=U:=vL fO.out (UY (.inr hc8.out) (Qd.1 fO.out).2.1 gG);have HL:=zH (UE D B lo b g k (qp S' (zj S'.now c 1)) hSt r iw.out sH.out V1 hb5);replace⟨gG,hSt,xY,rY⟩:=zH4 gG hSt xY rY;clear pR hb5 dC gy;go_wp2_with fail;refine HL.out.mono ?_;clear HL;rintro e V2 ⟨hk6,aI⟩;have hk7:=rY.out.trans hk6 (Zs.refl _ _);have hnw:(qp S' (zj S'.now c 1)).now=zj S'.now c 1:=rfl;rw[hnw]at aI;rcases hlv:QK (qp S' (zj S'.now c 1)) (-1) (zj S'.now c 1) r with _|t'
   ·rw[hlv]at aI;obtain rfl:=aI;have hQ:Hid (LowQ D B lo b g k q w (O (Z #[Y Oa 0,Y Oa 8])) V2):=zH ⟨hk7,by rw[<-hq.out,bI.out,gG.out];simp only[hlv];exact⟨zA1,0,rfl⟩⟩;clear hk6 hk7 rY bI hlv;go_wp2_with fail;exact Kq rfl rfl rfl hQ.out
   rw[hlv]at aI;obtain⟨rfl,hb7⟩:=aI;have iQ:=(qcO (h:=n') (by have:=qZ fO.out;omega) (by rw[<-eY.out,<-hy.out];exact tu.out) e1.out hc8.out au.out hcr.out lZ.out gG.out hlv).2;have hF:LowI D B lo b g k S q w (c:Int) V2:=⟨⟨c,qp S' t',n',zs,m',rfl,hc8.out,au.out,vL fO.out (Vk iw.out (Qd.1 hSt.out).2.1 hlv),di.out,az.out,λq' l nd hl hqq=>iQ q' l nd (λe=>by have h5:=hn.out;rw[<-e,hqq]at h5;simp only[Option.some.injEq,Prod.mk.injEq]at h5;have:=eY.out;omega) (aW.out q' l nd (by have:=eY.out;omega) hqq),by have:=yO.out;have:=eY.out;omega,by rw[<-hq.out,bI.out,gG.out];simp only[hlv],hb7⟩,hk7⟩
   have hms:vx S (c:Int)<vx S (r:Int):=by rw[VO di.out,hMV.out];have:=eY.out;omega
   replace⟨hF,hms⟩:=zH2 hF hms;clear hk6 hk7 rY bI hlv iQ hb7;go_wp2_with fail;exact⟨hF.out,hms.out⟩
  have l1:((ys.length:Int)!=1)=U:=by rw[bne_iff_ne];omega
  have l2:decide (ys.length=1)=false:=decide_eq_false h1;have he:ZL (m'+1) S' r=.ok (r,S'):=by simp only[ZL,tu.out];split;exact absurd rfl h1;rfl
  have hR:=zH (hFG.out w3 (Ext.refl _) he);replace⟨h0,h1⟩:=zH2 h0 h1;clear hFG he hq yO aW dI hn tu dC gy aG hMV;go_wp2_with fail;exact Kq rfl rfl rfl hR.out
end Go.Proofs.YtmeadnlmepcmbaaGreat
namespace Go.Proofs.YtmeadnlmepcmbaaGreat
open Go.RowKit Go.Shelf
attribute [local go_sem] Oper.semAt_some
variable {W W':World}{v:Value}
abbrev Ud:Type:=Stp×Sl
abbrev udz:Ud:=((0,[],0),(F,0,0))
set_option maxRecDepth 100000 in
theorem backd_in(n:Nat)(hn:1<=n)(l Bs b off len cap:Nat)(us:List Ud)(bT:len<1099511627776)(J Jx:List Nat->Oc->Prop)(hY:∀pre (x:Nat) W,J pre W->pre.length<len->x<len->YieldAt Fence.wide (n-1) prog l #[(x:Int),.agg #[Y Oa ((us[x]?.getD udz).1.1:Int),sv (us[x]?.getD udz).2,Y Oa ((us[x]?.getD udz).1.2.2:Int)]] W λe W'=>
   (e=O (.bool U)/\J (pre++[x]) W'/\Qw Bs b W W')\/(e=O (.bool false)/\Jx (pre++[x]) W'))
  (W:Oc) (ik:W.cell? Bs=I (E (b,off) len cap)) (hc:∀i,i<len->W.cell? ⟨b,off+i*3,F⟩=I (Y Oa ((us[i]?.getD udz).1.1:Int))/\W.cell? ⟨b,off+i*3+1,F⟩=I (sv (us[i]?.getD udz).2)/\W.cell? ⟨b,off+i*3+2,F⟩=I (Y Oa ((us[i]?.getD udz).1.2.2:Int))) (h0:J [] W) :
  CallsIn Fence.wide n prog 163 #[.func (.yield l) #[] #[],Od Bs] W λe W'=>(∃v,e=O v) /\
   ((∃ys,ys=jb (λj=>len-1-j) len/\J ys W')\/(∃pre,(∃k,k<=len/\pre=jb (λj=>len-1-j) k)/\Jx pre W')):=by
 refine callsIn_of_wp func163 rfl trivial ?_ rfl;simp only[ntmps163,List.size_toArray,List.length_cons,List.length_nil,Nat.reduceAdd,Nat.reduceSub,Array.replicate_succ,Array.replicate_zero,List.push_toArray,List.append_toArray,List.nil_append,List.cons_append]
 gi_wp2
 gi_loopw [3] (λi wr=>∃k:Nat,k<=len/\i=Y Oa ((len:Int)-1-k)/\J (jb (λj=>len-1-j) k) wr/\Qw Bs b W wr)
  (λi _=>(intOf i+1).toNat)
 case atStart=>exact⟨0,Nat.zero_le _,zA3,h0,Qw.refl _ _ _⟩
 case round=>
  obtain⟨k,hk,rfl,iI,dR⟩:=hrel;have hBr:wr.cell? Bs=I (E (b,off) len cap):=(World.cell?_of_block (w:=W) dR.1).trans ik;by_cases hlt:k<len
  ·obtain⟨fn,tmps,assign,body,hy,hR⟩:=hY _ (len-1-k) wr iI (by rw[ZG];exact hlt) zO;have dX:=(World.cell?_of_block (w:=W) (a:=⟨b,off+(len-1-k)*3,F⟩) dR.2).trans (hc (len-1-k) zO).1;have dP:=(World.cell?_of_block (w:=W) (a:=⟨b,off+(len-1-k)*3+1,F⟩) dR.2).trans (hc (len-1-k) zO).2.1;have au:=(World.cell?_of_block (w:=W) (a:=⟨b,off+(len-1-k)*3+2,F⟩) dR.2).trans (hc (len-1-k) zO).2.2;try dsimp only at hy
   obtain⟨i,hi⟩:∃i:Nat,len-1-k=i:=⟨_,rfl⟩
   have dK:(len:Int)-1-k=(i:Int):=zO;have hil:i<len:=zO;have hik:k+i+1<=len/\len<=k+i+1:=zO;have HU:=zH (Vu (λj=>len-1-j) k);obtain⟨u,hu⟩:∃u,us[i]?.getD udz=u:=⟨_,rfl⟩
   rw[hi]at dX dP au hy hR;rw[hu]at dX dP au hy;rw[dK];clear dK;clear hu;have HI:=zH hi;clear hi
   gi_wp2
   refine hR.mono ?_;rintro e W3 (⟨rfl,hJ3,gy⟩|⟨rfl,lY⟩)
   ·gi_wp2
    go_roundw
    case rel=>exact⟨k+1,zO,by go_num,by rw[HU.out,HI.out];exact hJ3,dR.t gy⟩
    case measure=>simp[intOf]
   gi_wp2
   refine bodyPost_ret (results_none rfl _ _ _) rfl ?_;exact⟨⟨_,rfl⟩,.inr ⟨_,⟨k+1,zO,by rw[HU.out,HI.out]⟩,lY⟩⟩
  obtain rfl:k=len:=zO
  gi_wp2
  go_end0;exact⟨⟨_,rfl⟩,.inl ⟨_,rfl,iI⟩⟩
set_option maxRecDepth 100000 in
theorem qfG(n l Bs c:Nat)(A:OA)(J:List Nat->Oc->Prop)(W:Oc)(ik:W.cell? Bs=I (E A 0 c))(h0:J [] W):CallsIn Fence.wide n prog 163 #[.func (.yield l) #[] #[],Od Bs] W λe W'=>(∃v,e=O v)/\J [] W':=by
 refine callsIn_of_wp func163 rfl trivial ?_ rfl;simp only[ntmps163,List.size_toArray,List.length_cons,List.length_nil,Nat.reduceAdd,Nat.reduceSub,Array.replicate_succ,Array.replicate_zero,List.push_toArray,List.append_toArray,List.nil_append,List.cons_append]
 gi_wp2
 gi_loopw [3] (λi wr=>i=Y Oa (-1)/\J [] wr) (λ_ _=>0)
 case atStart=>exact⟨rfl,h0⟩
 case round=>
  obtain⟨rfl,iI⟩:=hrel
  gi_wp2
  go_end0;exact⟨⟨_,rfl⟩,iI⟩
def SWd(W:Oc)(Bs b:Nat)(v:Oe)(us:List Ud):Prop:=
 W.cell? Bs=v/\((us=[]/\∃A c,v=E A 0 c)\/∃off cap,v=E (I ⟨b,off,F⟩) us.length cap/\∀i,i<us.length->W.cell? ⟨b,off+i*3,F⟩=I (Y Oa ((us[i]?.getD udz).1.1:Int))/\W.cell? ⟨b,off+i*3+1,F⟩=I (sv (us[i]?.getD udz).2)/\W.cell? ⟨b,off+i*3+2,F⟩=I (Y Oa ((us[i]?.getD udz).1.2.2:Int)))
theorem SWd.keep{Bs b:Nat}{us:List Ud}(h:SWd W Bs b v us)(hk:Qw Bs b W W'):SWd W' Bs b v us:=by
 refine⟨(World.cell?_of_block (w:=W) hk.1).trans h.1,?_⟩;rcases h.2 with h|⟨off,cap,e,hc⟩
 exact .inl h;exact .inr ⟨off,cap,e,λi hi=>⟨(World.cell?_of_block (w:=W) hk.2).trans (hc i hi).1,(World.cell?_of_block (w:=W) hk.2).trans (hc i hi).2.1,(World.cell?_of_block (w:=W) hk.2).trans (hc i hi).2.2⟩⟩
theorem qhc(n:Nat)(hn:1<=n)(Bs b:Nat)(v:Oe)(us:List Ud)(bT:us.length<1099511627776)(w:Oc)(ik:Bs<w)(hb:b<w)(hS:SWd w Bs b v us):SeqStopsK Fence.wide n prog 163 #[Od Bs] (λx:{j:Nat // j<us.length}=>#[(x.1:Int),.agg #[Y Oa ((us[x.1]?.getD udz).1.1:Int),sv (us[x.1]?.getD udz).2,Y Oa ((us[x.1]?.getD udz).1.2.2:Int)]]) (Qw Bs b) (λys=>ys.map (·.1)=jb (λj=>us.length-1-j) us.length)
   (λpre=>∃k,k<=us.length/\pre.map (·.1)=jb (λj=>us.length-1-j) k) us.length w:=λl J Jx W hW _ _ hY h0=>by
 obtain⟨hc,h⟩:=hS.keep (Qw.below hW ik hb);rcases h with⟨rfl,A,c,rfl⟩|⟨off,cap,rfl,ay⟩
 exact(qfG n l Bs c A (λpre W=>pre=[]/\J [] W) W hc ⟨rfl,h0⟩).mono λe W' ⟨he,hj⟩=>⟨he,.inl ⟨[],rfl,hj.2⟩⟩
 refine(backd_in n hn l Bs b off us.length cap us bT (λpre W=>∃p':List {j:Nat // j<us.length},p'.map (·.1)=pre/\J p' W) (λpre W=>∃p':List {j:Nat // j<us.length},p'.map (·.1)=pre/\Jx p' W) (λpre x W hJ hl hx=>?_) W hc ay ⟨[],rfl,h0⟩).mono λe W' ⟨he,hj⟩=>⟨he,?_⟩
 obtain⟨p',rfl,hJ⟩:=hJ;obtain⟨fn,tmps,assign,body,hy,hR⟩:=hY p' ⟨x,hx⟩ W hJ (by simpa using hl);exact⟨fn,tmps,assign,body,hy,hR.mono λe W' h=>h.imp (λ⟨a,b,c⟩=>⟨a,⟨_,zA3,b⟩,c⟩) λ⟨a,b⟩=>⟨a,_,zA3,b⟩⟩;rcases hj with⟨ys,rfl,p',e,hJ⟩|⟨pre,⟨k,hk,rfl⟩,p',e,hJ⟩
 exact .inl ⟨p',e,hJ⟩;exact .inr ⟨p',⟨k,hk,e⟩,hJ⟩
theorem qdO(A m c)(w:Oc):Calls prog 116 #[E A m c] w (λe w'=>e=O (.func (.func 163) #[] #[Od w])/\w'=w.alloc (Ob #[E A m c] 160)):=by go_enter func116,ntmps116;go_wp2;go_ret;exact⟨rfl,rfl⟩
end Go.Proofs.YtmeadnlmepcmbaaGreat
namespace Go.Proofs.YtmeadnlmepcmbaaGreat
open Go.RowKit
variable {S S':Sto}{xs hs l0:List It}{p j L lo n:Nat}{ps l:List Stp}{e:Int}{s:Stp}{k:K3}{X:Nat->Prop}{w W w3:World}{v sv_:Value}{ips:List (It×Value)}{pre:List Nat}
theorem qhY(S:Sto)(xs:List It)(i:Nat):∀y∈ZW S xs i,Zb y:=λy hy=>by unfold ZW at hy;split at hy;cases hy;split at hy;cases hy;rename_i hn;exact((qI hn).2.1 y hy).1
theorem joinX_ok{l:List It}(hl:∀y∈l,Zb y):∀y∈(ZC S xs p l).1,Zb y:=λy hy=>by unfold ZC at hy;split at hy;split at hy;exact hl y hy;split at hy;exact hl y hy;exact(List.mem_append.1 hy).elim (qhY S xs _ y) (hl y);split at hy;exact hl y hy;exact(List.mem_append.1 hy).elim (hl y) (qhY S xs _ y)
theorem qmb{l:List It}(hp:p<xs.length)(h5:l.length<=5):(ZC S xs p l).2.1+(ZC S xs p l).2.2<=xs.length/\((ZC S xs p l).2.2=1\/(ZC S xs p l).2.2=2)/\(ZC S xs p l).1.length<=5/\(l≠[]->(ZC S xs p l).1≠[]):=by unfold ZC;split;split;exact⟨hp,.inl rfl,h5,λh=>h⟩;split;exact⟨hp,.inl rfl,h5,λh=>h⟩;exact⟨by simp only;omega,.inr rfl,by simp only[List.length_append];omega,λh e=>h (List.append_eq_nil_iff.1 e).2⟩;split;exact⟨hp,.inl rfl,h5,λh=>h⟩;exact⟨by simp only;omega,.inr rfl,by simp only[List.length_append];omega,λh e=>h (List.append_eq_nil_iff.1 e).1⟩
theorem qiP{S:Sto}{k:K3}:∀(h:Nat){a:Nat}{xs:List It},qo S a=I ((h:Int),xs)->(qz S h xs).isSome=U->∀s∈jJ S k h xs,0<s.1->∀y∈s.2.1,8<=y.r/\y.r<256
 |0,a,xs,hn,hs,s,hm,h0=>by
  rw[YR]at hm;obtain rfl:s=(0,xs,qF xs k):=by simpa using hm
  exact absurd h0 (Nat.lt_irrefl 0)
 |h+1,a,xs,hn,hs,s,hm,h0=>by
  have hx:=kF (qI hn).1 zO;obtain⟨b,e1,-,-,zs,e4,e5⟩:=Qz (Qt hs _ (List.getElem_mem (zy (k:=k) hx)));rw[vX (zL (zy hx)) (by rw[e1,Int.toNat_natCast];exact e4)]at hm;rcases List.mem_cons.1 hm with rfl|hm
  intro y hy;obtain⟨c,f1,f8,f256,-⟩:=Qz (Qt hs y hy);omega;exact qiP h e4 e5 s hm h0
theorem qlx{S:Sto}{k:K3}:∀(h:Nat){a:Nat}{xs:List It},qo S a=I ((h:Int),xs)->(qz S h xs).isSome=U->∀j,j<=h->(sAt (jJ S k h xs) j).1=h-j
 |0,a,xs,hn,hs,j,hj=>by obtain rfl:j=0:=zO;rfl
 |h+1,a,xs,hn,hs,j,hj=>by
  have hx:=kF (qI hn).1 zO;obtain⟨b,e1,-,-,zs,e4,e5⟩:=Qz (Qt hs _ (List.getElem_mem (zy (k:=k) hx)));rw[vX (zL (zy hx)) (by rw[e1,Int.toNat_natCast];exact e4)];rcases j with _|j
  rfl;have:=qlx (k:=k) h e4 e5 j zO;unfold sAt at this⊢;rw[List.getElem?_cons_succ,this];omega
theorem qiO{S:Sto}{k:K3}:∀(h:Nat){a:Nat}{xs:List It},qo S a=I ((h:Int),xs)->(qz S h xs).isSome=U->(Vm S k h xs).isSome=U->∃ys,sAt (jJ S k h xs) h=(0,ys,qF ys k)/\qF ys k<ys.length
 |0,a,xs,hn,hs,h1=>by
  refine⟨xs,rfl,?_⟩;have hi:=qkW (jI hs).2 h1;rcases Nat.lt_or_ge (qF xs k) xs.length with h2|h2
  exact h2;rw[KO zO]at hi;cases hi
 |h+1,a,xs,hn,hs,h1=>by
  have h0:=kF (qI hn).1 zO;have hlt:=zy (k:=k) h0;obtain⟨b,e1,-,-,zs,e4,e5⟩:=Qz (Qt hs _ (List.getElem_mem hlt));have iK:qo S (xs[QG xs k].r).toNat=I ((h:Int),zs):=by rw[e1,Int.toNat_natCast];exact e4
  have hd:=(Ua (jI hs).2 h0 (TQ h1)).1;rw[Tl hd iK]at h1;rw[vX (zL hlt) iK];obtain⟨ys,f1,f2⟩:=qiO (k:=k) h e4 e5 h1;refine⟨ys,?_,f2⟩;unfold sAt at f1⊢;rw[List.getElem?_cons_succ];exact f1
theorem qjj{l:List It}(h:jM (ps.take j) l hs S=.error e):jM ps l hs S=.error e:=by have:ps=ps.take j++ps.drop j:=(List.take_append_drop _ _).symm;rw[this,vD,h]
theorem qji{l l' rJ:List It}(h:jM ps l hs S=.ok (l',rJ,S')):jM (ps++[s]) l hs S=JZ S' s l' rJ:=by rw[vD,h];exact qat _ _ _ _
theorem qmx(h:l.length=L+1):l.reverse=sAt l L::(l.take L).reverse:=by
 have h1:l=l.take L++[sAt l L]:=by
  have h2:=List.take_succ_eq_append_getElem (l:=l) (i:=L) zO;rw[List.take_of_length_le zO]at h2;have h3:sAt l L=l[L]:=by unfold sAt;rw[zL zO];rfl
  rw[h3];exact h2
 conv=>lhs;rw[h1]
 rw[List.reverse_append];rfl
theorem qiv(h:j<L):sAt (l.take L) j=sAt l j:=by unfold sAt;rw[List.getElem?_take,if_pos h]
theorem qhv(h:l.length=L+1)(S:Sto):qco k l.reverse S=jM (l.take L).reverse (ZE (sAt l L).2.1 (sAt l L).2.2 1 []) [] S:=by rw[qmx h];rfl
def XD(B0 b g LB HB:Nat)(k:Option Nat)(q:Nat):Prop:=q<B0+5\/q=LB\/q=HB\/B3 b g k q
structure DelV(l:List Stp)(l0:List It)(S:Sto)(B0 lo b g LB HB TB SB CB w2:Nat)(w3:Oc)(sv_:Oe)(pre:List Nat)(W:Oc):Prop where
 ex:∃(ls hs:List It)(S':Sto)(k':Option Nat)(D':Nat->Prop)(Al:OA)(cl:Nat)(lps:List (It×Oe)),jM (pre.map (sAt l)) l0 [] S=.ok (ls,hs,S')/\qj S'=U/\ls.length<=5/\lps.map (·.1)=ls/\(∀y∈ls,Zb y)/\(hs=[]\/∃y,hs=[y]/\8<=y.r/\y.r<256) /\
  jD (XD B0 b g LB HB k') W (E Al ls.length cl) lps/\W.heap[LB]?=I (Ob #[E Al ls.length cl] 55)/\W.heap[HB]?=I (Ob #[Y Oa (qhJ hs)] 3)/\Bch D' B0 lo b g k' S' W
 r2:W.heap[B0+2]?=I (Ob #[E F 0 0,E F 0 0,E F 0 0,E F 0 0] 28)
 r3:W.heap[B0+3]?=I (Ob #[Y Oa 0] 3)
 r4:W.heap[B0+4]?=I (Ob #[Y Oa 0] 37)
 rT:W.heap[TB]?=I (Ob #[Od b] 92)
 rC:∃A c,W.heap[CB]?=I (Ob #[E A l.length c] 160)
 rS:W.heap[SB]?=I (Ob #[sv_] 160)
 kx:qU (λq=>q<w2) w3 W
theorem jD.ck(h:jD X w v ips)(hk:Qe w W):jD X W v ips:=h.trans (qU.of_ck X hk) λ_ _ h=>h
theorem DelV.ck{B0 lo b g LB HB TB SB CB w2:Nat}(h:DelV l l0 S B0 lo b g LB HB TB SB CB w2 w3 sv_ pre w)(hk:Qe w W):DelV l l0 S B0 lo b g LB HB TB SB CB w2 w3 sv_ pre W:=by obtain⟨ls,hs,S',k',D',Al,cl,lps,h1,h2,h3,h4,h5,h6,h7,h8,h9,h10⟩:=h.ex;obtain⟨A,c,hC⟩:=h.rC;exact⟨⟨ls,hs,S',k',D',Al,cl,lps,h1,h2,h3,h4,h5,h6,h7.ck hk,hk.row h8,hk.row h9,h10.ck hk⟩,hk.row h.r2,hk.row h.r3,hk.row h.r4,hk.row h.rT,⟨A,c,hk.row hC⟩,hk.row h.rS,h.kx.trans (qU.of_ck _ hk) λ_ _ h=>h⟩
theorem jD.of_own{ps:List (It×Oe)}(ho:w.ownsRow lo 51 5 v n (qD ps))(hl:ps.length=n)(hX:∀q,v.ownBlock=I q->¬X q)(hp:∀p∈ps,(∃A c,p.2=E A p.1.val.length c)/\∀C,qU X w C->Bys C C.heap.size p.2 p.1.val):jD X w v ps:=by
 obtain⟨A,c,rfl,h1,h2⟩:=qC ho;subst hl;refine⟨⟨A,c,rfl,h1,h2,λC hC=>⟨ho.1,λhn=>?_⟩⟩,hp⟩;rcases ho.2 with⟨_,h0⟩|⟨g,cap,cur,hv,hb,hg,fQ,_,hsz,mM⟩
 omega;have aH:¬X g:=hX g (by rw[hv];rfl);cases hv;have hc:∀j u,(qD ps)[j]?=I u->w.cell? ⟨g,0+j,F⟩=I u:=λj u hu=>by rw[Nat.zero_add,qa hg,<-Array.getElem?_toList];rw[<-mM,List.getElem?_take]at hu;split at hu;exact hu;cases hu
 have tq:0<(qD ps).length:=by rw[ho.1];omega
 exact⟨g,0,rfl,World.block_lt_of_cell? C ⟨g,0+0,F⟩ (hC _ _ aH (hc 0 _ (zL tq))),λj u hu=>hC _ _ aH (hc j u hu)⟩
end Go.Proofs.YtmeadnlmepcmbaaGreat
