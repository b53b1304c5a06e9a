/- Lemmas of the proof. -/
import Derived.Test.YtmeadnlmepcmbaaGreatZS18
set_option linter.all false
set_option maxHeartbeats 8000000
open Go.Proofs.Tryz
open Go.Value renaming slice→s,int→F,tuple→O
open Option renaming none→x,some→D
open Go.World renaming setCell→y,alloc→I
open Go.Obj renaming cells→E
open Bool renaming true→J
open Go.IntKind renaming i64→M
open Go renaming World→Q
open Go.Ending renaming returned→U
namespace Go.Proofs.YtmeadnlmepcmbaaGreat
open Go.RowKit
variable {W C w:World}{ty:TypeId}{lo n1 c1 n2 c2 n3 c3 n4 c4 n:Nat}{S S':Sto}{A1 A2 A3 A4:OA}{x0 x1 x2 x3 x4 x5 x6 x7 v u:Value}{l:List UInt8}{R:Ending->World->Prop}{a:Act}
def qfx(v:Vol):It:=⟨1,v.id,0,0,QR v⟩
theorem volIt_ok{v:Vol}(h:XH v):QW (qfx v):=by have:=kZ v;exact⟨⟨(by decide:(0:Int)<=1),(by decide:(1:Int)<256)⟩,h.1,⟨(by decide:(0:Int)<=0),(by decide:(0:Int)<4294967296)⟩,⟨(by decide:(0:Int)<=0),(by decide:(0:Int)<256)⟩,by show(QR v).length<=12;omega⟩
def setE(S:Sto)(root:Int)(v:Vol):Except Int (Nat×Sto):=match qm S root.toNat with
 |none=>.error 8
 |some (lvl,xs)=>XR S lvl.toNat xs root.toNat (qfx v)
def SetQ(S:Sto)(gen root next:Int)(dead:List Int)(v:Vol)(w:Q)(e:Ending)(w':Q):Prop:=Below w w w' /\
 ((e=U (O #[Tz,F M 8])/\QS S root next dead)\/∃vs refs nodes,Qy S root next dead vs/\Qk S (Qo root dead vs) refs nodes/\QQ S refs /\
  ((∃er,er≠0/\e=U (O #[Tz,F M er])/\(jC S next v vs refs=er\/(jC S next v vs refs=0/\(setE S root v=.error er\/(er=8/\∃r S',setE S root v=.ok (r,S')/\QS S' (r:Int) next dead))))) \/
   ∃r S' vs' u,jC S next v vs refs=0/\setE S root v=.ok (r,S')/\Kl S' (r:Int) next dead vs'/\e=U (O #[u,F M 0])/\Jp w S' gen (r:Int) next dead u w'))
def qgm(lo:Nat)(S:Sto)(r:Nat):Qd:=⟨(Nat×Nat)×(OA×Nat)×(OA×Nat),λp=>O #[Qp p.1.1 S.bs.length S.bs.length p.1.2 S.ws.length (S.ws.length+1) p.2.1.1 S.now.length p.2.1.2 p.2.2.1 S.last.length p.2.2.2,(r:Int),F M 0],
 λp W=>zm lo S (Qp p.1.1 S.bs.length S.bs.length p.1.2 S.ws.length (S.ws.length+1) p.2.1.1 S.now.length p.2.1.2 p.2.2.1 S.last.length p.2.2.2) W⟩
theorem Zl(lo:Nat)(S:Sto)(r b c:Nat)(A3:OA)(c3:Nat)(A4:OA)(c4:Nat):(qgm lo S r).f ((b,c),(A3,c3),(A4,c4))=O #[Qp b S.bs.length S.bs.length c S.ws.length (S.ws.length+1) A3 S.now.length c3 A4 S.last.length c4,(r:Int),F M 0]:=rfl
theorem qef(lo:Nat)(S:Sto)(r:Nat):∀p,qU qp ((qgm lo S r).φ p):=λp W W' he h=>by have he:Ext W W':=he;exact zm.keep h (zM _) he.size λb _ hb=>he.block b hb
def qgg(e:Int):Qd:=⟨Unit,λ_=>O #[Qp x 0 0 x 0 0 x 0 0 x 0 0,F M 0,e],λ_ _=>True⟩
theorem Zk(e:Int)(u:Unit):(qgg e).f u=O #[Qp x 0 0 x 0 0 x 0 0 x 0 0,F M 0,e]:=rfl
theorem qeb(e:Int):∀p,qU qp ((qgg e).φ p):=λ_ _ _ _ _=>trivial
theorem qiI{b:Nat}{u0 u1 u2 u3 x0 x1 x2 x3:Value}(h:W.heap[b]?=D (E #[u0,u1,u2,u3] ty))(hC:C=(((W.setCell b x0).setCell (b,1) x1).setCell (b,2) x2).setCell (b,3) x3):C.heap[b]?=D (E #[x0,x1,x2,x3] ty)/\(∀k,k≠b->C.heap[k]?=W.heap[k]?)/\C.heap.size=W/\∀{B:Nat}{w0:Q},B<=b->Below B w0 W->Below B w0 C:=by subst hC;exact⟨KO h _ _ _ _,λk hk=>(zJ _ _ _ _ hk).trans ((zJ _ _ _ _ hk).trans ((zJ _ _ _ _ hk).trans (zJ _ _ _ _ hk))),zA3,λhb h0=>Zv h0 hb _ _ _ _⟩
theorem set_pool{b:Nat}{u0 u1 u2 u3 u4 u5 u6 u7 x0 x1 x2 x3 x5 x7:Value}(h:W.heap[b]?=D (E #[u0,u1,u2,u3,u4,u5,u6,u7] ty))(hC:C=(((((W.setCell b x0).setCell (b,1) x1).setCell (b,2) x2).setCell (b,3) x3).setCell (b,5) x5).setCell (b,7) x7):C.heap[b]?=D (E #[x0,x1,x2,x3,u4,x5,u6,x7] ty)/\(∀k,k≠b->C.heap[k]?=W.heap[k]?)/\C.heap.size=W/\∀{B:Nat}{w0:Q},B<=b->Below B w0 W->Below B w0 C:=by subst hC;refine⟨?_,λk hk=>?_,zA3,λhb h0=>Below.setCell (Below.setCell (Zv h0 hb _ _ _ _) (p:=⟨b,5,x⟩) hb _) (p:=⟨b,7,x⟩) hb _⟩;exact qj (qj (qj (qj (qj (qj h 0 x0) 1 x1) 2 x2) 3 x3) 5 x5) 7 x7;rw[zJ _ _ _ _ hk,zJ _ _ _ _ hk,zJ _ _ _ _ hk,zJ _ _ _ _ hk,zJ _ _ _ _ hk,zJ _ _ _ _ hk]
theorem vG(h:NewSto lo S (Qp A1 n1 c1 A2 n2 c2 A3 n3 c3 A4 n4 c4) W):∀C:Q,PosZ lo W C->Qi C W (s A1 n1 c1) (s A2 n2 c2) (s A3 n3 c3) (s A4 n4 c4) S:=by obtain⟨B1,d1,B2,d2,B3,d3,B4,d4,e,hc⟩:=h;simp only[Value.agg.injEq,Array.mk.injEq,List.cons.injEq,Value.slice.injEq,and_true]at e;obtain⟨⟨rfl,rfl,rfl⟩,⟨rfl,rfl,rfl⟩,⟨rfl,rfl,rfl⟩,⟨rfl,rfl,rfl⟩⟩:=e;exact hc
theorem size8{b:Nat}:((((((((w.setCell b x0).setCell (b,1) x1).setCell (b,2) x2).setCell (b,3) x3).setCell (b,4) x4).setCell (b,5) x5).setCell (b,6) x6).setCell (b,7) x7).heap.size=w:=zA3
theorem outIFs{k i o r:Int}:∀p,zy ((qeZ lo k i o r n l).φ p):=λp W W' he h=>⟨(h.1.below he).more he.size,h.2⟩
theorem Ti{b:Nat}(h4:a.tmps[4]?.getD undef=.pointer b)(h5:a.tmps[5]?.getD undef=v)(hd:a.defers=[])(hAH:W.heap[b]?=D (E #[x0,x1,x2,x3,x4,x5,x6,x7] 32))(hR:R (U (O #[.agg #[x0,x1,x2,x3,x4,x5,x6,x7],v])) W):bodyPost prog Tryz.f19 R .ret a W:=by refine bodyPost_ret (v:=O #[.agg #[x0,x1,x2,x3,x4,x5,x6,x7],v]) ?_ hd hR;have k:=qa hAH;simp[results,results19,go_sem,h4,h5,k]
set_option maxRecDepth 100000 in
theorem qcB(A1 n1 c1 A2 n2 c2 A3 n3 c3 A4 n4 c4)(gen root next:Int)(A5 c5)(S:Sto)(dead:List Int)(v:Vol)(hv:XH v)(hT:8<=v.root->v.root<256->Zy S v.root.toNat≠0->okL S (-1) v.root=J)(w:Q)(h:Qi w w (s A1 n1 c1) (s A2 n2 c2) (s A3 n3 c3) (s A4 n4 c4) S)(hd:ZM w w (s A5 dead.length c5) dead):Calls prog 19 #[.agg (qQ (s A1 n1 c1) (s A2 n2 c2) (s A3 n3 c3) (s A4 n4 c4) gen root next (s A5 dead.length c5)),Ve v] w (SetQ S gen root next dead v w):=by
 have HA:=zH (λW (hx:Ext w W)=>qjz A1 n1 c1 A2 n2 c2 A3 n3 c3 A4 n4 c4 gen root next A5 c5 S dead v hT W (h.ext hx) (hd.ext_ hx));have HO:=zH (λW=>qlf v hv W);have hvi:=volIt_ok hv;have HP:=zH (λ(hS:qk S=J)(a lvl:Nat) xs ha ha2 hn hsp A c W (hx:Ext w W) hb=>qll A1 n1 c1 A2 n2 c2 A3 n3 c3 A4 n4 c4 S hS a lvl xs ha ha2 hn hsp (qfx v) hvi A c W (h.ext hx) hb);replace⟨h,hT,hd,hvi⟩:=zH4 h hT hd hvi;go_enter func19,ntmps19;go_wp2_with fail;generalize hw1:(I (I (I w _) _) _)=w1;have x1:Ext w w1:=by rw[<-hw1];exact((zN _ _).trans (zN _ _)).trans (zN _ _)
 have rp1:w1.heap[w.heap.size]?=D (E (qQ (s A1 n1 c1) (s A2 n2 c2) (s A3 n3 c3) (s A4 n4 c4) gen root next (s A5 dead.length c5)) 32 (0,0)):=by rw[<-hw1];exact(zK _ _ _ zA2).trans ((zK _ _ _ zA3).trans (zI _ _ _ rfl))
 have rv1:w1.heap[w.heap.size+1]?=D (E #[F .u32 v.id,F M v.root,.bool v.fz,F .u32 v.frm] 36):=by rw[<-hw1];exact(zK _ _ _ zA3).trans (zI _ _ _ zA3)
 have ro1:w1.heap[w.heap.size+2]?=D (E (qQ (s x 0 0) (s x 0 0) (s x 0 0) (s x 0 0) 0 0 0 (s x 0 0)) 32 (0,0)):=hw1▸zI _ _ _ zA3;clear hw1;refine(HA.out w1 x1).mono ?_;clear HA;rintro e w2 ⟨hB,hQ⟩;have x2:Ext w w2:=Ext.trans x1 hB;have rp2:=qb rp1 hB;have rv2:=qb rv1 hB;have ro2:=qb ro1 hB;have zo2:w.heap.size+2<w2:=(zG.1 ro2).1;clear hB rp1 rv1 ro1 x1;have ko2:=qa ro2;have fo2:=qd ro2;rcases hQ with⟨rfl,hno⟩|⟨vs,refs,nodes,hp,hcn,hen,rfl⟩
 ·replace hno:=zH hno;go_wp2_with fail;exact Ti (b:=w.heap.size+2) rfl rfl rfl (VV ro2 _ _ _ _ _ _ _ _) ⟨jM x2 zO _ _ _ _ _ _ _ _,.inl ⟨rfl,hno.out⟩⟩
 have hBM:=zH (λe W (hb:Below w.heap.size w W) hx=>(⟨hb,.inr ⟨vs,refs,nodes,hp,hcn,hen,hx⟩⟩:SetQ S gen root next dead v w e W));by_cases h0:jC S next v vs refs=0
 case neg=>
  obtain⟨er,her⟩:∃er,jC S next v vs refs=er:=⟨_,rfl⟩
  rw[her]at h0⊢;have hne:(er != 0)=J:=by rw[bne_iff_ne];exact h0
  replace⟨h0,her,hp,hcn,hen⟩:=zH5 h0 her hp hcn hen;go_wp2_with fail;exact Ti (b:=w.heap.size+2) rfl rfl rfl (VV ro2 _ _ _ _ _ _ _ _) (hBM.out _ _ (jM x2 zO _ _ _ _ _ _ _ _) (.inl ⟨er,h0.out,rfl,.inl her.out⟩))
 case pos=>
  rw[h0];obtain⟨a,ha,h8,h256,lvl,xs,hn,hsp⟩:=JE hp.top;have hse:setE S root v=XR S lvl xs a (qfx v):=by unfold setE;rw[ha,Int.toNat_natCast,hn];rfl
  have HP2:=zH (HP.out hp.may a lvl xs h8 h256 hn hsp);have hpm:=zH (λr S' (he:XR S lvl xs a (qfx v)=.ok (r,S'))=>qiw hp.may h8 hn hsp hvi.out he);have hpe:=zH (λer (he:XR S lvl xs a (qfx v)=.error er)=>qiv he);rw[<-hse]at HP2 hpm hpe;rw[<-ha]at HP2;have hdl:=zH hp.few;replace⟨h0,hp,hcn,hen⟩:=zH4 h0 hp hcn hen;clear hse HP hn hsp hT ha;go_upto_region 4 with fail;rcases hq:setE S root v with er|⟨r,S'⟩
  ·have gP:∀W,qp.r w2 W->∀i,W.cell? ⟨w,i,x⟩=(qQ (s A1 n1 c1) (s A2 n2 c2) (s A3 n3 c3) (s A4 n4 c4) gen root next (s A5 dead.length c5))[i]?:=λW h=>qa (qb rp2 h);have gV:∀W,qp.r w2 W->∀i,W.cell? ⟨w.heap.size+1,i,x⟩=#[F .u32 v.id,F M v.root,.bool v.fz,F .u32 v.frm][i]?:=λW h=>qa (qb rv2 h);clear ko2 fo2;refine qw zQ ?_;refine Yw 12 9 zE zQ rfl rfl zQ zQ zQ zQ ?_;dsimp only[JA,Array.push,List.push_toArray,List.concat_eq_append];refine Yw 12 10 zE zQ rfl rfl zQ zQ zQ zQ ?_;dsimp only[JA,Array.push,List.push_toArray,List.concat_eq_append];refine Qb (w:=w2) qp (qV [(5,qeZ w2.heap.size 1 v.id 0 0 (QR v).length (QR v)),(6,qgg er),(11,jx w2.heap.size 28 #[s x 0 0,s x 0 0,s x 0 0,s x 0 0])]) (List.replicate 12 J) 3 zQ zQ zQ zQ zQ zQ zQ ?st (Rel.drew _ _) ?walk
   case st=>exact ql (by simp only[List.forall_mem_cons];exact⟨λp=>QA (outIFs p),qeb _,λp=>QA (Zt _ _ _ p),λ_ h=>by cases h⟩)
   case walk=>
    intro K hK;dsimp only[qA,List.replicate];refine zC5 ?_;refine qH (qeZ w2.heap.size 1 v.id 0 0 (QR v).length (QR v)) zA0 zA0 (λW hW _=>?_) (λp5=>?_)
    ·have hW:Ext w2 W:=hW;refine Qh ?_ ((HO.out W).mono λe w' h=>?_)
     ·go_simp
     obtain⟨u,rfl,⟨A,c,rfl,hb,hf⟩,hB⟩:=h;exact⟨(A,c),rfl,⟨hb,hf.mono hW.size⟩,hB⟩
    obtain⟨A8,c8⟩:=p5;refine zC5 ?_;refine qH (qgg er) zA0 zA0 (λW hW hp=>?_) (λ(p:Unit)=>?_)
    ·have hW:Ext w2 W:=hW;have hb:Bys W W (s A8 (QR v).length c8) (QR v):=(hp 5 zA1).1.1;refine Qh ?_ ((HP2.out A8 c8 W (x2.trans hW) hb).mono λe w' h=>?_)
     ·go_simp;exact⟨rfl,rfl,rfl,rfl,rfl⟩
     obtain⟨u,rfl,hu,hB⟩:=h;rw[hq]at hu;obtain rfl:u=_:=hu;exact⟨(),rfl,trivial,hB⟩
    refine zC5 ?_;refine qH (jx w2.heap.size 28 #[s x 0 0,s x 0 0,s x 0 0,s x 0 0]) zA0 zA0 (λW hW _=>?_) (λ(p11:Nat)=>?_)
    ·refine jl ?_ (Below.size hW);go_simp
    refine zC5 ?_;refine qF (hK _ _ λW hW hF=>?_);obtain⟨f11,hlo⟩:W.heap[p11]?=D (E #[s x 0 0,s x 0 0,s x 0 0,s x 0 0] 28)/\w2.heap.size<=p11:=(hF 11).1;clear hF hK gP gV;have hW:Ext w2 W:=hW;refine zB8 ?_;have k11:=qa f11;have h11:=qd f11;have rq2:=qb rp2 hW;have rz2:=qb ro2 hW;go_wp2;refine Qt ?_;generalize hw3:y (y (y (y W _ _) _ _) _ _) _ _=w3;obtain⟨r3,o3,z3,b3⟩:=qiI f11 hw3.symm;clear hw3 k11 h11 f11;have ro3:=(o3 (w.heap.size+2) zO).trans rz2;have x3:Below w w w3:=b3 zO (x2.trans hW);have ko3:=qa ro3;have fo3:=qd ro3;clear rq2 rz2;have hne:=hpe.out er hq;have hnb:(er != 0)=J:=by rw[bne_iff_ne];exact hne
    replace⟨hne,hq⟩:=zH2 hne hq;go_wp2_with fail;exact Ti (b:=w.heap.size+2) rfl rfl rfl (VV ro3 _ _ _ _ _ _ _ _) (hBM.out _ _ (jM x3 zO _ _ _ _ _ _ _ _) (.inl ⟨er,hne.out,rfl,.inr ⟨h0.out,.inl hq.out⟩⟩))
  have gP:∀W,qp.r w2 W->∀i,W.cell? ⟨w,i,x⟩=(qQ (s A1 n1 c1) (s A2 n2 c2) (s A3 n3 c3) (s A4 n4 c4) gen root next (s A5 dead.length c5))[i]?:=λW h=>qa (qb rp2 h);have gV:∀W,qp.r w2 W->∀i,W.cell? ⟨w.heap.size+1,i,x⟩=#[F .u32 v.id,F M v.root,.bool v.fz,F .u32 v.frm][i]?:=λW h=>qa (qb rv2 h);clear ko2 fo2;refine qw zQ ?_;refine Yw 12 9 zE zQ rfl rfl zQ zQ zQ zQ ?_;dsimp only[JA,Array.push,List.push_toArray,List.concat_eq_append];refine Yw 12 10 zE zQ rfl rfl zQ zQ zQ zQ ?_;dsimp only[JA,Array.push,List.push_toArray,List.concat_eq_append];refine Qb (w:=w2) qp (qV [(5,qeZ w2.heap.size 1 v.id 0 0 (QR v).length (QR v)),(6,qgm w2.heap.size S' r),(11,jx w2.heap.size 28 #[s x 0 0,s x 0 0,s x 0 0,s x 0 0])]) (List.replicate 12 J) 3 zQ zQ zQ zQ zQ zQ zQ ?st (Rel.drew _ _) ?walk
  case st=>exact ql (by simp only[List.forall_mem_cons];exact⟨λp=>QA (outIFs p),qef _ _ _,λp=>QA (Zt _ _ _ p),λ_ h=>by cases h⟩)
  case walk=>
   intro K hK;dsimp only[qA,List.replicate];refine zC5 ?_;refine qH (qeZ w2.heap.size 1 v.id 0 0 (QR v).length (QR v)) zA0 zA0 (λW hW _=>?_) (λp5=>?_)
   ·have hW:Ext w2 W:=hW;refine Qh ?_ ((HO.out W).mono λe w' h=>?_)
    ·go_simp
    obtain⟨u,rfl,⟨A,c,rfl,hb,hf⟩,hB⟩:=h;exact⟨(A,c),rfl,⟨hb,hf.mono hW.size⟩,hB⟩
   obtain⟨A8,c8⟩:=p5;refine zC5 ?_;refine qH (qgm w2.heap.size S' r) zA0 zA0 (λW hW hp=>?_) (λp=>?_)
   ·have hW:Ext w2 W:=hW;have hb:Bys W W (s A8 (QR v).length c8) (QR v):=(hp 5 zA1).1.1;refine Qh ?_ ((HP2.out A8 c8 W (x2.trans hW) hb).mono λe w' h=>?_)
    ·go_simp;exact⟨rfl,rfl,rfl,rfl,rfl⟩
    obtain⟨u,rfl,hu,hB⟩:=h;rw[hq]at hu;obtain⟨v',rfl,hT⟩:=hu;obtain⟨BB,WW,gg,A3',c3',A4',c4',rfl,-⟩:=id hT;exact⟨((BB,WW),(A3',c3'),(A4',c4')),rfl,zm.keep hT hW.size (zM _) (λ_ _ _=>rfl),hB⟩
   obtain⟨⟨BB,WW⟩,⟨A3',c3'⟩,⟨A4',c4'⟩⟩:=p;refine zC5 ?_;refine qH (jx w2.heap.size 28 #[s x 0 0,s x 0 0,s x 0 0,s x 0 0]) zA0 zA0 (λW hW _=>?_) (λ(p11:Nat)=>?_)
   ·refine jl ?_ (Below.size hW);go_simp
   refine zC5 ?_;refine qF (hK _ _ λW hW hF=>?_);obtain⟨f11,hlo⟩:W.heap[p11]?=D (E #[s x 0 0,s x 0 0,s x 0 0,s x 0 0] 28)/\w2.heap.size<=p11:=(hF 11).1;have hTw:zm w2 S' (Qp BB S'.bs.length S'.bs.length WW S'.ws.length (S'.ws.length+1) A3' S'.now.length c3' A4' S'.last.length c4') W:=(hF 6).1;clear hF hK gP gV;have hW:Ext w2 W:=hW;refine zB8 ?_;have k11:=qa f11;have h11:=qd f11;have z11:=(zG.1 f11).1;have rq2:=qb rp2 hW;have rz2:=qb ro2 hW;go_wp2;refine Qt ?_;generalize hw3:y (y (y (y W _ _) _ _) _ _) _ _=w3;obtain⟨r3,o3,z3,b3⟩:=qiI f11 hw3.symm;have hTw3:=zm.keepT (lo':=w2.heap.size) hTw (zM _) zO f11 zA1 (λb _ _ hne=>o3 b hne);clear hw3 k11 h11 f11;have rp3:=(o3 w.heap.size zO).trans rq2;have ro3:=(o3 (w.heap.size+2) zO).trans rz2;have x3:Below w w w3:=b3 zO (x2.trans hW);have ko3:=qa ro3;have fo3:=qd ro3;have zo3:w.heap.size+1+1<w3:=(zG.1 ro3).1;clear rq2 rz2;have hmay:=hpm.out r S' hq;have hns:=vG (hTw3.newSto (QY hmay.1));replace⟨hq,hns,hmay⟩:=zH3 hq hns hmay;clear hTw3 hpm hpe HP2;go_upto_region 7 with fail;have HI:=zH (λW (hW:Ext w3 W)=>qjI (s A5 dead.length c5) dead (by have:=hdl.out;omega) W (hd.out.ext_ (x3.trans (Below.mono hW x3.size))));have gP:∀W,qp.r w3 W->∀i,W.cell? ⟨w,i,x⟩=(qQ (s A1 n1 c1) (s A2 n2 c2) (s A3 n3 c3) (s A4 n4 c4) gen root next (s A5 dead.length c5))[i]?:=λW h=>qa (qb rp3 h);obtain⟨nb,hnb⟩:∃nb,S'.bs.length=nb:=⟨_,rfl⟩
   obtain⟨nw,hnw⟩:∃nw,S'.ws.length=nw:=⟨_,rfl⟩
   obtain⟨nn,hnn⟩:∃nn,S'.now.length=nn:=⟨_,rfl⟩
   obtain⟨nl,hnl⟩:∃nl,S'.last.length=nl:=⟨_,rfl⟩
   rw[hnb,hnw,hnn,hnl]at hns r3⊢;have hLN:=zH (And.intro hnb (And.intro hnw (And.intro hnn hnl)));clear hnb hnw hnn hnl;have gS:∀W,qp.r w3 W->∀i,W.cell? ⟨p11,i,x⟩=#[s BB nb nb,s WW nw (nw+1),s A3' nn c3',s A4' nl c4'][i]?:=λW h=>qa (qb r3 h);clear ko3 fo3;refine qw zQ ?_;refine ZJ 1 10 (F M (r:Int)) zQ zA6 zQ zQ zQ zA0 (λW=>?_) ?_
   ·go_simp
   simp only[Act.put,qf,qc,qh,jh,Zl,Zk,Jj,zA,zB,zC];refine Qb (w:=w3) qp (qV [(4,outN w3.heap.size dead.length dead)]) [J,false,J,J,J,J] 5 zQ zQ zQ zQ zQ zQ zQ ?st (Rel.drew _ _) ?walk
   case st=>exact ql (by simp only[List.forall_mem_cons];exact⟨λp=>QA (qip _ _ _ p),λ_ h=>by cases h⟩)
   case walk=>
    intro K hK;dsimp only[qA,List.replicate];refine zC5 ?_;refine qH (outN w3.heap.size dead.length dead) zA0 zA0 (λW hW _=>?_) (λp=>?_)
    ·have hW:Ext w3 W:=hW;refine Qh ?_ ((HI.out W hW).mono λe w' h=>?_)
     ·go_simp
     obtain⟨u,rfl,hu,hB⟩:=h;obtain⟨A',c',rfl,_,_⟩:=qM hu;exact⟨(A',c'),rfl,⟨ZM.of_ownT hu,(ZV.of_own hu).mono hW.size⟩,hB⟩
    obtain⟨B5,d5⟩:=p;refine zC5 ?_;refine qF (hK _ _ λV hV hF=>?_);have hI:ZM (thaw V) V (s B5 dead.length d5) dead/\ZV w3 (s B5 dead.length d5):=(hF 4).1;clear hF hK gP gS HI;have hV:Ext w3 V:=hV;refine zB8 ?_;have rp4:=qb rp3 hV;have ro4:=qb ro3 hV;have kp4:=qa rp4;have fp4:=qd rp4;replace hI:=zH hI;clear rp3 ro3;go_wp2;refine Qt ?_;generalize hw5:y (y (y (y (y (y V _ _) _ _) _ _) _ _) _ _) _ _=w5;obtain⟨rp5,o5,z5,b5⟩:=set_pool rp4 hw5.symm;clear hw5 kp4 fp4;have ro5:=(o5 (w.heap.size+2) zO).trans ro4;have x5:Below w w w5:=b5 (zM _) (x3.trans (Below.mono hV x3.size));have hzV:=hV.size;have wBW:∀k,w.heap.size<k->k<w3.heap.size->w5.heap[k]?=w3.heap[k]?:=λk h1 h2=>(o5 k zO).trans (hV.block k h2);have hNE:=(hns.out w5 (jU λk h1 h2=>wBW k zO h2)).more (show w3.heap.size<=w5.heap.size by omega);have hin5:ZM w5 w5 (s B5 dead.length d5) dead:=by rw[z5];exact hI.out.1.pos hI.out.2 λq u h1 h2 h3=>(World.cell?_of_block (o5 q.block zO)).trans (qaP h3).1
    have HCk:=zH (qkg (D ⟨BB,0,x⟩) nb nb (D ⟨WW,0,x⟩) nw (nw+1) A3' nn c3' A4' nl c4' gen (r:Int) next B5 d5 S' dead w5 hNE hin5);have kp5:=qa rp5;replace wBW:=zH wBW;clear hNE hin5;go_wp2_with fail;refine HCk.out.mono ?_;clear HCk;rintro e w6 ⟨hB6,hQ6⟩;have x6:Below w w w6:=x5.trans (Below.mono hB6 x5.size);have rp6:=qb rp5 hB6;have ro6:=qb ro5 hB6;have ko6:=qa ro6;have fo6:=qd ro6;have h56:=zH (λk (hk:k<w5.heap.size)=>Below.block hB6 k hk);have z56:=hB6.size;clear hB6 rp4 ro4 kp5;rcases hQ6 with⟨rfl,hEN⟩|⟨rfl,vs',refs',nodes',hp',hc',he'⟩
    ·replace hEN:=zH hEN;go_wp2_with fail;exact Ti (b:=w.heap.size+2) rfl rfl rfl (VV ro6 _ _ _ _ _ _ _ _) (hBM.out _ _ (jM x6 zO _ _ _ _ _ _ _ _) (.inl ⟨8,zA1,rfl,.inr ⟨h0.out,.inr ⟨rfl,r,S',hq.out,hEN.out⟩⟩⟩))
    have hok:=zH (⟨refs',nodes',hp',hc',he'⟩:Kl S' (r:Int) next dead vs');have kp6:=qa rp6;clear hp' hc' he';go_wp2_with fail;refine Ti (b:=w.heap.size+2) rfl rfl rfl (VV ro6 _ _ _ _ _ _ _ _) (hBM.out _ _ (jM x6 zO _ _ _ _ _ _ _ _) (.inr ⟨r,S',vs',_,h0.out,hq.out,hok.out,rfl,?_⟩));refine⟨D ⟨BB,0,x⟩,nb,D ⟨WW,0,x⟩,nw+1,A3',c3',A4',c4',B5,d5,?_,λC hC=>?_⟩;rw[hLN.out.1,hLN.out.2.1,hLN.out.2.2.1,hLN.out.2.2.2];rw[hLN.out.1,hLN.out.2.1,hLN.out.2.2.1,hLN.out.2.2.2];rw[size8];have hs:=λ(k:Nat)(hk:k≠w.heap.size+2)=>jY (w:=w6) hk (s (D ⟨BB,0,x⟩) nb nb) (s (D ⟨WW,0,x⟩) nw (nw+1)) (s A3' nn c3') (s A4' nl c4') (F .u32 gen) (F M (r:Int)) (F .u32 next) (s B5 dead.length d5);have q1:=hns.out C λq u h1 h2 h3=>hC q u zO (by rw[size8];omega) ((jz ((hs q.block zO).trans ((h56.out q.block zO).trans (wBW.out q.block zO h2)))).trans h3);have q2:=hI.out.1.pos hI.out.2 (C:=C) λq u h1 h2 h3=>hC q u zO (by rw[size8];omega) ((jz ((hs q.block zO).trans ((h56.out q.block zO).trans (o5 q.block zO)))).trans h3);exact⟨q1.more zO,q2.more zO⟩
set_option maxRecDepth 100000 in
theorem qjl(b lo:Nat)(A1:OA)(n1 c1:Nat)(g c3:Nat)(A4:OA)(c4:Nat)(bs:List (List UInt8))(now last:List UInt8)(hn:now.length=256)(hl:last.length=256)(hn8:now[8]?=D 0)(hl8:last[8]?=D 0)(w:Q)(hlo:lo<=b)(hr:w.heap[b]?=D (E #[s A1 n1 c1,s x 0 0,s g 256 c3,s A4 256 c4] 223))(ho:w.ownsRow lo 5 1 (s g 256 c3) 256 (now.map bv))(hb:Bls w lo (s A1 n1 c1) bs)(ha:Bys w lo (s A4 256 c4) last):Calls prog 165 #[.pointer b,Jc 0 x 0 0] w (λe W=>e=U (O #[F M 8,F M 0])/\Below lo w W/\∃A2 c2,W.heap[b]?=D (E #[s A1 n1 c1,s A2 1 c2,s g 256 c3,s A4 256 c4] 223) /\
   Qi W W (s A1 n1 c1) (s A2 1 c2) (s g 256 c3) (s A4 256 c4) ⟨bs,[(8,Zm (QF 0 []))],now.set 8 1,last⟩):=by
 have hkn:=(ZT ho).1 8 zO;rw[hn8]at hkn;replace hkn:w.cell? ⟨g,8,x⟩=D (F .u8 0):=hkn;obtain⟨_,hfn,hlg,hzg⟩:=ZT ho;obtain⟨A,c,e,hac,_,har⟩:=ha;rw[hl]at e hac har;simp only[Value.slice.injEq,true_and]at e;obtain⟨rfl,rfl⟩:=e;obtain⟨b4,o4,rfl,hb4,hc4⟩:=har.2 zO;have hk4:w.cell? (b4,o4+8)=D (F .u8 0):=hc4 8 (bv 0) (by rw[List.getElem?_map,hl8];rfl);have zb:b<w:=(zG.1 hr).1;have hW:=zH (λW=>qdd 0 x 0 0 [] W (Its.nil W W.heap.size) zA1 (λx hx=>by cases hx));go_enter func165,ntmps165;go_wp2_with fail;generalize hw1:I _ _=w1;have x1:Ext w w1:=hw1▸zN _ _;have p1:w1.heap[w.heap.size]?=D (E #[F M 0,s x 0 0] 113):=hw1▸zI _ _ _ rfl;clear hw1;refine(hW.out w1).mono ?_;rintro e w2 ⟨u,rfl,⟨u,rfl,⟨A0,c0,rfl,hu,hf⟩⟩,hB⟩;have hB:Ext w1 w2:=hB;have x2:Ext w w2:=x1.trans hB;have p2:=qb p1 hB;have r2:=qb hr x2;have o2:=zX ho x2;have kp:=qa p2;have kr:=qa r2;have fr:=qd r2;have kn:w2.cell? (g,8)=D (F .u8 0):=Ext.cell x2 hkn;have z2:=x2.size;have z1:w.heap.size<w1:=(zG.1 p1).1;have kl:w2.cell? (b4,o4+8)=D (F .u8 0):=Ext.cell x2 hk4;clear hB x1 p1 hkn hk4 hc4 hW;go_wp2_with fail;go_loopw [21] (λi wr=>i=F M 0/\wr=w2) (λ_ _=>0)
 case atStart=>exact⟨rfl,rfl⟩
 case round=>
  obtain⟨rfl,hw⟩:=hrel;replace hw:=hw.symm;subst hw;go_wp2_with fail;go_loopw [4] (λi W=>i=F M 8/\Ext w2 W) (λ_ _=>0)
  case atStart=>exact⟨rfl,Ext.refl _⟩
  case round=>
   obtain⟨rfl,hE⟩:=hrel;have g1:∀W,qp.r wr W->∀i,W.cell? ⟨b,i,x⟩=#[s A1 n1 c1,s x 0 0,s g 256 c3,s (b4,o4) 256 c4][i]?:=λW h=>qa (qb (qb r2 hE) h);have g2:∀W,qp.r wr W->W.cell? (g,8)=D (F .u8 0):=λW h=>Ext.cell (hE.trans h) kn;have g3:∀W,qp.r wr W->W.cell? (b4,o4+8)=D (F .u8 0):=λW h=>Ext.cell (hE.trans h) kl;clear kp kr fr kn kl;go_wp2_with fail;refine qw zQ ?_;refine Qb (w:=wr) qp (qV []) [J,J,J,J,J,J,J,J,J,J,J,J,J,J,J,J,J,J,J,J,J,J] 0 zQ zQ zQ zQ zQ zQ zQ ?st (Rel.drew _ _) ?walk
   case st=>exact ql (λ_ h=>by cases h)
   case walk=>
    intro K hK;dsimp only[qA];refine zC6 ?_;refine qF (hK _ _ λW hW hF=>?_);have hW:Ext wr W:=hW;have x3:Ext w2 W:=hE.trans hW;clear hF hK g1 g2 g3 hE hW;refine zB5 ?_;have r3:=qb r2 x3;have o3:=zX o2 x3;have kr:=qa r3;have fr:=qd r3;obtain⟨i0,hi,hz0,hz1,hz2⟩:=info_parts Tryz.info_write;have z3:=x3.size;have hu3:=(hu.below x3).more x3.size;have xw3:Ext w W:=x2.trans x3;have x2z:=x2.size;clear r2 o2 x2 x3 hu p2;replace⟨o3,hu3⟩:=zH2 o3 hu3;go_wp2;refine Qt ?_;go_wp2_with (at_builtin;refine Qa ?_);refine Qs.go (ZB _ rfl (.tmp 78) (.tmp 82) 23 rfl W.heap.size 142 i0 (.agg #[F M 0,s x 0 0]) 2 32 underlying23 hi hz0 hz1 hz2 rfl zA1 _ 0 [] rfl (World.ownsRow_nil _ _ _ _) #[F M 8,s A0 128 c0] rfl rfl zA8 zO zA1 (zM _) ?_);intro v4 w4 own4 _ hB4 _;have hB4:Ext W w4:=hB4;simp only[Nat.zero_add,List.nil_append]at own4;obtain⟨A2,c2,rfl,hc21,hc22⟩:=qM own4;have r4:=qb r3 hB4;have kr4:=qa r4;have fr4:=qd r4;have o4':=zX o3.out hB4;have z5:=hB4.size;have kg:=(ZT o4').1 8 zO;have fg:=(ZT o4').2.1 8;have hlt:=zl own4;have hbg:g≠b:=by
     intro e;subst e;obtain⟨_,h2⟩:=o4';rcases h2 with⟨e,_⟩|⟨g',cap,cur,e,_,hr',_⟩
     cases e;cases e;exact qP hr' r4 zA1 rfl
    have z6:b<w2:=by have:=x2z;omega
    replace⟨own4,o4'⟩:=zH2 own4 o4';have hf1:=hf.mono (lo':=w.heap.size) zO;clear r3 kr fr hc21 hc22;go_wp2_with fail;have st:∀q,q≠b->q≠g->((w4.setCell (b,1) (s A2 1 c2)).setCell (g,8) (F .u8 1)).heap[q]?=w4.heap[q]?:=λq h1 h2=>(zJ _ _ _ _ h2).trans (zJ _ _ _ _ h1);have xw4:Ext w w4:=xw3.trans hB4;have hB:Below lo w ((w4.setCell (b,1) (s A2 1 c2)).setCell (g,8) (F .u8 1)):=Below.setCell (Below.setCell (Below.mono xw4 zO) (p:=⟨b,1,x⟩) hlo _) (p:=⟨g,8,x⟩) hlg _;have rf:=qj r4 1 (s A2 1 c2);have rf2:=(zJ (w4.setCell ⟨b,1,x⟩ (s A2 1 c2)) ⟨g,8,x⟩ (F .u8 1) b (λe=>hbg e.symm)).trans rf;have of4:=qcb (qiq (k:=1) (v:=s A2 1 c2) o4'.out hbg) (k:=8) zO 1;have hz:((w4.setCell (b,1) (s A2 1 c2)).setCell (g,8) (F .u8 1)).heap.size=w4:=zA3;have ow:=jb (w':=(w4.setCell ⟨b,1,x⟩ (s A2 1 c2)).setCell ⟨g,8,x⟩ (F .u8 1)) own4.out (λq h1 _=>st q zO zO);have hu4:Bys ((w4.setCell (b,1) (s A2 1 c2)).setCell (g,8) (F .u8 1)) w4 (s A0 128 c0) (Zm (QF 0 [])):=(((hu3.out.below hB4).more hB4.size).setCell hf1 (p:=⟨b,1,x⟩) zb _).setCell hf1 (p:=⟨g,8,x⟩) hzg _;have hsl:(Zm (QF 0 [])).length=128:=Vx zA1;refine bodyPost_ret (v:=O #[F M 8,F M 0]) (by simp[results,results165,go_sem]) rfl ⟨rfl,hB,A2,c2,rf2,⟨?_,?_,?_,?_⟩⟩;exact(hb.below hB).more zO;rw[hz];refine⟨[((8,Zm (QF 0 [])),s A0 128 c0)],rfl,?_,?_⟩;obtain⟨A',c',e,q1,q2⟩:=qM ow;cases e;exact⟨A2,c2,rfl,q1,q2,by have:=Rd.of_own ow;rw[hz]at this;exact this⟩;intro p hp;simp only[List.mem_singleton]at hp;subst hp;exact⟨⟨A0,c0,by rw[hsl]⟩,hu4⟩;exact Bys.of_own of4;have e1:Bys w lo (s (b4,o4) 256 c4) last:=⟨_,c4,by rw[hl],zO,by assumption,by rw[hl];exact har⟩
    exact(e1.below hB).more zO
def jQ(n:Nat):List UInt8:=List.replicate n 0
theorem ZU(n:Nat):(jQ n).length=n:=by simp[jQ]
theorem qkC(n:Nat):madeCells #[F .u8 0] n=((jQ n).map bv).toArray:=by apply Array.ext_getElem?;intro i;unfold madeCells jQ;rw[Array.getElem?_map,Array.getElem?_range,List.getElem?_toArray,List.getElem?_map,List.getElem?_replicate];by_cases h:i<n;rw[if_pos h,if_pos h];simp[Nat.mod_one,bv];rw[if_neg h,if_neg h];rfl
theorem qlp(hn:n<1000000)(w:Q):(Instr.makeSlice 26 (n:Int) (F M (n:Int))).run prog w=.ok (s w n n) (w.alloc (E ((jQ n).map bv).toArray 5)):=by obtain⟨i0,hi,hz0,hz1,hz2⟩:=info_parts Tryz.info_u8;have h:=run_make (P:=prog) w 26 5 i0 _ underlying26 hi hz0 M M (n:Int) (n:Int) zO zO (by rw[hz2];omega) zO;rw[hz1,Int.toNat_natCast,Nat.mul_one]at h;rw[<-qkC];exact h
theorem qhs(w:Q):Calls prog 186 #[] w (zv (λu W=>u=s w 256 256/\W.heap[w.heap.size]?=D (E ((jQ 256).map bv).toArray 5 (0,0))) w):=by have hmk:∀w,(Instr.makeSlice 26 (F M 256) (F M 256)).run prog w=.ok (s (D ⟨w.heap.size,0,x⟩) 256 256) (w.alloc (E ((jQ 256).map bv).toArray 5)):=λw=>qlp (n:=256) zO w;go_enter func186,ntmps186;go_wp2;go_ret;exact⟨_,rfl,⟨rfl,zI _ _ _ rfl⟩,zN _ _⟩
structure NewI(w2:Q)(BB:Nat)(i:Value)(wr:Q):Prop where
 ex:∃(k:Nat)(cs:Array Value),k<=256/\i=F M (k:Int)/\Below BB w2 wr/\BB<wr/\wr.heap[BB]?=D (E cs 26)/\cs.size=256 /\
  wr.heap[BB+1]?=D (E #[s BB 256 256,s x 0 0] 25)/\∀i,i<k->∃b,cs[i]?=D (s (D ⟨b,0,x⟩) 128 128)/\BB<b/\wr.heap[b]?=D (E ((jQ 128).map bv).toArray 5 (0,0))
def vZ:List (List UInt8):=List.replicate 256 (jQ 128)
set_option maxRecDepth 100000 in
theorem dnew_any(w:Q):Calls prog 185 #[] w (zv (λu W=>∃BB,u=Te (D ⟨BB,0,x⟩) 256 256 x 0 0/\∀W2:Q,(∀q:Addr,w.heap.size<=q.block->q.block<W->W2.cell? q=W.cell? q)->Bls W2 W (s (D ⟨BB,0,x⟩) 256 256) vZ) w):=by
 have hmk:∀w,(Instr.makeSlice 26 (F M 128) (F M 128)).run prog w=.ok (s (D ⟨w.heap.size,0,x⟩) 128 128) (w.alloc (E ((jQ 128).map bv).toArray 5)):=λw=>qlp (n:=128) zO w;have hmk2:∀w,(Instr.makeSlice 22 (F M 256) (F M 256)).run prog w=.ok (s (D ⟨w.heap.size,0,x⟩) 256 256) (w.alloc (E (madeCells #[s x 0 0] 256) 26)):=λw=>qab (n:=256) zO w;go_enter func185,ntmps185;go_wp2_with fail;generalize hw2:(I (I (I _ _) _) _)=w2;have x2:Ext w w2:=by rw[<-hw2];exact((zN _ _).trans (zN _ _)).trans (zN _ _)
 have q2:w2.heap[w.heap.size]?=D (E #[s x 0 0,s x 0 0] 25):=by rw[<-hw2];exact(zK _ _ _ zA2).trans ((zK _ _ _ zA3).trans (zI _ _ _ rfl))
 have b2:w2.heap[w.heap.size+1]?=D (E (madeCells #[s x 0 0] 256) 26):=by rw[<-hw2];exact(zK _ _ _ zA3).trans (zI _ _ _ zA3)
 have d2:w2.heap[w.heap.size+1+1]?=D (E #[s (w,1,0) 256 256,s x 0 0] 25):=hw2▸zI _ _ _ zA3;have I0:NewI w2 (↑w+1) (F M 0) w2:=⟨0,_,zO,rfl,Below.refl _ _,(zG.1 b2).1,b2,size_madeCells _ _,d2,λi hi=>zO⟩
 have kd:=qa d2;replace I0:=zH I0;clear hw2 hmk2 b2 d2;go_wp2_with fail;go_loopw [8] (λi wr=>NewI w2 (w.heap.size+1) i wr) (λi _=>256-(intOf i).toNat)
 case atStart=>exact I0.out
 case round=>
  obtain⟨k,cs,hk,rfl,hE,hz,hAH,hsz,hd,hcs⟩:=hrel.ex;clear hrel I0 kd;have xw:Below w w wr:=Below.trans x2 (Below.mono hE zO);by_cases hlt:k<256
  ·have hBP:=hlt;have g1:∀W,qp.r wr W->∀i,W.cell? ⟨w.heap.size+1+1,i,x⟩=#[s (w,1,0) 256 256,s x 0 0][i]?:=λW h=>qa (qb hd h);have hwk:=zH (IntWalk.wrap64_in ((k:Int)+1) zO);have hEh:=zH hE;have hcsh:=zH hcs;have wMI:=zH hAH;have hdh:=zH hd;clear hE hcs hAH hd;go_wp2_with fail;refine qw zQ ?_;refine Qb (w:=wr) qp (qV [(3,qbv wr.heap.size 128 128 5 ((jQ 128).map bv).toArray)]) [J,J,J,J,J] 1 zQ zQ zQ zQ zQ zQ zQ ?st (Rel.drew _ _) ?walk
   case st=>exact ql (by simp only[List.forall_mem_cons];exact⟨Xu _ _ _ _ _,λ_ h=>by cases h⟩)
   case walk=>
    intro K hK;dsimp only[qA];refine zC6 ?_;refine qH (qbv wr.heap.size 128 128 5 ((jQ 128).map bv).toArray) zA0 zA0 (λW hW _=>?_) (λ(b:Nat)=>?_)
    ·have hW:Ext wr W:=hW;refine Jg (u:=s (D ⟨W.heap.size,0,x⟩) 128 128) (w':=W.alloc (E ((jQ 128).map bv).toArray 5)) ?_ ⟨W.heap.size,rfl,⟨zI _ _ _ rfl,hW.size⟩,zN _ _⟩;go_simp
    refine zC6 ?_
    first
     |(refine qe (.pointer (D ⟨w.heap.size+1,0+k,x⟩)) zA0 zA0 (λW hW _=>⟨W,?_,Rel.refl _ W⟩) ?_
       ·go_simp;rw[IntWalk.i64_in (k:Int) zO,if_pos zO];simp
       simp only[Act.put,qo,qf,qc,qh,Zd,zA,zB,zC])
     |skip
    refine zC6 ?_;refine qF (hK _ _ λW hW hF=>?_);have hb:W.heap[b]?=D (E ((jQ 128).map bv).toArray 5 (0,0))/\wr.heap.size<=b:=(hF 3).1;have hW:Ext wr W:=hW;clear hF hK g1 hmk;refine zB5 ?_;have rB:=qb wMI.out hW;have kB:=qa rB k;have fB:=qd rB k;rw[Array.getElem?_eq_getElem zO]at kB;have IR:NewI w2 (↑w+1) (F M ((k:Int)+1)) (W.setCell (w,1,k) (s b 128 128)):=⟨k+1,_,zO,rfl,Below.setCell (Below.trans hEh.out (Below.mono hW zO)) (p:=⟨w.heap.size+1,k,x⟩) (zM _) _,by have:=hW.size;simp;omega,qj rB k _,by simpa using hsz,
     (zJ _ _ _ _ (by show _≠w.heap.size+1;omega)).trans (qb hdh.out hW),λi hi=>by
      rw[Array.getElem?_setIfInBounds];by_cases e:k=i;subst e;rw[if_pos rfl,if_pos zO];exact⟨b,rfl,zO,(zJ _ _ _ _ (by show _≠w.heap.size+1;omega)).trans hb.1⟩
      ·rw[if_neg e];obtain⟨b',e1,e2,e3⟩:=hcsh.out i zO;exact⟨b',e1,e2,(zJ _ _ _ _ (by show _≠w.heap.size+1;omega)).trans (qb e3 hW)⟩⟩
    replace IR:=zH IR;generalize cs[k]=u0 at*;clear hb hW rB;go_wp2;refine Qt ?_;go_wp2_with fail;try rw[hwk.out]
    refine⟨IR.out,?_⟩;simp[intOf];omega
  obtain rfl:k=256:=zO;have qq:=(hE.block w.heap.size zO).trans q2;have kq:=qa qq;have fq:=qd qq;have kd:=qa hd;have rf:=qj (qj qq 0 (s (D ⟨w.heap.size+1,0,x⟩) 256 256)) 1 (s x 0 0);have kf:=qa rf;have bf:Below w w ((wr.setCell w (s (w,1,0) 256 256)).setCell (w,1) (s x 0 0)):=Below.setCell (Below.setCell xw (p:=⟨w.heap.size,0,x⟩) (zM _) _) (p:=⟨w.heap.size,1,x⟩) (zM _) _;have DF:∀W2:Q,(∀q:Addr,w.heap.size<=q.block->q.block<((wr.setCell w (s (w,1,0) 256 256)).setCell (w,1) (s x 0 0)).heap.size->W2.cell? q=((wr.setCell w (s (w,1,0) 256 256)).setCell (w,1) (s x 0 0)).cell? q)->Bls W2 ((wr.setCell w (s (w,1,0) 256 256)).setCell (w,1) (s x 0 0)).heap.size (s (w,1,0) 256 256) vZ:=by
   have st:∀b,b≠w.heap.size->((wr.setCell w (s (w,1,0) 256 256)).setCell (w,1) (s x 0 0)).heap[b]?=wr.heap[b]?:=λb hb=>(zJ _ _ _ _ hb).trans (zJ _ _ _ _ hb);generalize y (y wr _ _) _ _=wf at*;intro W2 hk;have rB:=(st (w.heap.size+1) zO).trans hAH;have zB:=(zG.1 rB).1;refine⟨cs.toList,D ⟨w.heap.size+1,0,x⟩,256,by simp[vZ],by simp[vZ],zA7,⟨by simp[vZ,hsz],λ_=>⟨w.heap.size+1,0,rfl,zB,λj u hu=>?_⟩⟩,λi u l hu hl=>?_⟩;rw[hk ⟨w.heap.size+1,0+j,x⟩ (by show w.heap.size<=w.heap.size+1;omega) zB,Nat.zero_add,qa rB];simpa using hu;have hi:i<256:=by have:=(List.getElem?_eq_some_iff.1 hl).1;simpa [vZ]using this
   have e0:cs.toList[i]?=cs[i]?:=zA3;obtain⟨b,e1,e2,e3⟩:=hcs i hi;rw[e0,e1]at hu;cases hu;have hl2:l=jQ 128:=by
    have:vZ[i]?=D (jQ 128):=by unfold vZ;rw[List.getElem?_replicate,if_pos hi]
    rw[this]at hl;cases hl;rfl
   subst hl2;have e4:=(st b zO).trans e3;have zb:=(zG.1 e4).1;refine⟨_,128,by rw[ZU],by rw[ZU];omega,zA7,zA3,λ_=>⟨b,0,rfl,zb,λj u hu=>?_⟩⟩;rw[hk ⟨b,0+j,x⟩ (by show w.heap.size<=b;omega) zb,Nat.zero_add,qa e4];simpa using hu
  replace⟨kf,bf,DF⟩:=zH3 kf bf DF;clear rf hE hAH hcs hd;go_wp2;have kf:=kf.out;exact bodyPost_ret (v:=Te (D ⟨w.heap.size+1,0,x⟩) 256 256 x 0 0) (by simp[results,results185,go_sem,kf]) rfl ⟨_,rfl,⟨w.heap.size+1,rfl,DF.out⟩,bf.out⟩
def newS:Sto:=⟨vZ,[],jQ 256,jQ 256⟩
def Qf:Sto:=⟨vZ,[(8,Zm (QF 0 []))],(jQ 256).set 8 1,jQ 256⟩
theorem newS_may:qk newS=J:=by decide +kernel
theorem Wrs.nil(w:Q)(B:Nat):Wrs w B (s x 0 0) []:=⟨[],rfl,⟨x,0,rfl,zM _,by simp[maxLen],Rd.none_⟩,λp h=>by cases h⟩
set_option maxRecDepth 100000 in
theorem vP:Gm Qf:=by
 have h1:vZ.length=256:=by unfold vZ;rw[List.length_replicate]
 have h2:∀l∈vZ,l.length<1000000:=λl hl=>by unfold vZ at hl;rw[List.mem_replicate]at hl;rw[hl.2,ZU];omega
 have h3:(Zm (QF 0 [])).length=128:=Vx zA1;refine⟨by show vZ.length<_;omega,by show 1<1000000;omega,h2,λp hp=>?_,by show((jQ 256).set 8 1).length<_;rw[List.length_set,ZU];omega,by show(jQ 256).length<_;rw[ZU];omega⟩;have:p=(8,Zm (QF 0 [])):=by simpa [Qf]using hp
 rw[this];show(Zm (QF 0 [])).length<_;omega
set_option maxRecDepth 100000 in
theorem rnew_any(w:Q):Calls prog 144 #[] w (zv (λu W=>∃B n1 n2,u=Qp (D ⟨B,0,x⟩) 256 256 x 0 0 (D ⟨n1,0,x⟩) 256 256 (D ⟨n2,0,x⟩) 256 256/\Qi W W (s (D ⟨B,0,x⟩) 256 256) (s x 0 0) (s (D ⟨n1,0,x⟩) 256 256) (s (D ⟨n2,0,x⟩) 256 256) newS) w):=by
 go_enter func144,ntmps144;go_wp2_with fail;generalize hw1:I _ _=w1;have x1:Ext w w1:=hw1▸zN _ _;have q1:w1.heap[w.heap.size]?=D (E #[s x 0 0,s x 0 0,s x 0 0,s x 0 0] 28):=hw1▸zI _ _ _ zA3;have z0:w1.heap.size=w+1:=by rw[<-hw1];simp
 clear hw1;refine(dnew_any w1).mono ?_;rintro e w2 ⟨u,rfl,⟨B,rfl,hbs⟩,hB⟩;have hB:Ext w1 w2:=hB;have x2:=x1.trans hB;have q2:=qb q1 hB;have hx12:=hB;clear q1 hB x1;go_wp2_with fail;refine(qhs w2).mono ?_;rintro e w3 ⟨u,rfl,⟨rfl,hn1⟩,hB⟩;have hB3:Ext w2 w3:=hB;have x3:=x2.trans hB3;have q3:=qb q2 hB3;clear q2 hB;go_wp2_with fail;refine(qhs w3).mono ?_;rintro e w4 ⟨u,rfl,⟨rfl,hn2⟩,hB⟩;have hB4:Ext w3 w4:=hB;have x4:=x3.trans hB4;have q4:=qb q3 hB4;have hn14:=qb hn1 hB4;have kq:=qa q4;have fq:=qd q4;have z23:=hB3.size;have z34:=hB4.size;have z2':=hx12.size;have P5:∀wx:Q,wx=KC w4 w.heap.size 0 [s (D ⟨B,0,x⟩) 256 256,s x 0 0,s (D ⟨w2.heap.size,0,x⟩) 256 256,s (D ⟨w3.heap.size,0,x⟩) 256 256] ->
   wx.heap[w.heap.size]?=D (E #[s (D ⟨B,0,x⟩) 256 256,s x 0 0,s (D ⟨w2.heap.size,0,x⟩) 256 256,s (D ⟨w3.heap.size,0,x⟩) 256 256] 28 (0,0))/\Below w.heap.size w wx /\
    Qi wx wx.heap.size (s (D ⟨B,0,x⟩) 256 256) (s x 0 0) (s (D ⟨w2.heap.size,0,x⟩) 256 256) (s (D ⟨w3.heap.size,0,x⟩) 256 256) newS:=λwx e=>by
  have hk:∀b,b≠w.heap.size->wx.heap[b]?=w4.heap[b]?:=λb h1=>by rw[e];exact Ja h1 _ _ _
  have hs:wx.heap.size=w4:=by rw[e,JK]
  have h1:=Bys.lit ((hk _ zO).trans hn14) (by rw[ZU];unfold maxLen;omega);have h2:=Bys.lit ((hk _ zO).trans hn2) (by rw[ZU];unfold maxLen;omega);rw[ZU]at h1 h2;refine⟨by rw[e];refine(vA _ _ _ _ q4).trans ?_;simp[TK],by rw[e];exact jZ (zM _) _ _ _ x4,?_,Wrs.nil _ _,h1,h2⟩;refine(hbs wx λq h1 h2=>?_).more zO;refine(World.cell?_of_block (hk q.block zO)).trans ((World.cell?_of_block (hB4.block q.block zO)).trans (World.cell?_of_block (hB3.block q.block h2)))
 replace P5:=zH P5;clear hbs hn1 hn2 hn14 q4 q3;go_wp2_with fail;have P5:=P5.out;generalize hw5:y (y (y (y w4 _ _) _ _) _ _) _ _=w5;obtain⟨r5,x5,h5⟩:=P5 w5 hw5.symm;clear P5 hw5;have k5:=qa r5;exact bodyPost_ret (v:=Qp (D ⟨B,0,x⟩) 256 256 x 0 0 (D ⟨w2.heap.size,0,x⟩) 256 256 (D ⟨w3.heap.size,0,x⟩) 256 256) (by simp[results,results144,go_sem,k5]) rfl ⟨_,rfl,⟨B,_,_,rfl,h5⟩,x5⟩
set_option maxRecDepth 100000 in
theorem qjx(A1 c1 A3 c3 A4 c4)(w:Q)(h:Qi w w (s A1 256 c1) (s x 0 0) (s A3 256 c3) (s A4 256 c4) newS):Calls prog 155 #[Qp A1 256 c1 x 0 0 A3 256 c3 A4 256 c4,Jc 0 x 0 0] w (zv (λu W=>∃v,u=O #[v,F M 8,F M 0]/\zm w Qf v W) w):=by
 have HC:=zH (λW (hW:Ext w W)=>vz A1 256 c1 x 0 0 A3 256 c3 A4 256 c4 newS W (h.ext hW));rw[newS_may,show JQ J=0 from rfl]at HC;have HN:=zH (λW=>Kv 0 x 0 0 [] W (Its.nil W W.heap.size));rw[show Qq 0 []=J from rfl,show JQ J=0 from rfl]at HN;have HO:=zH (λW (hW:Ext w W)=>qdf A1 256 c1 x 0 0 A3 256 c3 A4 256 c4 newS (by show(jQ 256).length<_;rw[ZU];omega) W (h.ext hW));replace h:=zH h;go_enter func155,ntmps155;go_wp2_with fail;generalize hw1:I (I (I _ _) _) _=w1;have x1:Ext w w1:=by rw[<-hw1];exact((zN _ _).trans (zN _ _)).trans (zN _ _)
 have r1:w1.heap[w.heap.size]?=D (E #[s A1 256 c1,s x 0 0,s A3 256 c3,s A4 256 c4] 28):=by rw[<-hw1];exact(zK _ _ _ zA2).trans ((zK _ _ _ zA3).trans (zI _ _ _ rfl))
 have p1:w1.heap[w.heap.size+1]?=D (E #[F M 0,s x 0 0] 113):=by rw[<-hw1];exact(zK _ _ _ zA3).trans (zI _ _ _ zA3)
 have q1:w1.heap[w.heap.size+1+1]?=D (E #[s x 0 0,s x 0 0,s x 0 0,s x 0 0] 28):=hw1▸zI _ _ _ zA3;clear hw1;refine(HC.out w1 x1).mono ?_;rintro e w2 ⟨rfl,hB⟩;have x2:Ext w w2:=x1.trans hB;have r2:=qb r1 hB;have p2:=qb p1 hB;have q2:=qb q1 hB;have kp:=qa p2;clear r1 p1 q1 x1 hB HC;go_wp2_with fail;refine(HN.out w2).mono ?_;rintro e w3 ⟨rfl,hB⟩;have x3:Ext w w3:=x2.trans hB;have r3:=qb r2 hB;have p3:=qb p2 hB;have q3:=qb q2 hB;have kr:=qa r3;clear r2 p2 q2 x2 hB HN kp;go_wp2_with fail;refine(HO.out w3 x3).mono ?_;rintro e w4 ⟨u,rfl,⟨b,B3,d3,rfl,hlo,hAH,hAD⟩,hB⟩;have hB4:Ext w3 w4:=hB;have x4:Ext w w4:=x3.trans hB4;have p4:=qb p3 hB4;have q4:=qb q3 hB4;have kp:=qa p4;have z3:=x3.size;obtain⟨g,rfl⟩:∃g,B3=D ⟨g,0,x⟩:=by
  obtain⟨h1,h2⟩:=hAD;rcases h2 with⟨_,h0⟩|⟨g,_,_,e,_⟩
  cases h0;cases e;exact⟨g,rfl⟩
 have hb4:Bls w4 w3 (s A1 256 c1) vZ:=(h.out.bs.below x4).more z3;have q3z:=q3;have ha4:Bys w4 w3 (s A4 256 c4) (jQ 256):=(h.out.last.below x4).more z3;have HM:=qjl b w3.heap.size A1 256 c1 g d3 A4 c4 vZ (jQ 256) (jQ 256) (ZU _) (ZU _) zA1 zA1 w4 hlo hAH hAD hb4 ha4;replace HM:=zH HM;clear r3 p3 q3 hB kr hb4 ha4 hAD hAH HO;go_wp2_with fail;refine HM.out.mono ?_;rintro e w5 ⟨rfl,hB5,A2,c2,hPG,hS5⟩;have x5:Below w w w5:=Below.trans x4 (Below.mono hB5 z3);have z34:=hB4.size;have zq:=(zG.1 q3z).1;have q5:=(hB5.block (w.heap.size+1+1) zq).trans q4;have HT:=zH (Ko b A1 256 c1 A2 1 c2 (D ⟨g,0,x⟩) 256 d3 A4 256 c4 Qf vP w5 hPG hS5);clear HM hPG hS5 kp p4 q4;go_wp2_with fail;refine HT.out.mono ?_;rintro e w6 ⟨u,rfl,hT,hB⟩;have hB6:Ext w5 w6:=hB;have x6:Below w w w6:=Below.trans x5 (Below.mono hB6 x5.size);have q6:=qb q5 hB6;have kq:=qa q6;have fq:=qd q6;have z45:=hB5.size;obtain⟨BB,WW,gg,B3,e3,B4,e4,rfl,hD,hN,hL⟩:=hT;have P5:∀wx:Q,wx=KC w6 (w.heap.size+1+1) 0 [s (D ⟨BB,0,x⟩) Qf.bs.length Qf.bs.length,s (D ⟨WW,0,x⟩) Qf.ws.length (Qf.ws.length+1),s B3 Qf.now.length e3,s B4 Qf.last.length e4] ->
   wx.heap[w.heap.size+1+1]?=D (E #[s (D ⟨BB,0,x⟩) Qf.bs.length Qf.bs.length,s (D ⟨WW,0,x⟩) Qf.ws.length (Qf.ws.length+1),s B3 Qf.now.length e3,s B4 Qf.last.length e4] 28 (0,0))/\Below w.heap.size w wx /\
    zm w.heap.size Qf (Qp (D ⟨BB,0,x⟩) Qf.bs.length Qf.bs.length (D ⟨WW,0,x⟩) Qf.ws.length (Qf.ws.length+1) B3 Qf.now.length e3 B4 Qf.last.length e4) wx:=λwx e=>by
  have hk:∀b,w5.heap.size<=b->b<w6.heap.size->wx.heap[b]?=w6.heap[b]?:=λb h1 _=>by rw[e];exact Ja zO _ _ _
  have hs:w6.heap.size<=wx:=by rw[e,JK];exact zM _
  refine⟨by rw[e];refine(vA _ _ _ _ q6).trans ?_;simp[TK],by rw[e];exact jZ zO _ _ _ x6,BB,WW,gg,B3,e3,B4,e4,rfl,hD.keep x5.size hs hk,QM (jb hN hk) x5.size,QM (jb hL hk) x5.size⟩
 replace P5:=zH P5;clear hD hN hL q6 hB q5;go_wp2_with fail;have P5:=P5.out;generalize hw5:y (y (y (y w6 _ _) _ _) _ _) _ _=w7;obtain⟨r5,x7,h5⟩:=P5 w7 hw5.symm;clear P5 hw5;have k5:=qa r5;exact bodyPost_ret (v:=O #[Qp (D ⟨BB,0,x⟩) Qf.bs.length Qf.bs.length (D ⟨WW,0,x⟩) Qf.ws.length (Qf.ws.length+1) B3 Qf.now.length e3 B4 Qf.last.length e4,F M 8,F M 0]) (by simp[results,results155,go_sem,k5]) rfl ⟨_,rfl,⟨_,rfl,h5⟩,x7⟩
def qbU(lo:Nat)(u:Value)(W:Q):Prop:=∃BB WW g A3 c3 A4 c4,u=.agg (qQ (s (D ⟨BB,0,x⟩) 256 256) (s (D ⟨WW,0,x⟩) 1 2) (s A3 256 c3) (s A4 256 c4) 0 8 1 (s x 0 0))/\vD lo Qf.bs Qf.ws BB WW g W /\
 W.ownsRow lo 5 1 (s A3 256 c3) 256 (Qf.now.map bv)/\W.ownsRow lo 5 1 (s A4 256 c4) 256 (Qf.last.map bv)
theorem Tf:Qf.bs.length=256/\Qf.ws.length=1/\Qf.now.length=256/\Qf.last.length=256:=by refine⟨?_,rfl,?_,ZU _⟩;show vZ.length=256;unfold vZ;rw[List.length_replicate];show((jQ 256).set 8 1).length=256;rw[List.length_set,ZU]
theorem qbU.sto(h:qbU lo u W):∃A1 c1 A2 c2 A3 c3 A4 c4,u=.agg (qQ (s A1 256 c1) (s A2 1 c2) (s A3 256 c3) (s A4 256 c4) 0 8 1 (s x 0 0))/\Qi W W (s A1 256 c1) (s A2 1 c2) (s A3 256 c3) (s A4 256 c4) Qf:=by obtain⟨BB,WW,g,A3,c3,A4,c4,e,hD,hN,hL⟩:=h;obtain⟨l1,l2,l3,l4⟩:=Tf;obtain⟨k1,k2⟩:=hD.reads vP.bs vP.ws vP.be vP.we W (λ_ _ _=>rfl);rw[l1]at k1;rw[l2]at k2;exact⟨_,_,_,_,A3,c3,A4,c4,e,k1,k2,Bys.of_own hN,Bys.of_own hL⟩
set_option maxRecDepth 100000 in
theorem qmv(A1 c1 A3 c3 A4 c4)(w:Q)(h:Qi w w (s A1 256 c1) (s x 0 0) (s A3 256 c3) (s A4 256 c4) newS):Calls prog 102 #[Qp A1 256 c1 x 0 0 A3 256 c3 A4 256 c4] w (zv (λu W=>∃v,u=O #[v,F M 8,F M 0]/\zm w Qf v W) w):=by
 have HM:=zH (λW (hW:Ext w W)=>qjx A1 c1 A3 c3 A4 c4 W (h.ext hW));clear h;go_enter func102,ntmps102;go_wp2_with fail;generalize hw1:I (I _ _) _=w1;have x1:Ext w w1:=by rw[<-hw1];exact(zN _ _).trans (zN _ _)
 have q1:w1.heap[w.heap.size+1]?=D (E #[s x 0 0,s x 0 0,s x 0 0,s x 0 0] 28):=hw1▸zI _ _ _ zA3;clear hw1;refine(HM.out w1 x1).mono ?_;rintro e w6 ⟨u,rfl,⟨v,rfl,hT⟩,hB⟩;have hB6:Ext w1 w6:=hB;have x6:Below w w w6:=x1.trans hB6;have q6:=qb q1 hB6;have kq:=qa q6;have fq:=qd q6;have z1:=(zG.1 q1).1;obtain⟨BB,WW,gg,B3,e3,B4,e4,rfl,hD,hN,hL⟩:=hT;have P5:∀wx:Q,wx=KC w6 (w.heap.size+1) 0 [s (D ⟨BB,0,x⟩) Qf.bs.length Qf.bs.length,s (D ⟨WW,0,x⟩) Qf.ws.length (Qf.ws.length+1),s B3 Qf.now.length e3,s B4 Qf.last.length e4] ->
   wx.heap[w.heap.size+1]?=D (E #[s (D ⟨BB,0,x⟩) Qf.bs.length Qf.bs.length,s (D ⟨WW,0,x⟩) Qf.ws.length (Qf.ws.length+1),s B3 Qf.now.length e3,s B4 Qf.last.length e4] 28 (0,0))/\Below w.heap.size w wx /\
    zm w.heap.size Qf (Qp (D ⟨BB,0,x⟩) Qf.bs.length Qf.bs.length (D ⟨WW,0,x⟩) Qf.ws.length (Qf.ws.length+1) B3 Qf.now.length e3 B4 Qf.last.length e4) wx:=λwx e=>by
  have hk:∀b,w1.heap.size<=b->b<w6.heap.size->wx.heap[b]?=w6.heap[b]?:=λb h1 _=>by rw[e];exact Ja zO _ _ _
  have hs:w6.heap.size<=wx:=by rw[e,JK];exact zM _
  refine⟨by rw[e];refine(vA _ _ _ _ q6).trans ?_;simp[TK],by rw[e];exact jZ zO _ _ _ x6,BB,WW,gg,B3,e3,B4,e4,rfl,hD.keep x1.size hs hk,QM (jb hN hk) x1.size,QM (jb hL hk) x1.size⟩
 replace P5:=zH P5;clear hD hN hL q6 hB q1;go_wp2_with fail;have P5:=P5.out;generalize hw5:y (y (y (y w6 _ _) _ _) _ _) _ _=w7;obtain⟨r5,x7,h5⟩:=P5 w7 hw5.symm;clear P5 hw5;have k5:=qa r5;exact bodyPost_ret (v:=O #[Qp (D ⟨BB,0,x⟩) Qf.bs.length Qf.bs.length (D ⟨WW,0,x⟩) Qf.ws.length (Qf.ws.length+1) B3 Qf.now.length e3 B4 Qf.last.length e4,F M 8,F M 0]) (by simp[results,results102,go_sem,k5]) rfl ⟨_,rfl,⟨_,rfl,h5⟩,x7⟩
set_option maxRecDepth 100000 in
theorem fnew_any(w:Q):Calls prog 86 #[] w (zv (qbU w) w):=by
 obtain⟨l1,l2,l3,l4⟩:=Tf;go_enter func86,ntmps86;go_wp2_with fail;generalize hw1:I _ _=w1;have x1:Ext w w1:=hw1▸zN _ _;have q1:w1.heap[w.heap.size]?=D (E (qQ (s x 0 0) (s x 0 0) (s x 0 0) (s x 0 0) 0 0 0 (s x 0 0)) 32 (0,0)):=hw1▸zI _ _ _ zA3;clear hw1;refine(rnew_any w1).mono ?_;rintro e w2 ⟨u,rfl,⟨B,n1,n2,rfl,hS⟩,hB⟩;have hB2:Ext w1 w2:=hB;have x2:Ext w w2:=x1.trans hB2;have q2:=qb q1 hB2;have z1:=(zG.1 q1).1;have z12:=hB2.size;clear hB q1;have HP:=zH (qmv _ _ _ _ _ _ w2 hS);clear hS;go_wp2_with fail;refine HP.out.mono ?_;rintro e w6 ⟨u,rfl,⟨v,rfl,hT⟩,hB⟩;have hB6:Ext w2 w6:=hB;have x6:Ext w w6:=x2.trans hB6;have q6:=qb q2 hB6;obtain⟨BB,WW,gg,B3,e3,B4,e4,rfl,hD,hN,hL⟩:=hT;rw[l1,l2,l3,l4];rw[l3]at hN;rw[l4]at hL;clear q2 hB HP;have kq:=qa q6;have fq:=qd q6;have zq:=(zG.1 q6).1;have P5:∀wx:Q,wx=KC w6 w.heap.size 0 [s (D ⟨BB,0,x⟩) 256 256,s (D ⟨WW,0,x⟩) 1 2,s B3 256 e3,s B4 256 e4,F .u32 0,F M 8,F .u32 1,s x 0 0]->∀o:Obj,
   (wx.alloc o).heap[w.heap.size]?=D (E (qQ (s (D ⟨BB,0,x⟩) 256 256) (s (D ⟨WW,0,x⟩) 1 2) (s B3 256 e3) (s B4 256 e4) 0 8 1 (s x 0 0)) 32 (0,0))/\Below w.heap.size w (wx.alloc o) /\
    qbU w.heap.size (.agg (qQ (s (D ⟨BB,0,x⟩) 256 256) (s (D ⟨WW,0,x⟩) 1 2) (s B3 256 e3) (s B4 256 e4) 0 8 1 (s x 0 0))) (wx.alloc o):=λwx e o=>by
  have hs:wx.heap.size=w6:=by rw[e,JK]
  have hk:∀b,w2.heap.size<=b->b<w6.heap.size->(wx.alloc o).heap[b]?=w6.heap[b]?:=λb h1 h2=>(zK _ _ _ zO).trans (by rw[e];exact Ja zO _ _ _);have hs2:w6.heap.size<=(wx.alloc o).heap.size:=zA2;refine⟨(zK _ _ _ zO).trans (by rw[e];refine(vA _ _ _ _ q6).trans ?_;simp[TK,qQ]),Below.alloc (by rw[e];exact jZ (zM _) _ _ _ x6) zO _,BB,WW,gg,B3,e3,B4,e4,rfl,hD.keep x2.size hs2 hk,QM (jb hN hk) x2.size,QM (jb hL hk) x2.size⟩
 replace P5:=zH P5;clear hD hN hL q6;go_wp2_with fail;have P5:=P5.out;generalize hw5:y (y (y (y (y (y (y (y w6 _ _) _ _) _ _) _ _) _ _) _ _) _ _) _ _=w7;obtain⟨r5,x7,h5⟩:=P5 w7 hw5.symm (E #[s (D ⟨BB,0,x⟩) 256 256,s (D ⟨WW,0,x⟩) 1 2,s B3 256 e3,s B4 256 e4] 28);clear P5 hw5;have k5:=qa r5;exact bodyPost_ret (v:=.agg (qQ (s (D ⟨BB,0,x⟩) 256 256) (s (D ⟨WW,0,x⟩) 1 2) (s B3 256 e3) (s B4 256 e4) 0 8 1 (s x 0 0))) (by simp[results,results86,go_sem,k5]) rfl ⟨_,rfl,h5,x7⟩
def Xo(S:Sto):Except Int (Nat×Sto):=if qk S=J then Zb S 0 []else .error 8
def MadeQ(lo:Nat)(q:Except Int (Nat×Sto))(u:Value)(W:Q):Prop:=match q with
 |.error e=>u=O #[Qp x 0 0 x 0 0 x 0 0 x 0 0,F M 0,e]
 |.ok (r,S')=>∃v,u=O #[v,(r:Int),F M 0]/\zm lo S' v W
theorem Kk.nil(X:Nat->Prop)(w:Q):Kk X w (s x 0 0) []:=λC _=>Its.nil C _
theorem GK{r:Nat}(h:Xo S=.ok (r,S')):qk S=J/\Zb S 0 []=.ok (r,S')/\qk S'=J/\8<=r/\r<256:=by unfold Xo at h;split at h;rename_i hS;obtain⟨h1,h2,h3,_⟩:=YH (λx hx=>by cases hx) hS h;exact⟨hS,h,h1,h2,h3⟩;cases h
theorem qaw{b:Nat}(h4:a.tmps[4]?.getD undef=.pointer b)(h5:a.tmps[5]?.getD undef=u)(h6:a.tmps[6]?.getD undef=v)(hd:a.defers=[])(hAH:W.heap[b]?=D (E #[x0,x1,x2,x3] 28))(hR:R (U (O #[.agg #[x0,x1,x2,x3],u,v])) W):bodyPost prog Tryz.f155 R .ret a W:=by refine bodyPost_ret (v:=O #[.agg #[x0,x1,x2,x3],u,v]) ?_ hd hR;have k:=qa hAH;simp[results,results155,go_sem,h4,h5,h6,k]
theorem qir{b:Nat}(h4:a.tmps[2]?.getD undef=.pointer b)(h5:a.tmps[3]?.getD undef=u)(h6:a.tmps[4]?.getD undef=v)(hd:a.defers=[])(hAH:W.heap[b]?=D (E #[x0,x1,x2,x3] 28))(hR:R (U (O #[.agg #[x0,x1,x2,x3],u,v])) W):bodyPost prog Tryz.f102 R .ret a W:=by refine bodyPost_ret (v:=O #[.agg #[x0,x1,x2,x3],u,v]) ?_ hd hR;have k:=qa hAH;simp[results,results102,go_sem,h4,h5,h6,k]
set_option maxRecDepth 100000 in
theorem qlS(A1 n1 c1 A2 n2 c2 A3 n3 c3 A4 n4 c4)(S:Sto)(w:Q)(h:Qi w w (s A1 n1 c1) (s A2 n2 c2) (s A3 n3 c3) (s A4 n4 c4) S):Calls prog 155 #[Qp A1 n1 c1 A2 n2 c2 A3 n3 c3 A4 n4 c4,Jc 0 x 0 0] w (zv (MadeQ w (Xo S)) w):=by
 have HC:=zH (λW (hW:Ext w W)=>vz A1 n1 c1 A2 n2 c2 A3 n3 c3 A4 n4 c4 S W (h.ext hW));have HN:=zH (λW=>Kv 0 x 0 0 [] W (Its.nil W W.heap.size));rw[show Qq 0 []=J from rfl,show JQ J=0 from rfl]at HN;have HO:=zH (λ(hS:qk S=J) W (hW:Ext w W)=>qdf A1 n1 c1 A2 n2 c2 A3 n3 c3 A4 n4 c4 S (by have:=(qZ hS).2.2.1;omega) W (h.ext hW));replace h:=zH h;go_enter func155,ntmps155;go_wp2_with fail;generalize hw1:I (I (I _ _) _) _=w1;have x1:Ext w w1:=by rw[<-hw1];exact((zN _ _).trans (zN _ _)).trans (zN _ _)
 have r1:w1.heap[w.heap.size]?=D (E #[s A1 n1 c1,s A2 n2 c2,s A3 n3 c3,s A4 n4 c4] 28):=by rw[<-hw1];exact(zK _ _ _ zA2).trans ((zK _ _ _ zA3).trans (zI _ _ _ rfl))
 have p1:w1.heap[w.heap.size+1]?=D (E #[F M 0,s x 0 0] 113):=by rw[<-hw1];exact(zK _ _ _ zA3).trans (zI _ _ _ zA3)
 have q1:w1.heap[w.heap.size+1+1]?=D (E #[s x 0 0,s x 0 0,s x 0 0,s x 0 0] 28):=hw1▸zI _ _ _ zA3;clear hw1;refine(HC.out w1 x1).mono ?_;rintro e w2 ⟨rfl,hB⟩;have x2:Ext w w2:=x1.trans hB;have r2:=qb r1 hB;have p2:=qb p1 hB;have q2:=qb q1 hB;have kp:=qa p2;have kq:=qa q2;have fq:=qd q2;have zq2:w.heap.size+1+1<w2:=(zG.1 q2).1;clear r1 p1 q1 x1 hB HC;rcases hS:qk S with _|_
 ·have hq:=zH (show Xo S=.error 8 by unfold Xo;rw[hS];rfl);rw[vl rfl];replace hS:=zH hS;go_wp2_with fail;exact qaw (b:=w.heap.size+2) rfl rfl rfl rfl (KO q2 _ _ _ _) ⟨_,rfl,by rw[hq.out];rfl,Zv x2 zO _ _ _ _⟩
 have hq:=zH (show Xo S=Zb S 0 []by unfold Xo;rw[if_pos hS]);rw[vQ rfl];have HOS:=zH (HO.out hS);replace hS:=zH hS;clear HO;go_wp2_with fail;refine(HN.out w2).mono ?_;rintro e w3 ⟨rfl,hB⟩;have x3:Ext w w3:=x2.trans hB;have r3:=qb r2 hB;have p3:=qb p2 hB;have q3:=qb q2 hB;have kr:=qa r3;clear r2 p2 q2 x2 hB HN kp kq fq zq2;go_wp2_with fail;refine(HOS.out w3 x3).mono ?_;rintro e w4 ⟨u,rfl,⟨b,P3,d3,rfl,hlo,hAH,hAD⟩,hB⟩;have hB4:Ext w3 w4:=hB;have x4:Ext w w4:=x3.trans hB4;have p4:=qb p3 hB4;have q4:=qb q3 hB4;have kp:=qa p4;have z3:=x3.size;obtain⟨g,hGK⟩:=Bch.of_on (B:=w.heap.size) z3 hS.out (h.out.below x4) hlo hAH hAD;have HM:=zH (qar (λ_=>False) w.heap.size w3.heap.size b g x S 0 x 0 0 [] (λx hx=>by cases hx) (qZ hS.out).2.1 w4 hGK (Kk.nil _ _));replace hGK:=zH hGK;clear hB hAH hAD r3 p3 q3 kr HOS;go_wp2_with fail;refine HM.out.mono ?_;clear HM;rintro e w5 ⟨hkb,hAP⟩;have nB:∀{q cs ty fr},w4.heap[q]?=D (E cs ty fr)->ty≠223->ty≠5->ty≠142->¬B3 b g x q:=λhr h1 h2 h3=>hGK.out.notB3 hr h1 h2 h3;have q5:=hkb.row q4 (nB q4 zA1 zA1 zA1);have x5:Below w w w5:=Below.trans (B:=w.heap.size) x4 (Below.mono hkb.below z3);have kq:=qa q5;have fq:=qd q5;have zq5:w.heap.size+1+1<w5:=(zG.1 q5).1;clear nB hkb kp p4 q4;rcases hmx:Zb S 0 []with er|⟨f,S'⟩
 ·rw[hmx]at hAP;obtain rfl:=hAP;have hZA:(er != 0)=J:=by rw[bne_iff_ne];exact YG hmx
  replace hmx:=zH hmx;go_wp2_with fail;exact qaw (b:=w.heap.size+2) rfl rfl rfl rfl (KO q5 _ _ _ _) ⟨_,rfl,by rw[hq.out,hmx.out];rfl,Zv x5 zO _ _ _ _⟩
 rw[hmx]at hAP;obtain⟨rfl,k',D',hNk,hND,hbc⟩:=hAP;have hsh:Gm S':=QY (YH (λx hx=>by cases hx) hS.out hmx).1;obtain⟨E1,m1,e1,E2,m2,e2,e3,E4,e4,hrb,hsb⟩:=hbc.sto;have HT:=zH (Ko b E1 m1 e1 E2 m2 e2 (D ⟨g,0,x⟩) 256 e3 E4 256 e4 S' hsh w5 hrb hsb);replace hmx:=zH hmx;clear hbc hrb hsb hsh kq fq hNk hND;go_wp2_with fail;refine HT.out.mono ?_;rintro e w6 ⟨u,rfl,hT,hB⟩;have hB6:Ext w5 w6:=hB;have x6:Below w w w6:=x5.trans (Below.mono hB6 x5.size);have q6:=qb q5 hB6;have kq:=qa q6;have fq:=qd q6;obtain⟨BB,WW,gg,B3,d3',B4,d4,rfl,-⟩:=id hT;replace hT:=zH hT;clear HT hB q5;go_wp2_with fail;refine qaw (b:=w.heap.size+2) rfl rfl rfl rfl (KO q6 _ _ _ _) ⟨_,rfl,?_,Zv x6 zO _ _ _ _⟩;rw[hq.out,hmx.out];exact⟨_,rfl,zm.set4 hT.out zO zO _ _ _ _⟩
set_option maxRecDepth 100000 in
theorem pnew_any(A1 n1 c1 A2 n2 c2 A3 n3 c3 A4 n4 c4)(S:Sto)(w:Q)(h:Qi w w (s A1 n1 c1) (s A2 n2 c2) (s A3 n3 c3) (s A4 n4 c4) S):Calls prog 102 #[Qp A1 n1 c1 A2 n2 c2 A3 n3 c3 A4 n4 c4] w (zv (MadeQ w (Xo S)) w):=by
 have HM:=zH (λW (hW:Ext w W)=>qlS A1 n1 c1 A2 n2 c2 A3 n3 c3 A4 n4 c4 S W (h.ext hW));clear h;go_enter func102,ntmps102;go_wp2_with fail;generalize hw1:I (I _ _) _=w1;have x1:Ext w w1:=by rw[<-hw1];exact(zN _ _).trans (zN _ _)
 have q1:w1.heap[w.heap.size+1]?=D (E #[s x 0 0,s x 0 0,s x 0 0,s x 0 0] 28):=hw1▸zI _ _ _ zA3;clear hw1;refine(HM.out w1 x1).mono ?_;clear HM;rintro e w6 ⟨u,rfl,hu,hB⟩;have hB6:Ext w1 w6:=hB;have x6:Below w w w6:=x1.trans hB6;have q6:=qb q1 hB6;have kq:=qa q6;have fq:=qd q6;have z1:=(zG.1 q1).1;rcases hq:Xo S with er|⟨r,S'⟩
 ·rw[hq]at hu;obtain rfl:u=_:=hu;replace hq:=zH hq;clear hB q1;go_wp2_with fail;exact qir (b:=w.heap.size+1) rfl rfl rfl rfl (KO q6 _ _ _ _) ⟨_,rfl,by rw[hq.out];rfl,Zv x6 zO _ _ _ _⟩
 rw[hq]at hu;obtain⟨v,rfl,hT⟩:=hu;obtain⟨BB,WW,gg,B3,d3',B4,d4,rfl,-⟩:=id hT;replace⟨hT,hq⟩:=zH2 hT hq;clear hB q1;go_wp2_with fail;refine qir (b:=w.heap.size+1) rfl rfl rfl rfl (KO q6 _ _ _ _) ⟨_,rfl,?_,Zv x6 zO _ _ _ _⟩;rw[hq.out];exact⟨_,rfl,zm.set4 hT.out zO zO _ _ _ _⟩
theorem qmJ(S:Sto)(a:Nat)(data:List UInt8):Jm (vI S a data) a=data:=by
 have h:jW (S.ws++[((a:Int),data)]) (a:Int)=data:=by unfold jW;rw[List.reverse_append,List.reverse_singleton,List.singleton_append,List.find?_cons];simp
 unfold Jm vI;simp only;rw[h]
theorem qij{a:Nat}(ha:a<S.now.length)(data:List UInt8):qm (vI S a data) a=QO data:=by
 unfold qm;rw[qmJ];have:(vI S a data).now[a]?=D 1:=by show(S.now.set a 1)[a]?=D 1;rw[List.getElem?_set_self ha]
 rw[this];rfl
theorem qjy:QO (Zm (QF 0 []))=D (0,[]):=by decide +kernel
theorem new_node{r:Nat}(h:Xo S=.ok (r,S')):qm S' r=D (0,[]):=by obtain⟨hS,hm,_,h8,h256⟩:=GK h;obtain⟨t,_,_,_,_,_,_,rfl,ht⟩:=GJ hS hm;rw[qij (by show r<t.length;rw[KF ht];exact h256),qjy]
theorem new_tree{r:Nat}(h:Xo S=.ok (r,S')):okL S' (-1) (r:Int)=J:=by obtain⟨_,_,_,h8,h256⟩:=GK h;unfold okL;rw[if_pos zO,Int.toNat_natCast,new_node h];rfl
def qjc(S:Sto)(root next:Int)(dead:List Int)(w:Q)(e:Ending)(w':Q):Prop:=Below w w w' /\
 ((e=U (O #[s x 0 0,F M 8])/\∀vs,Qy S root next dead vs->∃refs nodes,Qk S (Qo root dead vs) refs nodes/\¬QQ S refs) \/
  ∃vs refs nodes cb ca vv lo,e=U (O #[vv,F M 0])/\w.heap.size<=lo/\Taken S root next dead vs refs nodes lo cb ca vv w')
theorem qeI(h2:a.tmps[2]?.getD undef=u)(h3:a.tmps[3]?.getD undef=v)(hd:a.defers=[])(hR:R (U (O #[u,v])) W):bodyPost prog Tryz.f67 R .ret a W:=by refine bodyPost_ret (v:=O #[u,v]) ?_ hd hR;simp[results,results67,go_sem,h2,h3]
set_option maxRecDepth 100000 in
theorem qlX(A1 n1 c1 A2 n2 c2 A3 n3 c3 A4 n4 c4)(gen root next:Int)(A5 c5)(S:Sto)(dead:List Int)(w:Q)(h:Qi w w (s A1 n1 c1) (s A2 n2 c2) (s A3 n3 c3) (s A4 n4 c4) S)(hd:ZM w w (s A5 dead.length c5) dead):Calls prog 67 #[.agg (qQ (s A1 n1 c1) (s A2 n2 c2) (s A3 n3 c3) (s A4 n4 c4) gen root next (s A5 dead.length c5))] w (qjc S root next dead w):=by
 have HT:=zH (λW (hx:Ext w W)=>YN A1 n1 c1 A2 n2 c2 A3 n3 c3 A4 n4 c4 gen root next A5 c5 S dead W (h.ext hx) (by obtain⟨A,c,e,q1,q2,q3⟩:=hd;exact⟨A,c,e,q1,q2,(q3.below hx).more hx.size⟩));clear h hd;go_enter func67,ntmps67;go_wp2_with fail;generalize hw1:I w _=w1;have x1:Ext w w1:=hw1▸zN _ _;clear hw1;refine(HT.out w1 x1).mono ?_;rintro e w2 ⟨hB,hQ⟩;have x2:Below w w w2:=Ext.trans x1 hB;rcases hQ with⟨rfl,hno⟩|⟨vs,refs,nodes,cb,ca,vv,rfl,hT⟩
 ·have HB:qjc S root next dead w (U (O #[s x 0 0,F M 8])) w2:=⟨x2,.inl ⟨rfl,hno⟩⟩
  replace HB:=zH HB;clear hno hB;go_wp2_with fail;exact qeI rfl rfl rfl HB.out
 have kc:w2.cell? (cb,518)=vv:=by rw[qa hT.row];exact hT.ar.vol
 obtain⟨AV,cV,rfl,-,-⟩:=qM hT.own;have HB:qjc S root next dead w (U (O #[s AV vs.length cV,F M 0])) w2:=⟨x2,.inr ⟨vs,refs,nodes,cb,ca,_,_,rfl,x1.size,hT⟩⟩
 replace HB:=zH HB;clear hT hB;go_wp2_with fail;exact qeI rfl rfl rfl HB.out
end Go.Proofs.YtmeadnlmepcmbaaGreat
