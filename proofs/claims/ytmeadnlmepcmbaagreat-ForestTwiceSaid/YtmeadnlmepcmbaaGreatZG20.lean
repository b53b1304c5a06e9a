/- Lemmas of the proof. -/
import Derived.Test.YtmeadnlmepcmbaaGreatZG19
set_option linter.all false
set_option maxHeartbeats 8000000
open Go.Proofs.Tryz
namespace Go.Proofs.YtmeadnlmepcmbaaGreat
open Go.RowKit
def XZ(v:Vol):It:=⟨1,v.id,0,0,Ql v⟩
theorem qhB{v:Vol}(h:Uw v):QY (XZ v):=by have:=vH v;exact⟨⟨(by decide:(0:Int)<=1),(by decide:(1:Int)<256)⟩,h.1,⟨(by decide:(0:Int)<=0),(by decide:(0:Int)<4294967296)⟩,⟨(by decide:(0:Int)<=0),(by decide:(0:Int)<256)⟩,by show(Ql v).length<=12;omega⟩
def qbe(S:Sto)(root:Int)(v:Vol):Except Int (Nat×Sto):=match qk S root.toNat with
 |none=>.error 8
 |some (lvl,xs)=>GT S lvl.toNat xs root.toNat (XZ v)
def SetQ(S:Sto)(gen root next:Int)(dead:List Int)(v:Vol)(w:World)(e:Ending)(w':World):Prop:=Below w.heap.size w w' /\
 ((e=.returned (.tuple #[qaK,.int .i64 8])/\ZC S root next dead)\/∃vs refs nodes,QR S root next dead vs/\Qz S (QJ root dead vs) refs nodes/\ZS S refs /\
  ((∃er,er≠0/\e=.returned (.tuple #[qaK,.int .i64 er])/\(jJ S next v vs refs=er\/(jJ S next v vs refs=0/\(qbe S root v=.error er\/(er=8/\∃r S',qbe S root v=.ok (r,S')/\ZC S' (r:Int) next dead))))) \/
   ∃r S' vs' u,jJ S next v vs refs=0/\qbe S root v=.ok (r,S')/\jq S' (r:Int) next dead vs'/\e=.returned (.tuple #[u,.int .i64 0])/\Xo w.heap.size S' gen (r:Int) next dead u w'))
def qfi(lo:Nat)(S:Sto)(r:Nat):qZ:=⟨(Nat×Nat)×(OA×Nat)×(OA×Nat),λp=>.tuple #[Qp (some ⟨p.1.1,0,none⟩) S.bs.length S.bs.length (some ⟨p.1.2,0,none⟩) S.ws.length (S.ws.length+1) p.2.1.1 S.now.length p.2.1.2 p.2.2.1 S.last.length p.2.2.2,.int .i64 (r:Int),.int .i64 0],
 λp W=>zp lo S (Qp (some ⟨p.1.1,0,none⟩) S.bs.length S.bs.length (some ⟨p.1.2,0,none⟩) S.ws.length (S.ws.length+1) p.2.1.1 S.now.length p.2.1.2 p.2.2.1 S.last.length p.2.2.2) W⟩
theorem Ze(lo:Nat)(S:Sto)(r b c:Nat)(A3:OA)(c3:Nat)(A4:OA)(c4:Nat):(qfi lo S r).f ((b,c),(A3,c3),(A4,c4))=.tuple #[Qp (some ⟨b,0,none⟩) S.bs.length S.bs.length (some ⟨c,0,none⟩) S.ws.length (S.ws.length+1) A3 S.now.length c3 A4 S.last.length c4,.int .i64 (r:Int),.int .i64 0]:=rfl
theorem qdk(lo:Nat)(S:Sto)(r:Nat):∀p,qS qj ((qfi lo S r).φ p):=λp W W' he h=>by have he:Ext W W':=he;exact zp.keep h (zM _) he.size λb _ hb=>he.block b hb
def qfe(e:Int):qZ:=⟨Unit,λ_=>.tuple #[Qp none 0 0 none 0 0 none 0 0 none 0 0,.int .i64 0,.int .i64 e],λ_ _=>True⟩
theorem Zd(e:Int)(u:Unit):(qfe e).f u=.tuple #[Qp none 0 0 none 0 0 none 0 0 none 0 0,.int .i64 0,.int .i64 e]:=rfl
theorem qdh(e:Int):∀p,qS qj ((qfe e).φ p):=λ_ _ _ _ _=>trivial
theorem qhp{W C:World}{b:Nat}{ty:TypeId}{u0 u1 u2 u3 x0 x1 x2 x3:Value}(h:W.heap[b]?=some (.cells #[u0,u1,u2,u3] ty (0,0)))(hC:C=(((W.setCell ⟨b,0,none⟩ x0).setCell ⟨b,1,none⟩ x1).setCell ⟨b,2,none⟩ x2).setCell ⟨b,3,none⟩ x3):C.heap[b]?=some (.cells #[x0,x1,x2,x3] ty (0,0))/\(∀k,k≠b->C.heap[k]?=W.heap[k]?)/\C.heap.size=W.heap.size/\∀{B:Nat}{w0:World},B<=b->Below B w0 W->Below B w0 C:=by
 subst hC;exact⟨qcv h _ _ _ _,λk hk=>(zJ _ _ _ _ hk).trans ((zJ _ _ _ _ hk).trans ((zJ _ _ _ _ hk).trans (zJ _ _ _ _ hk))),zA3,λhb h0=>vR h0 hb _ _ _ _⟩
theorem qhq{W C:World}{b:Nat}{ty:TypeId}{u0 u1 u2 u3 u4 u5 u6 u7 x0 x1 x2 x3 x5 x7:Value}(h:W.heap[b]?=some (.cells #[u0,u1,u2,u3,u4,u5,u6,u7] ty (0,0)))(hC:C=(((((W.setCell ⟨b,0,none⟩ x0).setCell ⟨b,1,none⟩ x1).setCell ⟨b,2,none⟩ x2).setCell ⟨b,3,none⟩ x3).setCell ⟨b,5,none⟩ x5).setCell ⟨b,7,none⟩ x7):C.heap[b]?=some (.cells #[x0,x1,x2,x3,u4,x5,u6,x7] ty (0,0))/\(∀k,k≠b->C.heap[k]?=W.heap[k]?)/\C.heap.size=W.heap.size/\∀{B:Nat}{w0:World},B<=b->Below B w0 W->Below B w0 C:=by
 subst hC;refine⟨?_,λk hk=>?_,zA3,λhb h0=>Below.setCell (Below.setCell (vR h0 hb _ _ _ _) (p:=⟨b,5,none⟩) hb _) (p:=⟨b,7,none⟩) hb _⟩
 ·exact qo (qo (qo (qo (qo (qo h 0 x0) 1 x1) 2 x2) 3 x3) 5 x5) 7 x7
 ·rw[zJ _ _ _ _ hk,zJ _ _ _ _ hk,zJ _ _ _ _ hk,zJ _ _ _ _ hk,zJ _ _ _ _ hk,zJ _ _ _ _ hk]
theorem GO{lo:Nat}{S:Sto}{A1:OA}{n1 c1:Nat}{A2:OA}{n2 c2:Nat}{A3:OA}{n3 c3:Nat}{A4:OA}{n4 c4:Nat}{W:World}(h:NewSto lo S (Qp A1 n1 c1 A2 n2 c2 A3 n3 c3 A4 n4 c4) W):∀C:World,PosZ lo W C->Qq C W.heap.size (.slice A1 n1 c1) (.slice A2 n2 c2) (.slice A3 n3 c3) (.slice A4 n4 c4) S:=by obtain⟨B1,d1,B2,d2,B3,d3,B4,d4,e,hc⟩:=h;simp only[Value.agg.injEq,Array.mk.injEq,List.cons.injEq,Value.slice.injEq,and_true]at e;obtain⟨⟨rfl,rfl,rfl⟩,⟨rfl,rfl,rfl⟩,⟨rfl,rfl,rfl⟩,⟨rfl,rfl,rfl⟩⟩:=e;exact hc
theorem qeq{w:World}{b:Nat}{x0 x1 x2 x3 x4 x5 x6 x7:Value}:((((((((w.setCell ⟨b,0,none⟩ x0).setCell ⟨b,1,none⟩ x1).setCell ⟨b,2,none⟩ x2).setCell ⟨b,3,none⟩ x3).setCell ⟨b,4,none⟩ x4).setCell ⟨b,5,none⟩ x5).setCell ⟨b,6,none⟩ x6).setCell ⟨b,7,none⟩ x7).heap.size=w.heap.size:=zA3
theorem outIFs{lo:Nat}{k i o r:Int}{n:Nat}{l:List UInt8}:∀p,QV ((qeb lo k i o r n l).φ p):=λp W W' he h=>⟨(h.1.below he).more he.size,h.2⟩
theorem Xx{R:Ending->World->Prop}{a:Act}{W:World}{b:Nat}{x0 x1 x2 x3 x4 x5 x6 x7 v:Value}(h4:a.tmps[4]?.getD undef=.pointer (some ⟨b,0,none⟩))(h5:a.tmps[5]?.getD undef=v)(hd:a.defers=[])(hBT:W.heap[b]?=some (.cells #[x0,x1,x2,x3,x4,x5,x6,x7] 32 (0,0)))(hR:R (.returned (.tuple #[.agg #[x0,x1,x2,x3,x4,x5,x6,x7],v])) W):bodyPost prog Tryz.f19 R .ret a W:=by
 refine bodyPost_ret (v:=.tuple #[.agg #[x0,x1,x2,x3,x4,x5,x6,x7],v]) ?_ hd hR;have k:=qa hBT;simp[results,results19,go_sem,h4,h5,k]
set_option maxRecDepth 100000 in
theorem qgy(A1 n1 c1 A2 n2 c2 A3 n3 c3 A4 n4 c4)(gen root next:Int)(A5 c5)(S:Sto)(dead:List Int)(v:Vol)(hv:Uw v)(hT:8<=v.root->v.root<256->Jh S v.root.toNat≠0->okL S (-1) v.root=true)(w:World)(h:Qq w w.heap.size (.slice A1 n1 c1) (.slice A2 n2 c2) (.slice A3 n3 c3) (.slice A4 n4 c4) S)(hd:jH w w.heap.size (.slice A5 dead.length c5) dead):Calls prog 19 #[.agg (Qk (.slice A1 n1 c1) (.slice A2 n2 c2) (.slice A3 n3 c3) (.slice A4 n4 c4) gen root next (.slice A5 dead.length c5)),VR v] w (SetQ S gen root next dead v w):=by
 have HA:=zH (λW (hx:Ext w W)=>qih A1 n1 c1 A2 n2 c2 A3 n3 c3 A4 n4 c4 gen root next A5 c5 S dead v hT W (h.ext hx) (hd.ext_ hx));have HO:=zH (λW=>qjO v hv W);have hvi:=qhB hv;have HP:=zH (λ(hS:qm S=true)(a lvl:Nat) xs ha ha2 hn hsp A c W (hx:Ext w W) hb=>put_any A1 n1 c1 A2 n2 c2 A3 n3 c3 A4 n4 c4 S hS a lvl xs ha ha2 hn hsp (XZ v) hvi A c W (h.ext hx) hb);replace⟨h,hT,hd,hvi⟩:=zH4 h hT hd hvi;go_enter func19,ntmps19;go_wp2_with fail;generalize hw1:(World.alloc (World.alloc (World.alloc w _) _) _)=w1;have x1:Ext w w1:=by rw[<-hw1];exact((zN _ _).trans (zN _ _)).trans (zN _ _)
 have rp1:w1.heap[w.heap.size]?=some (.cells (Qk (.slice A1 n1 c1) (.slice A2 n2 c2) (.slice A3 n3 c3) (.slice A4 n4 c4) gen root next (.slice A5 dead.length c5)) 32 (0,0)):=by rw[<-hw1];exact(zK _ _ _ zA2).trans ((zK _ _ _ zA3).trans (zI _ _ _ rfl))
 have rv1:w1.heap[w.heap.size+1]?=some (.cells #[.int .u32 v.id,.int .i64 v.root,.bool v.fz,.int .u32 v.frm] 36 (0,0)):=by rw[<-hw1];exact(zK _ _ _ zA3).trans (zI _ _ _ zA3)
 have ro1:w1.heap[w.heap.size+2]?=some (.cells (Qk (.slice none 0 0) (.slice none 0 0) (.slice none 0 0) (.slice none 0 0) 0 0 0 (.slice none 0 0)) 32 (0,0)):=by rw[<-hw1];exact zI _ _ _ zA3
 clear hw1;refine(HA.out w1 x1).mono ?_;clear HA;rintro e w2 ⟨hB,hQ⟩;have x2:Ext w w2:=Ext.trans x1 hB;have rp2:=qb rp1 hB;have rv2:=qb rv1 hB;have ro2:=qb ro1 hB;have zo2:w.heap.size+2<w2.heap.size:=(zG.1 ro2).1;clear hB rp1 rv1 ro1 x1;have ko2:=qa ro2;have fo2:=qg ro2;rcases hQ with⟨rfl,hno⟩|⟨vs,refs,nodes,hp,hcn,hen,rfl⟩
 ·replace hno:=zH hno;go_wp2_with fail;exact Xx (b:=w.heap.size+2) rfl rfl rfl (row8 ro2 _ _ _ _ _ _ _ _) ⟨Yy x2 zO _ _ _ _ _ _ _ _,.inl ⟨rfl,hno.out⟩⟩
 ·have hBY:=zH (λe W (hb:Below w.heap.size w W) hx=>(⟨hb,.inr ⟨vs,refs,nodes,hp,hcn,hen,hx⟩⟩:SetQ S gen root next dead v w e W));by_cases h0:jJ S next v vs refs=0
  case neg=>
   obtain⟨er,her⟩:∃er,jJ S next v vs refs=er:=⟨_,rfl⟩
   rw[her]at h0⊢;have hne:(er != 0)=true:=by rw[bne_iff_ne];exact h0
   replace⟨h0,her,hp,hcn,hen⟩:=zH5 h0 her hp hcn hen;go_wp2_with fail;exact Xx (b:=w.heap.size+2) rfl rfl rfl (row8 ro2 _ _ _ _ _ _ _ _) (hBY.out _ _ (Yy x2 zO _ _ _ _ _ _ _ _) (.inl ⟨er,h0.out,rfl,.inl her.out⟩))
  case pos=>
   rw[h0];obtain⟨a,ha,h8,h256,lvl,xs,hn,hsp⟩:=Zs hp.top;have hse:qbe S root v=GT S lvl xs a (XZ v):=by unfold qbe;rw[ha,Int.toNat_natCast,hn];rfl
   have HP2:=zH (HP.out hp.may a lvl xs h8 h256 hn hsp);have hpm:=zH (λr S' (he:GT S lvl xs a (XZ v)=.ok (r,S'))=>putY_may hp.may h8 hn hsp hvi.out he);have hpe:=zH (λer (he:GT S lvl xs a (XZ v)=.error er)=>putY_err he);rw[<-hse]at HP2 hpm hpe;rw[<-ha]at HP2;have hdl:=zH hp.few;replace⟨h0,hp,hcn,hen⟩:=zH4 h0 hp hcn hen;clear hse HP hn hsp hT ha;go_upto_region 4 with fail;rcases hq:qbe S root v with er|⟨r,S'⟩
   ·have gP:∀W,qj.r w2 W->∀i,W.cell? ⟨w.heap.size,i,none⟩=(Qk (.slice A1 n1 c1) (.slice A2 n2 c2) (.slice A3 n3 c3) (.slice A4 n4 c4) gen root next (.slice A5 dead.length c5))[i]?:=λW h=>qa (qb rp2 h);have gV:∀W,qj.r w2 W->∀i,W.cell? ⟨w.heap.size+1,i,none⟩=#[.int .u32 v.id,.int .i64 v.root,.bool v.fz,.int .u32 v.frm][i]?:=λW h=>qa (qb rv2 h);clear ko2 fo2;refine qt zQ ?_;refine Uy 12 9 zE zQ rfl rfl zQ zQ zQ zQ ?_;dsimp only[JC,Array.push,List.push_toArray,List.concat_eq_append];refine Uy 12 10 zE zQ rfl rfl zQ zQ zQ zQ ?_;dsimp only[JC,Array.push,List.push_toArray,List.concat_eq_append];refine qX (w:=w2) qj (qQ [(5,qeb w2.heap.size 1 v.id 0 0 (Ql v).length (Ql v)),(6,qfe er),(11,Jj w2.heap.size 28 #[.slice none 0 0,.slice none 0 0,.slice none 0 0,.slice none 0 0])]) (List.replicate 12 true) 3 zQ zQ zQ zQ zQ zQ zQ ?st (Rel.drew _ _) ?walk
    case st=>exact qi (by simp only[List.forall_mem_cons];exact⟨λp=>Qo (outIFs p),qdh _,λp=>Qo (jh _ _ _ p),λ_ h=>by cases h⟩)
    case walk=>
     intro K hK;dsimp only[qw,List.replicate];refine zC7 ?_;refine qH (qeb w2.heap.size 1 v.id 0 0 (Ql v).length (Ql v)) zA0 zA0 (λW hW _=>?_) (λp5=>?_)
     ·have hW:Ext w2 W:=hW;refine Qi ?_ ((HO.out W).mono λe w' h=>?_)
      ·go_simp
      obtain⟨u,rfl,⟨A,c,rfl,hb,hf⟩,hB⟩:=h;exact⟨(A,c),rfl,⟨hb,hf.mono hW.size⟩,hB⟩
     obtain⟨A8,c8⟩:=p5;refine zC7 ?_;refine qH (qfe er) zA0 zA0 (λW hW hp=>?_) (λ(p:Unit)=>?_)
     ·have hW:Ext w2 W:=hW;have hb:Bys W W.heap.size (.slice A8 (Ql v).length c8) (Ql v):=(hp 5 zA1).1.1;refine Qi ?_ ((HP2.out A8 c8 W (x2.trans hW) hb).mono λe w' h=>?_)
      ·go_simp;exact⟨rfl,rfl,rfl,rfl,rfl⟩
      obtain⟨u,rfl,hu,hB⟩:=h;rw[hq]at hu;obtain rfl:u=_:=hu;exact⟨(),rfl,trivial,hB⟩
     refine zC7 ?_;refine qH (Jj w2.heap.size 28 #[.slice none 0 0,.slice none 0 0,.slice none 0 0,.slice none 0 0]) zA0 zA0 (λW hW _=>?_) (λ(p11:Nat)=>?_)
     ·refine Je ?_ (Below.size hW);go_simp
     refine zC7 ?_;refine qD (hK _ _ λW hW hF=>?_);obtain⟨f11,hlo⟩:W.heap[p11]?=some (.cells #[.slice none 0 0,.slice none 0 0,.slice none 0 0,.slice none 0 0] 28 (0,0))/\w2.heap.size<=p11:=(hF 11).1;clear hF hK gP gV;have hW:Ext w2 W:=hW;refine zC4 ?_;have k11:=qa f11;have h11:=qg f11;have rq2:=qb rp2 hW;have rz2:=qb ro2 hW;go_wp2;refine Qn ?_;generalize hw3:World.setCell (World.setCell (World.setCell (World.setCell W _ _) _ _) _ _) _ _=w3;obtain⟨r3,o3,z3,b3⟩:=qhp f11 hw3.symm;clear hw3 k11 h11 f11;have ro3:=(o3 (w.heap.size+2) zO).trans rz2;have x3:Below w.heap.size w w3:=b3 zO (x2.trans hW);have ko3:=qa ro3;have fo3:=qg ro3;clear rq2 rz2;have hne:=hpe.out er hq;have hnb:(er != 0)=true:=by rw[bne_iff_ne];exact hne
     replace⟨hne,hq⟩:=zH2 hne hq;go_wp2_with fail;exact Xx (b:=w.heap.size+2) rfl rfl rfl (row8 ro3 _ _ _ _ _ _ _ _) (hBY.out _ _ (Yy x3 zO _ _ _ _ _ _ _ _) (.inl ⟨er,hne.out,rfl,.inr ⟨h0.out,.inl hq.out⟩⟩))
   ·have gP:∀W,qj.r w2 W->∀i,W.cell? ⟨w.heap.size,i,none⟩=(Qk (.slice A1 n1 c1) (.slice A2 n2 c2) (.slice A3 n3 c3) (.slice A4 n4 c4) gen root next (.slice A5 dead.length c5))[i]?:=λW h=>qa (qb rp2 h);have gV:∀W,qj.r w2 W->∀i,W.cell? ⟨w.heap.size+1,i,none⟩=#[.int .u32 v.id,.int .i64 v.root,.bool v.fz,.int .u32 v.frm][i]?:=λW h=>qa (qb rv2 h);clear ko2 fo2;refine qt zQ ?_;refine Uy 12 9 zE zQ rfl rfl zQ zQ zQ zQ ?_;dsimp only[JC,Array.push,List.push_toArray,List.concat_eq_append];refine Uy 12 10 zE zQ rfl rfl zQ zQ zQ zQ ?_;dsimp only[JC,Array.push,List.push_toArray,List.concat_eq_append];refine qX (w:=w2) qj (qQ [(5,qeb w2.heap.size 1 v.id 0 0 (Ql v).length (Ql v)),(6,qfi w2.heap.size S' r),(11,Jj w2.heap.size 28 #[.slice none 0 0,.slice none 0 0,.slice none 0 0,.slice none 0 0])]) (List.replicate 12 true) 3 zQ zQ zQ zQ zQ zQ zQ ?st (Rel.drew _ _) ?walk
    case st=>exact qi (by simp only[List.forall_mem_cons];exact⟨λp=>Qo (outIFs p),qdk _ _ _,λp=>Qo (jh _ _ _ p),λ_ h=>by cases h⟩)
    case walk=>
     intro K hK;dsimp only[qw,List.replicate];refine zC7 ?_;refine qH (qeb w2.heap.size 1 v.id 0 0 (Ql v).length (Ql v)) zA0 zA0 (λW hW _=>?_) (λp5=>?_)
     ·have hW:Ext w2 W:=hW;refine Qi ?_ ((HO.out W).mono λe w' h=>?_)
      ·go_simp
      obtain⟨u,rfl,⟨A,c,rfl,hb,hf⟩,hB⟩:=h;exact⟨(A,c),rfl,⟨hb,hf.mono hW.size⟩,hB⟩
     obtain⟨A8,c8⟩:=p5;refine zC7 ?_;refine qH (qfi w2.heap.size S' r) zA0 zA0 (λW hW hp=>?_) (λp=>?_)
     ·have hW:Ext w2 W:=hW;have hb:Bys W W.heap.size (.slice A8 (Ql v).length c8) (Ql v):=(hp 5 zA1).1.1;refine Qi ?_ ((HP2.out A8 c8 W (x2.trans hW) hb).mono λe w' h=>?_)
      ·go_simp;exact⟨rfl,rfl,rfl,rfl,rfl⟩
      obtain⟨u,rfl,hu,hB⟩:=h;rw[hq]at hu;obtain⟨v',rfl,hT⟩:=hu;obtain⟨BB,WW,gg,A3',c3',A4',c4',rfl,-⟩:=id hT;exact⟨((BB,WW),(A3',c3'),(A4',c4')),rfl,zp.keep hT hW.size (zM _) (λ_ _ _=>rfl),hB⟩
     obtain⟨⟨BB,WW⟩,⟨A3',c3'⟩,⟨A4',c4'⟩⟩:=p;refine zC7 ?_;refine qH (Jj w2.heap.size 28 #[.slice none 0 0,.slice none 0 0,.slice none 0 0,.slice none 0 0]) zA0 zA0 (λW hW _=>?_) (λ(p11:Nat)=>?_)
     ·refine Je ?_ (Below.size hW);go_simp
     refine zC7 ?_;refine qD (hK _ _ λW hW hF=>?_);obtain⟨f11,hlo⟩:W.heap[p11]?=some (.cells #[.slice none 0 0,.slice none 0 0,.slice none 0 0,.slice none 0 0] 28 (0,0))/\w2.heap.size<=p11:=(hF 11).1;have hTw:zp w2.heap.size S' (Qp (some ⟨BB,0,none⟩) S'.bs.length S'.bs.length (some ⟨WW,0,none⟩) S'.ws.length (S'.ws.length+1) A3' S'.now.length c3' A4' S'.last.length c4') W:=(hF 6).1;clear hF hK gP gV;have hW:Ext w2 W:=hW;refine zC4 ?_;have k11:=qa f11;have h11:=qg f11;have z11:=(zG.1 f11).1;have rq2:=qb rp2 hW;have rz2:=qb ro2 hW;go_wp2;refine Qn ?_;generalize hw3:World.setCell (World.setCell (World.setCell (World.setCell W _ _) _ _) _ _) _ _=w3;obtain⟨r3,o3,z3,b3⟩:=qhp f11 hw3.symm;have hTw3:=zp.keepT (lo':=w2.heap.size) hTw (zM _) zO f11 zA1 (λb _ _ hne=>o3 b hne);clear hw3 k11 h11 f11;have rp3:=(o3 w.heap.size zO).trans rq2;have ro3:=(o3 (w.heap.size+2) zO).trans rz2;have x3:Below w.heap.size w w3:=b3 zO (x2.trans hW);have ko3:=qa ro3;have fo3:=qg ro3;have zo3:w.heap.size+1+1<w3.heap.size:=(zG.1 ro3).1;clear rq2 rz2;have hmay:=hpm.out r S' hq;have hns:=GO (hTw3.newSto (jF hmay.1));replace⟨hq,hns,hmay⟩:=zH3 hq hns hmay;clear hTw3 hpm hpe HP2;go_upto_region 7 with fail;have HI:=zH (λW (hW:Ext w3 W)=>qbL (.slice A5 dead.length c5) dead (by have:=hdl.out;omega) W (hd.out.ext_ (x3.trans (Below.mono hW x3.size))));have gP:∀W,qj.r w3 W->∀i,W.cell? ⟨w.heap.size,i,none⟩=(Qk (.slice A1 n1 c1) (.slice A2 n2 c2) (.slice A3 n3 c3) (.slice A4 n4 c4) gen root next (.slice A5 dead.length c5))[i]?:=λW h=>qa (qb rp3 h);obtain⟨nb,hnb⟩:∃nb,S'.bs.length=nb:=⟨_,rfl⟩
     obtain⟨nw,hnw⟩:∃nw,S'.ws.length=nw:=⟨_,rfl⟩
     obtain⟨nn,hnn⟩:∃nn,S'.now.length=nn:=⟨_,rfl⟩
     obtain⟨nl,hnl⟩:∃nl,S'.last.length=nl:=⟨_,rfl⟩
     rw[hnb,hnw,hnn,hnl]at hns r3⊢;have hHK:=zH (And.intro hnb (And.intro hnw (And.intro hnn hnl)));clear hnb hnw hnn hnl;have gS:∀W,qj.r w3 W->∀i,W.cell? ⟨p11,i,none⟩=#[.slice (some ⟨BB,0,none⟩) nb nb,.slice (some ⟨WW,0,none⟩) nw (nw+1),.slice A3' nn c3',.slice A4' nl c4'][i]?:=λW h=>qa (qb r3 h);clear ko3 fo3;refine qt zQ ?_;refine Zo 1 10 (.int .i64 (r:Int)) zQ zA6 zQ zQ zQ zA0 (λW=>?_) ?_
     ·go_simp
     simp only[Act.put,qe,qc,qf,ZQ,Ze,Zd,ZU,zA,zB,zC];refine qX (w:=w3) qj (qQ [(4,outN w3.heap.size dead.length dead)]) [true,false,true,true,true,true] 5 zQ zQ zQ zQ zQ zQ zQ ?st (Rel.drew _ _) ?walk
     case st=>exact qi (by simp only[List.forall_mem_cons];exact⟨λp=>Qo (qaJ _ _ _ p),λ_ h=>by cases h⟩)
     case walk=>
      intro K hK;dsimp only[qw,List.replicate];refine zC7 ?_;refine qH (outN w3.heap.size dead.length dead) zA0 zA0 (λW hW _=>?_) (λp=>?_)
      ·have hW:Ext w3 W:=hW;refine Qi ?_ ((HI.out W hW).mono λe w' h=>?_)
       ·go_simp
       obtain⟨u,rfl,hu,hB⟩:=h;obtain⟨A',c',rfl,_,_⟩:=qG hu;exact⟨(A',c'),rfl,⟨jH.of_ownT hu,(Zw.of_own hu).mono hW.size⟩,hB⟩
      obtain⟨B5,d5⟩:=p;refine zC7 ?_;refine qD (hK _ _ λV hV hF=>?_);have hI:jH (thaw V) V.heap.size (.slice B5 dead.length d5) dead/\Zw w3.heap.size (.slice B5 dead.length d5):=(hF 4).1;clear hF hK gP gS HI;have hV:Ext w3 V:=hV;refine zC4 ?_;have rp4:=qb rp3 hV;have ro4:=qb ro3 hV;have kp4:=qa rp4;have fp4:=qg rp4;replace hI:=zH hI;clear rp3 ro3;go_wp2;refine Qn ?_;generalize hw5:World.setCell (World.setCell (World.setCell (World.setCell (World.setCell (World.setCell V _ _) _ _) _ _) _ _) _ _) _ _=w5;obtain⟨rp5,o5,z5,b5⟩:=qhq rp4 hw5.symm;clear hw5 kp4 fp4;have ro5:=(o5 (w.heap.size+2) zO).trans ro4;have x5:Below w.heap.size w w5:=b5 (zM _) (x3.trans (Below.mono hV x3.size));have hzV:=hV.size;have wNM:∀k,w.heap.size<k->k<w3.heap.size->w5.heap[k]?=w3.heap[k]?:=λk h1 h2=>(o5 k zO).trans (hV.block k h2);have wKY:=(hns.out w5 (qaL λk h1 h2=>wNM k zO h2)).more (show w3.heap.size<=w5.heap.size by omega);have hin5:jH w5 w5.heap.size (.slice B5 dead.length d5) dead:=by rw[z5];exact hI.out.1.pos hI.out.2 λq u h1 h2 h3=>(World.cell?_of_block (o5 q.block zO)).trans (qaa h3).1
      have HCk:=zH (qiN (some ⟨BB,0,none⟩) nb nb (some ⟨WW,0,none⟩) nw (nw+1) A3' nn c3' A4' nl c4' gen (r:Int) next B5 d5 S' dead w5 wKY hin5);have kp5:=qa rp5;replace wNM:=zH wNM;clear wKY hin5;go_wp2_with fail;refine HCk.out.mono ?_;clear HCk;rintro e w6 ⟨hB6,hQ6⟩;have x6:Below w.heap.size w w6:=x5.trans (Below.mono hB6 x5.size);have rp6:=qb rp5 hB6;have ro6:=qb ro5 hB6;have ko6:=qa ro6;have fo6:=qg ro6;have h56:=zH (λk (hk:k<w5.heap.size)=>Below.block hB6 k hk);have z56:=hB6.size;clear hB6 rp4 ro4 kp5;rcases hQ6 with⟨rfl,hGU⟩|⟨rfl,vs',refs',nodes',hp',hc',he'⟩
      ·replace hGU:=zH hGU;go_wp2_with fail;exact Xx (b:=w.heap.size+2) rfl rfl rfl (row8 ro6 _ _ _ _ _ _ _ _) (hBY.out _ _ (Yy x6 zO _ _ _ _ _ _ _ _) (.inl ⟨8,zA1,rfl,.inr ⟨h0.out,.inr ⟨rfl,r,S',hq.out,hGU.out⟩⟩⟩))
      ·have hok:=zH (⟨refs',nodes',hp',hc',he'⟩:jq S' (r:Int) next dead vs');have kp6:=qa rp6;clear hp' hc' he';go_wp2_with fail;refine Xx (b:=w.heap.size+2) rfl rfl rfl (row8 ro6 _ _ _ _ _ _ _ _) (hBY.out _ _ (Yy x6 zO _ _ _ _ _ _ _ _) (.inr ⟨r,S',vs',_,h0.out,hq.out,hok.out,rfl,?_⟩));refine⟨some ⟨BB,0,none⟩,nb,some ⟨WW,0,none⟩,nw+1,A3',c3',A4',c4',B5,d5,?_,λC hC=>?_⟩
       ·rw[hHK.out.1,hHK.out.2.1,hHK.out.2.2.1,hHK.out.2.2.2]
       ·rw[hHK.out.1,hHK.out.2.1,hHK.out.2.2.1,hHK.out.2.2.2];rw[qeq];have hs:=λ(k:Nat)(hk:k≠w.heap.size+2)=>qiL (w:=w6) hk (.slice (some ⟨BB,0,none⟩) nb nb) (.slice (some ⟨WW,0,none⟩) nw (nw+1)) (.slice A3' nn c3') (.slice A4' nl c4') (.int .u32 gen) (.int .i64 (r:Int)) (.int .u32 next) (.slice B5 dead.length d5);have q1:=hns.out C λq u h1 h2 h3=>hC q u zO (by rw[qeq];omega) ((JJ ((hs q.block zO).trans ((h56.out q.block zO).trans (wNM.out q.block zO h2)))).trans h3);have q2:=hI.out.1.pos hI.out.2 (C:=C) λq u h1 h2 h3=>hC q u zO (by rw[qeq];omega) ((JJ ((hs q.block zO).trans ((h56.out q.block zO).trans (o5 q.block zO)))).trans h3);exact⟨q1.more zO,q2.more zO⟩
def qhN(S:Sto)(root next:Int)(dead:List Int)(w:World)(e:Ending)(w':World):Prop:=Below w.heap.size w w' /\
 ((e=.returned (.tuple #[.slice none 0 0,.int .i64 8])/\∀vs,QR S root next dead vs->∃refs nodes,Qz S (QJ root dead vs) refs nodes/\¬ZS S refs) \/
  ∃vs refs nodes cb ca vv lo,e=.returned (.tuple #[vv,.int .i64 0])/\w.heap.size<=lo/\Taken S root next dead vs refs nodes lo cb ca vv w')
theorem qdM{R:Ending->World->Prop}{a:Act}{W:World}{u v:Value}(h2:a.tmps[2]?.getD undef=u)(h3:a.tmps[3]?.getD undef=v)(hd:a.defers=[])(hR:R (.returned (.tuple #[u,v])) W):bodyPost prog Tryz.f67 R .ret a W:=by refine bodyPost_ret (v:=.tuple #[u,v]) ?_ hd hR;simp[results,results67,go_sem,h2,h3]
set_option maxRecDepth 100000 in
theorem qdL(A1 n1 c1 A2 n2 c2 A3 n3 c3 A4 n4 c4)(gen root next:Int)(A5 c5)(S:Sto)(dead:List Int)(w:World)(h:Qq w w.heap.size (.slice A1 n1 c1) (.slice A2 n2 c2) (.slice A3 n3 c3) (.slice A4 n4 c4) S)(hd:jH w w.heap.size (.slice A5 dead.length c5) dead):Calls prog 67 #[.agg (Qk (.slice A1 n1 c1) (.slice A2 n2 c2) (.slice A3 n3 c3) (.slice A4 n4 c4) gen root next (.slice A5 dead.length c5))] w (qhN S root next dead w):=by
 have HT:=zH (λW (hx:Ext w W)=>Gr A1 n1 c1 A2 n2 c2 A3 n3 c3 A4 n4 c4 gen root next A5 c5 S dead W (h.ext hx) (by obtain⟨A,c,e,q1,q2,q3⟩:=hd;exact⟨A,c,e,q1,q2,(q3.below hx).more hx.size⟩));clear h hd;go_enter func67,ntmps67;go_wp2_with fail;generalize hw1:World.alloc w _=w1;have x1:Ext w w1:=by rw[<-hw1];exact zN _ _
 clear hw1;refine(HT.out w1 x1).mono ?_;rintro e w2 ⟨hB,hQ⟩;have x2:Below w.heap.size w w2:=Ext.trans x1 hB;rcases hQ with⟨rfl,hno⟩|⟨vs,refs,nodes,cb,ca,vv,rfl,hT⟩
 ·have HB:qhN S root next dead w (.returned (.tuple #[.slice none 0 0,.int .i64 8])) w2:=⟨x2,.inl ⟨rfl,hno⟩⟩
  replace HB:=zH HB;clear hno hB;go_wp2_with fail;exact qdM rfl rfl rfl HB.out
 ·have kc:w2.cell? ⟨cb,518,none⟩=some vv:=by rw[qa hT.row];exact hT.ar.vol
  obtain⟨AV,cV,rfl,-,-⟩:=qG hT.own;have HB:qhN S root next dead w (.returned (.tuple #[.slice AV vs.length cV,.int .i64 0])) w2:=⟨x2,.inr ⟨vs,refs,nodes,cb,ca,_,_,rfl,x1.size,hT⟩⟩
  replace HB:=zH HB;clear hT hB;go_wp2_with fail;exact qdM rfl rfl rfl HB.out

def SetErr(S:Sto)(root next:Int)(dead:List Int)(v:Vol)(er:Int):Prop:=(er=8/\ZC S root next dead)\/∃vs refs nodes,QR S root next dead vs/\Qz S (QJ root dead vs) refs nodes/\ZS S refs /\
 (jJ S next v vs refs=er\/(jJ S next v vs refs=0/\(qbe S root v=.error er\/(er=8/\∃r S',qbe S root v=.ok (r,S')/\ZC S' (r:Int) next dead))))
def SetOk(S:Sto)(root next:Int)(dead:List Int)(v:Vol)(r:Nat)(S':Sto)(vs':List Vol):Prop:=∃vs refs nodes,QR S root next dead vs/\Qz S (QJ root dead vs) refs nodes/\ZS S refs /\
 jJ S next v vs refs=0/\qbe S root v=.ok (r,S')/\jq S' (r:Int) next dead vs'
theorem SetQ.split{S:Sto}{gen root next:Int}{dead:List Int}{v:Vol}{w w':World}{e:Ending}(h:SetQ S gen root next dead v w e w'):Below w.heap.size w w'/\((∃er,er≠0/\e=.returned (.tuple #[qaK,.int .i64 er])/\SetErr S root next dead v er) \/
   ∃r S' vs' u,SetOk S root next dead v r S' vs'/\e=.returned (.tuple #[u,.int .i64 0])/\Xo w.heap.size S' gen (r:Int) next dead u w'):=by
 obtain⟨hB,h⟩:=h;refine⟨hB,?_⟩;rcases h with⟨rfl,hb⟩|⟨vs,refs,nodes,hp,hc,he,h⟩
 ·exact .inl ⟨8,zA1,rfl,.inl ⟨rfl,hb⟩⟩
 ·rcases h with⟨er,h0,e1,h⟩|⟨r,S',vs',u,h1,h2,h3,h4,h5⟩
  ·exact .inl ⟨er,h0,e1,.inr ⟨vs,refs,nodes,hp,hc,he,h⟩⟩
  ·exact .inr ⟨r,S',vs',u,⟨vs,refs,nodes,hp,hc,he,h1,h2,h3⟩,h4,h5⟩
theorem Xo.sto{lo:Nat}{S:Sto}{gen root next:Int}{dead:List Int}{u:Value}{W:World}(h:Xo lo S gen root next dead u W):∃A1 c1 A2 c2 A3 c3 A4 c4 A5 c5,u=.agg (Qk (.slice A1 S.bs.length c1) (.slice A2 S.ws.length c2) (.slice A3 S.now.length c3) (.slice A4 S.last.length c4) gen root next (.slice A5 dead.length c5)) /\
  Qq W W.heap.size (.slice A1 S.bs.length c1) (.slice A2 S.ws.length c2) (.slice A3 S.now.length c3) (.slice A4 S.last.length c4) S/\jH W W.heap.size (.slice A5 dead.length c5) dead:=by
 obtain⟨A1,c1,A2,c2,A3,c3,A4,c4,A5,c5,e,h⟩:=h;exact⟨A1,c1,A2,c2,A3,c3,A4,c4,A5,c5,e,h W λq v h1 h2 h3=>(qaa h3).1⟩
theorem Xo.keep{lo lo':Nat}{S:Sto}{gen root next:Int}{dead:List Int}{u:Value}{W W':World}(h:Xo lo S gen root next dead u W)(hl:lo'<=lo)(hs:W.heap.size<=W'.heap.size)(hk:∀k,lo<=k->k<W.heap.size->W'.heap[k]?=W.heap[k]?):Xo lo' S gen root next dead u W':=by obtain⟨A1,c1,A2,c2,A3,c3,A4,c4,A5,c5,e,h⟩:=h;refine⟨A1,c1,A2,c2,A3,c3,A4,c4,A5,c5,e,λC hC=>?_⟩;obtain⟨h1,h2⟩:=h C λq v h1 h2 h3=>hC q v zO zO ((JJ (hk q.block h1 h2)).trans h3);exact⟨h1.more hs,h2.more hs⟩
theorem qjv{f:List UInt8->Nat->Option (List UInt8)}(hf:∀t r t',f t r=some t'->∀j,qP t' j<=qP t j):∀(rs:List Nat)(o:Option (List UInt8))(t':List UInt8),rs.foldl (λacc r=>acc.bind λt=>f t r) o=some t'->∃t,o=some t/\∀j,qP t' j<=qP t j
 |[],o,t',h=>⟨t',h,λ_=>zM _⟩
 |r::rs,o,t',h=>by
  rw[List.foldl_cons]at h;obtain⟨t1,h1,h2⟩:=qjv hf rs _ t' h;cases o with
  |none=>cases h1
  |some t=>
   exact⟨t,rfl,λj=>Nat.le_trans (h2 j) (hf t r t1 h1 j)⟩
theorem Yg(S:Sto):∀(h:Nat)(lvl:Int)(t:List UInt8)(a:Nat)(t':List UInt8),leaveF S h lvl t a=some t'->∀j,qP t' j<=qP t j
 |0,lvl,t,a,t',e=>by cases e
 |h+1,lvl,t,a,t',e=>by
  rw[JZ]at e;split at e
  ·cases e
  ·split at e
   ·cases e;exact λj=>qeO t a j
   ·split at e
    ·cases e
    ·rename_i l xs _;split at e
     ·cases e
     ·split at e
      ·obtain⟨t0,h0,h1⟩:=qjv (λt r t'=>Yg S h (l-1) t r t') _ _ _ e;cases h0;exact λj=>Nat.le_trans (h1 j) (zero_le t a j)
      ·split at e
       ·cases e
       ·rename_i t1 hl;cases e;exact λj=>Nat.le_trans ((kI hl).2 j) (zero_le t a j)
theorem qjX{S:Sto}{t:List UInt8}(h:∀j,qP t j<=qP S.now j):SM (qv S t) S where
 node r nd e:=by
  unfold qk at e⊢;split at e
  ·cases e
  ·rename_i h1;rw[if_neg (by have:=h r;unfold qP at this;simp only[qv]at h1;omega)];exact e
 pos r e:=by have:=h r;unfold qP at this;simp only[qv]at e;omega
def insV(v:Vol)(vs:List Vol):List Vol:=(vs.filter λu=>decide (u.id<v.id))++[v]++vs.filter λu=>decide (v.id<u.id)
theorem qfB{y:It}(h:VS y=true):qp y=(1,y.i,0):=by unfold VS at h;simp only[Bool.and_eq_true]at h;have h2:=h.2;unfold Xg at h2;simp only[decide_eq_true_eq]at h2;obtain⟨h1,-,h3,-⟩:=h2;unfold qp;rw[<-h1,<-h3]
theorem volAt_it{v:Vol}(h:Uw v):ZR (XZ v)=v:=by
 obtain⟨⟨a0,a1⟩,⟨b0,b1⟩,⟨c0,c1⟩⟩:=h;obtain⟨id,root,fz,frm⟩:=v;obtain⟨root,rfl⟩:=Int.eq_ofNat_of_zero_le b0;obtain⟨frm,rfl⟩:=Int.eq_ofNat_of_zero_le c0;simp only at a0 a1 b0 b1 c0 c1;have hlen:(Ql ⟨id,(root:Int),fz,(frm:Int)⟩).length=7:=vH _;have d0:(Ql ⟨id,(root:Int),fz,(frm:Int)⟩).drop 0=qM root 2++([if fz then 1 else 0]++qM frm 4):=by simp[Ql]
 have d2:(Ql ⟨id,(root:Int),fz,(frm:Int)⟩).drop (0+2)=[if fz then 1 else 0]++qM frm 4:=kE d0 (QD _ _);have d3:(Ql ⟨id,(root:Int),fz,(frm:Int)⟩).drop (0+2+1)=qM frm 4++[]:=by rw[List.append_nil];exact kE d2 rfl
 have e2:(Ql ⟨id,(root:Int),fz,(frm:Int)⟩)[2]?=some (if fz then 1 else 0):=by
  have:(Ql ⟨id,(root:Int),fz,(frm:Int)⟩)[2]?=((Ql ⟨id,(root:Int),fz,(frm:Int)⟩).drop (0+2))[0]?:=by rw[List.getElem?_drop]
  rw[this,d2];rfl
 unfold ZR XZ;simp only;rw[XK d0 rfl zO zO,XK d3 rfl zO zO,e2];cases fz<;>rfl
theorem ins_map{v:Vol}(hv:Uw v):∀{l:List It},(∀y∈l,VS y=true)->(Xi (qp (XZ v)) (XZ v) l).map ZR=insV v (l.map ZR):=λ{l} h=>by
 have k:qp (XZ v)=(1,v.id,0):=rfl;unfold Xi insV;rw[k,List.map_append,List.map_append,List.filter_map,List.filter_map];have f1:(l.filter λy=>qV (qp y) (1,v.id,0))=l.filter ((λu:Vol=>decide (u.id<v.id)) ∘ ZR):=List.filter_congr λy hy=>by rw[qfB (h y hy),Bool.eq_iff_iff];simp[qV,JD,ZR];exact decide_eq_true_iff.symm
 have f2:(l.filter λy=>qV (1,v.id,0) (qp y))=l.filter ((λu:Vol=>decide (v.id<u.id)) ∘ ZR):=List.filter_congr λy hy=>by rw[qfB (h y hy),Bool.eq_iff_iff];simp[qV,JD,ZR];exact decide_eq_true_iff.symm
 rw[f1,f2];simp[volAt_it hv]
theorem qac{next:Int}{l:List It}{vs:List Vol}(h:Zg next [] l=some vs):(∀y∈l,VS y=true)/\vs=l.map ZR:=by
 rw[Xa next l [] zA3]at h;split at h
 ·rename_i hc;cases h;refine⟨λy hy=>?_,zA3⟩;have:=List.all_eq_true.1 hc.1 y hy;unfold je at this;simp only[Bool.and_eq_true]at this;exact this.1
 ·cases h
theorem SetOk.vols{S S':Sto}{root next:Int}{dead:List Int}{v:Vol}{r:Nat}{vs':List Vol}(h:SetOk S root next dead v r S' vs')(hv:Uw v):∃vs S2,QR S root next dead vs/\QR S' (r:Int) next dead vs'/\vs'=insV v vs/\SM S S2/\SM S' S2:=by
 obtain⟨vs,refs,nodes,hp,-,-,-,hNT,⟨refs',nodes',hp',-⟩⟩:=h;obtain⟨a,ha,h8,h256,lvl,xs,hn,hs⟩:=Zs hp.top;subst ha;unfold qbe at hNT;rw[Int.toNat_natCast,hn]at hNT;simp only[Int.toNat_natCast]at hNT;unfold GT at hNT;split at hNT
 ·rename_i hask;obtain⟨S2,t,H,ys,rfl,m,hS2,hn2,hs2,hi2,hl⟩:=qkZ hp.may (qfN.of (qhB hv) hask) hn hs hNT;have ml:SM (qv S2 t) S2:=qjX (Yg S2 7 _ _ _ _ hl);have hv2:=ml.vols hp'.top hp'.vols;have hv1:=hp.vols;unfold vI at hv1 hv2;rw[Int.toNat_natCast,hn]at hv1;rw[Int.toNat_natCast,hn2]at hv2;simp only[Int.toNat_natCast]at hv1 hv2;rw[hi2]at hv2;obtain⟨g1,e1⟩:=qac hv1;obtain⟨g2,e2⟩:=qac hv2;refine⟨vs,S2,hp,hp',?_,m,ml⟩;rw[e2,e1,ins_map hv g1]
 ·cases hNT
theorem qit{S S' S2:Sto}(m:SM S S2)(m':SM S' S2){a lvl lvl':Nat}{xs xs':List It}(hn:qk S a=some ((lvl:Int),xs))(hs:(qz S lvl xs).isSome=true)(hn':qk S' a=some ((lvl':Int),xs'))(hs':(qz S' lvl' xs').isSome=true):lvl'=lvl/\xs'=xs/\qu S' lvl' xs'=qu S lvl xs:=by
 have e1:=m.node _ _ hn;have e2:=m'.node _ _ hn';rw[e1]at e2;simp only[Option.some.injEq,Prod.mk.injEq]at e2;obtain⟨h1,rfl⟩:=e2;obtain rfl:lvl=lvl':=zO;exact⟨rfl,rfl,by rw[<-m.items _ _ hs,<-m'.items _ _ hs']⟩
theorem qdQ{x:It}(h:VS x=true):qp x=(1,x.i,0)/\x.r=0:=by unfold VS Xg at h;simp only[Bool.and_eq_true,decide_eq_true_eq]at h;obtain⟨_,h1,_,h3,h4,_⟩:=h;exact⟨by unfold qp;rw[<-h1,<-h3],h4.symm⟩
theorem qiP{S:Sto}{root next:Int}{dead:List Int}{vs:List Vol}(h:QR S root next dead vs):∃its:List It,vs=its.map ZR/\its.length<=16/\(∀x∈its,je next x=true)/\its.Pairwise (λa b=>qV (qp a) (qp b)=true):=by
 obtain⟨a,rfl,h8,h256,lvl,xs,hn,hs⟩:=Zs h.top;have hv:=h.vols;unfold vI at hv;rw[show((a:Nat):Int).toNat=a from rfl,hn]at hv;simp only[Int.toNat_natCast]at hv;rw[Xa _ _ _ zA3]at hv;split at hv
 ·rename_i hc;simp only[Option.some.injEq,List.nil_append]at hv;exact⟨qu S lvl xs,hv.symm,by simpa using hc.2,λx hx=>List.all_eq_true.1 hc.1 x hx,(ZN hs).1⟩
 ·cases hv
structure VolsL(S:Sto)(root next:Int)(vs:List Vol)(refs:Nat->Nat):Prop where
 len:vs.length<=16
 rise:vs.Pairwise λa b=>a.id<b.id
 num:∀v∈vs,1<=v.id/\v.id<next
 at_:∀v∈vs,∃r:Nat,v.root=(r:Int)/\8<=r/\r<256/\1<=refs r
 top:∃r:Nat,root=(r:Int)/\8<=r/\r<256/\1<=refs r
 now:∀a,a<256->refs a<=(S.now[a]?.getD 0).toNat
theorem qhz(x:It):(ZR x).id=x.i:=rfl
theorem pool_law{S:Sto}{root next:Int}{dead:List Int}{vs:List Vol}{refs nodes:Nat->Nat}(h:QR S root next dead vs)(hc:Qz S (QJ root dead vs) refs nodes)(he:ZS S refs)(h0:∀v∈vs,0<=v.id):VolsL S root next vs refs:=by
 obtain⟨its,rfl,hl,hg,ho⟩:=qiP h;have hXM:∀r∈zl root dead (its.map ZR),∃n:Nat,r=(n:Int)/\8<=n/\n<256/\1<=refs n:=λr hr=>by obtain⟨n,e,h1,h2,_⟩:=Zs (h.ok r hr);refine⟨n,e,h1,h2,?_⟩;rw[hc.mkd.sum n];have:1<=(QJ root dead (its.map ZR)).count n:=List.one_le_count_iff.2 (List.mem_map.2 ⟨r,hr,by rw[e];rfl⟩);omega
 refine⟨by simpa using hl,?_,λv hv=>?_,λv hv=>hXM _ (List.mem_append_right _ (List.mem_map_of_mem hv)),hXM _ (List.mem_append_left _ List.mem_cons_self),he⟩
 ·rw[List.pairwise_map];refine(List.Pairwise.and_mem.1 ho).imp ?_;rintro a b ⟨ha,hb,hlt⟩;have ka:=(qdQ (x:=a) (by have:=hg a ha;unfold je at this;simp only[Bool.and_eq_true]at this;exact this.1)).1;have kb:=(qdQ (x:=b) (by have:=hg b hb;unfold je at this;simp only[Bool.and_eq_true]at this;exact this.1)).1;rw[ka,kb,Yi]at hlt;simp only[qhz];simp only at hlt;omega
 ·obtain⟨x,hx,rfl⟩:=List.mem_map.1 hv;have:=hg x hx;have h0':=h0 _ hv;unfold je at this;simp only[Bool.and_eq_true,decide_eq_true_eq]at this;rw[qhz]at h0'⊢;omega
theorem find_id{vs:List Vol}(h:vs.Pairwise λa b=>a.id<b.id){v:Vol}(hv:v∈vs):(vs.find? λx=>decide (x.id=v.id))=some v:=by
 induction vs with
 |nil=>cases hv
 |cons a r ih=>
  rw[List.pairwise_cons]at h;rcases List.mem_cons.1 hv with rfl|hv
  ·simp
  ·have:=h.1 v hv;rw[List.find?_cons,decide_eq_false zO];exact ih h.2 hv
theorem qdT{S:Sto}:∀(h:Nat)(xs:List It),(∀x∈xs,QY x)->∀y∈qu S h xs,QY y
 |0,xs,hx,y,hy=>hx y hy
 |h+1,xs,_,y,hy=>by
  rw[zu]at hy;obtain⟨z,hz,hy⟩:=List.mem_flatMap.1 hy;rcases hn:qk S z.r.toNat with _|⟨lvl,ys⟩
  ·rw[hn]at hy;cases hy
  ·rw[hn]at hy;exact qdT h ys (λx hx=>((qF hn).2.1 x hx).1) y hy
theorem qhF{S:Sto}{root next:Int}{dead:List Int}{vs:List Vol}(h:QR S root next dead vs):∀v∈vs,Uw v:=λv hv=>by
 obtain⟨a,rfl,h8,h256,lvl,xs,hn,hs⟩:=Zs h.top;have hvs:=h.vols;unfold vI at hvs;rw[show((a:Nat):Int).toNat=a from rfl,hn]at hvs;simp only[Int.toNat_natCast]at hvs;rw[Xa _ _ _ zA3]at hvs;split at hvs
 ·rename_i hc;simp only[Option.some.injEq,List.nil_append]at hvs;rw[<-hvs]at hv;obtain⟨x,hx,rfl⟩:=List.mem_map.1 hv;have h1:=qdT (S:=S) lvl xs (λy hy=>((qF hn).2.1 y hy).1) x hx;have h2:=List.all_eq_true.1 hc.1 x hx;unfold je VS at h2;simp only[Bool.and_eq_true,decide_eq_true_eq]at h2;exact qhA h1 zO
 ·cases hvs
theorem ZC.no{S:Sto}{root next:Int}{dead:List Int}{vs:List Vol}{refs nodes:Nat->Nat}(h:ZC S root next dead)(hp:QR S root next dead vs)(hc:Qz S (QJ root dead vs) refs nodes)(he:ZS S refs):False:=by obtain⟨r,n,h1,h2⟩:=h vs hp;obtain⟨_,e⟩:=Jy.same h1.mkd hc.mkd;subst e;exact h2 he
theorem qej{S:Sto}{root next:Int}{dead:List Int}{vs:List Vol}{refs nodes:Nat->Nat}(h:QR S root next dead vs)(hc:Qz S (QJ root dead vs) refs nodes)(he:ZS S refs):VolsL S root next vs refs:=pool_law h hc he λv hv=>(qhF h v hv).1.1
def qad(M:Nat->Bool)(a:Nat):Nat->Bool:=λb=>if b=a then false else M b
theorem qex(M:Nat->Bool)(a:Nat):qad M a a=false:=by simp[qad]
theorem Gs{M:Nat->Bool}{a b:Nat}(h:b≠a):qad M a b=M b:=by simp[qad,h]
theorem ku{M:Nat->Bool}{a b:Nat}(h:qad M a b=true):M b=true/\b≠a:=by
 by_cases e:b=a
 ·subst e;rw[qex]at h;cases h
 ·rw[Gs e]at h;exact⟨h,e⟩
theorem qkN{M:Nat->Bool}{a:Nat}(h:M a=true):vz (qad M a) a=M:=by
 funext b;unfold vz qad;by_cases e:b=a
 ·subst e;simp[h]
 ·simp[e]
theorem GX{rs:Nat->List Nat}{M:Nat->Bool}{a b:Nat}(h:M a=true)(n:Nat):Ju rs M b n=Ju rs (qad M a) b n+if a<n then(rs a).count b else 0:=by rw[<-Tn (qex M a) n,qkN h]
theorem To{rs:Nat->List Nat}{M M':Nat->Bool}(h:∀a,M a=true->M' a=true)(b:Nat):∀n,Ju rs M b n<=Ju rs M' b n
 |0=>zM _
 |n+1=>by
  unfold Ju;have h1:=To (rs:=rs) h b n;by_cases hn:M n=true
  ·rw[if_pos hn,if_pos (h n hn)];omega
  ·rw[if_neg hn];omega
theorem qcz{rs:Nat->List Nat}{M:Nat->Bool}{a b:Nat}(ha:M a=true)(hb:b∈rs a){n:Nat}(hn:a<n):0<Ju rs M b n:=by rw[GX ha n,if_pos hn];have:=List.count_pos_iff.2 hb;omega
structure Cov(ks rs:Nat->List Nat)(t:List UInt8)(R:List Nat)(M:Nat->Bool):Prop where
 kid:∀a,M a=true->∀b∈ks a,M b=true
 sub:∀a b,b∈ks a->b∈rs a
 cnt:∀b,0<b->R.count b+Ju rs M b 256<=qP t b
 live:∀a,M a=true->qP t a≠0
 low:∀a,M a=true->0<a/\a<256
structure Yx(R:List Nat)(M M':Nat->Bool):Prop where
 le:∀a,M' a=true->M a=true
 keep:∀a,a∈R->M a=true->M' a=true
theorem Yx.refl(R:List Nat)(M:Nat->Bool):Yx R M M:=⟨λ_ h=>h,λ_ _ h=>h⟩
theorem Yx.trans{R:List Nat}{M M' M'':Nat->Bool}(h:Yx R M M')(k:Yx R M' M''):Yx R M M'':=⟨λa x=>h.le a (k.le a x),λa x y=>k.keep a x (h.keep a x y)⟩
theorem Yx.mono{R R':List Nat}{M M':Nat->Bool}(h:Yx R M M')(hr:∀a∈R',a∈R):Yx R' M M':=⟨h.le,λa x y=>h.keep a (hr a x) y⟩
section
variable {ks rs:Nat->List Nat} {t t':List UInt8} {R R':List Nat} {M:Nat->Bool} {a b:Nat}
theorem Cov.perm(h:Cov ks rs t R M)(hc:∀b,0<b->R'.count b<=R.count b):Cov ks rs t R' M:=⟨h.kid,h.sub,λb hb=>Nat.le_trans (Nat.add_le_add_right (hc b hb) _) (h.cnt b hb),h.live,h.low⟩
theorem Cov.drop(h:Cov ks rs t R M)(ha:M a=true)(h0:Ju rs M a 256=0):Cov ks rs t R (qad M a) where
 kid c hc d hd:=by
  obtain⟨h1,h2⟩:=ku hc;have e:d≠a:=λe=>by have:=qcz h1 (h.sub c d hd) (h.low c h1).2;rw[e]at this;omega
  rw[Gs e];exact h.kid c h1 d hd
 sub:=h.sub
 cnt b hb:=Nat.le_trans (Nat.add_le_add_left (To (λc hc=>(ku hc).1) b 256) _) (h.cnt b hb)
 live c hc:=h.live c (ku hc).1
 low c hc:=h.low c (ku hc).1
theorem kZ{t:List UInt8}{b:Nat}(h:qP t b≠0)(c:Nat):qP (vM t b) c=if c=b then qP t b-1 else qP t c:=by
 have hl:b<t.length:=by
  by_cases h1:b<t.length
  ·exact h1
  ·exact absurd (Ye zO) h
 have h2:=Tf t b;unfold vM;by_cases e:c=b
 ·subst e;rw[if_pos rfl,Vk hl,UInt8.toNat_ofNat'];omega
 ·rw[if_neg e,Ja e]
theorem Cov.loose(h:Cov ks rs t (b::R) M)(hb:0<b):∃M',Cov ks rs (vM t b) R M'/\Yx R M M':=by
 have h1:=h.cnt b hb;rw[List.count_cons_self]at h1;have hne:qP t b≠0:=zO;have hc:∀c,0<c->R.count c+Ju rs M c 256<=qP (vM t b) c:=λc hc=>by
  rw[kZ hne c];split
  ·rename_i e;subst e;omega
  ·rename_i e;have:=h.cnt c hc
   rwa [List.count_cons_of_ne (λx=>e x.symm)]at this
 by_cases hM:M b=true/\qP t b=1
 ·have h0:Ju rs M b 256=0:=zO;have hr:R.count b=0:=zO;have hd:=h.drop hM.1 h0;refine⟨qad M b,⟨hd.kid,h.sub,λc hcp=>Nat.le_trans (Nat.add_le_add_left (To (λd hd=>(ku hd).1) c 256) _) (hc c hcp),λc hcM=>?_,hd.low⟩,λc hc=>(ku hc).1,λc hcR hcM=>?_⟩
  ·obtain⟨k1,k2⟩:=ku hcM;rw[kZ hne c,if_neg k2];exact h.live c k1
  ·rw[Gs]
   ·exact hcM
   ·rintro rfl;exact absurd hcR (List.count_eq_zero.1 hr)
 ·refine⟨M,⟨h.kid,h.sub,hc,λc hcM=>?_,h.low⟩,Yx.refl _ _⟩;rw[kZ hne c];split
  ·rename_i e;subst e;intro e;exact hM ⟨hcM,zO⟩
  ·exact h.live c hcM
theorem Cov.looseL:∀{l:List Nat}{t t':List UInt8}{M:Nat->Bool},Cov ks rs t (l++R) M->looseL l t=.ok t'->∃M',Cov ks rs t' R M'/\Yx R M M'
 |[],t,t',M,h,e=>by cases e;exact⟨M,h,Yx.refl _ _⟩
 |a::l,t,t',M,h,e=>by
  by_cases ha:a=0
  ·subst ha;rw[jb]at e;exact Cov.looseL (h.perm λb hb=>by rw[List.cons_append,List.count_cons_of_ne zO];exact zM _) e
  ·by_cases h0:qP t a=0
   ·rw[jB ha h0]at e;cases e
   ·rw[ja ha h0]at e;obtain⟨M1,h1,l1⟩:=Cov.loose (R:=l++R) h zO;obtain⟨M2,h2,l2⟩:=Cov.looseL h1 e;exact⟨M2,h2,(l1.mono λ_ x=>List.mem_append_right _ x).trans l2⟩
end
section
variable {S:Sto} {R:List Nat}
theorem YT{S:Sto}{a:Nat}{lvl:Int}{xs:List It}(hn:qk S a=some (lvl,xs)){b:Nat}(hb:0<b):(qB xs).count b=(QO S a).count b:=by unfold QO qB;rw[hn];simp only;rw[List.count_filter (by simpa using(show b≠0 by omega))]
theorem qbi{S:Sto}{a:Nat}{lvl:Int}{xs:List It}(hn:qk S a=some (lvl,xs))(hl:0<lvl):Zh S a=QO S a:=by unfold Zh;rw[hn];simp only;rw[if_pos hl]
theorem Cov.gone{t:List UInt8}{M:Nat->Bool}{a:Nat}{lvl:Int}{xs:List It}(h:Cov (Zh S) (QO S) t (a::R) M)(hM:M a=true)(h1:qP t a=1)(hn:qk S a=some (lvl,xs)):Cov (Zh S) (QO S) (t.set a 0) (qB xs++R) (qad M a)/\R.count a=0/\(∀r∈Zh S a,qad M a r=true):=by
 obtain⟨ha0,ha2⟩:=h.low a hM;have h2:=h.cnt a ha0;rw[List.count_cons_self,h1]at h2;have h0:Ju (QO S) M a 256=0:=zO;have hR:R.count a=0:=zO;have hd:=h.drop hM h0;have hl:a<t.length:=by
  by_cases hx:a<t.length
  ·exact hx
  ·rw[Ye zO]at h1;cases h1
 have hra:(QO S a).count a=0:=by have:=GX (rs:=QO S) (b:=a) hM 256;rw[if_pos ha2]at this;omega
 refine⟨⟨hd.kid,h.sub,λb hb=>?_,λc hc=>?_,hd.low⟩,hR,λr hr=>?_⟩
 ·rw[List.count_append,YT hn hb];have h3:=GX (rs:=QO S) (b:=b) hM 256;rw[if_pos ha2]at h3;by_cases e:b=a
  ·subst e;rw[Vk hl];show _<=0;omega
  ·rw[Ja e];have h4:=h.cnt b hb;rw[List.count_cons_of_ne (λx=>e x.symm)]at h4;omega
 ·obtain⟨k1,k2⟩:=ku hc;rw[Ja k2];exact h.live c k1
 ·rw[Gs]
  ·exact h.kid a hM r hr
  ·rintro rfl;have:=List.count_pos_iff.2 (h.sub r r hr);omega
theorem Cov.foldl{f:List UInt8->Nat->Option (List UInt8)}(hf:∀{t t':List UInt8}{a:Nat}{R:List Nat}{M:Nat->Bool},Cov (Zh S) (QO S) t (a::R) M->M a=true->f t a=some t'->∃M',Cov (Zh S) (QO S) t' R M'/\Yx R M M'):∀(l:List Nat){t t':List UInt8}{M:Nat->Bool},Cov (Zh S) (QO S) t (l++R) M->(∀r∈l,M r=true)->l.foldl (λacc r=>acc.bind λt=>f t r) (some t)=some t'->∃M',Cov (Zh S) (QO S) t' R M'/\Yx R M M'
 |[],t,t',M,h,_,e=>by cases e;exact⟨M,h,Yx.refl _ _⟩
 |a::l,t,t',M,h,hM,e=>by
  rw[List.foldl_cons,Option.bind_some]at e;rcases e1:f t a with _|t1
  ·rw[e1]at e;exfalso;have:∀l:List Nat,l.foldl (λacc r=>acc.bind λt=>f t r) none=none:=λl=>by
    induction l with
    |nil=>rfl
    |cons x l ih=>rw[List.foldl_cons];exact ih
   rw[this]at e;cases e
  ·rw[e1]at e;obtain⟨M1,h1,l1⟩:=hf (R:=l++R) h (hM a List.mem_cons_self) e1;obtain⟨M2,h2,l2⟩:=Cov.foldl hf l h1 (λr hr=>l1.keep r (List.mem_append_left _ hr) (hM r (List.mem_cons_of_mem _ hr))) e;exact⟨M2,h2,(l1.mono λ_ x=>List.mem_append_right _ x).trans l2⟩
theorem Cov.leaveF:∀(h:Nat)(lvl:Int){t t':List UInt8}{a:Nat}{R:List Nat}{M:Nat->Bool},Cov (Zh S) (QO S) t (a::R) M->M a=true->leaveF S h lvl t a=some t'->∃M',Cov (Zh S) (QO S) t' R M'/\Yx R M M'
 |0,lvl,t,t',a,R,M,_,_,e=>by cases e
 |h+1,lvl,t,t',a,R,M,hc,hM,e=>by
  rw[JZ]at e;split at e
  ·cases e
  ·rename_i h0;split at e
   ·cases e;exact hc.loose (hc.low a hM).1
   ·rename_i h1;split at e
    ·cases e
    ·rename_i l xs hn;split at e
     ·cases e
     ·obtain⟨hg,hR,hk⟩:=hc.gone hM zO hn;have hlw:Yx R M (qad M a):=⟨λc hc=>(ku hc).1,λc hcR hcM=>by
       rw[Gs]
       ·exact hcM
       ·rintro rfl;exact absurd hcR (List.count_eq_zero.1 hR)⟩
      split at e
      ·rename_i hl;obtain⟨M',h2,l2⟩:=Cov.foldl (R:=R) (f:=λt r=>Go.Proofs.YtmeadnlmepcmbaaGreat.leaveF S h (l-1) t r) (λhc hM e=>Cov.leaveF h (l-1) hc hM e) (qB xs) hg (λr hr=>hk r (by rw[qbi hn hl];have h8:=(qch hn hl r hr).1;have:=YT hn (show 0<r by omega);have hp:=List.count_pos_iff.2 hr;exact List.count_pos_iff.1 zO)) e;exact⟨M',h2,hlw.trans l2⟩
      ·split at e
       ·cases e
       ·rename_i t1 el;cases e;obtain⟨M',h2,l2⟩:=Cov.looseL (R:=R) hg el;exact⟨M',h2,hlw.trans l2⟩
end
theorem qbY{S:Sto}{h r b:Nat}{y:It}{t t':List UInt8}(hl:S.now.length=256)(hn:qk S r=some (((h+1:Nat):Int),[y]))(hy:y.r=(b:Int))(h8:8<=b)(hb:b<256)(hbr:b≠r)(h0:qP S.now b≠0)(e:ZG S.now b=.ok t)(e':QC (qv S t) (-1) t r=some t'):t=QZ S.now b 1/\∀q (l:Int) nd,q≠r->qk S q=some (l,nd)->qk (qv S t') q=some (l,nd):=by
 unfold ZG at e;rw[if_neg zO,if_neg h0]at e;split at e
 ·cases e
 ·rename_i wCT;cases e;refine⟨rfl,?_⟩;have hcn:∀q,qP (QZ S.now b 1) q=qP S.now q+if q=b then 1 else 0:=λq=>by
   unfold QZ;rw[Kv _ zO];split
   ·rename_i e;subst e;have h2:=Tf S.now q;rw[UInt8.toNat_ofNat'];omega
   ·rfl
  have hGA:∀q,q≠r->qP S.now q≠0->qP t' q≠0:=λq hq hc=>by
   have h1:=hcn q;rw[Vx]at e';split at e'
   ·cases e'
   ·split at e'
    ·cases e';rw[kZ (by assumption)];rw[if_neg hq];omega
    ·have hn1:qk (qv S (QZ S.now b 1)) r=some (((h+1:Nat):Int),[y]):=by
      have h3:=hcn r;rw[if_neg (λe=>hbr e.symm)]at h3;unfold qk at hn⊢;unfold qP at h3;split at hn
      ·cases hn
      ·rename_i hz;rw[if_neg (by show ¬((QZ S.now b 1)[r]?.getD 0).toNat=0;omega)];exact hn
     rw[hn1]at e';simp only at e';rw[if_neg zO,if_pos zO]at e';have hrf:qB [y]=[b]:=by simp[qB,hy]
     rw[hrf]at e';simp only[List.map_cons,List.map_nil,Jz]at e';have hcs:∀q,qP ((QZ S.now b 1).set r 0) q=if q=r then 0 else qP (QZ S.now b 1) q:=λq=>by
      by_cases hr:r<(QZ S.now b 1).length
      ·rw[Kv _ hr];rfl
      ·rw[List.set_eq_of_length_le zO];split
       ·rename_i e;subst e;unfold qP;rw[List.getElem?_eq_none zO];rfl
       ·rfl
     have hb2:qP ((QZ S.now b 1).set r 0) b=qP S.now b+1:=by rw[hcs,if_neg hbr,hcn,if_pos rfl]
     split at e'
     ·cases e'
     ·rename_i t1 hl1;cases e';rw[Vx,if_neg zO,if_pos zO]at hl1;cases hl1;rw[kZ zO];split
      ·omega
      ·rw[hcs,if_neg hq];omega
  intro q l nd hq hnq;unfold qk at hnq⊢;split at hnq
  ·cases hnq
  ·rename_i hz;rw[if_neg (by have:=hGA q hq hz;exact this)];exact hnq
theorem GP{S:Sto}{a:Nat}{nd:Int×List It}(h:qk S a=some nd):qP S.now a≠0:=λe=>by
 have e2:qk S a=if qP S.now a=0 then none else QK (jW S a):=rfl
 rw[e2,if_pos e]at h;cases h
def LowQ(D:Nat->Prop)(B lo b g:Nat)(k:Option Nat)(q:Except Int (Nat×Sto))(w:World)(e:Ending)(W:World):Prop:=Qh lo b g k w W /\
 match q with
 |.error er=>er≠0/\∃v:Int,e=.returned (.tuple #[.int .i64 v,.int .i64 er])
 |.ok (r,S')=>qm S'=true/\r<256/\e=.returned (.tuple #[.int .i64 (r:Int),.int .i64 0])/\Bch D B lo b g k S' W
theorem YD{R:Ending->World->Prop}{a:Act}{W:World}{u v:Value}(h4:a.tmps[4]?.getD undef=u)(h5:a.tmps[5]?.getD undef=v)(hd:a.defers=[])(hR:R (.returned (.tuple #[u,v])) W):bodyPost prog Tryz.f120 R .ret a W:=by refine bodyPost_ret (v:=.tuple #[u,v]) ?_ hd hR;simp[results,results120,go_sem,h4,h5]
structure LowI(D:Nat->Prop)(B lo b g:Nat)(k:Option Nat)(S:Sto)(q:Except Int (Nat×Sto))(w:World)(i:Value)(W:World):Prop where
 ex:∃(r:Nat)(S':Sto)(n:Nat)(ys:List It)(m:Nat),i=.int .i64 (r:Int)/\8<=r/\r<256/\qm S'=true/\qk S r=some ((n:Int),ys)/\Xd S n ys/\(∀q (l:Int) nd,l<=(n:Int)->qk S q=some (l,nd)->qk S' q=some (l,nd))/\n<m/\Zx m S' r=q/\Bch D B lo b g k S' W
 keep:Qh lo b g k w W
set_option maxRecDepth 100000 in
theorem qif(D:Nat->Prop)(B lo b g:Nat)(k:Option Nat)(S:Sto)(hS:qm S=true)(f:Nat)(hf:8<=f)(hf2:f<256)(H:Nat)(its:List It)(hn:qk S f=some ((H:Int),its))(hHE:Xd S H its)(m:Nat)(hm:H<m)(w:World)(h:Bch D B lo b g k S w):Calls prog 120 #[.pointer (some ⟨b,0,none⟩),.int .i64 (f:Int)] w (LowQ D B lo b g k (Zx m S f) w):=by
 obtain⟨q,hq⟩:∃q,Zx m S f=q:=⟨_,rfl⟩
 rw[hq];have I0:Hid (LowI D B lo b g k S q w (.int .i64 (f:Int)) w):=zH ⟨⟨f,S,H,its,m,rfl,hf,hf2,hS,hn,hHE,λ_ _ _ _ h=>h,hm,hq,h⟩,Qh.refl _ _ _ _ _⟩;clear hS hf hf2 hn hHE hm h hq;go_enter func120,ntmps120;go_wp2_with fail;go_loopw [1,4,5] (λv x y wr=>LowI D B lo b g k S q w v wr) (λv _ _ _=>vc S v)
 case atStart=>exact I0.out
 case round=>
  obtain⟨⟨r,S',n,ys,m,rfl,hr8,hr2,hS',hn,hHE,hCV,hnm,hq,hb⟩,hk⟩:=hrel;clear I0;have wRS:=zH (VA hn);have hn':=hCV r _ _ (Int.le_refl _) hn;have hlb:=hb.size.1;have HN:=zH (by obtain⟨A1',n1',c1',A2',n2',c2',c3',A4',c4',hr',hLW⟩:=hb.sto;exact vS lo b A1' n1' c1' A2' n2' c2' _ 256 c3' A4' 256 c4' S' hS' r hr8 hr2 wr ⟨hlb,hr',hLW⟩:Calls prog 145 #[.pointer (some ⟨b,0,none⟩),.int .i64 (r:Int)] wr (zm (qbr wr.heap.size (qk S' r)) wr));rw[hn']at HN;replace⟨hb,hk,hn,hn',hHE,hCV⟩:=zH6 hb hk hn hn' hHE hCV;replace⟨hq,hS',hnm,hlb,hr8,hr2⟩:=zH6 hq hS' hnm hlb hr8 hr2;go_wp2_with fail;refine HN.out.mono ?_;clear HN;rintro e w2 ⟨u,rfl,⟨A9,c9,rfl,hBC⟩,hB⟩;have x2:Ext wr w2:=hB;replace hBC:=zH hBC;clear hB;go_upto_region 2 with fail;generalize hw3:World.alloc w2 _=w3;have x23:Ext w2 w3:=by rw[<-hw3];exact zN _ _
  have x3:Ext wr w3:=x2.trans x23;have r3:w3.heap[w2.heap.size]?=some (.cells #[.int .i64 n,.slice A9 ys.length c9] 113 (0,0)):=by rw[<-hw3];exact zI _ _ _ rfl
  have k3:=qa r3;have hb3:=zH (hb.out.ext x3);have hk3:Hid (Qh lo b g k w w3):=zH (hk.out.trans (Qh.of_ext x3 (by have:=hb.out.size.2.2.2.2.2.1;omega)) (Zj.refl _ _));replace hBC:=zH (hBC.out.ext x23);clear hw3 x2 x23 hb hk;have wKS:Hid (∀W,Ext w3 W->Zx m S' r=.ok (r,S')->LowQ D B lo b g k q w (.returned (.tuple #[.int .i64 (r:Int),.int .i64 0])) W):=zH λW hW e=>⟨hk3.out.trans (Qh.of_ext hW (by have:=hb3.out.size.2.2.2.2.2.1;omega)) (Zj.refl _ _),by rw[<-hq.out,e];exact⟨hS'.out,hr2.out,rfl,hb3.out.ext hW⟩⟩
  obtain⟨m',rfl⟩:∃m',m=m'+1:=⟨m-1,by have:=hnm.out;omega⟩
  rcases Nat.eq_zero_or_pos n with h0|h0
  ·have z1:((n:Int)==0)=true:=by rw[beq_iff_eq];omega
   have z2:decide (n=0)=true:=decide_eq_true h0;have he:Zx (m'+1) S' r=.ok (r,S'):=by
    simp only[Zx,hn'.out];split
    ·rw[if_pos zO]
    ·rfl
   have hR:=zH (wKS.out w3 (Ext.refl _) he);replace h0:=zH h0;clear wKS he hq hnm hCV hHE hn hn' hb3 hk3 hBC wRS;go_wp2_with fail;exact YD rfl rfl rfl hR.out
  ·have z1:((n:Int)==0)=false:=by rw[beq_eq_false_iff_ne];omega
   have z2:decide (n=0)=false:=decide_eq_false zO;by_cases h1:ys.length=1
   ·obtain⟨y,hy⟩:∃y,ys=[y]:=List.length_eq_one_iff.1 h1;obtain⟨n',hn1⟩:∃n',n=n'+1:=⟨n-1,zO⟩
    have hl2:=hHE.out;rw[hn1]at hl2;obtain⟨c,zs,e1,hc8,hc2,hcn,hcl⟩:=hl2 y hy;have hA:=hBC.out.its.at_.2.2.2;obtain⟨b9,off,rfl,hb9⟩:=hA zO;obtain⟨A',c',-,-,-,d3,-,-⟩:=hBC.out.its.item 0 zO;have d3':w3.cell? ⟨b9,off+3,none⟩=some (.int .i64 (c:Int)):=by
     have e:ys[0]'(by omega)=y:=by simp[hy]
     rw[e,e1,Nat.zero_mul,Nat.add_zero]at d3;exact d3
    rw[h1]at k3;clear r3;have hS3:=hb3.out;have hQV:qP S'.now c≠0:=GP (hCV.out c _ _ zO hcn);have hcr:c≠r:=λe=>by subst e;have h5:=hn.out;rw[hcn]at h5;simp only[Option.some.injEq,Prod.mk.injEq]at h5;omega
    have hER:Hid (Zx (m'+1) S' r=match ZG S'.now c with
     |.error e=>.error e
     |.ok t=>match QC (qv S' t) (-1) t r with
      |none=>.error 8
      |some t'=>Zx m' (qv S' t') c):=zH (by
     simp only[Zx,hn'.out,hy,e1,Int.toNat_natCast];rw[if_neg zO];rfl)
    have HSh:=zH (qbw D B lo b g k S' c hc2 w3 hb3.out);replace⟨h1,hy,hcl,hcn,hn1,hQV⟩:=zH6 h1 hy hcl hcn hn1 hQV;replace⟨hcr,hc8,hc2,e1⟩:=zH4 hcr hc8 hc2 e1;clear hS3 d3 hA hl2 h0 hBC wKS;go_wp2_with fail;refine HSh.out.mono ?_;clear HSh;rintro e V1 ⟨hk4,hBU⟩;have hk5:=hk3.out.trans hk4 (Zj.refl _ _);rcases hBU with⟨h0,-⟩|⟨wCT,rfl⟩|⟨-,wCT,rfl,hb5⟩
    ·exact absurd h0 hQV.out
    ·have hQ:Hid (LowQ D B lo b g k q w (.returned (.tuple #[.int .i64 0,.int .i64 70])) V1):=zH ⟨hk5,by rw[<-hq.out,hER.out];unfold ZG;rw[if_neg (by have:=hc8.out;omega),if_neg hQV.out,if_pos wCT];exact⟨zA1,0,rfl⟩⟩;clear hk4 hk5 hER hb3 hk3;go_wp2_with fail;exact YD rfl rfl rfl hQ.out
    ·have hsh:ZG S'.now c=.ok (QZ S'.now c 1):=by unfold ZG;rw[if_neg (by have:=hc8.out;omega),if_neg hQV.out,if_neg wCT]
     have hSt:qm (qv S' (QZ S'.now c 1))=true:=vy hS'.out (Um (.inr hc8.out) (Qg.1 hS'.out).2.1 hsh);have HL:=zH (TV D B lo b g k (qv S' (QZ S'.now c 1)) hSt r hr8.out hr2.out V1 hb5);replace⟨hsh,hSt,wCT,hk5⟩:=zH4 hsh hSt wCT hk5;clear hk4 hb5 hb3 hk3;go_wp2_with fail;refine HL.out.mono ?_;clear HL;rintro e V2 ⟨hk6,hBU⟩;have hk7:=hk5.out.trans hk6 (Zj.refl _ _);have hnw:(qv S' (QZ S'.now c 1)).now=QZ S'.now c 1:=rfl;rw[hnw]at hBU;rcases hlv:QC (qv S' (QZ S'.now c 1)) (-1) (QZ S'.now c 1) r with _|t'
     ·rw[hlv]at hBU;obtain rfl:=hBU;have hQ:Hid (LowQ D B lo b g k q w (.returned (.tuple #[.int .i64 0,.int .i64 8])) V2):=zH ⟨hk7,by rw[<-hq.out,hER.out,hsh.out];simp only[hlv];exact⟨zA1,0,rfl⟩⟩;clear hk6 hk7 hk5 hER hlv;go_wp2_with fail;exact YD rfl rfl rfl hQ.out
     ·rw[hlv]at hBU;obtain⟨rfl,hb7⟩:=hBU;have hRV:=(qbY (h:=n') (by have:=Qb hS'.out;omega) (by rw[<-hn1.out,<-hy.out];exact hn'.out) e1.out hc8.out hc2.out hcr.out hQV.out hsh.out hlv).2;have hF:LowI D B lo b g k S q w (.int .i64 (c:Int)) V2:=⟨⟨c,qv S' t',n',zs,m',rfl,hc8.out,hc2.out,vy hS'.out (Vb hr8.out (Qg.1 hSt.out).2.1 hlv),hcn.out,hcl.out,λq' l nd hl hqq=>hRV q' l nd (λe=>by have h5:=hn.out;rw[<-e,hqq]at h5;simp only[Option.some.injEq,Prod.mk.injEq]at h5;have:=hn1.out;omega) (hCV.out q' l nd (by have:=hn1.out;omega) hqq),by have:=hnm.out;have:=hn1.out;omega,by rw[<-hq.out,hER.out,hsh.out];simp only[hlv],hb7⟩,hk7⟩
      have hms:vc S (.int .i64 (c:Int))<vc S (.int .i64 (r:Int)):=by rw[VA hcn.out,wRS.out];have:=hn1.out;omega
      replace⟨hF,hms⟩:=zH2 hF hms;clear hk6 hk7 hk5 hER hlv hRV hb7;go_wp2_with fail;exact⟨hF.out,hms.out⟩
   ·have l1:((ys.length:Int)!=1)=true:=by rw[bne_iff_ne];omega
    have l2:decide (ys.length=1)=false:=decide_eq_false h1;have he:Zx (m'+1) S' r=.ok (r,S'):=by
     simp only[Zx,hn'.out];split
     ·exact absurd rfl h1
     ·rfl
    have hR:=zH (wKS.out w3 (Ext.refl _) he);replace⟨h0,h1⟩:=zH2 h0 h1;clear wKS he hq hnm hCV hHE hn hn' hb3 hk3 hBC wRS;go_wp2_with fail;exact YD rfl rfl rfl hR.out
end Go.Proofs.YtmeadnlmepcmbaaGreat
namespace Go.Proofs.YtmeadnlmepcmbaaGreat
open Go.RowKit Go.Shelf
attribute [local go_sem] Oper.semAt_some
abbrev Ud:Type:=Stp×Sl
abbrev udz:Ud:=((0,[],0),(none,0,0))
set_option maxRecDepth 100000 in
theorem backd_in(n:Nat)(hn:1<=n)(l Bs b off len cap:Nat)(us:List Ud)(hFH:len<1099511627776)(J Jx:List Nat->World->Prop)(hY:∀pre (x:Nat) W,J pre W->pre.length<len->x<len->YieldAt Fence.wide (n-1) prog l #[.int .i64 (x:Int),.agg #[.int .i64 ((us[x]?.getD udz).1.1:Int),sv (us[x]?.getD udz).2,.int .i64 ((us[x]?.getD udz).1.2.2:Int)]] W λe W'=>
   (e=.returned (.bool true)/\J (pre++[x]) W'/\Qu Bs b W W')\/(e=.returned (.bool false)/\Jx (pre++[x]) W'))
  (W:World) (hBs:W.cell? ⟨Bs,0,none⟩=some (.slice (some ⟨b,off,none⟩) len cap)) (hc:∀i,i<len->W.cell? ⟨b,off+i*3,none⟩=some (.int .i64 ((us[i]?.getD udz).1.1:Int))/\W.cell? ⟨b,off+i*3+1,none⟩=some (sv (us[i]?.getD udz).2)/\W.cell? ⟨b,off+i*3+2,none⟩=some (.int .i64 ((us[i]?.getD udz).1.2.2:Int))) (h0:J [] W) :
  CallsIn Fence.wide n prog 163 #[.func (.yield l) #[] #[],.pointer (some ⟨Bs,0,none⟩)] W λe W'=>(∃v,e=.returned v) /\
   ((∃ys,ys=ZO (λj=>len-1-j) len/\J ys W')\/(∃pre,(∃k,k<=len/\pre=ZO (λj=>len-1-j) k)/\Jx pre W')):=by
 refine callsIn_of_wp func163 rfl trivial ?_ rfl;simp only[ntmps163,List.size_toArray,List.length_cons,List.length_nil,Nat.reduceAdd,Nat.reduceSub,Array.replicate_succ,Array.replicate_zero,List.push_toArray,List.append_toArray,List.nil_append,List.cons_append]
 gi_wp2
 gi_loopw [3] (λi wr=>∃k:Nat,k<=len/\i=.int .i64 ((len:Int)-1-k)/\J (ZO (λj=>len-1-j) k) wr/\Qu Bs b W wr)
  (λi _=>(intOf i+1).toNat)
 case atStart=>exact⟨0,Nat.zero_le _,zA3,h0,Qu.refl _ _ _⟩
 case round=>
  obtain⟨k,hk,rfl,hJs,hnx⟩:=hrel;have hBr:wr.cell? ⟨Bs,0,none⟩=some (.slice (some ⟨b,off,none⟩) len cap):=(World.cell?_of_block (w:=W) hnx.1).trans hBs;by_cases hlt:k<len
  ·obtain⟨fn,tmps,assign,body,hy,hR⟩:=hY _ (len-1-k) wr hJs (by rw[Zt];exact hlt) zO;have hc0:=(World.cell?_of_block (w:=W) (a:=⟨b,off+(len-1-k)*3,none⟩) hnx.2).trans (hc (len-1-k) zO).1;have hc1:=(World.cell?_of_block (w:=W) (a:=⟨b,off+(len-1-k)*3+1,none⟩) hnx.2).trans (hc (len-1-k) zO).2.1;have hc2:=(World.cell?_of_block (w:=W) (a:=⟨b,off+(len-1-k)*3+2,none⟩) hnx.2).trans (hc (len-1-k) zO).2.2;try dsimp only at hy
   obtain⟨i,hi⟩:∃i:Nat,len-1-k=i:=⟨_,rfl⟩
   have hi2:(len:Int)-1-k=(i:Int):=zO;have hil:i<len:=zO;have hik:k+i+1<=len/\len<=k+i+1:=zO;have HU:=zH (Vi (λj=>len-1-j) k);obtain⟨u,hu⟩:∃u,us[i]?.getD udz=u:=⟨_,rfl⟩
   rw[hi]at hc0 hc1 hc2 hy hR;rw[hu]at hc0 hc1 hc2 hy;rw[hi2];clear hi2;clear hu;have HI:=zH hi;clear hi
   gi_wp2
   refine hR.mono ?_;rintro e W3 (⟨rfl,hJ3,hk3⟩|⟨rfl,hUK⟩)
   ·gi_wp2
    go_roundw
    case rel=>exact⟨k+1,zO,by go_num,by rw[HU.out,HI.out];exact hJ3,hnx.t hk3⟩
    case measure=>simp[intOf]
   ·gi_wp2
    refine bodyPost_ret (results_none rfl _ _ _) rfl ?_;exact⟨⟨_,rfl⟩,.inr ⟨_,⟨k+1,zO,by rw[HU.out,HI.out]⟩,hUK⟩⟩
  ·obtain rfl:k=len:=zO
   gi_wp2
   go_end0;exact⟨⟨_,rfl⟩,.inl ⟨_,rfl,hJs⟩⟩
set_option maxRecDepth 100000 in
theorem qeF(n l Bs c:Nat)(A:OA)(J:List Nat->World->Prop)(W:World)(hBs:W.cell? ⟨Bs,0,none⟩=some (.slice A 0 c))(h0:J [] W):CallsIn Fence.wide n prog 163 #[.func (.yield l) #[] #[],.pointer (some ⟨Bs,0,none⟩)] W λe W'=>(∃v,e=.returned v)/\J [] W':=by
 refine callsIn_of_wp func163 rfl trivial ?_ rfl;simp only[ntmps163,List.size_toArray,List.length_cons,List.length_nil,Nat.reduceAdd,Nat.reduceSub,Array.replicate_succ,Array.replicate_zero,List.push_toArray,List.append_toArray,List.nil_append,List.cons_append]
 gi_wp2
 gi_loopw [3] (λi wr=>i=.int .i64 (-1)/\J [] wr) (λ_ _=>0)
 case atStart=>exact⟨rfl,h0⟩
 case round=>
  obtain⟨rfl,hJs⟩:=hrel
  gi_wp2
  go_end0;exact⟨⟨_,rfl⟩,hJs⟩
def SWd(W:World)(Bs b:Nat)(v:Value)(us:List Ud):Prop:=
 W.cell? ⟨Bs,0,none⟩=some v/\((us=[]/\∃A c,v=.slice A 0 c)\/∃off cap,v=.slice (some ⟨b,off,none⟩) us.length cap/\∀i,i<us.length->W.cell? ⟨b,off+i*3,none⟩=some (.int .i64 ((us[i]?.getD udz).1.1:Int))/\W.cell? ⟨b,off+i*3+1,none⟩=some (sv (us[i]?.getD udz).2)/\W.cell? ⟨b,off+i*3+2,none⟩=some (.int .i64 ((us[i]?.getD udz).1.2.2:Int)))
theorem SWd.keep{W W':World}{Bs b:Nat}{v:Value}{us:List Ud}(h:SWd W Bs b v us)(hk:Qu Bs b W W'):SWd W' Bs b v us:=by
 refine⟨(World.cell?_of_block (w:=W) hk.1).trans h.1,?_⟩;rcases h.2 with h|⟨off,cap,e,hc⟩
 ·exact .inl h
 ·exact .inr ⟨off,cap,e,λi hi=>⟨(World.cell?_of_block (w:=W) hk.2).trans (hc i hi).1,(World.cell?_of_block (w:=W) hk.2).trans (hc i hi).2.1,(World.cell?_of_block (w:=W) hk.2).trans (hc i hi).2.2⟩⟩
theorem qfY(n:Nat)(hn:1<=n)(Bs b:Nat)(v:Value)(us:List Ud)(hFH:us.length<1099511627776)(w:World)(hBs:Bs<w.heap.size)(hb:b<w.heap.size)(hS:SWd w Bs b v us):SeqStopsK Fence.wide n prog 163 #[.pointer (some ⟨Bs,0,none⟩)] (λx:{j:Nat // j<us.length}=>#[.int .i64 (x.1:Int),.agg #[.int .i64 ((us[x.1]?.getD udz).1.1:Int),sv (us[x.1]?.getD udz).2,.int .i64 ((us[x.1]?.getD udz).1.2.2:Int)]]) (Qu Bs b) (λys=>ys.map (·.1)=ZO (λj=>us.length-1-j) us.length)
   (λpre=>∃k,k<=us.length/\pre.map (·.1)=ZO (λj=>us.length-1-j) k) us.length w:=λl J Jx W hW _ _ hY h0=>by
 obtain⟨hc,h⟩:=hS.keep (Qu.below hW hBs hb);rcases h with⟨rfl,A,c,rfl⟩|⟨off,cap,rfl,hcs⟩
 ·exact(qeF n l Bs c A (λpre W=>pre=[]/\J [] W) W hc ⟨rfl,h0⟩).mono λe W' ⟨he,hj⟩=>⟨he,.inl ⟨[],rfl,hj.2⟩⟩
 ·refine(backd_in n hn l Bs b off us.length cap us hFH (λpre W=>∃p':List {j:Nat // j<us.length},p'.map (·.1)=pre/\J p' W) (λpre W=>∃p':List {j:Nat // j<us.length},p'.map (·.1)=pre/\Jx p' W) (λpre x W hJ hl hx=>?_) W hc hcs ⟨[],rfl,h0⟩).mono λe W' ⟨he,hj⟩=>⟨he,?_⟩
  ·obtain⟨p',rfl,hJ⟩:=hJ;obtain⟨fn,tmps,assign,body,hy,hR⟩:=hY p' ⟨x,hx⟩ W hJ (by simpa using hl);exact⟨fn,tmps,assign,body,hy,hR.mono λe W' h=>h.imp (λ⟨a,b,c⟩=>⟨a,⟨_,zA3,b⟩,c⟩) λ⟨a,b⟩=>⟨a,_,zA3,b⟩⟩
  ·rcases hj with⟨ys,rfl,p',e,hJ⟩|⟨pre,⟨k,hk,rfl⟩,p',e,hJ⟩
   ·exact .inl ⟨p',e,hJ⟩
   ·exact .inr ⟨p',⟨k,hk,e⟩,hJ⟩
theorem qcW(A m c)(w:World):Calls prog 116 #[.slice A m c] w (λe w'=>e=.returned (.func (.func 163) #[] #[.pointer (some ⟨w.heap.size,0,none⟩)])/\w'=w.alloc (.cells #[.slice A m c] 160)):=by
 go_enter func116,ntmps116;go_wp2;go_ret;exact⟨rfl,rfl⟩
end Go.Proofs.YtmeadnlmepcmbaaGreat
