/- Lemmas of the proof. -/
import Derived.Test.YtmeadnlmepcmbaaGreatZT25
set_option linter.all false
set_option maxHeartbeats 8000000
open Go.Proofs.Tryz
open Go.Value renaming slice→s,int→E,tuple→O
open Go.World renaming setCell→y,alloc→U
open Go.Ending renaming returned→F
open Option renaming some→I,none→Y
open Bool renaming true→J
open Go.IntKind renaming i64→M,u32→Jx
open Go renaming World→Z
open Go.Obj renaming cells→Oa
namespace Go.Proofs.YtmeadnlmepcmbaaGreat
open Go.RowKit
variable {R:Ending->World->Prop}{a:Act}{W w w':World}{S:Sto}{dead:List Int}{id er:Int}{e:Ending}{vs:List Vol}{A:OA}{xs:List Value}{u:Value}{K K2:K3}{v:Vol}{k:Nat}
def outOI(lo n:Nat)(l:List Int):Qb:=⟨OA×Nat,λp=>s p.1 n p.2,λp W=>W.ownsRow lo 3 1 (s p.1 n p.2) n (Vq l)⟩
theorem qbU(lo n:Nat)(l:List Int)(A c):(outOI lo n l).f (A,c)=s A n c:=rfl
theorem qgg(lo n:Nat)(l:List Int):∀p,za ((outOI lo n l).φ p):=λp W W' he h=>zu h he
def NewPD(lo:Nat)(S:Sto)(gen root next:Int)(dead:List Int)(u:Value)(W:Z):Prop:=∃A1 c1 A2 c2 A3 c3 A4 c4 A5 c5 mid,u=.agg (qR (s A1 S.bs.length c1) (s A2 S.ws.length c2) (s A3 S.now.length c3) (s A4 S.last.length c4) gen root next (s A5 dead.length c5)) /\
 lo<=mid/\mid<=W/\(∀C:Z,(∀(q:Addr)(v:Value),lo<=q.block->q.block<mid->(thaw W).cell? q=v->C.cell? q=v)->Qh C mid (s A1 S.bs.length c1) (s A2 S.ws.length c2) (s A3 S.now.length c3) (s A4 S.last.length c4) S) /\
 W.ownsRow mid 3 1 (s A5 dead.length c5) dead.length (Vq dead)
def UnsetO(S:Sto)(gen root next:Int)(dead:List Int)(id:Int)(w:Z)(e:Ending)(w':Z):Prop:=Below w w w' /\
 ((∃er,er≠0/\e=F (O #[vP,E M er])/\UnErr S root next dead id er) \/
  ∃vs v r S' u,Zy S root next dead vs/\zF vs id=I v/\unE S root id=.ok (r,S')/\e=F (O #[u,E M 0])/\NewPD w S' gen (r:Int) next dead u w')
set_option maxRecDepth 100000 in
theorem qjt(A1 n1 c1 A2 n2 c2 A3 n3 c3 A4 n4 c4)(gen root next:Int)(A5 c5)(S:Sto)(dead:List Int)(id:Int)(w:Z)(h:Qh w w (s A1 n1 c1) (s A2 n2 c2) (s A3 n3 c3) (s A4 n4 c4) S)(hd:ZS w w (s A5 dead.length c5) dead):Calls prog 18 #[.agg (qR (s A1 n1 c1) (s A2 n2 c2) (s A3 n3 c3) (s A4 n4 c4) gen root next (s A5 dead.length c5)),E Jx id] w (UnsetO S gen root next dead id w):=by
 have HV:=zH (λW (hx:Ext w W)=>Ta A1 n1 c1 A2 n2 c2 A3 n3 c3 A4 n4 c4 gen root next A5 c5 S dead id W (h.ext hx) (hd.ext_ hx));have HD:=zH (λ(hS:qj S=J)(a lvl:Nat) xs ha bC hn aK W (hx:Ext w W)=>del_any A1 n1 c1 A2 n2 c2 A3 n3 c3 A4 n4 c4 S hS a lvl xs ha bC hn aK 1 id 0 W (h.ext hx));have HI:=zH (λ(dV:dead.length<1073741824) W (hW:Ext w W)=>UO (s A5 dead.length c5) dead dV W (hd.ext_ hW));clear h hd;go_enter func18,ntmps18;go_wp2_with fail;generalize aA:U (U w _) _=w1;have x1:Ext w w1:=by rw[<-aA];exact(zN _ _).trans (zN _ _)
 have rp1:w1.heap[w.heap.size]?=I (Oa (qR (s A1 n1 c1) (s A2 n2 c2) (s A3 n3 c3) (s A4 n4 c4) gen root next (s A5 dead.length c5)) 32 (0,0)):=by rw[<-aA];exact(zK _ _ _ zA3).trans (zI _ _ _ rfl)
 have r1:w1.heap[w.heap.size+1]?=I (Oa (qR (s Y 0 0) (s Y 0 0) (s Y 0 0) (s Y 0 0) 0 0 0 (s Y 0 0)) 32 (0,0)):=aA▸zI _ _ _ zA3;clear aA;refine(HV.out w1 x1).mono ?_;clear HV;rintro e w2 ⟨hB,hQ⟩;have x2:Ext w w2:=x1.trans hB;have rp2:=qb rp1 hB;have r2:=qb r1 hB;clear hB r1 rp1 x1;have aI:(∃er,er≠0/\e=F (O #[vV qdB,E M er])/\UnErr S root next dead id er)\/∃vs v,Zy S root next dead vs/\zF vs id=I v/\e=F (O #[vV v,E M 0]):=by
  rcases hQ with⟨rfl,aj⟩|⟨vs,refs,nodes,hp,hc,he,rfl⟩
  exact .inl ⟨8,zA1,rfl,.inl ⟨rfl,aj⟩⟩;rcases hv:zF vs id with _|v
  exact .inl ⟨6,zA1,rfl,.inr ⟨vs,⟨refs,nodes,hp,hc,he⟩,.inl ⟨rfl,hv⟩⟩⟩;exact .inr ⟨vs,v,⟨refs,nodes,hp,hc,he⟩,hv,rfl⟩
 clear hQ;rcases aI with⟨er,yu,rfl,eU⟩|⟨vs,v,hok,hv,rfl⟩
 ·have k2:=qa r2;have f2:=qe r2;have z2:=(zG.1 r2).1;have aH:(er != 0)=J:=by rw[bne_iff_ne];exact yu
  replace⟨yu,eU⟩:=zH2 yu eU;clear HD HI rp2;unfold vV qdB;go_wp2_with fail;exact UN (b:=w.heap.size+1) rfl rfl rfl (qb (kI r2 _ _ _ _ _ _ _ _) (zN _ _)) ⟨Below.alloc (je x2 zO _ _ _ _ _ _ _ _) (by have:=x2.size;simpa using this) _,.inl ⟨er,yu.out,rfl,eU.out⟩⟩
 have hBK:=hok;obtain⟨refs,nodes,hp,hc,he⟩:=hBK;obtain⟨a,ha,h8,h256,lvl,xs,hn,aK⟩:=Zl hp.top;have hse:unE S root id=XT S lvl xs a (1,id,0):=by unfold unE;rw[ha,Int.toNat_natCast,hn];rfl
 have HD2:=zH (HD.out hp.may a lvl xs h8 h256 hn aK);have ag:=zH (λr S' (he:XT S lvl xs a (1,id,0)=.ok (r,S'))=>qhw hp.may h8 hn aK he);have wO:=zH (λer (he:XT S lvl xs a (1,id,0)=.error er)=>delY_err he);rw[<-hse]at HD2 ag wO;rw[<-ha]at HD2;have HI2:=zH (HI.out (by have:=hp.few;omega));replace⟨hok,hv⟩:=zH2 hok hv;clear HD HI hse hp hc he hn aK ha h8 h256;unfold vV;go_upto_region 4 with fail;generalize aP:U w2 _=w3;have x23:Ext w2 w3:=aP▸zN _ _;have x3:Ext w w3:=x2.trans x23;have rp3:=qb rp2 x23;have r3:=qb r2 x23;have kp3:=qa rp3;have zr3:w.heap.size+1<w3:=(zG.1 r3).1;clear aP rp2 r2 x23 x2;go_wp2_with fail;refine(HD2.out w3 x3).mono ?_;clear HD2;rintro e w4 ⟨u,rfl,hT,hB⟩;have x4:Ext w w4:=x3.trans hB;have rp4:=qb rp3 hB;have r4:=qb r3 hB;have z34:=hB.size;clear hB rp3 r3 kp3;rcases hq:unE S root id with er|⟨f,SF⟩
 ·rw[hq]at hT;obtain rfl:=hT;have rD:=wO.out er hq;have aH:(er != 0)=J:=by rw[bne_iff_ne];exact rD
  have k2:=qa r4;have f2:=qe r4;have z2:=(zG.1 r4).1;have z24:=x4.size;replace⟨rD,hq⟩:=zH2 rD hq;clear rp4 HI2;go_wp2_with fail;exact UN (b:=w.heap.size+1) rfl rfl rfl (qb (kI r4 _ _ _ _ _ _ _ _) (zN _ _)) ⟨Below.alloc (je x4 zO _ _ _ _ _ _ _ _) (by simpa using z24) _,.inl ⟨er,rD.out,rfl,.inr ⟨vs,hok.out,.inr ⟨v,hv.out,hq.out⟩⟩⟩⟩
 rw[hq]at hT;obtain⟨v4,rfl,hT⟩:=hT;have hmay:=ag.out f SF hq;have gG:Gf SF:=Zw hmay.1;replace hq:=zH hq;obtain⟨BB,WW,gg,A3',c3',A4',c4',rfl,-⟩:=(show _ from hT)
 have nM:=YG (hT.newSto gG);replace nM:=zH nM;clear hT;go_upto_region 7 with fail;generalize aS:U w4 _=w5;have x45:Ext w4 w5:=aS▸zN _ _;have x5:Ext w w5:=x4.trans x45;have rs5:w5.heap[w4.heap.size]?=I (Oa #[s BB SF.bs.length SF.bs.length,s WW SF.ws.length (SF.ws.length+1),s A3' SF.now.length c3',s A4' SF.last.length c4'] 28):=aS▸zI _ _ _ rfl;have rp5:=qb rp4 x45;have r5:=qb r4 x45;have z45:=x45.size;clear aS rp4 r4;have gP:∀W,qm.r w5 W->∀i,W.cell? ⟨w,i,Y⟩=(qR (s A1 n1 c1) (s A2 n2 c2) (s A3 n3 c3) (s A4 n4 c4) gen root next (s A5 dead.length c5))[i]?:=λW h=>qa (qb rp5 h);obtain⟨nb,iK⟩:∃nb,SF.bs.length=nb:=⟨_,rfl⟩
 obtain⟨nw,hnw⟩:∃nw,SF.ws.length=nw:=⟨_,rfl⟩
 obtain⟨nn,nX⟩:∃nn,SF.now.length=nn:=⟨_,rfl⟩
 obtain⟨nl,hnl⟩:∃nl,SF.last.length=nl:=⟨_,rfl⟩
 rw[iK,hnw,nX,hnl]at nM rs5⊢;have dL:=zH (And.intro iK (And.intro hnw (And.intro nX hnl)));clear iK hnw nX hnl;have gS:∀W,qm.r w5 W->∀i,W.cell? ⟨w4,i,Y⟩=#[s BB nb nb,s WW nw (nw+1),s A3' nn c3',s A4' nl c4'][i]?:=λW h=>qa (qb rs5 h);refine qt zQ ?_;refine Zz 1 10 (E M (f:Int)) zQ zA6 zQ zQ zQ zA0 (λW=>?_) ?_
 ·go_simp
 simp only[Act.put,ql,qf,qc,qg,qbU,zA,zB,zC];refine qY (w:=w5) qm (qP [(4,outOI w5.heap.size dead.length dead)]) [J,false,J,J,J,J] 5 zQ zQ zQ zQ zQ zQ zQ ?st (Rel.drew _ _) ?walk
 case st=>exact qk (by simp only[List.forall_mem_cons];exact⟨λp=>Qr (qgg _ _ _ p),λ_ h=>by cases h⟩)
 case walk=>
  intro K hK;dsimp only[qv,List.replicate];refine zD1 ?_;refine qH (outOI w5.heap.size dead.length dead) zA0 zA0 (λW hW _=>?_) (λp=>?_)
  ·have hW:Ext w5 W:=hW;refine Qk ?_ ((HI2.out W (x5.trans hW)).mono λe w' h=>?_)
   ·go_simp
   obtain⟨u,rfl,hu,hB⟩:=h;obtain⟨A',c',rfl,_,_⟩:=qC hu;exact⟨(A',c'),rfl,QC hu hW.size,hB⟩
  obtain⟨B5,d5⟩:=p;refine zD1 ?_;refine qB (hK _ _ λV hV hF=>?_);have hI:V.ownsRow w5 3 1 (s B5 dead.length d5) dead.length (Vq dead):=(hF 4).1;clear hF hK gP gS HI2;have hV:Ext w5 V:=hV;refine zC4 ?_;have rp6:=qb rp5 hV;have r6:=qb r5 hV;have kp6:=qa rp6;have fp6:=qe rp6;have zp6:w.heap.size<V:=(zG.1 rp6).1;replace hI:=zH hI;clear rp5 r5 rs5;go_wp2;refine Qq ?_;generalize mg:y (y (y (y (y (y V _ _) _ _) _ _) _ _) _ _) _ _=w6;obtain⟨rp7,o7,z7,b7⟩:=qiy rp6 mg.symm;clear mg kp6 fp6;have r7:=(o7 (w.heap.size+1) zO).trans r6;have x7:Below w w w6:=b7 (zM _) (Below.trans x5 (Below.mono hV x5.size));have hzV:=hV.size;have kp7:=qa rp7;have ko7:=qa r7;have fo7:=qe r7;have zo7:w.heap.size+1<w6:=(zG.1 r7).1;have z3:=x3.size;clear rp6 r6;go_wp2_with fail;have hs:=λ(k:Nat)(hk:k≠w.heap.size+1)=>ve (w:=w6) hk (s (I ⟨BB,0,Y⟩) nb nb) (s (I ⟨WW,0,Y⟩) nw (nw+1)) (s A3' nn c3') (s A4' nl c4') (E Jx gen) (E M (f:Int)) (E Jx next) (s B5 dead.length d5);have hlt:=Qn hI.out;refine UN (b:=w.heap.size+1) rfl rfl rfl (kI r7 _ _ _ _ _ _ _ _) ⟨je x7 zO _ _ _ _ _ _ _ _,.inr ⟨vs,v,f,SF,_,hok.out,hv.out,hq.out,rfl,I ⟨BB,0,Y⟩,nb,I ⟨WW,0,Y⟩,nw+1,A3',c3',A4',c4',B5,d5,w5.heap.size,?_,?_,?_,λC hC=>?_,?_⟩⟩;rw[dL.out.1,dL.out.2.1,dL.out.2.2.1,dL.out.2.2.2];have:=x5.size;omega;rw[TC];omega;rw[dL.out.1,dL.out.2.1,dL.out.2.2.1,dL.out.2.2.2];have q1:=nM.out C λq u h1 h2 h3=>hC q u zO zO ((Zd ((hs q.block zO).trans ((o7 q.block zO).trans ((hV.block q.block zO).trans (x45.block q.block h2))))).trans h3);exact q1.more zO;exact QQ hI.out λq hq=>(hs q (by have:=(hlt q hq).1;omega)).trans (o7 q (by have:=(hlt q hq).1;omega))
theorem TR{b:Nat}{x0 x1 x2 x3 x4 x5 x6 x7 v:Value}(h4:a.tmps[4]?.getD undef=.pointer b)(h5:a.tmps[5]?.getD undef=v)(hd:a.defers=[])(aC:W.heap[b]?=I (Oa #[x0,x1,x2,x3,x4,x5,x6,x7] 32))(hR:R (F (O #[.agg #[x0,x1,x2,x3,x4,x5,x6,x7],v])) W):bodyPost prog Tryz.f37 R .ret a W:=by refine bodyPost_ret (v:=O #[.agg #[x0,x1,x2,x3,x4,x5,x6,x7],v]) ?_ hd hR;have k:=qa aC;simp[results,results37,go_sem,h4,h5,k]
def qfw(S:Sto)(root next:Int)(dead:List Int)(id er:Int):Prop:=(er=8/\QI S root next dead)\/∃vs,Zy S root next dead vs/\((er=6/\zF vs id=Y)\/∃v,zF vs id=I v/\((er=9/\19<dead.length)\/unE S root id=.error er))
def qet(S:Sto)(gen root next:Int)(dead:List Int)(id:Int)(w:Z)(e:Ending)(w':Z):Prop:=Below w w w' /\
 ((∃er,er≠0/\e=F (O #[vP,E M er])/\qfw S root next dead id er) \/
  ∃vs v r S' u,Zy S root next dead vs/\zF vs id=I v/\dead.length<=19/\unE S root id=.ok (r,S')/\e=F (O #[u,E M 0])/\vB w S' gen (r:Int) next (dead++[v.root]) u w')
theorem UnErr.rdel{root next:Int}(h:UnErr S root next dead id er):qfw S root next dead id er:=by
 rcases h with⟨rfl,h⟩|⟨vs,h,⟨rfl,h2⟩|⟨v,h2,h3⟩⟩
 exact .inl ⟨rfl,h⟩;exact .inr ⟨vs,h,.inl ⟨rfl,h2⟩⟩;exact .inr ⟨vs,h,.inr ⟨v,h2,.inr h3⟩⟩
set_option maxRecDepth 100000 in
theorem qdh(A1 n1 c1 A2 n2 c2 A3 n3 c3 A4 n4 c4)(gen root next:Int)(A5 c5)(S:Sto)(dead:List Int)(id:Int)(w:Z)(h:Qh w w (s A1 n1 c1) (s A2 n2 c2) (s A3 n3 c3) (s A4 n4 c4) S)(hd:ZS w w (s A5 dead.length c5) dead):Calls prog 37 #[.agg (qR (s A1 n1 c1) (s A2 n2 c2) (s A3 n3 c3) (s A4 n4 c4) gen root next (s A5 dead.length c5)),E Jx id] w (qet S gen root next dead id w):=by
 obtain⟨i0,hi,aZ,aT,aX⟩:=info_parts Tryz.info_int;have HV:=zH (λW (hx:Ext w W)=>Ta A1 n1 c1 A2 n2 c2 A3 n3 c3 A4 n4 c4 gen root next A5 c5 S dead id W (h.ext hx) (hd.ext_ hx));have HU:=zH (λW (hx:Ext w W)=>qjt A1 n1 c1 A2 n2 c2 A3 n3 c3 A4 n4 c4 gen root next A5 c5 S dead id W (h.ext hx) (hd.ext_ hx));replace hi:=zH hi;clear h hd;generalize hQ:qet S gen root next dead id w=Q
 replace hQ:=zH hQ;go_enter func37,ntmps37;go_wp2_with fail;generalize aA:U (U w _) _=w1;have x1:Ext w w1:=by rw[<-aA];exact(zN _ _).trans (zN _ _)
 have rp1:w1.heap[w.heap.size]?=I (Oa (qR (s A1 n1 c1) (s A2 n2 c2) (s A3 n3 c3) (s A4 n4 c4) gen root next (s A5 dead.length c5)) 32 (0,0)):=by rw[<-aA];exact(zK _ _ _ zA3).trans (zI _ _ _ rfl)
 have r1:w1.heap[w.heap.size+1]?=I (Oa (qR (s Y 0 0) (s Y 0 0) (s Y 0 0) (s Y 0 0) 0 0 0 (s Y 0 0)) 32 (0,0)):=aA▸zI _ _ _ zA3;clear aA;refine(HV.out w1 x1).mono ?_;clear HV;rintro e w2 ⟨hB,hq⟩;have x2:Ext w w2:=x1.trans hB;have rp2:=qb rp1 hB;have r2:=qb r1 hB;clear hB r1 rp1 x1;have aI:(∃er,er≠0/\e=F (O #[vV qdB,E M er])/\qfw S root next dead id er)\/∃vs v,Zy S root next dead vs/\zF vs id=I v/\e=F (O #[vV v,E M 0]):=by
  rcases hq with⟨rfl,hb⟩|⟨vs,refs,nodes,k1,k2,k3,rfl⟩
  exact .inl ⟨8,zA1,rfl,.inl ⟨rfl,hb⟩⟩;rcases hv:zF vs id with _|v
  exact .inl ⟨6,zA1,rfl,.inr ⟨vs,⟨refs,nodes,k1,k2,k3⟩,.inl ⟨rfl,hv⟩⟩⟩;exact .inr ⟨vs,v,⟨refs,nodes,k1,k2,k3⟩,hv,rfl⟩
 clear hq;rcases aI with⟨er,aH,rfl,aj⟩|⟨vs,v,hok,hv,rfl⟩
 ·have hb:(er != 0)=J:=by rw[bne_iff_ne];exact aH
  have k2:=qa r2;have f2:=qe r2;have z2:=(zG.1 r2).1;replace⟨aH,aj⟩:=zH2 aH aj;clear HU rp2;unfold vV qdB;go_wp2_with fail;rw[<-hQ.out];exact TR (b:=w.heap.size+1) rfl rfl rfl (qb (kI r2 _ _ _ _ _ _ _ _) (zN _ _)) ⟨Below.alloc (je x2 zO _ _ _ _ _ _ _ _) (by have:=x2.size;simpa using this) _,.inl ⟨er,aH.out,rfl,aj.out⟩⟩
 replace⟨hok,hv⟩:=zH2 hok hv;unfold vV;go_upto_region 4 with fail;generalize aP:U w2 _=w3;have x23:Ext w2 w3:=aP▸zN _ _;have x3:Ext w w3:=x2.trans x23;have rv3:w3.heap[w2.heap.size]?=I (Oa #[E Jx v.id,E M v.root,.bool v.fz,E Jx v.frm] 36):=aP▸zI _ _ _ rfl;have rp3:=qb rp2 x23;have r3:=qb r2 x23;have kp3:=qa rp3;have x2s:=zH (show w.heap.size+1<w2.heap.size from(zG.1 r2).1);have hz3:=zH (show w.heap.size+1<w3.heap.size from(zG.1 r3).1);clear aP rp2 r2 x23 x2;by_cases h19:19<dead.length
 ·have h1:decide ((dead.length:Int)>19)=J:=decide_eq_true zO;have h2:decide (19<dead.length)=J:=decide_eq_true h19;have k3:=qa r3;have f3:=qe r3;have z3:=hz3.out;replace h19:=zH h19;clear HU rv3;go_wp2_with fail;rw[<-hQ.out];exact TR (b:=w.heap.size+1) rfl rfl rfl (kI r3 _ _ _ _ _ _ _ _) ⟨je x3 zO _ _ _ _ _ _ _ _,.inl ⟨9,zA1,rfl,.inr ⟨vs,hok.out,.inr ⟨v,hv.out,.inl ⟨rfl,h19.out⟩⟩⟩⟩⟩
 have h1:decide ((dead.length:Int)>19)=false:=decide_eq_false zO;have h2:decide (19<dead.length)=false:=decide_eq_false h19;have h19':Hid (dead.length<=19):=zH zO;clear h19;go_wp2_with fail;refine(HU.out w3 x3).mono ?_;clear HU;rintro e w4 ⟨hB,hq⟩;have x4:Ext w w4:=x3.trans hB;have rp4:=qb rp3 hB;have r4:=qb r3 hB;have rv4:=qb rv3 hB;have z34:=hB.size;have kp4:=qa rp4;have fp4:=qe rp4;have zp4:=(zG.1 rp4).1;clear hB rp3 r3 rv3 kp3;rcases hq with⟨er,aH,rfl,aj⟩|⟨vs',v',r0,SF,u,iZ,wZ,eU,rfl,A1',c1',A2',c2',A3',c3',A4',c4',A5',c5',mid,rfl,aQ,hmid,hS,ho⟩
 ·have hb:(er != 0)=J:=by rw[bne_iff_ne];exact aH
  have z3:=hz3.out;have x45:=λy0 y1 y2 y3 y4 y5 y6 y7=>je (b:=w.heap.size) x4 (zM _) y0 y1 y2 y3 y4 y5 y6 y7;have o5:=λ(k:Nat)(hk:k≠w.heap.size) y0 y1 y2 y3 y4 y5 y6 y7=>ve (w:=w4) (b:=w.heap.size) hk y0 y1 y2 y3 y4 y5 y6 y7;replace⟨aH,aj⟩:=zH2 aH aj.rdel;clear rv4;unfold vP qR;go_upto_region 7 with fail;generalize aS:y (y (y (y (y (y (y (y w4 _ _) _ _) _ _) _ _) _ _) _ _) _ _) _ _=w5;have r5:w5.heap[w.heap.size+1]?=I (Oa (qR (s Y 0 0) (s Y 0 0) (s Y 0 0) (s Y 0 0) 0 0 0 (s Y 0 0)) 32 (0,0)):=by rw[<-aS];exact(o5 _ zO _ _ _ _ _ _ _ _).trans r4
  have x5:Below w w w5:=aS▸x45 _ _ _ _ _ _ _ _;have k5:=qa r5;have f5:=qe r5;have z5:=(zG.1 r5).1;clear aS x45 o5 r4 rp4 kp4 fp4 zp4;go_wp2_with fail;rw[<-hQ.out];exact TR (b:=w.heap.size+1) rfl rfl rfl (kI r5 _ _ _ _ _ _ _ _) ⟨je x5 zO _ _ _ _ _ _ _ _,.inl ⟨er,aH.out,rfl,aj.out⟩⟩
 obtain⟨refs0,nodes0,k1,-⟩:=hok.out;obtain⟨refs9,nodes9,k2,-⟩:=iZ;obtain rfl:=QH.same k1 k2;rw[hv.out]at wZ;cases wZ;replace⟨hS,ho,eU⟩:=zH3 hS ho eU;clear k1 k2 refs0 nodes0 refs9 nodes9;go_upto_region 9 with fail;generalize aS:y (y (y (y (y (y (y (y w4 _ _) _ _) _ _) _ _) _ _) _ _) _ _) _ _=w5;have rp5:=kI rp4 (s A1' SF.bs.length c1') (s A2' SF.ws.length c2') (s A3' SF.now.length c3') (s A4' SF.last.length c4') (E Jx gen) (E M (r0:Int)) (E Jx next) (s A5' dead.length c5');have o5:∀k,k≠w.heap.size->w5.heap[k]?=w4.heap[k]?:=λk hk=>by rw[<-aS];exact ve hk _ _ _ _ _ _ _ _
 have z5:w5.heap.size=w4:=aS▸TC;have x5:Below w w w5:=aS▸je x4 (zM _) _ _ _ _ _ _ _ _;rw[aS]at rp5;have z3:w.heap.size+1<w3:=hz3.out;have r5:=(o5 (w.heap.size+1) zO).trans r4;have rv5:=(o5 w2.heap.size (by have:=x2s.out;omega)).trans rv4;have hlo4:=Qn ho.out;have ho5:=QQ ho.out λq hq=>o5 q (by have:=(hlo4 q hq).1;omega);have kp5:=qa rp5;have kv5:=qa rv5;have z45:mid<=w5:=zO;have z5H:=zH z5;have hl19:=h19'.out;clear aS rp4 r4 rv4 kp4 fp4 zp4 z5;go_wp2_with (at_builtin;refine qV ?_);refine Qm.go (Zh w5 rfl (.tmp 34) (.tmp 37) 30 rfl mid 3 i0 _ 1 8 underlying30 hi.out aZ aT aX rfl zA1 (s A5' dead.length c5') dead.length (Vq dead) zE ho5 #[E M v.root] zE rfl zA8 zO zA1 zO ?_);intro v' w6 aB hg hB dO;obtain⟨A7,c7,rfl,-,-⟩:=qC aB;have uP:∀q,q<w5.heap.size->(Value.slice A5' dead.length c5').ownBlock≠I q->w6.heap[q]?=w5.heap[q]?:=λq h1 h2=>hg.block q h1 λe=>h2 e.symm;have hlt:∀q,(Value.slice A5' dead.length c5').ownBlock=I q->mid<=q:=λq hq=>(Qn ho5 q hq).1;have pI:=hB.size;have rp6:=(uP _ zO λe=>by have:=hlt _ e;omega).trans rp5;have r6:=(uP _ zO λe=>by have:=hlt _ e;omega).trans r5;have x6:Below w w w6:=Below.trans x5 (Below.mono hB zO);have kp6:=qa rp6;have fp6:=qe rp6;have ko6:=qa r6;have fo6:=qe r6;have zp6:=(zG.1 rp6).1;have zo6:w.heap.size+1<w6:=(zG.1 r6).1;have aU:w6.ownsRow mid 3 1 (s A7 (dead++[v.root]).length c7) (dead++[v.root]).length (Vq (dead++[v.root])):=by rw[qfj,List.length_append];exact aB
 have hll:dead.length+1=(dead++[v.root]).length:=by rw[List.length_append];rfl
 replace⟨aB,uP,hlt,hll⟩:=zH4 aU uP hlt hll;clear hg hB dO ho5 kp5 kv5 rp5 r5 rv5 ho aU;go_wp2_with fail;rw[hll.out];have ah:=λ(k:Nat)(h1:k≠w.heap.size)(h2:k≠w.heap.size+1)=>(ve (w:=w6.setCell ⟨w.heap.size,7,Y⟩ (s A7 (dead++[v.root]).length c7)) (b:=w.heap.size+1) h2 (s A1' SF.bs.length c1') (s A2' SF.ws.length c2') (s A3' SF.now.length c3') (s A4' SF.last.length c4') (E Jx gen) (E M (r0:Int)) (E Jx next) (s A7 (dead++[v.root]).length c7)).trans (zJ _ _ _ _ h1);rw[<-hQ.out];refine TR (b:=w.heap.size+1) rfl rfl rfl (kI ((zJ _ _ _ _ zA3).trans r6) _ _ _ _ _ _ _ _) ⟨je (Below.setCell x6 (p:=⟨w.heap.size,7,Y⟩) (zM _) _) zO _ _ _ _ _ _ _ _,.inr ⟨vs,v,r0,SF,_,hok.out,hv.out,hl19,eU.out,rfl,A1',c1',A2',c2',A3',c3',A4',c4',A7,c7,rfl,λC hC=>?_⟩⟩;have z5:=z5H.out;have z3:=hz3.out;have q1:=hS.out C λq u h1 h2 h3=>by have e5:(thaw w5).cell? q=u:=(Zd (o5 q.block zO)).trans h3;have e6:(thaw w6).cell? q=u:=(Zd (uP.out q.block zO (λe=>by have:=hlt.out _ e;omega))).trans e5;exact hC q u zO (by rw[TC];simp;omega) ((Zd (ah q.block zO zO)).trans e6)
 have q2:=(ZS.of_ownT (l:=dead++[v.root]) aB.out).pos (ZK.of_own aB.out) (C:=C) λq u h1 h2 h3=>hC q u zO (by rw[TC];simpa using h2) ((Zd (ah q.block zO zO)).trans h3);rw[TC];exact⟨q1.more zA2,q2.more zA3⟩
theorem qaO{S X:Sto}(m:SM S X):∀(h:Nat){xs:List It},(qz S h xs).isSome=J->qaF X h xs=qaF S h xs
 |0,_,_=>rfl
 |h+1,xs,hs=>by unfold qaF;congr 2;refine List.map_congr_left λx hx=>?_;obtain⟨b,hb,-,-,ys,hn,hy⟩:=Qz (Qt hs x hx);rw[hb,Int.toNat_natCast,hn,m.node _ _ hn];exact qaO m h hy
theorem qmJ{T X:Sto}(m:SM S X)(m':SM T X){a:Nat}(h:ZN S a)(h':ZN T a):JD T a=JD S a:=by obtain⟨-,-,lvl,xs,hn,hs⟩:=h;obtain⟨-,-,lvl',xs',tu,rJ⟩:=h';have e1:=m.node _ _ hn;rw[m'.node _ _ tu]at e1;simp only[Option.some.injEq,Prod.mk.injEq]at e1;obtain⟨e2,rfl⟩:=e1;obtain rfl:lvl'=lvl:=zO;rw[YI hn,YI tu,<-qaO m _ hs,<-qaO m' _ rJ]
theorem nszA_pos(S:Sto)(a:Nat):1<=JD S a:=by unfold JD;split;exact nszL_pos _ _ _;exact zM _
theorem qju {S S1:Sto} {root next:Int} {dead:List Int} {vs:List Vol} {v:Vol} {id:Int} {r:Nat} (hok:Zy S root next dead vs) (hv:zF vs id=some v) (e:unE S root id=.ok (r,S1)) (h19:dead.length<=19):Zy S1 (r:Int) next (dead++[v.root]) (Zv id vs)/\(∀ u∈Zv id vs,allS S1 u.root=allS S u.root)/\jO S dead<jO S1 (dead++[v.root]):=by
 have hrt:=un_root hok hv e;obtain⟨oM,⟨X,m,m1⟩,M',c,hin⟩:=qdA hok hv e;obtain⟨refs,nodes,hp,hc,he⟩:=hok;have fG:QH S1 (r:Int) next (dead++[v.root]) (Zv id vs):=⟨oM.may,by rw[List.length_append];simp;omega,oM.top,oM.vols,fun q hq=>by
  by_cases hq2:q∈QJ (r:Int) dead (Zv id vs)
  ·exact oM.ok q hq2
  ·have:q=v.root:=by
    unfold QJ at hq hq2;simp only[List.mem_append,List.mem_cons,List.not_mem_nil,or_false,not_or] at hq hq2;rcases hq with (h|h|h)|h
    ·exact absurd h hq2.1.1
    ·exact absurd h hq2.1.2
    ·exact h
    ·exact absurd h hq2.2
   rw[this];exact hrt⟩
 obtain⟨refs1,nodes1,dP⟩:=qcn (S:=S1) (R:=Qp (r:Int) (dead++[v.root]) (Zv id vs));have hKR:∀ b,(Qp (r:Int) (dead++[v.root]) (Zv id vs)).count b=(v.root.toNat :: Qp (r:Int) dead (Zv id vs)).count b:=fun b=>by simp only[Qp,QJ,List.map_append,List.map_cons,List.map_nil,List.count_append,List.count_cons,List.count_nil];omega
 refine⟨⟨refs1,nodes1,fG,dP,c.enough (fun b hb=>by rw[hKR];exact zM _) (fun a ha=>hin a ?_) dP⟩,fun u hu=>?_,?_⟩
 ·have h1:0<(v.root.toNat :: Qp (r:Int) dead (Zv id vs)).count a:=by rw[<-hKR];exact List.count_pos_iff.2 ha
  exact List.count_pos_iff.1 h1
 ·unfold allS;exact qkb m m1 (qgv hp (List.mem_filter.1 hu).1) (qgv oM hu) _ _
 ·have e1:jO S1 dead=jO S dead:=by unfold jO;congr 1;refine List.map_congr_left fun d hd=>?_;obtain⟨a,rfl,ht⟩:=qas hp d hd;obtain⟨a',ha,ht'⟩:=qas oM _ hd;obtain rfl:a'=a:=zO;rw[Int.toNat_natCast];exact qmJ m m1 ht ht'
  have e2:jO S1 (dead++[v.root])=jO S1 dead+JD S1 v.root.toNat:=by unfold jO;rw[List.map_append,List.sum_append];simp
  have:=nszA_pos S1 v.root.toNat;omega
theorem qet.no{gen root next:Int}(h:qet S gen root next dead id w e w')(hn:(er=8/\QI S root next dead)\/(er=6/\∃vs,Zy S root next dead vs/\zF vs id=Y)):e=F (O #[vP,er]):=by
 rcases hn with⟨rfl,hb⟩|⟨rfl,vs,⟨refs,nodes,h1,h2,h3⟩,hv⟩
 rcases h.2 with⟨er,aH,rfl,hE⟩|⟨vs',v,r,S4,u,⟨refs,nodes,k1,k2,k3⟩,-⟩
 rcases hE with⟨rfl,_⟩|⟨vs',⟨refs,nodes,k1,k2,k3⟩,_⟩
 rfl;exact(QI.no hb k1 k2 k3).elim;exact(QI.no hb k1 k2 k3).elim;rcases h.2 with⟨er,aH,rfl,hE⟩|⟨vs',v,r,S4,u,⟨refs',nodes',k1,k2,k3⟩,k4,-⟩
 rcases hE with⟨_,hb⟩|⟨vs',⟨refs',nodes',k1,k2,k3⟩,⟨rfl,_⟩|⟨v,k4,_⟩⟩
 exact(QI.no hb h1 h2 h3).elim;rfl;obtain rfl:=QH.same h1 k1;rw[hv]at k4;cases k4;obtain rfl:=QH.same h1 k1;rw[hv]at k4;cases k4
theorem qgN.known{root next:Int}(h:qgN S root next dead w e w')(hk:Zy S root next dead vs):e=F (O #[(jO S dead:Int),E M 0]):=by
 obtain⟨refs,nodes,h1,h2,h3⟩:=hk;rcases h.2 with⟨_,hb⟩|⟨vs',_,rfl⟩
 exact(QI.no hb h1 h2 h3).elim;rfl
theorem VolFQ.knownG{root next:Int}(h:VolFQ S root next dead id w e w')(hk:Zy S root next dead vs):e=F (volQ (zF vs id)):=by
 obtain⟨refs,nodes,h1,h2,h3⟩:=hk;rcases h.2 with⟨_,hb⟩|⟨vs',refs',nodes',hp,hc,_,rfl⟩
 exact(QI.no hb h1 h2 h3).elim;obtain⟨rfl,-,-⟩:=QH.unique h1 h2 hp hc;rfl
def qeX(lo:Nat)(zs:List It):Qb:=⟨OA×Nat,λp=>O #[s p.1 zs.length p.2,E M 0],λp W=>ZO lo W (s p.1 zs.length p.2) zs⟩
theorem Vz(lo:Nat)(zs:List It)(A c):(qeX lo zs).f (A,c)=O #[s A zs.length c,E M 0]:=rfl
theorem GM(lo:Nat)(zs:List It):∀p,za ((qeX lo zs).φ p):=λp W W' he h=>ZO.ext h he
theorem Rd.extW{size n:Nat}(h:Rd w w size A n xs)(hx:Ext w W):Rd W W size A n xs:=(h.keep λp hp=>Below.cell hx hp).more hx.size
theorem sm19_ret(h4:a.tmps[6]?.getD undef=u)(hd:a.defers=[])(hR:R u W):bodyPost prog Tryz.f38 R .ret a W:=by refine bodyPost_ret (v:=u) ?_ hd hR;simp[results,results38,go_sem,h4]
theorem qfz.known_{root next:Int}(h:qfz S root next dead id K K2 w e w')(hk:Zy S root next dead vs)(hv:zF vs id=v):∃u,e=F u/\qcf w (Kw S v.root K K2) u w'/\Ext w w':=by
 obtain⟨refs,nodes,h1,h2,h3⟩:=hk;rcases h.2 with⟨_,hb⟩|⟨vs',u,⟨refs',nodes',k1,k2,k3⟩,rfl,hm⟩
 exact(QI.no hb h1 h2 h3).elim;obtain rfl:=QH.same h1 k1;rw[hv]at hm;exact⟨u,rfl,hm,h.1⟩
theorem remV_at{b:Int}(hk:k<vs.length)(hb:vs[k].id≠b):∃h:(Zv b (vs.take k)).length<(Zv b vs).length,(Zv b vs)[(Zv b (vs.take k)).length]=vs[k]/\(Zv b (vs.take (k+1))).length=(Zv b (vs.take k)).length+1:=by
 have e:Zv b vs=Zv b (vs.take k)++vs[k]::Zv b (vs.drop (k+1)):=by
  unfold Zv
  conv=>lhs;rw[<-List.take_append_drop k vs,List.drop_eq_getElem_cons hk]
  rw[List.filter_append,List.filter_cons_of_pos (by simpa using hb)]
 refine⟨by rw[e,List.length_append,List.length_cons];omega,?_,?_⟩;simp only[e];rw[List.getElem_append_right (zM _)];simp;unfold Zv;rw[List.take_succ_eq_append_getElem hk,List.filter_append,List.length_append,List.filter_cons_of_pos (by simpa using hb)];simp
theorem remV_no{b:Int}(hk:k<vs.length)(hb:vs[k].id=b):(Zv b (vs.take (k+1))).length=(Zv b (vs.take k)).length:=by unfold Zv;rw[List.take_succ_eq_append_getElem hk,List.filter_append,List.length_append,List.filter_cons_of_neg (by simp[hb])];simp
set_option maxRecDepth 100000 in
theorem sm19_any(A1 n1 c1 A2 n2 c2 A3 n3 c3 A4 n4 c4)(gen root next:Int)(A5 c5)(S:Sto)(dead:List Int)(B1 m1 d1 B2 m2 d2 B3 m3 d3 B4 m4 d4)(gen' root' next':Int)(B5 d5)(T:Sto)(dead':List Int)(vs:List Vol)(but:Int)(w:Z)(hok:Zy S root next dead vs)(iZ:Zy T root' next' dead' (Zv but vs))(hl:vs.length<=16)(aW:∀v∈Zv but vs,allS T v.root=allS S v.root)(h:Qh w w (s A1 n1 c1) (s A2 n2 c2) (s A3 n3 c3) (s A4 n4 c4) S)(hd:ZS w w (s A5 dead.length c5) dead)(h':Qh w w (s B1 m1 d1) (s B2 m2 d2) (s B3 m3 d3) (s B4 m4 d4) T)(hd':ZS w w (s B5 dead'.length d5) dead'):Calls prog 38 #[.agg (qR (s A1 n1 c1) (s A2 n2 c2) (s A3 n3 c3) (s A4 n4 c4) gen root next (s A5 dead.length c5)),.agg (qR (s B1 m1 d1) (s B2 m2 d2) (s B3 m3 d3) (s B4 m4 d4) gen' root' next' (s B5 dead'.length d5)),E Jx but] w (Ret (.bool J) w):=by
 have HV:=zH (λW (hx:Ext w W)=>qax A1 n1 c1 A2 n2 c2 A3 n3 c3 A4 n4 c4 gen root next A5 c5 S dead W (h.ext hx) (hd.ext_ hx));have HV':=zH (λW (hx:Ext w W)=>qax B1 m1 d1 B2 m2 d2 B3 m3 d3 B4 m4 d4 gen' root' next' B5 d5 T dead' W (h'.ext hx) (hd'.ext_ hx));have hFH:(vs.Pairwise λa b=>a.id<b.id):=by obtain⟨refs,nodes,k1,k2,k3⟩:=hok;exact(qfe k1 k2 k3).rise
 have HR:=zH (λv (hv:v∈vs) W (hx:Ext w W)=>(qdD A1 n1 c1 A2 n2 c2 A3 n3 c3 A4 n4 c4 gen root next A5 c5 S dead v.id 0 0 0 255 4294967295 4294967295 W (h.ext hx) (hd.ext_ hx)).mono λe w' hq=>(show ∃u,e=F u/\qcf W.heap.size (allS S v.root) u w'/\Ext W w' from hq.known_ hok (qkR hFH hv)));have HR':=zH (λv (hv:v∈vs) (hb:v.id≠but) W (hx:Ext w W)=>(qdD B1 m1 d1 B2 m2 d2 B3 m3 d3 B4 m4 d4 gen' root' next' B5 d5 T dead' v.id 0 0 0 255 4294967295 4294967295 W (h'.ext hx) (hd'.ext_ hx)).mono λe w' hq=>(show ∃u,e=F u/\qcf W.heap.size (allS S v.root) u w'/\Ext W w' from by obtain⟨u,h1,h2,h3⟩:=hq.known_ iZ ((qkj hb vs).trans (qkR hFH hv));refine⟨u,h1,?_,h3⟩;rw[<-aW v (List.mem_filter.2 ⟨hv,by simpa using hb⟩)];exact h2));replace⟨hok,iZ⟩:=zH2 hok iZ;clear h hd h' hd' aW hFH;go_enter func38,ntmps38;go_wp2_with fail;generalize aA:U (U w _) _=w1;have x1:Ext w w1:=by rw[<-aA];exact(zN _ _).trans (zN _ _)
 have rp1:w1.heap[w.heap.size]?=I (Oa (qR (s A1 n1 c1) (s A2 n2 c2) (s A3 n3 c3) (s A4 n4 c4) gen root next (s A5 dead.length c5)) 32 (0,0)):=by rw[<-aA];exact(zK _ _ _ zA3).trans (zI _ _ _ rfl)
 have rq1:w1.heap[w.heap.size+1]?=I (Oa (qR (s B1 m1 d1) (s B2 m2 d2) (s B3 m3 d3) (s B4 m4 d4) gen' root' next' (s B5 dead'.length d5)) 32 (0,0)):=aA▸zI _ _ _ zA3;clear aA;refine(HV.out w1 x1).mono ?_;clear HV;rintro e w2 ⟨hB,hQ⟩;have x2:Ext w w2:=x1.trans hB;have rp2:=qb rp1 hB;have rq2:=qb rq1 hB;have kq2:=qa rq2;clear hB rp1 rq1 x1;rcases hQ with⟨rfl,aj⟩|⟨vs1,refs,nodes,cb,ca,vv,lo,rfl,aQ,hT⟩
 obtain⟨refs,nodes,k1,k2,k3⟩:=hok.out;exact(QI.no aj k1 k2 k3).elim;obtain⟨refs1,nodes1,oM,-,-⟩:=hok.out;obtain rfl:=QH.same oM hT.pool;obtain⟨AV,cV,rfl,-,-⟩:=qC hT.own;have sJ:=zH (Rd.of_own hT.own);clear hT oM aQ;go_wp2_with fail;refine(HV'.out w2 x2).mono ?_;clear HV';rintro e w3 ⟨hB,hQ⟩;have x3:Ext w w3:=x2.trans hB;have rp3:=qb rp2 hB;have rq3:=qb rq2 hB;replace sJ:=zH (sJ.out.extW hB);clear hB rp2 rq2 kq2 x2;rcases hQ with⟨rfl,aj⟩|⟨vs1,refs,nodes,cb,ca,vv,lo,rfl,aQ,hT⟩
 obtain⟨refs,nodes,k1,k2,k3⟩:=iZ.out;exact(QI.no aj k1 k2 k3).elim;obtain⟨refs1,nodes1,oM,-,-⟩:=iZ.out;obtain rfl:=QH.same oM hT.pool;obtain⟨AU,cU,rfl,-,-⟩:=qC hT.own;have hrd':=zH (Rd.of_own hT.own);clear hT oM aQ;go_wp2_with fail;have ig:(Zv but vs).length<=16:=Nat.le_trans (List.length_filter_le _ _) hl;go_loopw [6,11,12,13,14,15,16,17] (λ_ n i _ _ _ _ _ wr=>∃k:Nat,k<=vs.length/\i=E M (k:Int)/\n=E M ((Zv but (vs.take k)).length:Int)/\Ext w3 wr) (λ_ _ i _ _ _ _ _ _=>vs.length-(intOf i).toNat)
 case atStart=>exact⟨0,Nat.zero_le _,rfl,by simp[Zv],Ext.refl _⟩
 case round=>
  obtain⟨k,hk,rfl,rfl,xr⟩:=hrel;by_cases hlt:k<vs.length
  ·obtain⟨bx,ox,rfl,gm,oH⟩:=sJ.out.2 zO;obtain⟨f0,f1,f2,f3⟩:=kZ vs k hlt;replace f0:=Ext.cell xr (oH _ _ f0);replace f1:=Ext.cell xr (oH _ _ f1);replace f2:=Ext.cell xr (oH _ _ f2);replace f3:=Ext.cell xr (oH _ _ f3);have nR:=zH (IntWalk.wrap64_in ((k:Int)+1) zO);have hEJ:=zH hlt;by_cases hbt:vs[k].id=but
   ·have aj:=zH (remV_no hlt hbt);have hbe:(vs[k].id==but)=J:=by simpa using hbt
    generalize vs[k]=u at*;obtain⟨ui,ur,uf,um⟩:=u;simp only at f0 f1 f2 f3 hbt hbe;replace hbt:=zH hbt;clear oH gm;have hwk':=nR.out;go_wp2_with fail;refine⟨⟨k+1,hEJ.out,rfl,by rw[aj.out],xr⟩,?_⟩;simp[intOf];omega
   obtain⟨eY,uS,wK⟩:=remV_at hlt hbt;have HRk:=zH (λW (hx:Ext wr W)=>HR.out vs[k] (List.getElem_mem hlt) W ((x3.trans xr).trans hx));have HRk':=zH (λW (hx:Ext wr W)=>HR'.out vs[k] (List.getElem_mem hlt) hbt W ((x3.trans xr).trans hx));obtain⟨by_,oy,rfl,af,yt⟩:=hrd'.out.2 zO;obtain⟨e0,e1,e2,e3⟩:=kZ (Zv but vs) _ eY;rw[uS]at e0 e1 e2 e3;replace e0:=Ext.cell xr (yt _ _ e0);replace e1:=Ext.cell xr (yt _ _ e1);replace e2:=Ext.cell xr (yt _ _ e2);replace e3:=Ext.cell xr (yt _ _ e3);have dR:=zH wK;clear uS;have aH:(vs[k].id==but)=false:=by rw[beq_eq_false_iff_ne];exact hbt
   obtain⟨zs,sQ⟩:∃zs,allS S vs[k].root=zs:=⟨_,rfl⟩
   have hzl:zs.length<=15625:=sQ▸qmt _ _ _ _;rw[sQ]at HRk HRk';generalize nX:(Zv but (vs.take k)).length=n at*;generalize hmm:(Zv but vs).length=m at*;generalize vs[k]=u at*;obtain⟨ui,ur,uf,um⟩:=u;simp only at f0 f1 f2 f3 e0 e1 e2 e3 hbt aH HRk HRk';rw[<-Nat.add_assoc]at f1 f2 f3 e1 e2 e3;have hwn:=zH (IntWalk.wrap64_in ((n:Int)+1) zO);have oh:decide ((n:Int)≥(m:Int))=false:=decide_eq_false zO;have hq2:decide (m<=n)=false:=decide_eq_false zO;replace⟨hbt,nX,hmm⟩:=zH3 hbt nX hmm;clear oH yt gm af sQ wK;generalize hwo:wr=wo at*;clear hwo;have rpo:=qb rp3 xr;have rqo:=qb rq3 xr;have xw3:=zH xr;go_upto_region 10 with fail;have g0:∀X,qm.r wo X->X.cell? (bx,ox+k*4)=I (E Jx ui):=λX h=>Ext.cell h f0;have j0:∀X,qm.r wo X->X.cell? (by_,oy+n*4)=I (E Jx ui):=λX h=>Ext.cell h e0;have g1:∀X,qm.r wo X->X.cell? (bx,ox+k*4+1)=I (E M ur):=λX h=>Ext.cell h f1;have j1:∀X,qm.r wo X->X.cell? (by_,oy+n*4+1)=I (E M ur):=λX h=>Ext.cell h e1;have g2:∀X,qm.r wo X->X.cell? (bx,ox+k*4+2)=I (.bool uf):=λX h=>Ext.cell h f2;have j2:∀X,qm.r wo X->X.cell? (by_,oy+n*4+2)=I (.bool uf):=λX h=>Ext.cell h e2;have g3:∀X,qm.r wo X->X.cell? (bx,ox+k*4+3)=I (E Jx um):=λX h=>Ext.cell h f3;have j3:∀X,qm.r wo X->X.cell? (by_,oy+n*4+3)=I (E Jx um):=λX h=>Ext.cell h e3;refine qt zQ ?_;refine qY (w:=wo) qm (qP []) (List.replicate 15 J) 0 zQ zQ zQ zQ zQ zQ zQ ?st (Rel.drew _ _) ?walk
   case st=>exact qk (by intro _ h;cases h)
   case walk=>
   intro K hK;dsimp only[qv,List.replicate];refine zD2 ?_;refine qB (hK _ _ λV hV hF=>?_);have hV:Ext wo V:=hV;clear hF hK g0 g1 g2 g3 j0 j1 j2 j3 e0 e1 e2 e3 f1 f2 f3;have f0:=Ext.cell hV f0;have rpV:=qb rpo hV;have rqV:=qb rqo hV;replace HRk:=zH (λX (hx:Ext V X)=>HRk.out X (hV.trans hx));replace HRk':=zH (λX (hx:Ext V X)=>HRk'.out X (hV.trans hx));replace xw3:=zH (xr.trans hV);clear hV rpo rqo xr;refine zB6 ?_;go_wp2;refine Qq ?_;go_upto_region 12 with fail;have gP:∀X,qm.r V X->∀i,X.cell? ⟨w,i,Y⟩=(qR (s A1 n1 c1) (s A2 n2 c2) (s A3 n3 c3) (s A4 n4 c4) gen root next (s A5 dead.length c5))[i]?:=λX h=>qa (qb rpV h);have g0:∀X,qm.r V X->X.cell? (bx,ox+k*4)=I (E Jx ui):=λX h=>Ext.cell h f0;refine qt zQ ?_;refine qY (w:=V) qm (qP [(8,qeX V.heap.size zs)]) (List.replicate 14 J) 0 zQ zQ zQ zQ zQ zQ zQ ?st (Rel.drew _ _) ?walk
   case st=>exact qk (by simp only[List.forall_mem_cons];exact⟨λp=>Qr (GM _ _ p),λ_ h=>by cases h⟩)
   case walk=>
   intro K hK;dsimp only[qv,List.replicate];refine zD2 ?_;refine qH (qeX V.heap.size zs) zA0 zA0 (λX hX _=>?_) (λp9=>?_)
   ·have hX:Ext V X:=hX;refine Xd ?_ ((HRk.out X hX).mono λe w' h=>?_)
    ·go_simp
    obtain⟨u,rfl,⟨ps,q,rfl,bM,hR,-⟩,hB⟩:=h;obtain⟨aG,A,c,rfl⟩:=hR.its (zM _);have hl:ps.length=zs.length:=by rw[<-List.length_map (f:=(·.1)),bM]
    rw[bM,hl]at aG;exact⟨(A,c),by rw[hl];rfl,aG.mono hX.size,hB⟩
   obtain⟨AP,cAP⟩:OA×Nat:=p9;refine zD2 ?_;refine qB (hK _ _ λW hW hF=>?_);have hP:Hid (ZO V W (s AP zs.length cAP) zs):=zH (hF 8).1;have hW:Ext V W:=hW;clear hF hK gP g0 HRk;have f0:=Ext.cell hW f0;have rqW:=qb rqV hW;replace HRk':=zH (λX (hx:Ext W X)=>HRk'.out X (hW.trans hx));replace xw3:=zH (xw3.out.trans hW);clear hW rpV rqV;refine zB6 ?_;go_wp2;refine Qq ?_;go_upto_region 13 with fail;have gQ:∀X,qm.r W X->∀i,X.cell? ⟨w.heap.size+1,i,Y⟩=(qR (s B1 m1 d1) (s B2 m2 d2) (s B3 m3 d3) (s B4 m4 d4) gen' root' next' (s B5 dead'.length d5))[i]?:=λX h=>qa (qb rqW h);have g0:∀X,qm.r W X->X.cell? (bx,ox+k*4)=I (E Jx ui):=λX h=>Ext.cell h f0;refine qt zQ ?_;refine qY (w:=W) qm (qP [(8,qeX W.heap.size zs)]) (List.replicate 14 J) 0 zQ zQ zQ zQ zQ zQ zQ ?st (Rel.drew _ _) ?walk
   case st=>exact qk (by simp only[List.forall_mem_cons];exact⟨λp=>Qr (GM _ _ p),λ_ h=>by cases h⟩)
   case walk=>
   intro K hK;dsimp only[qv,List.replicate];refine zD2 ?_;refine qH (qeX W.heap.size zs) zA0 zA0 (λX hX _=>?_) (λp9=>?_)
   ·have hX:Ext W X:=hX;refine Xd ?_ ((HRk'.out X hX).mono λe w' h=>?_)
    ·go_simp
    obtain⟨u,rfl,⟨ps,q,rfl,bM,hR,-⟩,hB⟩:=h;obtain⟨aG,A,c,rfl⟩:=hR.its (zM _);have hl:ps.length=zs.length:=by rw[<-List.length_map (f:=(·.1)),bM]
    rw[bM,hl]at aG;exact⟨(A,c),by rw[hl];rfl,aG.mono hX.size,hB⟩
   obtain⟨AQ,cAQ⟩:OA×Nat:=p9;refine zD2 ?_;refine qB (hK _ _ λX hX hF=>?_);have hX:Ext W X:=hX;have hQ:=zH (show Its X X.heap.size (s AQ zs.length cAQ) zs from(show ZO W.heap.size X (s AQ zs.length cAQ) zs from(hF 8).1).its);replace hP:=zH (hP.out.ext hX).its;clear hF hK gQ g0 HRk' f0;have hA:=hP.out.at_.2.2.2;have hA':=hQ.out.at_.2.2.2;replace xw3:=zH (xw3.out.trans hX);clear hX rqW;refine zB6 ?_;go_wp2;refine Qq ?_;go_wp2_with fail;go_loopw [6,17] (λ_ i wr=>∃j:Nat,j<=zs.length/\i=E M (j:Int)/\Ext X wr) (λ_ i _=>zs.length-(intOf i).toNat)
   case atStart=>exact⟨0,Nat.zero_le _,rfl,Ext.refl _⟩
   case round=>
    obtain⟨j,hj,rfl,yr⟩:=hrel;by_cases hlu:j<zs.length
    ·obtain⟨b,off,rfl,hb⟩:=hA zO;obtain⟨b',off',rfl,hb'⟩:=hA' zO;obtain⟨Y1,y1,f0,f1,f2,f3,f4,af⟩:=(hP.out.ext yr).item j hlu;obtain⟨Y2,y2,e0,e1,e2,e3,e4,hAR⟩:=(hQ.out.ext yr).item j hlu;generalize zs[j]=x at*;have aA:=zH (IntWalk.wrap64_in ((j:Int)+1) zO);have HC:=zH (λW (hx:Ext wr W)=>qeK x.k x.i x.o x.r x.k x.i x.o x.r Y1 Y2 x.val.length y1 x.val.length y2 x.val x.val W ((af.below hx).more hx.size) ((hAR.below hx).more hx.size));go_wp2_with fail;have g0:∀W,qm.r wr W->W.cell? (b,off+j*5)=I (E .u8 x.k):=λW h=>Ext.cell h f0;have g1:∀W,qm.r wr W->W.cell? (b,off+j*5+1)=I (E Jx x.i):=λW h=>Ext.cell h f1;have g2:∀W,qm.r wr W->W.cell? (b,off+j*5+2)=I (E Jx x.o):=λW h=>Ext.cell h f2;have g3:∀W,qm.r wr W->W.cell? (b,off+j*5+3)=I (E M x.r):=λW h=>Ext.cell h f3;have g4:∀W,qm.r wr W->W.cell? (b,off+j*5+4)=I (s Y1 x.val.length y1):=λW h=>Ext.cell h f4;have k0:∀W,qm.r wr W->W.cell? (b',off'+j*5)=I (E .u8 x.k):=λW h=>Ext.cell h e0;have k1:∀W,qm.r wr W->W.cell? (b',off'+j*5+1)=I (E Jx x.i):=λW h=>Ext.cell h e1;have k2:∀W,qm.r wr W->W.cell? (b',off'+j*5+2)=I (E Jx x.o):=λW h=>Ext.cell h e2;have k3:∀W,qm.r wr W->W.cell? (b',off'+j*5+3)=I (E M x.r):=λW h=>Ext.cell h e3;have k4:∀W,qm.r wr W->W.cell? (b',off'+j*5+4)=I (s Y2 x.val.length y2):=λW h=>Ext.cell h e4;clear f0 f1 f2 f3 f4 e0 e1 e2 e3 e4 af hAR;refine qt zQ ?_;refine qY (w:=wr) qm (qP [(8,one (.bool J))]) [J,J,J,J,J,J,J,J,J,J] 0 zQ zQ zQ zQ zQ zQ zQ ?st (Rel.drew _ _) ?walk
     case st=>exact qk (by simp only[List.forall_mem_cons];exact⟨λp=>Qr (ZM _ p),λ_ h=>by cases h⟩)
     case walk=>
     intro K hK;dsimp only[qv];refine zD2 ?_;refine qH (one (.bool J)) zA0 zA0 (λW hW _=>?_) (λ(p:Unit)=>?_)
     ·refine Xd ?_ ((HC.out W hW).mono λe w' h=>⟨(),by rw[h.1,qiw];rfl,trivial,h.2⟩);go_simp
     refine zD2 ?_;refine qB (hK _ _ λW hW hF=>?_);clear hF hK g0 g1 g2 g3 g4 k0 k1 k2 k3 k4;have yW:Hid (Ext X W):=zH (yr.trans hW);have cO:=aA.out;refine zB6 ?_;go_wp2;refine Qq ?_;go_wp2_with fail;refine⟨⟨j+1,hlu,rfl,yW.out⟩,?_⟩;simp[intOf];omega
    obtain rfl:j=zs.length:=zO;have xr':=xw3.out.trans yr;have cO:=nR.out;have aP:=hwn.out;go_wp2_with fail;refine⟨⟨k+1,hEJ.out,rfl,by rw[dR.out];rfl,xr'⟩,?_⟩;simp[intOf];omega
  obtain rfl:k=vs.length:=zO;rw[List.take_length];have oh:((((Zv but vs).length:Nat):Int)==(((Zv but vs).length:Nat):Int))=J:=zA3;go_wp2_with fail;exact sm19_ret rfl rfl ⟨rfl,x3.trans xr⟩

end Go.Proofs.YtmeadnlmepcmbaaGreat
namespace Go.Proofs.YtmeadnlmepcmbaaGreat
open Go.RowKit Go.Shelf
attribute [local go_sem] Oper.semAt_some
end Go.Proofs.YtmeadnlmepcmbaaGreat
namespace Go.Proofs.YtmeadnlmepcmbaaGreat
open Go.RowKit
variable {T T' S:Sto}{a lvl:Int}{x:It}{lo pb sb m k c5 j c7 lo':Nat}{u v1 v2 v3 v4 v5 v6 v7 u0 u1 u2 u3:Value}{xs:List It}{ini D:List Int}{w wL wr wr' wc:World}{q q':Except Int Sto}{A5 A7:OA}


def Vl(T:Sto)(a:Int):Except Int Sto:=if Jj T a=0 then .ok (qp T (jf T.now a.toNat))else .error (Jj T a)
theorem YB(h:Jj T a=0):Vl T a=.ok (qp T (jf T.now a.toNat)):=by unfold Vl;rw[if_pos h]
theorem qcI(h:Jj T a≠0):Vl T a=.error (Jj T a):=by unfold Vl;rw[if_neg h]
def GV(lvl:Int)(gone:Bool)(q:List Int×Except Int Sto)(x:It):List Int×Except Int Sto:=match q.2 with
 |.error _=>q
 |.ok T=>if gone=false\/x.r=0 then q else if 0<lvl then(q.1++[x.r],q.2) else(q.1,Vl T x.r)
def qby(lvl:Int)(gone:Bool)(xs:List It)(q:List Int×Except Int Sto):List Int×Except Int Sto:=xs.foldl (GV lvl gone) q
def errI:Except Int Sto->Int
 |.error e=>e
 |.ok _=>0
def qdi(S:Sto)(ini:List Int)(a:Nat):Except Int (List Int×Sto):=match qo S a with
 |none=>.error 8
 |some (lvl,xs)=>match qby lvl (decide (qL S.now a=1)) xs (ini,Vl S (a:Int)) with
  |(_,.error _)=>.error 8
  |(D,.ok T)=>if 40<D.length then .error 9 else .ok (D,T)
theorem qkh(lvl:Int)(gone:Bool)(xs:List It)(k:Nat)(hk:k<xs.length)(q:List Int×Except Int Sto):qby lvl gone (xs.take (k+1)) q=GV lvl gone (qby lvl gone (xs.take k) q) xs[k]:=by unfold qby;rw[<-List.take_append_getElem hk,List.foldl_append];rfl
theorem reap1_err(lvl:Int)(gone:Bool)(D:List Int)(e:Int)(x:It):GV lvl gone (D,.error e) x=(D,.error e):=rfl
theorem qkg(lvl:Int){gone:Bool}(D:List Int)(T:Sto)(h:gone=false\/x.r=0):GV lvl gone (D,.ok T) x=(D,.ok T):=by unfold GV;simp only;rw[if_pos h]
theorem qkf{gone:Bool}(D:List Int)(T:Sto)(h:¬(gone=false\/x.r=0))(hl:0<lvl):GV lvl gone (D,.ok T) x=(D++[x.r],.ok T):=by unfold GV;simp only;rw[if_neg h,if_pos hl]
theorem qke{gone:Bool}(D:List Int)(T:Sto)(h:¬(gone=false\/x.r=0))(hl:¬0<lvl):GV lvl gone (D,.ok T) x=(D,Vl T x.r):=by unfold GV;simp only;rw[if_neg h,if_neg hl]
theorem qcJ(hT:qj T=J)(h:Vl T a=.ok T'):qj T'=J:=by by_cases h0:Jj T a=0;rw[YB h0]at h;cases h;obtain⟨_,m,rfl,hm8,_,_⟩:=qfC h0;exact may_now hT hm8 _;rw[qcI h0]at h;cases h
def Ge(S:Sto)(gen root next:Int)(dead:List Int)(w:Z)(e:Ending)(w':Z):Prop:=Below w w w' /\
 ((e=F (O #[vP,E M 8])/\QI S root next dead) \/
  ∃vs refs nodes,QH S root next dead vs/\Qu S (Qp root dead vs) refs nodes/\ZJ S refs /\
   ((dead=[]/\e=F (O #[vP,E M 6]))\/∃(ini:List Int)(a:Nat),dead=ini++[(a:Int)] /\
    match qdi S ini a with
    |.error er=>e=F (O #[vP,er])
    |.ok (D,T)=>∃u,e=F (O #[u,E M 0])/\vB w T gen root next D u w'))
structure RpC(S:Sto)(lvl:Int)(xs:List It)(gone:Bool)(ini:List Int)(a:Nat)(v1 v2 v3 v4 v5 v6 v7:Value)(pb sb lo m:Nat)(w wL:Z)(k:Nat)(D:List Int)(q:Except Int Sto)(A5:OA)(c5:Nat)(u0 u1 u2 u3:Value)(wr:Z):Prop where
 le:k<=xs.length
 eq:qby lvl gone (xs.take k) (ini,Vl S (a:Int))=(D,q)
 few:D.length<=40+k
 pool:wr.heap[pb]?=I (Oa #[v1,v2,v3,v4,v5,v6,v7,s A5 D.length c5] 32)
 own:wr.ownsRow lo 3 1 (s A5 D.length c5) D.length (Vq D)
 box:wr.heap[sb]?=I (Oa #[u0,u1,u2,u3] 28)
 err:∀er,q=.error er->er≠0
 ok:∀T,q=.ok T->qj T=J/\QY lo T (.agg #[u0,u1,u2,u3]) wr
 at_:∀g,(Value.slice A5 D.length c5).ownBlock=I g->g<m\/wL.heap.size<=g
 kept:∀p,m<=p->p<wL.heap.size->p≠sb->wr.heap[p]?=wL.heap[p]?
 size:wL.heap.size<=wr
 bel:Below w w wr
 out:pb+1<wL/\wr.heap[pb+1]?=wL.heap[pb+1]?
theorem QY.ext'{W W2:Z}(h:QY lo S u W)(hx:Ext W W2):QY lo S u W2:=h.keep (zM _) hx.size λb _ h2=>Below.block hx b h2
theorem RpC.next{gone:Bool}{a:Nat}(h:RpC S lvl xs gone ini a v1 v2 v3 v4 v5 v6 v7 pb sb lo m w wL k D q A5 c5 u0 u1 u2 u3 wr)(hx:Ext wr wr')(hj:j<=xs.length)(hkj:k<=j)(he:qby lvl gone (xs.take j) (ini,Vl S (a:Int))=(D,q)):RpC S lvl xs gone ini a v1 v2 v3 v4 v5 v6 v7 pb sb lo m w wL j D q A5 c5 u0 u1 u2 u3 wr':=
 ⟨hj,he,Nat.le_trans h.few (Nat.add_le_add_left hkj _),qb h.pool hx,QQ h.own λq hq=>Below.block hx q (Qn h.own q hq).2,qb h.box hx,h.err,λT e=>⟨(h.ok T e).1,(h.ok T e).2.ext' hx⟩,h.at_,
  λp h1 h2 h3=>(Below.block hx p (Nat.lt_of_lt_of_le h2 h.size)).trans (h.kept p h1 h2 h3),Nat.le_trans h.size hx.size,Below.trans h.bel (Below.mono hx h.bel.size),h.out.1,(Below.block hx _ (Nat.lt_of_lt_of_le h.out.1 h.size)).trans h.out.2⟩
theorem RpC.more{gone:Bool}{a:Nat}{wa w6:Z}{x:Int}(h:RpC S lvl xs gone ini a v1 v2 v3 v4 v5 v6 v7 pb sb lo m w wL k D (.ok T) A5 c5 u0 u1 u2 u3 wr)(hx:Ext wr wa)(hp:pb+1<lo)(fG:w.heap.size<=pb)(xK:lo<=m)(hms:m<=sb)(hsL:sb<wL)(aB:w6.ownsRow lo 3 1 (s A7 (D.length+1) c7) (D.length+1) (Vq D++[E M x]))(hg:wa.grownBy w6 (Value.slice A5 D.length c5).ownBlock)(hB:Below lo wa w6)(dO:(Value.slice A7 (D.length+1) c7).ownBlock=(Value.slice A5 D.length c5).ownBlock\/∃g,(Value.slice A7 (D.length+1) c7).ownBlock=I g/\wa.heap.size<=g)(hk:k<xs.length)(he:qby lvl gone (xs.take (k+1)) (ini,Vl S (a:Int))=(D++[x],.ok T)):RpC S lvl xs gone ini a v1 v2 v3 v4 v5 v6 v7 pb sb lo m w wL (k+1) (D++[x]) (.ok T) A7 c7 u0 u1 u2 u3 (w6.setCell (pb,7) (s A7 (D.length+1) c7)):=by
 have hl:(D++[x]).length=D.length+1:=zA3;have hs:=h.size;have ng:=hx.size;have ik:=hB.size;have ho:∀q,(Value.slice A5 D.length c5).ownBlock=I q->lo<=q/\(q<m\/wL.heap.size<=q):=λq hq=>⟨(Qn h.own q hq).1,h.at_ q hq⟩
 have nH:∀q,q<wr.heap.size->(Value.slice A5 D.length c5).ownBlock≠I q->q≠pb->(w6.setCell (pb,7) (s A7 (D.length+1) c7)).heap[q]?=wr.heap[q]?:=λq h1 h2 h3=>
  (zJ _ _ _ _ h3).trans ((hg.block q zO λe=>h2 e.symm).trans (Below.block hx q h1))
 have hpw:=(zG.1 h.pool).1;refine⟨zO,he,by have:=h.few;omega,?_,?_,?_,h.err,λT' e=>⟨(h.ok T' e).1,?_⟩,λg hq=>?_,λp h1 h2 h3=>?_,zA2,?_,h.out.1,(nH (pb+1) (by have:=h.out.1;omega) (λe=>by have:=(ho _ e).1;omega) zO).trans h.out.2⟩;rw[hl];exact qi ((hg.block pb zO λe=>by have:=(ho pb e.symm).1;omega).trans (qb h.pool hx)) 7 _;rw[hl,show Vq (D++[x])=Vq D++[E M x]by simp[Vq]];exact QQ aB λq hq=>zJ _ _ _ _ (by have:=(Qn aB q hq).1;simp;omega);exact(nH sb zO (λe=>by have:=ho sb e;omega) zO).trans h.box;rcases hob:(Value.slice A5 D.length c5).ownBlock with _|g
 exact(h.ok T' e).2.keep (zM _) zA2 λb h1 h2=>nH b h2 (by rw[hob];simp) zO;obtain⟨cur,hc⟩:=ZD h.own hob;exact(h.ok T' e).2.keepT (zM _) zA2 hc zA1 λb h1 h2 h3=>nH b h2 (by rw[hob];intro e;exact h3 (by simpa using e.symm)) zO;rw[hl]at hq;rcases dO with e|⟨g',e1,e2⟩
 exact(ho g (by rw[<-e];exact hq)).2;rw[e1]at hq;cases hq;exact .inr zO;exact(nH p zO (λe=>by have:=ho p e;omega) zO).trans (h.kept p h1 h2 h3);exact Below.setCell (Below.trans h.bel (Below.trans (Below.mono hx h.bel.size) (Below.mono hB zO))) (p:=⟨pb,7,Y⟩) fG _
theorem RpC.loose{gone:Bool}{a:Nat}{x0 x1 x2 x3:Value}(h:RpC S lvl xs gone ini a v1 v2 v3 v4 v5 v6 v7 pb sb lo m w wL k D (.ok T) A5 c5 u0 u1 u2 u3 wr)(hx:Ext wr wc)(hp:pb+1<lo)(fG:w.heap.size<=pb)(xK:lo<=m)(hms:m<=sb)(hsL:sb<wL)(aQ:wL.heap.size<=lo')(hk:k<xs.length)(he:qby lvl gone (xs.take (k+1)) (ini,Vl S (a:Int))=(D,q'))(h1:∀er,q'=.error er->er≠0)(h2:∀T',q'=.ok T'->qj T'=J/\QY lo' T' (.agg #[x0,x1,x2,x3]) wc):RpC S lvl xs gone ini a v1 v2 v3 v4 v5 v6 v7 pb sb lo m w wL (k+1) D q' A5 c5 x0 x1 x2 x3 ((((wc.setCell sb x0).setCell (sb,1) x1).setCell (sb,2) x2).setCell (sb,3) x3):=by
 have hs:=h.size;have ng:=hx.size;have ho:∀q,(Value.slice A5 D.length c5).ownBlock=I q->lo<=q/\q<wr.heap.size/\(q<m\/wL.heap.size<=q):=λq hq=>⟨(Qn h.own q hq).1,(Qn h.own q hq).2,h.at_ q hq⟩
 have nH:∀q,q<wr.heap.size->q≠sb->((((wc.setCell sb x0).setCell (sb,1) x1).setCell (sb,2) x2).setCell (sb,3) x3).heap[q]?=wr.heap[q]?:=λq h1 h2=>by have hs:=λ(A:Z)(j:Nat)(v:Value)=>zJ A ⟨sb,j,Y⟩ v q h2;rw[hs,hs,hs,hs];exact Below.block hx q h1
 have hpw:=(zG.1 h.pool).1;refine⟨zO,he,by have:=h.few;omega,(nH pb hpw zO).trans h.pool,QQ h.own λq hq=>nH q (ho q hq).2.1 (by have:=ho q hq;omega),UX (qb h.box hx) _ _ _ _,h1,λT' e=>⟨(h2 T' e).1,(h2 T' e).2.set4 zO zO _ _ _ _⟩,h.at_,λp h3 h4 h5=>(nH p zO h5).trans (h.kept p h3 h4 h5),zA2,Je (Below.trans h.bel (Below.mono hx h.bel.size)) zO _ _ _ _,h.out.1,(nH (pb+1) (by have:=h.out.1;omega) zO).trans h.out.2⟩
structure RpI(S:Sto)(lvl:Int)(xs:List It)(gone:Bool)(ini:List Int)(a:Nat)(v1 v2 v3 v4 v5 v6 v7:Value)(pb sb lo m:Nat)(w wL:Z)(e i:Value)(wr:Z):Prop where
 ex:∃(k:Nat)(D:List Int)(q:Except Int Sto)(A5:OA)(c5:Nat)(u0 u1 u2 u3:Value),i=E M (k:Int)/\e=E M (errI q)/\RpC S lvl xs gone ini a v1 v2 v3 v4 v5 v6 v7 pb sb lo m w wL k D q A5 c5 u0 u1 u2 u3 wr
end Go.Proofs.YtmeadnlmepcmbaaGreat
