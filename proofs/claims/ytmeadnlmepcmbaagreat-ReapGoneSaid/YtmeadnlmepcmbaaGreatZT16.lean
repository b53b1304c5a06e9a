/- Lemmas of the proof. -/
import Derived.Test.YtmeadnlmepcmbaaGreatZT15
set_option linter.all false
set_option maxHeartbeats 8000000
open Go.Proofs.Tryz
open Go.Value renaming int→y,slice→E,pointer→Q
open Option renaming some→F,none→M
open Go.IntKind renaming i64→I,u32→Jx
open Go.Obj renaming cells→J
open Go.World renaming alloc→O
open Bool renaming true→X,false→Y
open Go renaming Value→Z,World→Oa
namespace Go.Proofs.YtmeadnlmepcmbaaGreat
open Go.RowKit Go.Shelf
attribute [local go_sem] Oper.semAt_some
variable {k:Option Nat}{w W w2:World}{D:Nat->Prop}{S S0:Sto}{a n lo B:Nat}{R:Ending->World->Prop}{v:Value}{Ds:List Nat}{β:Type}{xs:List It}{us:List Ui}
def Vb(st:List (Nat×Int)):List Z:=st.flatMap λp=>[y I (p.1:Int),y I p.2]
theorem GP(s r:List (Nat×Int)):Vb (s++r)=Vb s++Vb r:=by unfold Vb;rw[List.flatMap_append]
theorem qfa(x:Nat×Int):Vb [x]=[y I (x.1:Int),y I x.2]:=rfl
theorem qeZ:∀st:List (Nat×Int),(Vb st).length=st.length*2
 |[]=>rfl
 |x::r=>by have:=qeZ r;have e:Vb (x::r)=[y I (x.1:Int),y I x.2]++Vb r:=rfl;rw[e];simp only[List.length_append,List.length_cons,List.length_nil];omega
theorem Qi.fresh{lo b g:Nat}{C:Oa}(h:Qi lo b g k w W)(hl:lo<=w)(hx:Below w W C):Qi lo b g k w C:=
 ⟨h.below.trans (Below.mono hx hl),λq hq hn=>(hx.block q hq).trans (h.rows q hq hn)⟩
theorem JH.bad2{B lo b g:Nat}(x2:Ext w w2)(hl:lo<=w)(h:QK S (-1) S.now a=M)(hB:Qi lo b g k w2 W):∀C,Below w2 W C->JH D B lo b g k S a w (.returned (y I 8)) C:=λC hC=>by have z2:=x2.size;exact JH.bad h ((Qi.of_ext x2 hl).trans (hB.fresh zO hC) (Zs.refl _ _))
theorem JH.good2{B lo b g:Nat}{t:List UInt8}(h0:Bch D B lo b g k S0 w)(x2:Ext w w2)(h:QK S (-1) S.now a=t)(hB:Qi lo b g k w2 W)(hb:Bch D B lo b g k (qp S t) W):∀C,Below w2 W C->JH D B lo b g k S a w (.returned (y I 0)) C:=λC hC=>by have z2:=x2.size;have hl:=h0.size.2.2.2.2.2.1;exact JH.good h ((Qi.of_ext x2 hl).trans (hB.fresh zO hC) (Zs.refl _ _)) ((h0.ext x2).fresh hb hC)
theorem Yy{a:Act}(h4:a.tmps[4]?.getD undef=v)(hd:a.defers=Ds.map qcR)(hm:Jg lo Ds W)(hR:∀C,Below lo W C->R v C):bodyPostM Fence.wide n prog Tryz.f121 R .ret a W:=by
 change LeavesInM Fence.wide n prog Tryz.f121 a.tmps R a.defers .returning W;rw[hd];refine Gy (lo:=lo) Ds W hm λC h1 h2 h3 h4' h5=>⟨v,?_,hR C ⟨h3,h4',h5,zO,λq hq=>h1 q λhm'=>?_⟩⟩
 ·simp[results,results121,go_sem,h4]
 have:=(hm.at_ q hm').1;omega
theorem Tryz.info_owed:(Tryz.prog.info? 235).map (λi=>(i.zero,i.size,i.bytes))=F (F (.agg #[y I 0,y I 0]),2,16):=zQ
theorem qgl(b base m:Nat)(f:List Nat->List (Nat×Int))(p:Z->Prop):OwnFrom B (λ(pre:List Nat) W=>∃v,W.heap[b]?=F (J #[v] 236)/\W.ownsRow base 235 2 v (m+pre.length) (Vb (f pre))/\p v):=λs A C row ⟨v,h1,h2,h3⟩ hg hr=>
 ⟨v,QF (β:=Unit) _ _ _ _ () A C row h1 hg hr,h2.kept hg (by
  rcases hv:v.ownBlock with _|g
  exact .inl rfl
  ·refine .inr λe=>?_;obtain⟨_,o,ho,hc⟩:=hr g e.symm;rcases GQ h2 g hv with⟨c,fz,h3⟩;rw[ho]at h3;cases h3;cases hc),h3⟩
theorem qed(hB:∀D∈Ds,D<B):OwnFrom B (λ(_:β) W=>Jg lo Ds W):=λ_ A C row h hg hr=>⟨h.nodup,λD hD=>⟨(h.at_ D hD).1,(hg.block D (zG.1 (h.at_ D hD).2).1 λe=>by have:=(hr D e.symm).1;have:=hB D hD;omega).trans (h.at_ D hD).2⟩⟩
theorem refs_rev(h:us.map (·.1)=xs)(l:Int):(jb (λj=>us.length-1-j) us.length).map (λj=>((us[j]?.getD uiz).1.r.toNat,l))=((qA xs).map λr=>(r,l)).reverse:=by
 subst h;refine List.ext_getElem (by simp[ZG,qA]) λi h1 h2=>?_;have h3:i<us.length:=by simpa [ZG]using h1
 have e1:(jb (λj=>us.length-1-j) us.length)[i]'(by rw[ZG];exact h3)=us.length-1-i:=by have:=Ue us.length us.length i h3;rw[zL (by rw[ZG];exact h3)]at this;exact Option.some.inj this
 rw[List.getElem_map,e1,List.getElem_reverse,List.getElem_map];have h4:us.length-1-i<us.length:=zO;have h5:us[us.length-1-i]?.getD uiz=us[us.length-1-i]:=by rw[zL h4];rfl
 rw[h5];simp[qA]
theorem qls:∀t:List UInt8,kz t<=255*t.length
 |[]=>by simp[kz]
 |x::r=>by have:=qls r;have h:=x.toNat_lt;simp only[kz,List.length_cons];omega
theorem Jg.add{D:Nat}(h:Jg lo Ds W)(hlt:∀D∈Ds,D<n)(hD:n<=D)(hl:lo<=D)(hr:W.heap[D]?=F (.deferred (F []))):Jg lo (D::Ds) W:=by
 refine⟨List.nodup_cons.2 ⟨λhm=>by have:=hlt D hm;omega,h.nodup⟩,λq hq=>?_⟩;rcases List.mem_cons.1 hq with rfl|hq
 exact⟨hl,hr⟩;exact h.at_ q hq
theorem Jg.bkeep{lo lo' b g:Nat}(h:Jg lo Ds w)(hk:Qi lo' b g k w W)(hn:∀q,lo<=q->¬B3 b g k q):Jg lo Ds W:=
 ⟨h.nodup,λD hD=>⟨(h.at_ D hD).1,(hk.rows D (zG.1 (h.at_ D hD).2).1 (hn D (h.at_ D hD).1)).trans (h.at_ D hD).2⟩⟩
structure LvR(D:Nat->Prop)(B lo b g:Nat)(k:Option Nat)(S:Sto)(a:Nat)(w2:Oa)(n:Nat)(Ds:List Nat)(wr:Oa):Prop where
 ex:∃st t sv,n=kz t/\LvI S a st t/\Bch D B lo b g k (qp S t) wr/\wr.heap[w2.heap.size+1]?=F (J #[sv] 236)/\wr.ownsRow w2 235 2 sv st.length (Vb st)
 keep:Qi lo b g k w2 wr
 marks:Jg (↑w2+2) Ds wr
def maskL:List Bool:=List.replicate 7 Y++List.replicate 133 X
set_option maxRecDepth 100000 in
theorem UE(D:Nat->Prop)(B lo b g:Nat)(k:Option Nat)(S:Sto)(hS:qj S=X)(a:Nat)(ha:8<=a)(bC:a<256)(w:Oa)(h:Bch D B lo b g k S w):Calls prog 121 #[Q b,y I (a:Int)] w (JH D B lo b g k S a w):=by
 obtain⟨fZ,hzb,yK,xC,uP,oL,yz⟩:=h.size;obtain⟨hlen,hED⟩:=h.lens;obtain⟨A1,n1,c1,v2,c3,A4,c4,kr,pU,tN⟩:=h.cells;have aB:w.ownsRow lo 5 1 (E g 256 c3) 256 (S.now.map bv):=by obtain⟨A1',n1',c1',v2',c3',A4',c4',iq,rE,_⟩:=h.ex;have:=(kr 2).symm.trans (qa iq 2);simp at this;rw[this];exact rE
 have af:Bys w w (E g 256 c3) S.now:=Bys.of_own aB;have HC:=zH (qdn _ S.now zO w af);have h0:=zH h;have sV:=zH (LvI.start hS ha bC);clear af aB pU tN h yz;refine(callsIn_wide (n:=3)).1 ?_;refine callsIn_of_wp_marks func121 rfl trivial ?_ rfl;simp only[ntmps121,List.size_toArray,List.length_cons,List.length_nil,Nat.reduceAdd,Nat.reduceSub,Array.replicate_succ,Array.replicate_zero,List.push_toArray,List.append_toArray,List.nil_append,List.cons_append];refine wpIn_wide.2 ?_;go_wp2_with fail;refine HC.mono ?_;clear HC;rintro e w2 ⟨u,rfl,hF,hB⟩;have x2:Ext w w2:=hB;obtain⟨AF,cF,rfl,-,-⟩:=qC hF;obtain⟨bF,oF,rfl,hbF,hFlo,hcF⟩:∃bF oF,AF=F ⟨bF,oF,M⟩/\bF<w2.heap.size/\w.heap.size<=bF/\∀j,j<256->w2.cell? ⟨bF,oF+j,M⟩=F (y .u8 (js S j:Int)):=by rw[hlen]at hF;obtain⟨bF,oF,e,h1,h2⟩:=(Rd.of_own hF).2 zO;have aQ:=ZK.of_own hF ⟨bF,oF,M⟩ _ _ (by rw[e]);exact⟨bF,oF,e,h1,aQ,λj hj=>h2 j _ (by rw[List.getElem?_map,zL zO];simp[js,zL (show j<S.now.length by omega)])⟩
 have hLG:Hid (∀W,Qi lo b g k w2 W->∀j,j<256->W.cell? ⟨bF,oF+j,M⟩=F (y .u8 (qL S.now j:Int))):=zH λW hW j hj=>hW.keepX ⟨bF,oF+j,M⟩ _ (λhx=>by have:=(h0.out.b3 bF hx).2;omega) (hcF j hj);clear hcF;have bP:=zH (h0.out.ext x2);clear hB hF kr;go_wp2_with fail;generalize aP:(O (O w2 _) _)=w3;have x23:Ext w2 w3:=by rw[<-aP];exact(zN _ _).trans (zN _ _)
 have rS:w3.heap[w2.heap.size+1]?=F (J #[E w2 1 1] 236 (0,0)):=aP▸zI _ _ _ zA3;have oS:w3.ownsRow w2 235 2 (E w2 1 1) 1 (Vb [(a,-1)]):=by have h:=World.ownsRow_lit (base:=w2.heap.size) (e:=235) (size:=2) w2 #[y I (a:Int),y I (-1)] 1 (zM _) zA7 rfl;rw[<-aP];exact h.alloc _
 clear aP;have hR0:LvR D B lo b g k S a w2 (kz S.now) [] w3:=⟨⟨[(a,-1)],S.now,_,rfl,sV.out,bP.out.ext x23,rS,oS⟩,Qi.of_ext x23 (by have:=x2.size;omega),Jg.nil _ _⟩
 replace hR0:=zH hR0;clear rS oS x23 bP sV;refine qgH maskL (kz S.now) (λn _ Ds wr=>LvR D B lo b g k S a w2 n Ds wr) hR0.out zQ ?_;intro nn gg Ds wr K0 hrel hK0;replace hK0:=zH hK0;clear hR0;obtain⟨st,t,sv,nX,sV,uq,rS,oS⟩:=hrel.ex;have hkp:=zH hrel.keep;have hmk:=zH hrel.marks;have xz:=hrel.keep.below.size;clear hrel;replace⟨nX,sV,uq⟩:=zH3 nX sV uq;dsimp only[mixL,maskL,List.replicate,List.cons_append,List.nil_append,List.append_assoc,cond_true,cond_false,List.append_eq,Nat.reduceAdd];generalize gg 7=v7,gg 8=v8,gg 9=v9,gg 10=v10,gg 11=v11,gg 12=v12,gg 13=v13,gg 14=v14,gg 15=v15,gg 16=v16,gg 17=v17,gg 18=v18,gg 19=v19,gg 20=v20,gg 21=v21,gg 22=v22,gg 23=v23,gg 24=v24,gg 25=v25,gg 26=v26,gg 27=v27,gg 28=v28,gg 29=v29,gg 30=v30,gg 31=v31,gg 32=v32,gg 33=v33,gg 34=v34,gg 35=v35,gg 36=v36,gg 37=v37,gg 38=v38,gg 39=v39,gg 40=v40,gg 41=v41,gg 42=v42,gg 43=v43,gg 44=v44,gg 45=v45,gg 46=v46,gg 47=v47,gg 48=v48,gg 49=v49,gg 50=v50,gg 51=v51,gg 52=v52,gg 53=v53,gg 54=v54,gg 55=v55,gg 56=v56,gg 57=v57,gg 58=v58,gg 59=v59,gg 60=v60,gg 61=v61,gg 62=v62,gg 63=v63,gg 64=v64,gg 65=v65,gg 66=v66,gg 67=v67,gg 68=v68,gg 69=v69,gg 70=v70,gg 71=v71,gg 72=v72,gg 73=v73,gg 74=v74,gg 75=v75,gg 76=v76,gg 77=v77,gg 78=v78,gg 79=v79,gg 80=v80,gg 81=v81,gg 82=v82,gg 83=v83,gg 84=v84,gg 85=v85,gg 86=v86,gg 87=v87,gg 88=v88,gg 89=v89,gg 90=v90,gg 91=v91,gg 92=v92,gg 93=v93,gg 94=v94,gg 95=v95,gg 96=v96,gg 97=v97,gg 98=v98,gg 99=v99,gg 100=v100,gg 101=v101,gg 102=v102,gg 103=v103,gg 104=v104,gg 105=v105,gg 106=v106,gg 107=v107,gg 108=v108,gg 109=v109,gg 110=v110,gg 111=v111,gg 112=v112,gg 113=v113,gg 114=v114,gg 115=v115,gg 116=v116,gg 117=v117,gg 118=v118,gg 119=v119,gg 120=v120,gg 121=v121,gg 122=v122,gg 123=v123,gg 124=v124,gg 125=v125,gg 126=v126,gg 127=v127,gg 128=v128,gg 129=v129,gg 130=v130,gg 131=v131,gg 132=v132,gg 133=v133,gg 134=v134,gg 135=v135,gg 136=v136,gg 137=v137,gg 138=v138,gg 139=v139;clear gg;rcases List.eq_nil_or_concat st with rfl|⟨s,x,rfl⟩
 ·obtain⟨As,cs,rfl,-,-⟩:=qC oS;have aN:=zH (JH.good2 h0.out x2 sV.out.done hkp.out uq.out);have kS:=qa rS;clear oS hK0;go_wp2_with fail;exact Yy rfl rfl hmk.out λC hC=>aN.out C (hC.mono zO)
 rw[List.concat_eq_append]at*;obtain⟨a1,l1⟩:=x;obtain⟨ht8,sO,mO,htl6⟩:=sV.out.top;simp only at ht8 sO mO htl6;obtain⟨m,hm0⟩:∃m,m=s.length:=⟨_,rfl⟩
 rw[List.length_append,List.length_singleton,<-hm0,GP,qfa]at oS;rcases oS.2 with⟨-,h0'⟩|⟨gb,cap,cur,rfl,uP,aC,fQ,eP,ay,mM⟩
 exfalso;omega;obtain⟨gb',off',e0,hgb',aY⟩:=(Rd.of_own oS).2 zO;simp only[Option.some.injEq,Addr.mk.injEq,and_true]at e0;obtain⟨rfl,rfl⟩:=e0;have hls:(Vb s).length=m*2:=by rw[qeZ,hm0]
 have kb0:=aY (m*2) (y I (a1:Int)) (by rw[List.getElem?_append_right zO,hls];simp);have kb1:=aY (m*2+1) (y I l1) (by rw[List.getElem?_append_right zO,hls];simp);rw[Nat.zero_add]at kb0 kb1;clear aY;have nM:gb≠w2.heap.size+1:=qM aC rS zA1;have oS2:=UV (xs:=Vb s) (news:=[y I (a1:Int),y I l1]) (n:=m) (m:=1) oS hls;have hw22:wrap64 (m:Int)=(m:Int):=IntWalk.wrap64_in _ (by unfold maxLen at eP;omega);have hmc:m<=cap:=Nat.le_of_succ_le fQ;have hcap:¬cap=0:=λe=>by rw[e]at fQ;exact absurd fQ (Nat.not_succ_le_zero _)
 have kS:=qa rS;have fS:=qe rS;have zS:w2.heap.size+1<wr.heap.size:=(zG.1 rS).1;have zg:gb<wr.heap.size:=(zG.1 aC).1;replace⟨oS2,hm0,sV⟩:=zH3 oS2 hm0 sV.out;clear aC mM ay eP fQ oS hls;go_upto_region 6 with fail;have dM:Below w2 wr ((wr.setCell (w2,1,0) (E gb m cap)).alloc (J #[y I (a1:Int),y I l1] 235)):=Below.alloc (Below.setCell (Below.refl _ _) (p:=⟨w2.heap.size+1,0,M⟩) zA3 _) (by simpa using xz) _;have rX4:((wr.setCell (w2,1,0) (E gb m cap)).alloc (J #[y I (a1:Int),y I l1] 235)).heap[wr.heap.size]?=F (J #[y I (a1:Int),y I l1] 235 (0,0)):=zI _ _ _ zA3;have rS4:((wr.setCell (w2,1,0) (E gb m cap)).alloc (J #[y I (a1:Int),y I l1] 235)).heap[w2.heap.size+1]?=F (J #[E gb m cap] 236 (0,0)):=(zK _ _ _ (by simpa using zS)).trans (qi rS 0 _);have ko4:∀q,q<wr.heap.size->q≠w2.heap.size+1->((wr.setCell (w2,1,0) (E gb m cap)).alloc (J #[y I (a1:Int),y I l1] 235)).heap[q]?=wr.heap[q]?:=λq hq aH=>(zK _ _ _ (by simpa using hq)).trans (zJ _ _ _ _ aH);have z4:((wr.setCell (w2,1,0) (E gb m cap)).alloc (J #[y I (a1:Int),y I l1] 235)).heap.size=wr.heap.size+1:=zA3;generalize hw4:O (World.setCell wr _ _) _=w4 at*;clear hw4 kS fS kb0 kb1;have oS4:w4.ownsRow w2 235 2 (E gb m cap) m (Vb s):=QQ oS2.out λq hq=>by cases hq;exact ko4 gb zg nM
 have lW:=(h0.out.ext x2).fresh uq.out dM;have pR:=zH (hkp.out.fresh (by have:=x2.size;omega) dM);have hm4:=zH (hmk.out.keep (W:=w4) λq o hq ho=>(ko4 q (zG.1 hq).1 (λe=>by subst e;rw[rS]at hq;cases hq;cases ho)).trans hq);have hle:qL t a1<=qL S.now a1:=sV.out.le a1;have sF:=sV.out.may;clear nM uq hkp hmk rS ko4 oS2 dM;obtain⟨A1,n1,c1,v2,c3,A4,c4,hrb,hog,-⟩:=lW.ex;obtain⟨hkg,hfg0,-,hzg4⟩:=ZI hog;have hkga:=hkg a1 sO;have g0:∀W,qm.r w4 W->∀i,W.cell? ⟨b,i,M⟩=#[E A1 n1 c1,v2,E g 256 c3,E A4 256 c4][i]?:=λW hW=>qa (qb hrb hW);have g1:∀W,qm.r w4 W->∀i,W.cell? ⟨wr,i,M⟩=#[y I (a1:Int),y I l1][i]?:=λW hW=>qa (qb rX4 hW);have g2:∀W,qm.r w4 W->W.cell? (g,a1)=F (y .u8 (qL t a1:Int)):=λW hW=>Ext.cell hW hkga;have au:=TL t a1;have hEU:=zH hog;have hgb2:g≠b:=lW.size.2.2.2.2.1;have hgS:Hid (∀q,w2.heap.size<=q->q≠g):=zH λq hq e=>by have:=(h0.out.b3 g (.inr (.inl rfl))).2;have:=x2.size;omega
 replace⟨lW,oS4,sF,hle⟩:=zH4 lW oS4 sF hle;obtain⟨nv,mY⟩:∃nv,qL t a1=nv:=⟨_,rfl⟩
 rw[mY]at g2 au hle;replace mY:=zH mY;clear hog hkg hfg0 hkga;refine qt zQ ?_;refine qY (w:=w4) qm (qP []) (List.replicate 10 X) 0 zQ zQ zQ zQ zQ zQ zQ ?st (Rel.drew _ _) ?walk
 case st=>exact qk (λ_ h=>by cases h)
 case walk=>
  intro K hK;dsimp only[qv,List.replicate];refine zB7 ?_
  first
   |(refine qd (Q (F ⟨g,a1,M⟩)) zA0 zA0 (λW hW _=>⟨W,?_,Rel.refl _ W⟩) ?_
     ·go_simp;intro lg;exfalso;omega
     simp only[Act.put,qf,qc,qg,zA,zB,zC])
   |skip
  refine zB7 ?_;refine qB (hK _ _ λW hW hF=>?_);clear hF hK;have hW:Ext w4 W:=hW;refine zC4 ?_;go_wp2;refine Qq ?_;by_cases h0z:nv=0
  ·have hq:=zH (sV.out.bad0 (by rw[mY.out];exact h0z));subst h0z;have aN:=zH (JH.bad2 (a:=a) (D:=D) (B:=B) x2 oL hq.out (pR.out.fresh (by have:=x2.size;omega) (Below.mono hW zO)));have hmW:=zH (hm4.out.keep (W:=W) λq o hq _=>(Below.block hW q (zG.1 hq).1).trans hq);clear g0 g1 g2;go_wp2_with fail;exact Yy rfl rfl hmW.out λC hC=>aN.out C (hC.mono zO)
  have aT:((nv:Int)==0)=Y:=by rw[beq_eq_false_iff_ne];omega
  have aX:decide (nv=0)=Y:=decide_eq_false h0z;have h0':=zH h0z;by_cases h1:1<nv
  ·have hd1:decide ((1:Int)<(nv:Int))=X:=decide_eq_true zO;have bG:=zH (sV.out.more (by rw[mY.out];exact h1));replace h1:=zH h1;clear h0z;go_upto_region 8 with fail;have g0':∀V,qm.r W V->_:=λV hV=>g0 V (hW.trans hV);have g1':∀V,qm.r W V->_:=λV hV=>g1 V (hW.trans hV);have g2':∀V,qm.r W V->_:=λV hV=>g2 V (hW.trans hV);clear g0 g1 g2;refine qt zQ ?_;refine qY (w:=W) qm (qP []) (List.replicate 10 X) 0 zQ zQ zQ zQ zQ zQ zQ ?st (Rel.drew _ _) ?walk
   case st=>exact qk (λ_ h=>by cases h)
   case walk=>
    intro K hK;dsimp only[qv,List.replicate];refine zB7 ?_
    first
     |(refine qd (Q (F ⟨g,a1,M⟩)) zA0 zA0 (λW hW _=>⟨W,?_,Rel.refl _ W⟩) ?_
       ·go_simp;intro lg;exfalso;omega
       simp only[Act.put,qf,qc,qg,zA,zB,zC])
     |skip
    refine zB7 ?_;refine qB (hK _ _ λV hV hF=>?_);clear hF hK;have hV:Ext W V:=hV;refine zC4 ?_;go_wp2;refine Qq ?_;have x4V:Ext w4 V:=Ext.trans hW hV;have g0:∀U,qm.r V U->_:=λU hU=>g0' U (Ext.trans hV hU);have g1:∀U,qm.r V U->_:=λU hU=>g1' U (Ext.trans hV hU);have g2:∀U,qm.r V U->_:=λU hU=>g2' U (Ext.trans hV hU);have hfg:∀U,Ext V U->U.frozen? (g,a1)=Y:=λU hU=>(ZI (zu hEU.out (Ext.trans x4V hU))).2.1 a1;obtain⟨n',hm⟩:∃n',nv=n'+1:=⟨nv-1,by have:=h1.out;omega⟩
    have hmt:(UInt8.ofNat (nv-1)).toNat=n':=by rw[show nv-1=n' by omega,UInt8.toNat_ofNat'];omega
    have hwv:IntKind.u8.wrap ((nv:Int)-1)=(n':Int):=by rw[qgA (n:=nv) zO au,hmt]
    have nS:bv (UInt8.ofNat (nv-1))=y .u8 (n':Int):=by show Value.int .u8 _=_;rw[hmt]
    replace⟨nS,hm,x4V⟩:=zH3 nS hm x4V;clear hmt;clear g0' g1' g2' hW hV;go_upto_region 9 with fail;refine qt zQ ?_;refine qY (w:=V) qm (qP []) (List.replicate 11 X) 1 zQ zQ zQ zQ zQ zQ zQ ?st (Rel.drew _ _) ?walk
    case st=>exact qk (λ_ h=>by cases h)
    case walk=>
     intro K hK;dsimp only[qv,List.replicate];refine zB7 ?_
     first
      |(refine qd (Q (F ⟨g,a1,M⟩)) zA0 zA0 (λW hW _=>⟨W,?_,Rel.refl _ W⟩) ?_
        ·go_simp;intro lg;exfalso;omega
        simp only[Act.put,qf,qc,qg,zA,zB,zC])
      |skip
     refine zB7 ?_
     first
      |(refine qd (Q (F ⟨g,a1,M⟩)) zA0 zA0 (λW hW _=>⟨W,?_,Rel.refl _ W⟩) ?_
        ·go_simp;intro lg;exfalso;omega
        simp only[Act.put,qf,qc,qg,zA,zB,zC])
      |skip
     refine zB7 ?_;refine qB (hK _ _ λU hU hF=>?_);clear hF hK;have hU:Ext V U:=hU;refine zC4 ?_;have k2:=g2 U hU;have f2:=hfg U hU;have x4U:=x4V.out.trans hU;have uZ:=(lW.out.ext x4U).count sO (UInt8.ofNat (nv-1));rw[nS.out]at uZ;have hdn:jf t a1=t.set a1 (UInt8.ofNat (nv-1)):=by unfold jf;rw[mY.out]
     have hkB:Qi lo b g k w2 (U.setCell (g,a1) (y .u8 (n':Int))):=(pR.out.fresh (by have:=x2.size;omega) (Below.mono x4U zO)).trans uZ.2 (Zs.refl _ _);have cB:∀q,q≠g->(U.setCell (g,a1) (y .u8 (n':Int))).heap[q]?=U.heap[q]?:=λq hq=>zJ _ _ _ _ hq;have rSB:=(cB (w2.heap.size+1) (hgS.out _ zO)).trans (qb rS4 x4U);have oSB:(U.setCell (g,a1) (y .u8 (n':Int))).ownsRow w2 235 2 (E gb m cap) m (Vb s):=QQ (zu oS4.out x4U) λq hq=>by cases hq;exact cB gb (hgS.out _ uP)
     have hmB:Jg (↑w2+2) Ds (U.setCell (g,a1) (y .u8 (n':Int))):=hm4.out.keep λq o hq ho=>(cB q (λe=>by subst e;obtain⟨cur,bU⟩:=ZD hEU.out (q:=q) rfl;rw[bU]at hq;cases hq;cases ho)).trans ((Below.block x4U q (zG.1 hq).1).trans hq);have hR:LvR D B lo b g k S a w2 (kz (jf t a1)) Ds (U.setCell (g,a1) (y .u8 (n':Int))):=⟨⟨s,jf t a1,_,rfl,bG.out,by rw[hdn];exact uZ.1,rSB,by rw[<-hm0.out];exact oSB⟩,hkB,hmB⟩
     have hlt:kz (jf t a1)<nn:=by rw[nX.out];have:=qcr (t:=t) (a:=a1) (by rw[mY.out];exact h0'.out);omega
     replace⟨hR,hlt⟩:=zH2 hR hlt;clear g0 g1 g2 hfg uZ hkB cB rSB oSB hmB hdn hU x4U;go_wp2_with fail;refine Qq ?_;go_wp2_with fail;exact qcU hK0.out _ hlt.out Ds rfl zQ hR.out
  obtain rfl:nv=1:=zO;have hone:Hid (qL t a1=1):=mY;have hMY:qj (qp S t)=X:=Qd.2 ⟨(Qd.1 hS).1,sF.out,(Qd.1 hS).2.2⟩;have hnn2:=zH (Xo (S:=S) (t:=t) (a:=a1) (by rw[hone.out];decide) (by rw[hone.out];exact hle.out));replace hMY:=zH hMY;clear h0z h1;go_upto_region 8 with fail;have g0':∀V,qm.r W V->_:=λV hV=>g0 V (hW.trans hV);have g1':∀V,qm.r W V->_:=λV hV=>g1 V (hW.trans hV);have g2':∀V,qm.r W V->_:=λV hV=>g2 V (hW.trans hV);clear g0 g1 g2;refine qt zQ ?_;refine qY (w:=W) qm (qP []) (List.replicate 10 X) 0 zQ zQ zQ zQ zQ zQ zQ ?st (Rel.drew _ _) ?walk
  case st=>exact qk (λ_ h=>by cases h)
  case walk=>
   intro K hK;dsimp only[qv,List.replicate];refine zB7 ?_
   first
    |(refine qd (Q (F ⟨g,a1,M⟩)) zA0 zA0 (λW hW _=>⟨W,?_,Rel.refl _ W⟩) ?_
      ·go_simp;intro lg;exfalso;omega
      simp only[Act.put,qf,qc,qg,zA,zB,zC])
    |skip
   refine zB7 ?_;refine qB (hK _ _ λV hV hF=>?_);clear hF hK;have hV:Ext W V:=hV;refine zC4 ?_;go_wp2;refine Qq ?_;have x4V:Ext w4 V:=Ext.trans hW hV;have rSV:=qb rS4 x4V;have rXV:=qb rX4 x4V;have kXV:=qa rXV;have hbV:=lW.out.ext x4V;have hkV:=zH (pR.out.fresh (by have:=x2.size;omega) (Below.mono x4V zO));have hmV:=zH (hm4.out.keep (W:=V) λq o hq _=>(Below.block x4V q (zG.1 hq).1).trans hq);have oSV:=zH (zu oS4.out x4V);have HN:=(by obtain⟨A1',n1',c1',A2',n2',c2',c3',A4',c4',iq,eQ⟩:=hbV.sto;have H:=Ve lo b A1' n1' c1' A2' n2' c2' _ 256 c3' A4' 256 c4' (qp S t) hMY.out a1 ht8 sO V ⟨fZ,iq,eQ⟩;rw[hnn2.out]at H;exact H:Calls prog 145 #[Q (F ⟨b,0,M⟩),y I (a1:Int)] V (zZ (qce V.heap.size (qo S a1)) V))
   have zgV:=hbV.size.2.2.2.1;replace hbV:=zH hbV;clear lW pR hm4 oS4 rS4 rX4;go_wp2_with fail;refine HN.mono ?_;clear HN;rintro e wN ⟨uN,rfl,hN,uM⟩;have xN:Ext V wN:=uM;have zNh:=xN.size;have z4V:=x4V.size;have rXN:=qb rXV xN;have kXN:=qa rXN;have rSN:=qb rSV xN;clear uM kXV;obtain⟨lv,An,nn',cn,er,rfl,aI⟩:∃lv An nn' cn er,uN=.tuple #[jW lv An nn' cn,y I er]/\((er≠0/\qo S a1=M)\/(er=0/\∃xs,qo S a1=F (lv,xs)/\nn'=xs.length/\ZO V wN (E An nn' cn) xs)):=by
    rcases hnd:qo S a1 with _|⟨l,xs⟩
    rw[hnd]at hN;obtain⟨er,aH,rfl⟩:=hN;exact⟨0,M,0,0,er,rfl,.inl ⟨aH,rfl⟩⟩;rw[hnd]at hN;obtain⟨A9,c9,rfl,hi⟩:=hN;exact⟨l,A9,xs.length,c9,0,rfl,.inr ⟨rfl,xs,rfl,rfl,hi⟩⟩
   replace aI:=zH aI;clear hN;go_upto_region 11 with fail;generalize hwM:O wN _=wM;have xM:Ext wN wM:=hwM▸zN _ _;have rN:wM.heap[wN.heap.size]?=F (J #[y I lv,E An nn' cn] 113 (0,0)):=hwM▸zI _ _ _ rfl;clear hwM;have xVM:Ext V wM:=xN.trans xM;have g0:∀U,qm.r wM U->_:=λU hU=>g0' U (Ext.trans hV (Ext.trans xVM hU));have g1:∀U,qm.r wM U->_:=λU hU=>g1' U (Ext.trans hV (Ext.trans xVM hU));have hfg:∀U,Ext wM U->U.frozen? (g,a1)=Y:=λU hU=>(ZI (zu hEU.out (Ext.trans x4V (Ext.trans xVM hU)))).2.1 a1;have hcg:∀U,qm.r wM U->_:=λU hU=>g2' U (Ext.trans hV (Ext.trans xVM hU));clear g0' g1' g2' hW hV;refine qt zQ ?_;refine qY (w:=wM) qm (qP []) (List.replicate 8 X) 1 zQ zQ zQ zQ zQ zQ zQ ?st (Rel.drew _ _) ?walk
   case st=>exact qk (λ_ h=>by cases h)
   case walk=>
    intro K hK;dsimp only[qv,List.replicate];refine zB7 ?_
    first
     |(refine qd (Q (F ⟨g,a1,M⟩)) zA0 zA0 (λW hW _=>⟨W,?_,Rel.refl _ W⟩) ?_
       ·go_simp;intro lg;exfalso;omega
       simp only[Act.put,qf,qc,qg,zA,zB,zC])
     |skip
    refine zB7 ?_;refine qB (hK _ _ λU hU hF=>?_);clear hF hK;have hU:Ext wM U:=hU;refine zC4 ?_;have k2:=hcg U hU;have f2:=hfg U hU;have xVU:Ext V U:=xVM.trans hU;have x4U:Ext w4 U:=x4V.trans xVU;have uZ:=(hbV.out.ext xVU).count sO 0;have hkB:Qi lo b g k w2 (U.setCell (g,a1) (y .u8 0)):=(hkV.out.fresh (by have:=x2.size;omega) (Below.mono xVU zO)).trans uZ.2 (Zs.refl _ _);have cB:∀q,q≠g->(U.setCell (g,a1) (y .u8 0)).heap[q]?=U.heap[q]?:=λq hq=>zJ _ _ _ _ hq;have zB:(U.setCell (g,a1) (y .u8 0)).heap.size=U.heap.size:=zA3;have rSB:=(cB _ (hgS.out _ zO)).trans (qb rSN (xM.trans hU));have rXB:=(cB _ (hgS.out _ zO)).trans (qb rXN (xM.trans hU));have rNB:=(cB wN.heap.size (hgS.out _ zO)).trans (qb rN hU);have oSB:(U.setCell (g,a1) (y .u8 0)).ownsRow w2 235 2 (E gb m cap) m (Vb s):=QQ (zu oSV.out xVU) λq hq=>by cases hq;exact cB gb (hgS.out _ uP)
    have hmB:Jg (↑w2+2) Ds (U.setCell (g,a1) (y .u8 0)):=hmV.out.keep λq o hq ho=>(cB q (λe=>by subst e;obtain⟨cur,bU⟩:=ZD (zu hEU.out x4V) (q:=q) rfl;rw[bU]at hq;cases hq;cases ho)).trans ((Below.block xVU q (zG.1 hq).1).trans hq);have hFB:=hLG.out _ hkB a1 sO;have yF:∀xs,ZO V wN (E An nn' cn) xs->ZO V (U.setCell (g,a1) (y .u8 0)) (E An nn' cn) xs:=λxs hi=>(hi.ext (xM.trans hU)).keep (by rw[zB];exact zM _) λp h1 _=>World.cell?_setCell_other _ _ _ _ λe=>by subst e;simp only at h1;omega
    have zU:V.heap.size<=U.heap.size:=xVU.size;have zNU:wN.heap.size<U.heap.size:=Nat.lt_of_lt_of_le (zG.1 rN).1 hU.size;have hb0:Bch D B lo b g k (qp S (t.set a1 0)) (U.setCell (g,a1) (y .u8 0)):=uZ.1;replace⟨yF,hb0,hkB,oSB,hmB⟩:=zH5 yF hb0 hkB oSB hmB;clear g0 g1 hfg hcg uZ rSN rXN rN cB rSV rXV hbV hkV hmV oSV hEU x4U;replace hU:=zH hU;go_wp2;refine Qq ?_;generalize World.setCell U _ _=wB at*;have kSB:=qa rSB;have kXB:=qa rXB;have kNB:=qa rNB;clear f2 k2;have zVB:V.heap.size<=wB.heap.size:=zO;have zNB:wN.heap.size<wB.heap.size:=zO;replace zB:=zH zB;rcases aI.out with⟨aH,hnd⟩|⟨rfl,xs,hnd,rfl,hi⟩
    ·have hq:=zH (sV.out.none_ hone.out hnd);have uA:(er != 0)=X:=by rw[bne_iff_ne];exact aH
     have aN:=zH (JH.bad2 (a:=a) (D:=D) (B:=B) x2 oL hq.out hkB.out);clear yF hb0 hFB aI hnd;go_wp2_with fail;exact Yy rfl rfl hmB.out λC hC=>aN.out C (hC.mono zO)
    have dK:=yF.out xs hi;obtain⟨f1,hf1⟩:∃f1,qL S.now a1=f1:=⟨_,rfl⟩
    have hf0:=hle.out;rw[hf1]at hFB hf0;have hz3:((f1:Int)==0)=Y:=by rw[beq_eq_false_iff_ne];omega
    have hlx:=(zY hnd).2.2;have tq:=(zY hnd).1;replace⟨hf1,hf0⟩:=zH2 hf1 hf0;by_cases hlev:0<=l1/\lv≠l1
    ·have hq:=zH (sV.out.level hone.out hnd hlev.1 hlev.2);have aN:=zH (JH.bad2 (a:=a) (D:=D) (B:=B) x2 oL hq.out hkB.out);have d1:decide (l1≥0)=X:=decide_eq_true hlev.1;have d3:(lv != l1)=X:=by rw[bne_iff_ne];exact hlev.2
     replace hlev:=zH hlev;clear yF hb0 aI hnd hi dK hlx tq;go_wp2_with fail;exact Yy rfl rfl hmB.out λC hC=>aN.out C (hC.mono zO)
    have hd0:(decide (l1≥0)=Y/\decide (0<=l1)=Y)\/(decide (l1≥0)=X/\decide (0<=l1)=X/\(lv != l1)=Y/\decide (lv=l1)=X):=by by_cases h1:0<=l1;by_cases h2:lv=l1;exact .inr ⟨decide_eq_true h1,decide_eq_true h1,by rw[bne_eq_false_iff_eq];exact h2,decide_eq_true h2⟩;exact absurd ⟨h1,h2⟩ hlev;exact .inl ⟨decide_eq_false h1,decide_eq_false h1⟩
    by_cases hlv:0<lv
    ·have hUG:=zH (sV.out.push hone.out hnd hlev hlv);have hMU:kz (t.set a1 0)<nn:=by rw[nX.out];have:=qak hone.out;omega
     have d5:decide (lv>0)=X:=decide_eq_true hlv;have iG:0<xs.length:=by have:=(qI hnd).1;unfold Qj ZV at this;simp only[Bool.and_eq_true,decide_eq_true_eq]at this;have:=this.1.2.2.2 hlv;omega
     have hrr:=λx hx=>((qI hnd).2.1 x hx).1.2.2.2.1.1;obtain⟨ps,bM,⟨An',cn',e9,hc9,hm9,sJ⟩,eF,hfr,-⟩:=id dK;simp only[Value.slice.injEq,true_and]at e9;obtain⟨rfl,rfl⟩:=e9;obtain⟨b2,o2,rfl,bP,hAT⟩:=sJ.2 iG;have hb2lo:V.heap.size<=b2:=hfr _ _ _ rfl;have bz:ps.length=xs.length:=by rw[<-bM,List.length_map]
     obtain⟨us,nO⟩:∃us:List Ui,us=ps.map λp=>((p.1,kK p.2):Ui):=⟨_,rfl⟩
     have iT:us.length=xs.length:=by rw[nO,List.length_map,bz]
     have oZ:∀i (hi:i<ps.length),us[i]?.getD uiz=(ps[i].1,kK ps[i].2):=λi hi=>by rw[nO,List.getElem?_map,zL hi];rfl
     have mJ:∀i (hi:i<ps.length),sv (kK ps[i].2)=ps[i].2:=λi hi=>by obtain⟨⟨A,c,e⟩,_⟩:=eF ps[i] (List.getElem_mem hi);rw[e];rfl
     have hNO:∀j,0<=(us[j]?.getD uiz).1.r:=λj=>by by_cases hj:j<ps.length;rw[oZ j hj];exact hrr _ (by rw[<-bM];exact List.mem_map_of_mem (f:=λp:It×Z=>p.1) (List.getElem_mem hj));rw[List.getElem?_eq_none (by rw[iT];omega)];exact Int.le_refl 0
     have hFF:=refs_rev (us:=us) (xs:=xs) (by rw[nO,List.map_map];exact bM) (lv-1);have aY:∀W,Ext wB W->∀i,i<us.length->W.cell? ⟨b2,o2+i*5,M⟩=F (y .u8 (us[i]?.getD uiz).1.k)/\W.cell? ⟨b2,o2+i*5+1,M⟩=F (y Jx (us[i]?.getD uiz).1.i)/\W.cell? ⟨b2,o2+i*5+2,M⟩=F (y Jx (us[i]?.getD uiz).1.o)/\W.cell? ⟨b2,o2+i*5+3,M⟩=F (y I (us[i]?.getD uiz).1.r)/\W.cell? ⟨b2,o2+i*5+4,M⟩=F (sv (us[i]?.getD uiz).2):=λW hW i hi=>by have fF:i<ps.length:=zO;obtain⟨q0,q1,q2,q3,q4⟩:=vt ps i fF;rw[oZ i fF];simp only;rw[mJ i fF];exact⟨Ext.cell hW (hAT _ _ q0),by rw[Nat.add_assoc];exact Ext.cell hW (hAT _ _ q1),by rw[Nat.add_assoc];exact Ext.cell hW (hAT _ _ q2),by rw[Nat.add_assoc];exact Ext.cell hW (hAT _ _ q3),by rw[Nat.add_assoc];exact Ext.cell hW (hAT _ _ q4)⟩
     replace nO:=zH nO;have hIZ:=zH iT;have hDY:=zH (zY hnd);have ig:wrap64 (lv-1)=lv-1:=IntWalk.wrap64_in _ (by have:=hDY.out;omega);replace⟨iG,hlev,hlv,aY,hFF,hNO⟩:=zH6 iG hlev hlv aY hFF hNO;replace hlx:=zH hlx;clear yF aI hi dK bM eF hfr sJ hAT oZ mJ hrr hc9 hm9 tq bz iT;rcases hd0 with⟨d1,d2⟩|⟨d1,d2,d3,d4⟩
     all_goals
      go_wp2_with fail;refine(qdP _ xs.length cn wB).mono ?_;rintro e w8 ⟨rfl,rfl⟩;go_wp2_with fail;generalize hwR:O wB _=wR;have xBR:Ext wB wR:=hwR▸zN _ _;have zR:wB.heap.size+1<=wR.heap.size:=by rw[<-hwR];simp
      have rIR:wR.heap[wB.heap.size]?=F (J #[E (b2,o2) xs.length cn] 55 (0,0)):=hwR▸zI _ _ _ rfl;clear hwR;have hb2R:b2<wR.heap.size:=zO;have hSW:SWi wR wB b2 (E (b2,o2) xs.length cn) us:=⟨by rw[qa rIR];rfl,.inr ⟨o2,cn,by rw[hIZ.out],λi hi=>aY.out wR xBR i hi⟩⟩
      have rSR:=qb rSB xBR;have rNR:=qb rNB xBR;have oSR:=zu oSB.out xBR;have hmR:Jg (↑w2+2) Ds wR:=hmB.out.keep λq o hq _=>(Below.block xBR q (zG.1 hq).1).trans hq;have hDR:∀D∈Ds,D<wR.heap.size:=λD hD=>(zG.1 (hmR.at_ D hD).2).1;have zV2:w2.heap.size<=V.heap.size:=zO;have hgbV:gb<V.heap.size:=zO;have zwR:w2.heap.size<=wR.heap.size:=zO;have hsR:wB.heap.size<wR.heap.size:=zO;replace⟨hSW,hDR⟩:=zH2 hSW hDR;clear kSB kXB kNB rSB rXB rNB;generalize iJ:({tmps:=_,defers:=_}:Act)=act;refine(wpIn_wide (n:=3)).1 ?_;refine wpIn_rangeFunc_ownH rfl zO (gf:=197) (lb:=#[Q (F ⟨wB.heap.size,0,M⟩)]) (by rw[<-iJ];simp[Act.eval]) trivial (enters_of func197 zQ rfl)
       (qhd (3-1) zO wB.heap.size b2 _ us (by rw[hIZ.out];have:=hlx.out;omega) wR hsR hb2R hSW.out) Qw.t (Qw.b hsR hb2R) (Below.refl _ _) (λ_=>rfl)
       (λpre W'=>W'.heap[wN.heap.size]?=F (J #[y I lv,E (F ⟨b2,o2,M⟩) xs.length cn] 113 (0,0))/\(∃sv',W'.heap[w2.heap.size+1]?=F (J #[sv'] 236 (0,0))/\W'.ownsRow w2.heap.size 235 2 sv' (m+pre.length) (Vb (s++pre.map (λj=>((us[j]?.getD uiz).1.r.toNat,lv-1))))/\∀q,sv'.ownBlock=F q->q<V.heap.size\/wR.heap.size<=q)/\Below w2.heap.size wR W'/\Jg (w2.heap.size+2) Ds W')
       (λ_ _ _=>False)
       (OwnFrom.and (QF _ _ _ _) (OwnFrom.and (qgl _ _ _ _ _) (OwnFrom.and (ownFrom_below zwR zwR) (qed hDR.out))))
       (λ_ _ _ _ _ hs _ _=>hs)
       ⟨rNR,⟨_,rSR,by simpa using oSR,λq hq=>.inl (by cases hq;exact hgbV)⟩,Below.refl _ _,hmR⟩
       (λj a' W'=>∃t11,a'=(((({tmps:=act.tmps,defers:=[]}:Act).put (F 112) (y I (j:Int))).put (F 113) (.agg #[y .u8 (us[j]?.getD uiz).1.k,y Jx (us[j]?.getD uiz).1.i,y Jx (us[j]?.getD uiz).1.o,y I (us[j]?.getD uiz).1.r,sv (us[j]?.getD uiz).2])).put (F 11) (Q (F ⟨t11,0,M⟩)))/\W'.heap[t11]?=F (J #[y .u8 (us[j]?.getD uiz).1.k,y Jx (us[j]?.getD uiz).1.i,y Jx (us[j]?.getD uiz).1.o,y I (us[j]?.getD uiz).1.r,sv (us[j]?.getD uiz).2] 51 (0,0)))
       (λx a' s A C row hs hg hr=>by obtain⟨t11,e,h⟩:=hs;exact⟨t11,e,QF (β:=Unit) _ _ _ _ () A C row h hg hr⟩) ?assign ?body ?done ?stop
      case assign=>
       rintro l' pre j W' K ⟨i1,⟨sv',i2,i3,i4⟩,i5,i6⟩ hK;subst iJ;have z5:=i5.size
       gi_wp2
       exact hK _ _ ((KeepsOthers.alloc _ _).from _) ⟨zK _ _ _ zO,zK _ _ _ zO⟩ ⟨qb i1 (zN _ _),⟨sv',qb i2 (zN _ _),i3.alloc _,i4⟩,Below.alloc i5 zO _,i6.keep λq o hq _=>(zK _ _ _ (zG.1 hq).1).trans hq⟩ ⟨W'.heap.size,rfl,zI _ _ _ rfl⟩
      case body=>
       rintro l' pre j a' W' hll ⟨rr,hlp⟩ ⟨i1,⟨sv',i2,i3,i4⟩,i5,i6⟩ ⟨t11,rfl,hIM⟩ hpre;subst iJ;simp only[Act.put,zA,zB,zC];have hr0:=hNO.out j;obtain⟨u9,hu9⟩:∃u9,us[j]?.getD uiz=u9:=⟨_,rfl⟩
       have hBC:Hid ((pre++[j]).map (λj=>((us[j]?.getD uiz).1.r.toNat,lv-1))=pre.map (λj=>((us[j]?.getD uiz).1.r.toNat,lv-1))++[(u9.1.r.toNat,lv-1)]):=zH (by rw[List.map_append,List.map_cons,List.map_nil,hu9]);rw[hu9]at hIM hr0⊢;obtain⟨rn,hrn⟩:∃rn:Nat,u9.1.r=(rn:Int):=⟨u9.1.r.toNat,zO⟩
       have hrt:Hid (u9.1.r.toNat=rn):=zH zO;rw[hrn]at hIM⊢;obtain⟨pre',hEY⟩:∃pre',pre.map (λj=>((us[j]?.getD uiz).1.r.toNat,lv-1))=pre':=⟨_,rfl⟩
       rw[hEY]at i3 hBC;have kr:=qa i2;have kN:=qa i1;have kY:=qa hIM;have zS:=(zG.1 i2).1;have zN':=(zG.1 i1).1;have z5:=i5.size;have aH:sv'.ownBlock≠F (w2.heap.size+1):=λe=>by obtain⟨cur,hg⟩:=ZD i3 e;exact qM hg i2 zA1 rfl
       obtain⟨Av,cv,rfl,-,-⟩:=qC i3;obtain⟨i0,hi,aZ,aT,aX⟩:=info_parts Tryz.info_owed;have uy:m+pre.length<1073741824:=by have h2:=qls S.now;have h3:=sV.out.few;have h4:=hlx.out;have h5:=hIZ.out;have h6:=hm0.out;simp only[List.length_append,List.length_cons,List.length_nil]at h3;omega
       have i3H:=zH i3;replace⟨hu9,hrn,hEY,uy⟩:=zH4 hu9 hrn hEY uy
       gi_wp2_with (gi_at_builtin;refine Yq ?_)
       refine Qm.go (Yp W' rfl (.tmp 114) (.tmp 121) 236 rfl w2.heap.size 235 i0 _ 2 16 underlying236 hi aZ aT aX rfl zA1 (E Av (m+pre.length) cv) (m+pre.length) _ (by first|exact rfl|simp[Act.eval]) i3H.out #[y I (rn:Int),y I (lv-1)] (by first|exact rfl|simp[Act.eval]) rfl zA8 uy.out zA1 zO ?_);intro v' W3 dG hg dO;have hg0:∀g,(Value.slice Av (m+pre.length) cv).ownBlock=F g->w2.heap.size<=g:=λg e=>(Qn i3H.out _ e).1;have uT:W3.heap[w2.heap.size+1]?=_:=(hg.block _ zS (λe=>aH e.symm)).trans i2;have hN3:W3.heap[wN.heap.size]?=_:=(hg.block _ zN' (λe=>by have:=i4 _ e.symm;omega)).trans i1;have hb23:W3.heap[b2]?=W'.heap[b2]?:=hg.block _ zO (λe=>by have:=i4 _ e.symm;omega);have hbB3:W3.heap[wB.heap.size]?=W'.heap[wB.heap.size]?:=hg.block _ zO (λe=>by have:=i4 _ e.symm;omega);have kr3:=qa uT;have fr3:=qe uT;have sS:Below w2 W' W3:=qaW hg λg e=>by have:=hg0 g e;omega
       have hNC:v'.ownBlock≠F (w2.heap.size+1):=λe=>by obtain⟨cur,hgx⟩:=ZD dG e;exact qM hgx uT zA1 rfl
       have hat3:∀q,v'.ownBlock=F q->q<V.heap.size\/wR.heap.size<=q:=λq e=>by
        rcases dO with h|⟨g',h,h'⟩
        exact i4 q (h.symm.trans e);rw[h]at e;cases e;right;omega
       have nU:Jg (↑w2+2) Ds W3:=i6.keep λq o hq ho=>(hg.block q (zG.1 hq).1 λe=>by obtain⟨cur,hgx⟩:=ZD i3H.out e.symm;rw[hgx]at hq;cases hq;cases ho).trans hq;have iQ:KeepsOthers W' W3:=qbl i3H.out hg;replace⟨hg,dO⟩:=zH2 hg dO;obtain⟨Av',cv',rfl,-,-⟩:=qC dG;replace dG:=zH dG;clear i3 kr kN kY hIM hr0
       gi_wp2_with fail
       refine⟨(iQ.trans (KeepsOthers.setCell _ _ _)).from _,⟨(zJ _ _ _ _ (by show wB.heap.size≠w2.heap.size+1;omega)).trans hbB3,(zJ _ _ _ _ (by show b2≠w2.heap.size+1;omega)).trans hb23⟩,(zJ _ _ _ _ (by show wN.heap.size≠w2.heap.size+1;omega)).trans hN3,⟨_,qi uT 0 _,?_,hat3⟩,i5.trans (sS.setCell (p:=⟨w2.heap.size+1,0,M⟩) zA3 _),nU.keep λq o hq ho=>(zJ _ _ _ _ λe=>by have e':q=w2.heap.size+1:=e;rw[e',uT]at hq;cases hq;cases ho).trans hq⟩;rw[hBC.out,List.length_append,List.length_singleton,<-List.append_assoc,GP,qfa,hrt.out];exact QQ dG.out λq hq=>zJ _ _ _ _ λe=>hNC (by have e':q=w2.heap.size+1:=e;rw[<-e'];exact hq)
      case done=>
       rintro Dm ys W' hD gJ ⟨i1,⟨sv',i2,i3,i4⟩,i5,i6⟩ hK;subst iJ;have lu:m+ys.length=(s++((qA xs).map λr=>(r,lv-1)).reverse).length:=by rw[gJ,ZG,List.length_append,List.length_reverse,List.length_map,hIZ.out,<-hm0.out];simp[qA]
       rw[lu,gJ,hFF.out]at i3;have xg:Below w2 wB W':=(Below.mono xBR zO).trans i5;have hR:LvR D B lo b g k S a w2 (kz (t.set a1 0)) (Dm::Ds) W':=⟨⟨_,t.set a1 0,sv',rfl,hUG.out,(h0.out.ext x2).fresh hb0.out xg,i2,i3⟩,hkB.out.fresh (by have:=x2.size;omega) xg,i6.add hDR.out hD zO hK⟩
       replace⟨hR,hMU⟩:=zH2 hR hMU;clear i1 i2 i3 i4 i5 i6 lu xg hK gJ;go_wp2_with fail;exact qcU hK0.out _ hMU.out (Dm::Ds) rfl zQ hR.out
      case stop=>rintro Dm c pre W _ _ h _;exact h.elim
    obtain rfl:lv=0:=zO;have hRE:=zH (λer (he:looseL (qA xs) (t.set a1 0)=.error er)=>sV.out.leafBad hone.out hnd hlev hlv he);have hokL:=zH (λt' (he:looseL (qA xs) (t.set a1 0)=.ok t')=>And.intro (sV.out.leaf hone.out hnd hlev hlv he) (show kz t'<nn by rw[nX.out];have:=qak hone.out;have:=(Kd he).1;omega));have hrr:=YH hnd;have gu:=zH (λx hx=>((qI hnd).2.1 x hx).1.2.2.2.1.1);have hnB:∀q,w2.heap.size<=q->¬B3 b g k q:=λq hq hx=>by have:=(h0.out.b3 q hx).2;have:=x2.size;omega
    have hx0:∀C,qU (B3 b g k) wB C->Its C C.heap.size (E An xs.length cn) xs:=λC hC=>dK.keepX hC λq hq=>hnB q zO;replace⟨hrr,hx0⟩:=zH2 hrr hx0;have hA:=(hx0.out wB (qU.refl _ _)).at_.2.2.2;replace⟨hA,hlx,hnB,hlev⟩:=zH4 hA hlx hnB hlev;clear yF aI hi dK tq hlv hnd;rcases hd0 with⟨d1,d2⟩|⟨d1,d2,d3,d4⟩
    all_goals
     generalize hwq:wr=wq at*;clear hwq;go_wp2_with fail;go_loopw [4,126] (λv i wr'=>L0I D B lo b g k S (t.set a1 0) xs wB v i wr') (λ_ i _=>xs.length-(intOf i).toNat)
     case atStart=>exact⟨0,_,rfl,Nat.zero_le _,rfl,rfl,hb0.out,Qi.refl _ _ _ _ _⟩
     case round=>
      obtain⟨j,t9,rfl,hj,rfl,aQ,hbt,nS⟩:=hrel.ex;clear hrel;have hkA:=zH (hkB.out.trans nS (Zs.refl _ _));have rNr:=nS.row rNB (hnB.out _ zO);have rSr:=nS.row rSB (hnB.out _ zO);have kNr:=qa rNr;have hmr:=zH (hmB.out.bkeep nS λq hq=>hnB.out q zO);by_cases hlt:j<xs.length
      ·obtain⟨bi,off,rfl,hbi⟩:=hA.out zO;obtain⟨A',c',d0,d1',d2',d3',d4',-⟩:=(hx0.out wr nS.keepX).item j hlt;have iw:=hrr.out _ (List.mem_map_of_mem (f:=λx:It=>x.r.toNat) (List.getElem_mem hlt));have hr0:0<=xs[j].r:=gu.out _ (List.getElem_mem hlt);have bQ:=zH (λh0 h1=>qcK hlt aQ h0 h1);have bG:=zH (λh0 h1=>qbq hlt aQ h0 h1);have iE:=zH (λh0=>qbr hlt aQ h0);generalize xs[j]=x at*;have hj1:=zH (IntWalk.wrap64_in ((j:Int)+1) (by have:=hlx.out;omega));obtain⟨r,hra⟩:∃r:Nat,x.r=(r:Int):=⟨x.r.toNat,zO⟩
       have hsa:(x.r).toNat=r:=zO;have ha9:r<256:=by rw[hsa]at iw;exact iw.2
       rw[hra]at d3';rw[hsa]at bQ bG iE;have hz:=hbt.size.2.2.2.2.2.1;have HL:=zH (λW (hW:Ext wr W)=>XS D B lo b g k (qp S t9) r ha9 W (hbt.ext hW));replace⟨hbt,nS⟩:=zH2 hbt nS;clear hra hsa iw hr0 aQ hbi;rcases Nat.eq_zero_or_pos r with xy|xy
       ·subst xy;have hF:L0I D B lo b g k S (t.set a1 0) xs wB (y I 0) (y I ((j:Int)+1)) (wr.alloc (J #[y .u8 x.k,y Jx x.i,y Jx x.o,y I 0,E A' x.val.length c'] 51)):=⟨j+1,t9,rfl,zO,rfl,iE.out rfl,hbt.out.ext (zN _ _),nS.out.trans (Qi.of_ext (zN _ _) hz) (Zs.refl _ _)⟩
        replace hF:=zH hF;clear bQ bG iE HL;go_wp2_with fail;try rw[hj1.out]
        refine⟨hF.out,?_⟩;simp[intOf];omega
       have hza:((r:Int)==0)=Y:=by rw[beq_eq_false_iff_ne];omega
       replace xy:=zH xy;go_wp2_with fail;generalize iO:O wr _=wa;have xa:Ext wr wa:=iO▸zN _ _;clear iO d0 d1' d2' d3' d4';refine(HL.out wa xa).mono ?_;clear HL;rintro e wl ⟨hkl,az⟩;have hHQ:=(Qi.of_ext xa hz).trans hkl (Zs.refl _ _);have tZ:=nS.out.trans hHQ (Zs.refl _ _);rcases az with⟨dX,rfl⟩|⟨dX,rfl,cZ⟩
       ·have aN:=zH (JH.bad2 (a:=a) (D:=D) (B:=B) x2 oL (hRE.out _ (bQ.out (by have:=xy.out;omega) dX)) (hkB.out.trans tZ (Zs.refl _ _)));have yN:=zH (hmr.out.bkeep hHQ λq hq=>hnB.out q zO);clear bQ bG iE hkl tZ dX hkA hHQ;go_wp2_with fail;exact Yy rfl rfl yN.out λC hC=>aN.out C (hC.mono zO)
       have hF:L0I D B lo b g k S (t.set a1 0) xs wB (y I 0) (y I ((j:Int)+1)) wl:=⟨j+1,_,rfl,zO,rfl,bG.out (by have:=xy.out;omega) dX,cZ,tZ⟩
       replace hF:=zH hF;clear bQ bG iE hkl tZ dX cZ hkA hHQ;go_wp2_with fail;try rw[hj1.out]
       refine⟨hF.out,?_⟩;simp[intOf];omega
      obtain rfl:j=xs.length:=zO;rw[List.take_length]at aQ;obtain⟨hLn,xO⟩:=hokL.out t9 aQ;have oSr:wr.ownsRow w2 235 2 (E gb m cap) m (Vb s):=nS.own oSB.out λq hq=>hnB.out q (Qn oSB.out q hq).1;have hR:LvR D B lo b g k S a w2 (kz t9) Ds wr:=⟨⟨s,t9,_,rfl,hLn,hbt,rSr,by rw[<-hm0.out];exact oSr⟩,hkA.out,hmr.out⟩
      replace⟨hR,xO⟩:=zH2 hR xO;clear aQ hbt nS hkA hmr hLn oSr;go_wp2_with fail;exact qcU hK0.out _ xO.out Ds rfl zQ hR.out
end Go.Proofs.YtmeadnlmepcmbaaGreat
namespace Go.Proofs.YtmeadnlmepcmbaaGreat
open Go.RowKit
variable {w W w0:World}{xs ys:List It}{S:Sto}{R:Ending->World->Prop}{a:Act}{cs:Array Value}{v:Value}{ty:TypeId}{q:Addr}{vs:List Vol}{id:Int}{dead:List Int}
abbrev Xf(x:It)(A:OA)(c:Nat):Array Z:=#[y .u8 x.k,y Jx x.i,y Jx x.o,y I x.r,E A x.val.length c]
abbrev item0:Array Z:=#[y .u8 0,y Jx 0,y Jx 0,y I 0,E M 0 0]
def FindQ(lo:Nat)(q:Option It)(u:Z)(W:Oa):Prop:=match q with
 |none=>u=.tuple #[.agg item0,y I 6]
 |some x=>∃A c,u=.tuple #[.agg (Xf x A c),y I 0]/\Bys W W (E A x.val.length c) x.val/\ZK lo (E A x.val.length c)
theorem qdX{lo b off n c:Nat}(h:ZO lo w (E (b,off) n c) xs)(i:Nat)(hi:i<xs.length):∃A' c',ItAt w w b (off+i*5) xs[i] A' c'/\ZK lo (E A' xs[i].val.length c'):=by
 obtain⟨ps,rfl,⟨A,c1,e,_,_,hr⟩,hp,hf,hg⟩:=h;cases e;have fF:i<ps.length:=by simpa using hi
 obtain⟨b',off',e,hb,hc⟩:=hr.2 zO;cases e;obtain⟨c0,c1,c2,c3,c4⟩:=vt ps i fF;have hgi:=hg ps[i] (List.getElem_mem fF);obtain⟨⟨A',c',e5⟩,af⟩:=hp ps[i] (List.getElem_mem fF);rw[e5]at c4 af hgi;refine⟨A',c',?_,by simpa using hgi⟩;simp only[List.getElem_map];refine⟨hc _ _ c0,?_,?_,?_,?_,af⟩;rw[Nat.add_assoc];exact hc _ _ c1;rw[Nat.add_assoc];exact hc _ _ c2;rw[Nat.add_assoc];exact hc _ _ c3;rw[Nat.add_assoc];exact hc _ _ c4
def vx(S:Sto)(i:Z):Nat:=match qo S (intOf i).toNat with
 |some (l,_)=>l.toNat
 |none=>0
theorem VO{r h:Nat}(hn:qo S r=F ((h:Int),ys)):vx S (r:Int)=h:=by unfold vx intOf;simp only[Int.toNat_natCast];rw[hn];simp
structure FnI(S:Sto)(K:K3)(q:Option It)(w2:Oa)(i:Z)(wr:Oa):Prop where
 ex:∃(h r:Nat)(ys:List It),i=y I (r:Int)/\8<=r/\r<256/\qo S r=F ((h:Int),ys)/\(qz S h ys).isSome=X/\Vm S K h ys=q/\Ext w2 wr
theorem qav{b:Nat}(h6:a.tmps[6]?.getD undef=Q b)(h7:a.tmps[7]?.getD undef=v)(hd:a.defers=[])(aC:W.heap[b]?=F (J cs 51))(hs:∃x0 x1 x2 x3 x4,cs=#[x0,x1,x2,x3,x4])(hR:R (.returned (.tuple #[.agg cs,v])) W):bodyPost prog Tryz.f87 R .ret a W:=by refine bodyPost_ret (v:=.tuple #[.agg cs,v]) ?_ hd hR;have k:=qa aC;obtain⟨x0,x1,x2,x3,x4,rfl⟩:=hs;simp[results,results87,go_sem,h6,h7,k]
theorem row5{b:Nat}{y0 y1 y2 y3 y4:Z}(h:w.heap[b]?=F (J #[y0,y1,y2,y3,y4] ty))(x0 x1 x2 x3 x4:Z):(((((w.setCell b x0).setCell (b,1) x1).setCell (b,2) x2).setCell (b,3) x3).setCell (b,4) x4).heap[b]?=F (J #[x0,x1,x2,x3,x4] ty):=qi (qi (qi (qi (qi h 0 x0) 1 x1) 2 x2) 3 x3) 4 x4
theorem qiZ{B b:Nat}(h:Below B w0 w)(hb:B<=b)(x0 x1 x2 x3 x4:Z):Below B w0 (((((w.setCell b x0).setCell (b,1) x1).setCell (b,2) x2).setCell (b,3) x3).setCell (b,4) x4):=
 Below.setCell (Below.setCell (Below.setCell (Below.setCell (Below.setCell h (p:=⟨b,0,M⟩) hb _) (p:=⟨b,1,M⟩) hb _) (p:=⟨b,2,M⟩) hb _) (p:=⟨b,3,M⟩) hb _) (p:=⟨b,4,M⟩) hb _
theorem its_set5{lo b:Nat}(h:ZO lo w v xs)(hb:b<lo)(x0 x1 x2 x3 x4:Z):ZO lo (((((w.setCell b x0).setCell (b,1) x1).setCell (b,2) x2).setCell (b,3) x3).setCell (b,4) x4) v xs:=by
 refine h.keep zA3 (λq hq _=>?_);have aH:∀j,(⟨b,j,M⟩:Addr)≠q:=λj e=>by subst e;simp at hq;omega
 rw[World.cell?_setCell_other _ _ _ _ (aH _),World.cell?_setCell_other _ _ _ _ (aH _),World.cell?_setCell_other _ _ _ _ (aH _),World.cell?_setCell_other _ _ _ _ (aH _),World.cell?_setCell_other _ _ _ _ (aH _)]
theorem its_cell{lo b:Nat}(_:ZO lo w v xs)(hb:b<lo)(x0 x1 x2 x3 x4:Z)(hq:lo<=q.block):(((((w.setCell b x0).setCell (b,1) x1).setCell (b,2) x2).setCell (b,3) x3).setCell (b,4) x4).cell? q=w.cell? q:=by
 have aH:∀j,(⟨b,j,M⟩:Addr)≠q:=λj e=>by subst e;simp at hq;omega
 rw[World.cell?_setCell_other _ _ _ _ (aH _),World.cell?_setCell_other _ _ _ _ (aH _),World.cell?_setCell_other _ _ _ _ (aH _),World.cell?_setCell_other _ _ _ _ (aH _),World.cell?_setCell_other _ _ _ _ (aH _)]
set_option maxRecDepth 100000 in
theorem qlP(A1 n1 c1 A2 n2 c2 A3 n3 c3 A4 n4 c4)(S:Sto)(hS:qj S=X)(a lvl:Nat)(xs:List It)(ha:8<=a)(bC:a<256)(hn:qo S a=F ((lvl:Int),xs))(aK:(qz S lvl xs).isSome=X)(k i o:Int)(w:Oa)(aJ:Qh w w (E A1 n1 c1) (E A2 n2 c2) (E A3 n3 c3) (E A4 n4 c4) S):Calls prog 87 #[Qo A1 n1 c1 A2 n2 c2 A3 n3 c3 A4 n4 c4,(a:Int),Uh k i o] w (zZ (FindQ w (Vm S (k,i,o) lvl xs)) w):=by
 have HCK:=zH (λW (hx:Ext w W)=>YZ A1 n1 c1 A2 n2 c2 A3 n3 c3 A4 n4 c4 S hS a ⟨ha,bC,lvl,xs,hn,aK⟩ W (aJ.ext hx));have HON:=zH (λW (hx:Ext w W)=>qgb A1 n1 c1 A2 n2 c2 A3 n3 c3 A4 n4 c4 S (by have:=(qZ hS).2.2.1;omega) W (aJ.ext hx));obtain⟨q,hq⟩:∃q,Vm S (k,i,o) lvl xs=q:=⟨_,rfl⟩
 rw[hq];have HI0:∀W,FnI S (k,i,o) q W (a:Int) W:=λW=>⟨lvl,a,xs,rfl,ha,bC,hn,aK,hq,Ext.refl _⟩
 replace⟨HI0,hS⟩:=zH2 HI0 hS;clear aJ hn aK hq ha bC;go_enter func87,ntmps87;go_wp2_with fail;generalize aA:(O (O (O w _) _) _)=w1;have x1:Ext w w1:=by rw[<-aA];exact((zN _ _).trans (zN _ _)).trans (zN _ _)
 have rs1:w1.heap[w.heap.size]?=F (J #[E A1 n1 c1,E A2 n2 c2,E A3 n3 c3,E A4 n4 c4] 28):=by rw[<-aA];exact(zK _ _ _ zA2).trans ((zK _ _ _ zA3).trans (zI _ _ _ rfl))
 have rk1:w1.heap[w.heap.size+1]?=F (J #[y .u8 k,y Jx i,y Jx o] 49):=by rw[<-aA];exact(zK _ _ _ zA3).trans (zI _ _ _ zA3)
 have ri1:w1.heap[w.heap.size+2]?=F (J item0 51):=aA▸zI _ _ _ zA3;clear aA;have ks1:=qa rs1;go_step3;go_wp2_with fail;refine(HCK.out w1 x1).mono ?_;clear HCK;rintro e w2 ⟨u,rfl,⟨m,rfl⟩,hB⟩;have x2:Ext w w2:=Ext.trans x1 hB;have rs2:=qb rs1 hB;have rk2:=qb rk1 hB;have ri2:=qb ri1 hB;clear rs1 rk1 ri1 hB x1 ks1;have ks2:=qa rs2;go_wp2_with fail;refine(HON.out w2 x2).mono ?_;clear HON;rintro e w3 ⟨u,rfl,⟨bb,A3',c3',rfl,xk,-⟩,hB⟩;have x3:Ext w w3:=Ext.trans x2 hB;have rk3:=qb rk2 hB;have ri3:=qb ri2 hB;clear rs2 rk2 ri2 hB x2 ks2;replace xk:=zH xk;have I0:=zH (HI0.out w3);clear HI0;go_wp2_with fail;go_step3;go_wp2_with fail;go_loopw [10] (λj wr=>FnI S (k,i,o) q w3 j wr) (λj _=>vx S j)
 case atStart=>exact I0.out
 case round=>
  obtain⟨h,r,ys,rfl,h8,h256,hn,aK,hq,xr⟩:=hrel.ex;clear I0 hrel;have hlv:=VO hn;obtain⟨hm1,iR,-⟩:=qI hn;have ni:ys.length<=5:=by unfold Qj ZV at hm1;simp at hm1;omega
  have uC:=(jI aK).2;have uM:=Ve 0 bb A1 n1 c1 A2 n2 n2 A3' n3 c3' A4 n4 c4 S hS.out r h8 h256 wr ⟨Nat.zero_le _,(xk.out.ext xr).2⟩;rw[hn]at uM;have xwr:=x3.trans xr;have rkr:=qb rk3 xr;have rir:=qb ri3 xr;have zr:w.heap.size+2<wr:=(zG.1 rir).1;replace⟨hlv,aK,hn,hq,iR,uC⟩:=zH6 hlv aK hn hq iR uC;clear hm1;go_wp2_with fail;refine uM.mono ?_;clear uM;rintro e w4 ⟨u,rfl,⟨A9,c9,rfl,aG⟩,hB⟩;have mi:Ext wr w4:=hB;have x4:=xwr.trans mi;have rk4:=qb rkr mi;have ri4:=qb rir mi;have z4:w.heap.size+2<w4:=(zG.1 ri4).1;have kk4:=qa rk4;have z41:w.heap.size+1<w4:=zO;replace aG:=zH aG;replace xr:=zH (xr.trans mi);clear rkr rir hB mi xwr;go_wp2_with fail;generalize aS:(O w4 _)=w5;have x5:Ext w4 w5:=aS▸zN _ _;have rn5:w5.heap[w4.heap.size]?=F (J #[h,E A9 ys.length c9] 113):=aS▸zI _ _ _ rfl;clear aS;refine(qaH (h:Int) A9 c9 ys k i o _ w5 ni (aG.out.ext x5)).mono ?_;rintro e w6 ⟨rfl,hB⟩;have x56:Ext w4 w6:=x5.trans hB;have rn6:=qb rn5 hB;have ri6:=qb ri4 x56;have kn6:=qa rn6;have fi6:=qe ri6;have ki6:=qa ri6;have fA:=zH (aG.out.ext x56);replace xr:=zH (xr.out.trans x56);replace x4:=zH (x4.trans x56);clear rn5 x5 hB x56 rk4 ri4 kk4 z4 z41;have hA:=fA.out.its.at_.2.2.2;have oN:=JR ys (k,i,o);have hIT:=zH (λj (hj:j<ys.length) b9 off (he:A9=F ⟨b9,off,M⟩)=>by have:=fA.out.its;rw[he]at this;exact this.item j hj);obtain⟨ie,dn⟩:∃ie,km ys (k,i,o)=ie:=⟨_,rfl⟩
  obtain⟨p,hp⟩:∃p,qF ys (k,i,o)=p:=⟨_,rfl⟩
  have hT:ie=X->∃hp:qF ys (k,i,o)<ys.length,qw (ys[qF ys (k,i,o)]'hp)=(k,i,o):=λh0=>by rw[h0]at dn;by_cases hl:qF ys (k,i,o)<ys.length;rw[vH hl]at dn;exact⟨hl,of_decide_eq_true dn⟩;rw[KO hl]at dn;cases dn
  have hF:ie=Y->∀hp:qF ys (k,i,o)<ys.length,qw (ys[qF ys (k,i,o)]'hp)≠(k,i,o):=λh0 hl=>by rw[h0,vH hl]at dn;exact of_decide_eq_false dn
  rw[dn,hp];rw[hp]at oN;have hT':=zH hT;have nC:=zH hF;replace⟨hp,dn⟩:=zH2 hp dn;clear hT hF;have HREL:=zH (λ(x:It)(hx:x∈ys)(hd:Yw ys (k,i,o)=F x)(h':Nat)(hh:h=h'+1)=>by
   have h1:=Qt aK.out x hx;rw[hh]at h1;obtain⟨b,e1,e2,e3,zs,e4,e5⟩:=Qz h1;have e6:qo S x.r.toNat=F ((h':Int),zs):=by rw[e1,Int.toNat_natCast];exact e4
   have e7:Vm S (k,i,o) h' zs=q:=by rw[<-Tl hd e6,<-hh];exact hq.out
   have e8:vx S (b:Int)<vx S (r:Int):=by rw[VO e4,hlv.out];omega
   exact(⟨b,e1,⟨⟨h',b,zs,rfl,e2,e3,e4,e5,e7,xr.out⟩⟩,e8⟩:∃b:Nat,x.r=(b:Int)/\FnI S (k,i,o) q w3 (y I (b:Int)) w6/\vx S (y I (b:Int))<vx S (y I (r:Int))))
  rcases Nat.eq_zero_or_pos h with h0|h0
  ·have hh1:((h:Int)==0)=X:=by rw[beq_iff_eq];omega
   clear HREL;cases ie
   ·have hz:q=M:=by rw[<-hq.out,h0,qig,qkX uC.out (nC.out rfl)]
    replace⟨h0,hz⟩:=zH2 h0 hz;clear hA oN;go_wp2_with fail;exact qav (b:=w.heap.size+2) rfl rfl rfl (row5 ri6 _ _ _ _ _) ⟨_,_,_,_,_,rfl⟩ ⟨_,rfl,by rw[hz.out];rfl,qiZ x4.out zO _ _ _ _ _⟩
   obtain⟨bz,nT⟩:=hT'.out rfl;have hz:q=F ys[qF ys (k,i,o)]:=by rw[<-hq.out,h0,qig,leaf_is uC.out bz nT]
   obtain⟨b9,off,rfl,hb9⟩:=hA zO;obtain⟨A',c',d0,d1,d2,d3,d4,-⟩:=hIT.out _ bz b9 off rfl;have hfr:=zH (λj=>Tg fA.out b9 off ys.length c9 j rfl zO);have hI5:=λx0 x1 x2 x3 x4=>qdX (its_set5 fA.out (b:=w.heap.size+1+1) zO x0 x1 x2 x3 x4) _ bz;have iH:=hp.out;generalize ys[qF ys (k,i,o)]=x at*;simp only[iH]at bz d0 d1 d2 d3 d4 hI5;replace⟨h0,hz,hI5,nT⟩:=zH4 h0 hz hI5 nT;clear hA oN iH hb9;go_wp2_with fail;obtain⟨A'',c'',⟨-,-,-,-,g4,gb⟩,gf⟩:=hI5.out (y .u8 x.k) (y Jx x.i) (y Jx x.o) (y I x.r) (E A' x.val.length c');have hUV:=its_cell fA.out (b:=w.heap.size+1+1) (q:=⟨b9,off+p*5+4,M⟩) zO (y .u8 x.k) (y Jx x.i) (y Jx x.o) (y I x.r) (E A' x.val.length c') (hfr.out 0);rw[hUV,d4]at g4;simp only[Option.some.injEq,Value.slice.injEq,true_and]at g4;obtain⟨rfl,rfl⟩:=g4;exact qav (b:=w.heap.size+2) rfl rfl rfl (row5 ri6 _ _ _ _ _) ⟨_,_,_,_,_,rfl⟩ ⟨_,rfl,by rw[hz.out];exact⟨A',c',rfl,gb,gf.mono zO⟩,qiZ x4.out zO _ _ _ _ _⟩
  have hh1:((h:Int)==0)=Y:=by rw[beq_eq_false_iff_ne];omega
  obtain⟨h',hh⟩:∃h',h=h'+1:=⟨h-1,zO⟩
  replace⟨hh,h0⟩:=zH2 hh h0;cases ie
  ·rcases Nat.eq_zero_or_pos p with hp0|hp0
   ·have hz:q=M:=by rw[<-hq.out,hh.out,qid (qkP uC.out (by rw[hp.out];exact hp0) (nC.out rfl))]
    have oM:((p:Int)==0)=X:=by rw[beq_iff_eq];omega
    replace⟨hp0,hz⟩:=zH2 hp0 hz;clear hA oN HREL;go_wp2_with fail;exact qav (b:=w.heap.size+2) rfl rfl rfl (row5 ri6 _ _ _ _ _) ⟨_,_,_,_,_,rfl⟩ ⟨_,rfl,by rw[hz.out];rfl,qiZ x4.out zO _ _ _ _ _⟩
   have hd:=qbc uC.out (by rw[hp.out];exact hp0) (nC.out rfl);have oM:((p:Int)==0)=Y:=by rw[beq_eq_false_iff_ne];omega
   have fG:decide (p=0)=Y:=decide_eq_false zO;simp only[hp.out]at hd;obtain⟨b',e1,e2,e3⟩:=HREL.out _ (List.getElem_mem _) hd h' hh.out;obtain⟨x,hx⟩:∃x,ys[p-1]'(by omega)=x:=⟨_,rfl⟩
   rw[hx]at hd e1;obtain⟨p',rfl⟩:∃p',p=p'+1:=⟨p-1,zO⟩
   obtain⟨b9,off,rfl,hb9⟩:=hA zO;obtain⟨A',c',-,-,-,d3,-,-⟩:=hIT.out p' zO b9 off rfl;simp only[Nat.add_sub_cancel]at hx;rw[hx,e1]at d3;replace hx:=zH hx;have lV:wrap64 (((p'+1:Nat):Int)-1)=(p':Int):=by rw[IntWalk.wrap64_in _ zO];omega
   have hlt:p'<ys.length:=zO;replace lV:=lV;replace⟨hd,e1,e2,e3⟩:=zH4 hd e1 e2 e3;clear hA HREL;replace⟨oN,hp0⟩:=zH2 oN hp0;go_wp2_with fail;exact⟨e2.out,e3.out⟩
  obtain⟨bz,nT⟩:=hT'.out rfl;have hd:=qkO uC.out bz nT;obtain⟨b',e1,e2,e3⟩:=HREL.out _ (List.getElem_mem _) hd h' hh.out;obtain⟨b9,off,rfl,hb9⟩:=hA zO;obtain⟨A',c',-,-,-,d3,-,-⟩:=hIT.out _ bz b9 off rfl;rw[e1]at d3;have iH:=hp.out;simp only[iH]at bz d3;replace⟨hd,nT,e1,e2,e3⟩:=zH5 hd nT e1 e2 e3;clear hA HREL oN iH;obtain⟨pz,oM,fG⟩:∃pz:Bool,((p:Int)==0)=pz/\decide (p=0)=pz:=by
   rcases Nat.eq_zero_or_pos p with hp0|hp0
   exact⟨X,by rw[beq_iff_eq];omega,decide_eq_true hp0⟩;exact⟨Y,by rw[beq_eq_false_iff_ne];omega,decide_eq_false zO⟩
  cases pz;all_goals
   go_wp2_with fail;exact⟨e2.out,e3.out⟩
def Zy(S:Sto)(root next:Int)(dead:List Int)(vs:List Vol):Prop:=∃refs nodes,QH S root next dead vs/\Qu S (Qp root dead vs) refs nodes/\ZJ S refs
def QI(S:Sto)(root next:Int)(dead:List Int):Prop:=∀vs,QH S root next dead vs->∃refs nodes,Qu S (Qp root dead vs) refs nodes/\¬ZJ S refs
theorem Uf{v:Vol}(h:zF vs id=v):v∈vs:=List.mem_of_find?_eq_some h
theorem qmB{root next:Int}(h:QH S root next dead vs){v:Vol}(hv:v∈vs):∃a:Nat,v.root=(a:Int)/\ZN S a:=
 Zl (h.ok v.root (by unfold QJ;exact List.mem_append_right _ (List.mem_map.2 ⟨v,hv,rfl⟩)))
set_option maxRecDepth 100000 in
theorem qmN(v:Vol)(bi:Nat)(id:Int)(q1 q2 q3:Z)(w:Oa)(h:w.heap[bi]?=F (J #[y Jx id,q1,q2,q3] 36)):Calls prog 124 #[vV v,Q bi] w (Ret (.bool (decide (v.id=id))) w):=by
 have ki:=qa h;have zi:bi<w:=(zG.1 h).1;clear h;go_enter func124,ntmps124;by_cases he:v.id=id
 ·have h1:(v.id==id)=X:=by rw[beq_iff_eq];exact he
  rw[decide_eq_true he];replace he:=zH he;go_wp2;go_ret;exact⟨rfl,zN _ _⟩
 have h1:(v.id==id)=Y:=by rw[beq_eq_false_iff_ne];exact he
 rw[decide_eq_false he];replace he:=zH he;go_wp2;go_ret;exact⟨rfl,zN _ _⟩
set_option maxRecDepth 100000 in
theorem qku(A c)(vs:List Vol)(hl:vs.length<=16)(bi:Nat)(id:Int)(q1 q2 q3:Z)(w:Oa)(h:w.heap[bi]?=F (J #[y Jx id,q1,q2,q3] 36))(hr:Rd w w 4 A vs.length (jG vs)):Calls prog 60 #[E A vs.length c,.func (.func 124) #[] #[Q bi]] w (zZ (λu _=>VolIx vs id u) w):=by
 replace hr:=zH hr;go_enter func60,ntmps60;go_wp2_with fail;go_loopw [8] (λi wr=>∃k:Nat,k<=vs.length/\i=y I (k:Int)/\Ext w wr/\∀j (hj:j<vs.length),j<k->vs[j].id≠id) (λi _=>vs.length-(intOf i).toNat)
 case atStart=>exact⟨0,Nat.zero_le _,rfl,Ext.refl _,λj _ hj=>absurd hj (Nat.not_lt_zero _)⟩
 case round=>
  obtain⟨k,hk,rfl,xr,aj⟩:=hrel;replace aj:=zH aj;by_cases hlt:k<vs.length
  ·obtain⟨bv,offv,rfl,hbv,aY⟩:=hr.out.2 zO;obtain⟨d0,d1,d2,d3⟩:=kZ vs k hlt;replace d0:=Ext.cell xr (aY _ _ d0);replace d1:=Ext.cell xr (aY _ _ d1);replace d2:=Ext.cell xr (aY _ _ d2);replace d3:=Ext.cell xr (aY _ _ d3);have HAT:=zH (λhe=>qiI (id:=id) hlt he λi hi hik=>aj.out i hi hik);have HNO:=zH (λ(he:vs[k].id≠id) j (hj:j<vs.length) (hjk:j<k+1)=>by
    rcases Nat.lt_or_ge j k with h1|h1
    exact aj.out j hj h1
    ·obtain rfl:j=k:=zO;exact he)
   generalize vs[k]=u at*;rw[<-Nat.add_assoc]at d1 d2 d3;clear aY;have lV:=zH (IntWalk.wrap64_in ((k:Int)+1) zO);have hV:=qmN u bi id q1 q2 q3 wr (qb h xr);go_wp2_with fail;refine hV.mono ?_;rintro e w2 ⟨rfl,hB⟩;clear d0 d1 d2 d3 hV;by_cases he:u.id=id
   ·rw[decide_eq_true he];have HQ:=zH (HAT.out he);clear HAT HNO;replace he:=zH he;go_wp2_with fail;refine bodyPost_ret (v:=y I (k:Int)) ?_ rfl ⟨_,rfl,HQ.out,Ext.trans xr hB⟩;simp[results,results60,go_sem]
   rw[decide_eq_false he];have HQ:=zH (HNO.out he);clear HAT HNO;replace he:=zH he;have aA:=lV.out;go_wp2_with fail;refine⟨⟨k+1,hlt,rfl,Ext.trans xr hB,λj hj hjk=>HQ.out j hj hjk⟩,?_⟩;simp[intOf];omega
  obtain rfl:k=vs.length:=zO;have HQ:=zH (qdC (id:=id) λi hi=>aj.out i hi hi);go_wp2_with fail;refine bodyPost_ret (v:=y I (-1)) ?_ rfl ⟨_,rfl,HQ.out,xr⟩;simp[results,results60,go_sem]
set_option maxRecDepth 100000 in
theorem vhas_any(A c)(vs:List Vol)(hl:vs.length<=16)(bi:Nat)(id:Int)(q1 q2 q3:Z)(w:Oa)(h:w.heap[bi]?=F (J #[y Jx id,q1,q2,q3] 36))(hr:Rd w w 4 A vs.length (jG vs)):Calls prog 123 #[E A vs.length c,.func (.func 124) #[] #[Q bi]] w (Ret (.bool (zF vs id).isSome) w):=by
 have HV:=zH (qku A c vs hl bi id q1 q2 q3 w h hr);clear h hr;go_enter func123,ntmps123;go_wp2_with fail;refine HV.out.mono ?_;clear HV;rintro e w2 ⟨u,rfl,hu,hB⟩;rcases hu with⟨j,hj,rfl,hv⟩|⟨rfl,hv⟩
 ·have e1:decide ((j:Int)≥0)=X:=decide_eq_true zO;replace hv:=zH hv;go_wp2;go_ret;exact⟨by rw[hv.out];rfl,hB⟩
 replace hv:=zH hv;go_wp2;go_ret;exact⟨by rw[hv.out];rfl,hB⟩
end Go.Proofs.YtmeadnlmepcmbaaGreat
