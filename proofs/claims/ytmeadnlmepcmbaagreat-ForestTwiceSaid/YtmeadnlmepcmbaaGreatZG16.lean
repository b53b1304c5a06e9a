/- Lemmas of the proof. -/
import Derived.Test.YtmeadnlmepcmbaaGreatZG15
set_option linter.all false
set_option maxHeartbeats 8000000
open Go.Proofs.Tryz
namespace Go.Proofs.YtmeadnlmepcmbaaGreat
open Go.RowKit Go.Shelf
attribute [local go_sem] Oper.semAt_some
def vP(st:List (Nat×Int)):List Value:=st.flatMap λp=>[.int .i64 (p.1:Int),.int .i64 p.2]
theorem Ge(s r:List (Nat×Int)):vP (s++r)=vP s++vP r:=by unfold vP;rw[List.flatMap_append]
theorem qef(x:Nat×Int):vP [x]=[.int .i64 (x.1:Int),.int .i64 x.2]:=rfl
theorem qee:∀st:List (Nat×Int),(vP st).length=st.length*2
 |[]=>rfl
 |x::r=>by have:=qee r;have e:vP (x::r)=[.int .i64 (x.1:Int),.int .i64 x.2]++vP r:=rfl;rw[e];simp only[List.length_append,List.length_cons,List.length_nil];omega
theorem Qh.fresh{lo b g:Nat}{k:Option Nat}{w W C:World}(h:Qh lo b g k w W)(hl:lo<=w.heap.size)(hx:Below w.heap.size W C):Qh lo b g k w C:=
 ⟨h.below.trans (Below.mono hx hl),λq hq hn=>(hx.block q hq).trans (h.rows q hq hn)⟩
theorem Jw.bad2{D:Nat->Prop}{B lo b g:Nat}{k:Option Nat}{S:Sto}{a:Nat}{w w2 W:World}(x2:Ext w w2)(hl:lo<=w.heap.size)(h:QC S (-1) S.now a=none)(hB:Qh lo b g k w2 W):∀C,Below w2.heap.size W C->Jw D B lo b g k S a w (.returned (.int .i64 8)) C:=λC hC=>by have z2:=x2.size;exact Jw.bad h ((Qh.of_ext x2 hl).trans (hB.fresh zO hC) (Zj.refl _ _))
theorem Jw.good2{D:Nat->Prop}{B lo b g:Nat}{k:Option Nat}{S S0:Sto}{a:Nat}{t:List UInt8}{w w2 W:World}(h0:Bch D B lo b g k S0 w)(x2:Ext w w2)(h:QC S (-1) S.now a=some t)(hB:Qh lo b g k w2 W)(hb:Bch D B lo b g k (qv S t) W):∀C,Below w2.heap.size W C->Jw D B lo b g k S a w (.returned (.int .i64 0)) C:=λC hC=>by have z2:=x2.size;have hl:=h0.size.2.2.2.2.2.1;exact Jw.good h ((Qh.of_ext x2 hl).trans (hB.fresh zO hC) (Zj.refl _ _)) ((h0.ext x2).fresh hb hC)
theorem Yh{n lo:Nat}{R:Ending->World->Prop}{a:Act}{W:World}{v:Value}{Ds:List Nat}(h4:a.tmps[4]?.getD undef=v)(hd:a.defers=Ds.map qcb)(hm:jU lo Ds W)(hR:∀C,Below lo W C->R (.returned v) C):bodyPostM Fence.wide n prog Tryz.f121 R .ret a W:=by
 change LeavesInM Fence.wide n prog Tryz.f121 a.tmps R a.defers .returning W;rw[hd];refine UP (lo:=lo) Ds W hm λC h1 h2 h3 h4' h5=>⟨v,?_,hR C ⟨h3,h4',h5,zO,λq hq=>h1 q λhm'=>?_⟩⟩
 ·simp[results,results121,go_sem,h4]
 ·have:=(hm.at_ q hm').1;omega
theorem Tryz.info_owed:(Tryz.prog.info? 235).map (λi=>(i.zero,i.size,i.bytes))=some (some (.agg #[.int .i64 0,.int .i64 0]),2,16):=zQ
theorem qfj{B:Nat}(b base m:Nat)(f:List Nat->List (Nat×Int))(p:Value->Prop):OwnFrom B (λ(pre:List Nat) W=>∃v,W.heap[b]?=some (.cells #[v] 236 (0,0))/\W.ownsRow base 235 2 v (m+pre.length) (vP (f pre))/\p v):=λs A C row ⟨v,h1,h2,h3⟩ hg hr=>
 ⟨v,QF (β:=Unit) _ _ _ _ () A C row h1 hg hr,h2.kept hg (by
  rcases hv:v.ownBlock with _|g
  ·exact .inl rfl
  ·refine .inr λe=>?_;obtain⟨_,o,ho,hc⟩:=hr g e.symm;rcases qha h2 g hv with⟨c,fz,h3⟩;rw[ho]at h3;cases h3;cases hc),h3⟩
theorem qdl{β:Type}{B lo:Nat}{Ds:List Nat}(hB:∀D∈Ds,D<B):OwnFrom B (λ(_:β) W=>jU lo Ds W):=λ_ A C row h hg hr=>⟨h.nodup,λD hD=>⟨(h.at_ D hD).1,(hg.block D (zG.1 (h.at_ D hD).2).1 λe=>by have:=(hr D e.symm).1;have:=hB D hD;omega).trans (h.at_ D hD).2⟩⟩
theorem refs_rev{xs:List It}{us:List Ui}(h:us.map (·.1)=xs)(l:Int):(ZO (λj=>us.length-1-j) us.length).map (λj=>((us[j]?.getD uiz).1.r.toNat,l))=((qB xs).map λr=>(r,l)).reverse:=by
 subst h;refine List.ext_getElem (by simp[Zt,qB]) λi h1 h2=>?_;have h3:i<us.length:=by simpa [Zt]using h1
 have e1:(ZO (λj=>us.length-1-j) us.length)[i]'(by rw[Zt];exact h3)=us.length-1-i:=by have:=Ts us.length us.length i h3;rw[zL (by rw[Zt];exact h3)]at this;exact Option.some.inj this
 rw[List.getElem_map,e1,List.getElem_reverse,List.getElem_map];have h4:us.length-1-i<us.length:=zO;have h5:us[us.length-1-i]?.getD uiz=us[us.length-1-i]:=by rw[zL h4];rfl
 rw[h5];simp[qB]
theorem qkb:∀t:List UInt8,VQ t<=255*t.length
 |[]=>by simp[VQ]
 |x::r=>by have:=qkb r;have h:=x.toNat_lt;simp only[VQ,List.length_cons];omega
theorem jU.add{lo n D:Nat}{Ds:List Nat}{W:World}(h:jU lo Ds W)(hlt:∀D∈Ds,D<n)(hD:n<=D)(hl:lo<=D)(hr:W.heap[D]?=some (.deferred (some []))):jU lo (D::Ds) W:=by
 refine⟨List.nodup_cons.2 ⟨λhm=>by have:=hlt D hm;omega,h.nodup⟩,λq hq=>?_⟩;rcases List.mem_cons.1 hq with rfl|hq
 ·exact⟨hl,hr⟩
 ·exact h.at_ q hq
theorem jU.bkeep{lo lo' b g:Nat}{k:Option Nat}{Ds:List Nat}{w W:World}(h:jU lo Ds w)(hk:Qh lo' b g k w W)(hn:∀q,lo<=q->¬B3 b g k q):jU lo Ds W:=
 ⟨h.nodup,λD hD=>⟨(h.at_ D hD).1,(hk.rows D (zG.1 (h.at_ D hD).2).1 (hn D (h.at_ D hD).1)).trans (h.at_ D hD).2⟩⟩
structure LvR(D:Nat->Prop)(B lo b g:Nat)(k:Option Nat)(S:Sto)(a:Nat)(w2:World)(n:Nat)(Ds:List Nat)(wr:World):Prop where
 ex:∃st t sv,n=VQ t/\LvI S a st t/\Bch D B lo b g k (qv S t) wr/\wr.heap[w2.heap.size+1]?=some (.cells #[sv] 236 (0,0))/\wr.ownsRow w2.heap.size 235 2 sv st.length (vP st)
 keep:Qh lo b g k w2 wr
 marks:jU (w2.heap.size+2) Ds wr
def maskL:List Bool:=List.replicate 7 false++List.replicate 133 true
set_option maxRecDepth 100000 in
theorem TV(D:Nat->Prop)(B lo b g:Nat)(k:Option Nat)(S:Sto)(hS:qm S=true)(a:Nat)(ha:8<=a)(ha2:a<256)(w:World)(h:Bch D B lo b g k S w):Calls prog 121 #[.pointer (some ⟨b,0,none⟩),.int .i64 (a:Int)] w (Jw D B lo b g k S a w):=by
 obtain⟨hlb,hzb,hlg,hzg,hgb,hlw,hkq⟩:=h.size;obtain⟨hlen,wJV⟩:=h.lens;obtain⟨A1,n1,c1,v2,c3,A4,c4,kr,hkn,hfn⟩:=h.cells;have hAE:w.ownsRow lo 5 1 (.slice (some ⟨g,0,none⟩) 256 c3) 256 (S.now.map bv):=by obtain⟨A1',n1',c1',v2',c3',A4',c4',hr',ho',_⟩:=h.ex;have:=(kr 2).symm.trans (qa hr' 2);simp at this;rw[this];exact ho'
 have hby:Bys w w.heap.size (.slice (some ⟨g,0,none⟩) 256 c3) S.now:=Bys.of_own hAE;have HC:=zH (qcA _ S.now zO w hby);have h0:=zH h;have hLI:=zH (LvI.start hS ha ha2);clear hby hAE hkn hfn h hkq;refine(callsIn_wide (n:=3)).1 ?_;refine callsIn_of_wp_marks func121 rfl trivial ?_ rfl;simp only[ntmps121,List.size_toArray,List.length_cons,List.length_nil,Nat.reduceAdd,Nat.reduceSub,Array.replicate_succ,Array.replicate_zero,List.push_toArray,List.append_toArray,List.nil_append,List.cons_append];refine wpIn_wide.2 ?_;go_wp2_with fail;refine HC.mono ?_;clear HC;rintro e w2 ⟨u,rfl,hF,hB⟩;have x2:Ext w w2:=hB;obtain⟨AF,cF,rfl,-,-⟩:=qG hF;obtain⟨bF,oF,rfl,hbF,hFlo,hcF⟩:∃bF oF,AF=some ⟨bF,oF,none⟩/\bF<w2.heap.size/\w.heap.size<=bF/\∀j,j<256->w2.cell? ⟨bF,oF+j,none⟩=some (.int .u8 (Jh S j:Int)):=by rw[hlen]at hF;obtain⟨bF,oF,e,h1,h2⟩:=(Rd.of_own hF).2 zO;have hlo:=Zw.of_own hF ⟨bF,oF,none⟩ _ _ (by rw[e]);exact⟨bF,oF,e,h1,hlo,λj hj=>h2 j _ (by rw[List.getElem?_map,zL zO];simp[Jh,zL (show j<S.now.length by omega)])⟩
 have wQK:Hid (∀W,Qh lo b g k w2 W->∀j,j<256->W.cell? ⟨bF,oF+j,none⟩=some (.int .u8 (qP S.now j:Int))):=zH λW hW j hj=>hW.keepX ⟨bF,oF+j,none⟩ _ (λhx=>by have:=(h0.out.b3 bF hx).2;omega) (hcF j hj);clear hcF;have hb2:=zH (h0.out.ext x2);clear hB hF kr;go_wp2_with fail;generalize hw3:(World.alloc (World.alloc w2 _) _)=w3;have x23:Ext w2 w3:=by rw[<-hw3];exact(zN _ _).trans (zN _ _)
 have rS:w3.heap[w2.heap.size+1]?=some (.cells #[.slice (some ⟨w2.heap.size,0,none⟩) 1 1] 236 (0,0)):=by rw[<-hw3];exact zI _ _ _ zA3
 have oS:w3.ownsRow w2.heap.size 235 2 (.slice (some ⟨w2.heap.size,0,none⟩) 1 1) 1 (vP [(a,-1)]):=by have h:=World.ownsRow_lit (base:=w2.heap.size) (e:=235) (size:=2) w2 #[.int .i64 (a:Int),.int .i64 (-1)] 1 (zM _) zA7 rfl;rw[<-hw3];exact h.alloc _
 clear hw3;have hR0:LvR D B lo b g k S a w2 (VQ S.now) [] w3:=⟨⟨[(a,-1)],S.now,_,rfl,hLI.out,hb2.out.ext x23,rS,oS⟩,Qh.of_ext x23 (by have:=x2.size;omega),jU.nil _ _⟩
 replace hR0:=zH hR0;clear rS oS x23 hb2 hLI;refine qfH maskL (VQ S.now) (λn _ Ds wr=>LvR D B lo b g k S a w2 n Ds wr) hR0.out zQ ?_;intro nn gg Ds wr K0 hrel hK0;replace hK0:=zH hK0;clear hR0;obtain⟨st,t,sv,hnn,hLI,hbr,rS,oS⟩:=hrel.ex;have hkp:=zH hrel.keep;have hmk:=zH hrel.marks;have xz:=hrel.keep.below.size;clear hrel;replace⟨hnn,hLI,hbr⟩:=zH3 hnn hLI hbr;dsimp only[mixL,maskL,List.replicate,List.cons_append,List.nil_append,List.append_assoc,cond_true,cond_false,List.append_eq,Nat.reduceAdd];generalize gg 7=v7,gg 8=v8,gg 9=v9,gg 10=v10,gg 11=v11,gg 12=v12,gg 13=v13,gg 14=v14,gg 15=v15,gg 16=v16,gg 17=v17,gg 18=v18,gg 19=v19,gg 20=v20,gg 21=v21,gg 22=v22,gg 23=v23,gg 24=v24,gg 25=v25,gg 26=v26,gg 27=v27,gg 28=v28,gg 29=v29,gg 30=v30,gg 31=v31,gg 32=v32,gg 33=v33,gg 34=v34,gg 35=v35,gg 36=v36,gg 37=v37,gg 38=v38,gg 39=v39,gg 40=v40,gg 41=v41,gg 42=v42,gg 43=v43,gg 44=v44,gg 45=v45,gg 46=v46,gg 47=v47,gg 48=v48,gg 49=v49,gg 50=v50,gg 51=v51,gg 52=v52,gg 53=v53,gg 54=v54,gg 55=v55,gg 56=v56,gg 57=v57,gg 58=v58,gg 59=v59,gg 60=v60,gg 61=v61,gg 62=v62,gg 63=v63,gg 64=v64,gg 65=v65,gg 66=v66,gg 67=v67,gg 68=v68,gg 69=v69,gg 70=v70,gg 71=v71,gg 72=v72,gg 73=v73,gg 74=v74,gg 75=v75,gg 76=v76,gg 77=v77,gg 78=v78,gg 79=v79,gg 80=v80,gg 81=v81,gg 82=v82,gg 83=v83,gg 84=v84,gg 85=v85,gg 86=v86,gg 87=v87,gg 88=v88,gg 89=v89,gg 90=v90,gg 91=v91,gg 92=v92,gg 93=v93,gg 94=v94,gg 95=v95,gg 96=v96,gg 97=v97,gg 98=v98,gg 99=v99,gg 100=v100,gg 101=v101,gg 102=v102,gg 103=v103,gg 104=v104,gg 105=v105,gg 106=v106,gg 107=v107,gg 108=v108,gg 109=v109,gg 110=v110,gg 111=v111,gg 112=v112,gg 113=v113,gg 114=v114,gg 115=v115,gg 116=v116,gg 117=v117,gg 118=v118,gg 119=v119,gg 120=v120,gg 121=v121,gg 122=v122,gg 123=v123,gg 124=v124,gg 125=v125,gg 126=v126,gg 127=v127,gg 128=v128,gg 129=v129,gg 130=v130,gg 131=v131,gg 132=v132,gg 133=v133,gg 134=v134,gg 135=v135,gg 136=v136,gg 137=v137,gg 138=v138,gg 139=v139;clear gg;rcases List.eq_nil_or_concat st with rfl|⟨s,x,rfl⟩
 ·obtain⟨As,cs,rfl,-,-⟩:=qG oS;have hBY:=zH (Jw.good2 h0.out x2 hLI.out.done hkp.out hbr.out);have kS:=qa rS;clear oS hK0;go_wp2_with fail;exact Yh rfl rfl hmk.out λC hC=>hBY.out C (hC.mono zO)
 ·rw[List.concat_eq_append]at*;obtain⟨a1,l1⟩:=x;obtain⟨ht8,hXP,htl,htl6⟩:=hLI.out.top;simp only at ht8 hXP htl htl6;obtain⟨m,hm0⟩:∃m,m=s.length:=⟨_,rfl⟩
  rw[List.length_append,List.length_singleton,<-hm0,Ge,qef]at oS;rcases oS.2 with⟨-,h0'⟩|⟨gb,cap,cur,rfl,hgb,hBT,hnc,hcm,hcs,htk⟩
  ·exfalso;omega
  ·obtain⟨gb',off',e0,hgb',hCF⟩:=(Rd.of_own oS).2 zO;simp only[Option.some.injEq,Addr.mk.injEq,and_true]at e0;obtain⟨rfl,rfl⟩:=e0;have hls:(vP s).length=m*2:=by rw[qee,hm0]
   have kb0:=hCF (m*2) (.int .i64 (a1:Int)) (by rw[List.getElem?_append_right zO,hls];simp);have kb1:=hCF (m*2+1) (.int .i64 l1) (by rw[List.getElem?_append_right zO,hls];simp);rw[Nat.zero_add]at kb0 kb1;clear hCF;have hns:gb≠w2.heap.size+1:=qL hBT rS zA1;have oS2:=Uk (xs:=vP s) (news:=[.int .i64 (a1:Int),.int .i64 l1]) (n:=m) (m:=1) oS hls;have hw22:wrap64 (m:Int)=(m:Int):=IntWalk.wrap64_in _ (by unfold maxLen at hcm;omega);have hmc:m<=cap:=Nat.le_of_succ_le hnc;have hcap:¬cap=0:=λe=>by rw[e]at hnc;exact absurd hnc (Nat.not_succ_le_zero _)
   have kS:=qa rS;have fS:=qg rS;have zS:w2.heap.size+1<wr.heap.size:=(zG.1 rS).1;have zg:gb<wr.heap.size:=(zG.1 hBT).1;replace⟨oS2,hm0,hLI⟩:=zH3 oS2 hm0 hLI.out;clear hBT htk hcs hcm hnc oS hls;go_upto_region 6 with fail;have hB4:Below w2.heap.size wr ((wr.setCell ⟨w2.heap.size+1,0,none⟩ (.slice (some ⟨gb,0,none⟩) m cap)).alloc (.cells #[.int .i64 (a1:Int),.int .i64 l1] 235)):=Below.alloc (Below.setCell (Below.refl _ _) (p:=⟨w2.heap.size+1,0,none⟩) zA3 _) (by simpa using xz) _;have rX4:((wr.setCell ⟨w2.heap.size+1,0,none⟩ (.slice (some ⟨gb,0,none⟩) m cap)).alloc (.cells #[.int .i64 (a1:Int),.int .i64 l1] 235)).heap[wr.heap.size]?=some (.cells #[.int .i64 (a1:Int),.int .i64 l1] 235 (0,0)):=zI _ _ _ zA3;have rS4:((wr.setCell ⟨w2.heap.size+1,0,none⟩ (.slice (some ⟨gb,0,none⟩) m cap)).alloc (.cells #[.int .i64 (a1:Int),.int .i64 l1] 235)).heap[w2.heap.size+1]?=some (.cells #[.slice (some ⟨gb,0,none⟩) m cap] 236 (0,0)):=(zK _ _ _ (by simpa using zS)).trans (qo rS 0 _);have ko4:∀q,q<wr.heap.size->q≠w2.heap.size+1->((wr.setCell ⟨w2.heap.size+1,0,none⟩ (.slice (some ⟨gb,0,none⟩) m cap)).alloc (.cells #[.int .i64 (a1:Int),.int .i64 l1] 235)).heap[q]?=wr.heap[q]?:=λq hq hne=>(zK _ _ _ (by simpa using hq)).trans (zJ _ _ _ _ hne);have z4:((wr.setCell ⟨w2.heap.size+1,0,none⟩ (.slice (some ⟨gb,0,none⟩) m cap)).alloc (.cells #[.int .i64 (a1:Int),.int .i64 l1] 235)).heap.size=wr.heap.size+1:=zA3;generalize hw4:World.alloc (World.setCell wr _ _) _=w4 at*;clear hw4 kS fS kb0 kb1;have oS4:w4.ownsRow w2.heap.size 235 2 (.slice (some ⟨gb,0,none⟩) m cap) m (vP s):=Zb oS2.out λq hq=>by cases hq;exact ko4 gb zg hns
   have hb4:=(h0.out.ext x2).fresh hbr.out hB4;have hk4:=zH (hkp.out.fresh (by have:=x2.size;omega) hB4);have hm4:=zH (hmk.out.keep (W:=w4) λq o hq ho=>(ko4 q (zG.1 hq).1 (λe=>by subst e;rw[rS]at hq;cases hq;cases ho)).trans hq);have hle:qP t a1<=qP S.now a1:=hLI.out.le a1;have hXK:=hLI.out.may;clear hns hbr hkp hmk rS ko4 oS2 hB4;obtain⟨A1,n1,c1,v2,c3,A4,c4,hrb,hog,-⟩:=hb4.ex;obtain⟨hkg,hfg0,-,hzg4⟩:=ZW hog;have hkga:=hkg a1 hXP;have g0:∀W,qj.r w4 W->∀i,W.cell? ⟨b,i,none⟩=#[.slice A1 n1 c1,v2,.slice (some ⟨g,0,none⟩) 256 c3,.slice A4 256 c4][i]?:=λW hW=>qa (qb hrb hW);have g1:∀W,qj.r w4 W->∀i,W.cell? ⟨wr.heap.size,i,none⟩=#[.int .i64 (a1:Int),.int .i64 l1][i]?:=λW hW=>qa (qb rX4 hW);have g2:∀W,qj.r w4 W->W.cell? ⟨g,a1,none⟩=some (.int .u8 (qP t a1:Int)):=λW hW=>Ext.cell hW hkga;have hc2:=Tf t a1;have wKH:=zH hog;have hgb2:g≠b:=hb4.size.2.2.2.2.1;have hgS:Hid (∀q,w2.heap.size<=q->q≠g):=zH λq hq e=>by have:=(h0.out.b3 g (.inr (.inl rfl))).2;have:=x2.size;omega
   replace⟨hb4,oS4,hXK,hle⟩:=zH4 hb4 oS4 hXK hle;obtain⟨nv,hnv⟩:∃nv,qP t a1=nv:=⟨_,rfl⟩
   rw[hnv]at g2 hc2 hle;replace hnv:=zH hnv;clear hog hkg hfg0 hkga;refine qt zQ ?_;refine qX (w:=w4) qj (qQ []) (List.replicate 10 true) 0 zQ zQ zQ zQ zQ zQ zQ ?st (Rel.drew _ _) ?walk
   case st=>exact qi (λ_ h=>by cases h)
   case walk=>
    intro K hK;dsimp only[qw,List.replicate];refine zB7 ?_
    first
     |(refine qd (.pointer (some ⟨g,a1,none⟩)) zA0 zA0 (λW hW _=>⟨W,?_,Rel.refl _ W⟩) ?_
       ·go_simp;intro hge;exfalso;omega
       simp only[Act.put,qe,qc,qf,zA,zB,zC])
     |skip
    refine zB7 ?_;refine qD (hK _ _ λW hW hF=>?_);clear hF hK;have hW:Ext w4 W:=hW;refine zC4 ?_;go_wp2;refine Qn ?_;by_cases h0z:nv=0
    ·have hq:=zH (hLI.out.bad0 (by rw[hnv.out];exact h0z));subst h0z;have hBY:=zH (Jw.bad2 (a:=a) (D:=D) (B:=B) x2 hlw hq.out (hk4.out.fresh (by have:=x2.size;omega) (Below.mono hW zO)));have hmW:=zH (hm4.out.keep (W:=W) λq o hq _=>(Below.block hW q (zG.1 hq).1).trans hq);clear g0 g1 g2;go_wp2_with fail;exact Yh rfl rfl hmW.out λC hC=>hBY.out C (hC.mono zO)
    ·have hz1:((nv:Int)==0)=false:=by rw[beq_eq_false_iff_ne];omega
     have hz2:decide (nv=0)=false:=decide_eq_false h0z;have h0':=zH h0z;by_cases h1:1<nv
     ·have hd1:decide ((1:Int)<(nv:Int))=true:=decide_eq_true zO;have hEC:=zH (hLI.out.more (by rw[hnv.out];exact h1));replace h1:=zH h1;clear h0z;go_upto_region 8 with fail;have g0':∀V,qj.r W V->_:=λV hV=>g0 V (hW.trans hV);have g1':∀V,qj.r W V->_:=λV hV=>g1 V (hW.trans hV);have g2':∀V,qj.r W V->_:=λV hV=>g2 V (hW.trans hV);clear g0 g1 g2;refine qt zQ ?_;refine qX (w:=W) qj (qQ []) (List.replicate 10 true) 0 zQ zQ zQ zQ zQ zQ zQ ?st (Rel.drew _ _) ?walk
      case st=>exact qi (λ_ h=>by cases h)
      case walk=>
       intro K hK;dsimp only[qw,List.replicate];refine zB7 ?_
       first
        |(refine qd (.pointer (some ⟨g,a1,none⟩)) zA0 zA0 (λW hW _=>⟨W,?_,Rel.refl _ W⟩) ?_
          ·go_simp;intro hge;exfalso;omega
          simp only[Act.put,qe,qc,qf,zA,zB,zC])
        |skip
       refine zB7 ?_;refine qD (hK _ _ λV hV hF=>?_);clear hF hK;have hV:Ext W V:=hV;refine zC4 ?_;go_wp2;refine Qn ?_;have x4V:Ext w4 V:=Ext.trans hW hV;have g0:∀U,qj.r V U->_:=λU hU=>g0' U (Ext.trans hV hU);have g1:∀U,qj.r V U->_:=λU hU=>g1' U (Ext.trans hV hU);have g2:∀U,qj.r V U->_:=λU hU=>g2' U (Ext.trans hV hU);have hfg:∀U,Ext V U->U.frozen? ⟨g,a1,none⟩=false:=λU hU=>(ZW (zh wKH.out (Ext.trans x4V hU))).2.1 a1;obtain⟨n',hm⟩:∃n',nv=n'+1:=⟨nv-1,by have:=h1.out;omega⟩
       have hmt:(UInt8.ofNat (nv-1)).toNat=n':=by rw[show nv-1=n' by omega,UInt8.toNat_ofNat'];omega
       have hwv:IntKind.u8.wrap ((nv:Int)-1)=(n':Int):=by rw[qke (n:=nv) zO hc2,hmt]
       have hbm:bv (UInt8.ofNat (nv-1))=.int .u8 (n':Int):=by show Value.int .u8 _=_;rw[hmt]
       replace⟨hbm,hm,x4V⟩:=zH3 hbm hm x4V;clear hmt;clear g0' g1' g2' hW hV;go_upto_region 9 with fail;refine qt zQ ?_;refine qX (w:=V) qj (qQ []) (List.replicate 11 true) 1 zQ zQ zQ zQ zQ zQ zQ ?st (Rel.drew _ _) ?walk
       case st=>exact qi (λ_ h=>by cases h)
       case walk=>
        intro K hK;dsimp only[qw,List.replicate];refine zB7 ?_
        first
         |(refine qd (.pointer (some ⟨g,a1,none⟩)) zA0 zA0 (λW hW _=>⟨W,?_,Rel.refl _ W⟩) ?_
           ·go_simp;intro hge;exfalso;omega
           simp only[Act.put,qe,qc,qf,zA,zB,zC])
         |skip
        refine zB7 ?_
        first
         |(refine qd (.pointer (some ⟨g,a1,none⟩)) zA0 zA0 (λW hW _=>⟨W,?_,Rel.refl _ W⟩) ?_
           ·go_simp;intro hge;exfalso;omega
           simp only[Act.put,qe,qc,qf,zA,zB,zC])
         |skip
        refine zB7 ?_;refine qD (hK _ _ λU hU hF=>?_);clear hF hK;have hU:Ext V U:=hU;refine zC4 ?_;have k2:=g2 U hU;have f2:=hfg U hU;have x4U:=x4V.out.trans hU;have wAM:=(hb4.out.ext x4U).count hXP (UInt8.ofNat (nv-1));rw[hbm.out]at wAM;have hdn:vM t a1=t.set a1 (UInt8.ofNat (nv-1)):=by unfold vM;rw[hnv.out]
        have hkB:Qh lo b g k w2 (U.setCell ⟨g,a1,none⟩ (.int .u8 (n':Int))):=(hk4.out.fresh (by have:=x2.size;omega) (Below.mono x4U zO)).trans wAM.2 (Zj.refl _ _);have cB:∀q,q≠g->(U.setCell ⟨g,a1,none⟩ (.int .u8 (n':Int))).heap[q]?=U.heap[q]?:=λq hq=>zJ _ _ _ _ hq;have rSB:=(cB (w2.heap.size+1) (hgS.out _ zO)).trans (qb rS4 x4U);have oSB:(U.setCell ⟨g,a1,none⟩ (.int .u8 (n':Int))).ownsRow w2.heap.size 235 2 (.slice (some ⟨gb,0,none⟩) m cap) m (vP s):=Zb (zh oS4.out x4U) λq hq=>by cases hq;exact cB gb (hgS.out _ hgb)
        have hmB:jU (w2.heap.size+2) Ds (U.setCell ⟨g,a1,none⟩ (.int .u8 (n':Int))):=hm4.out.keep λq o hq ho=>(cB q (λe=>by subst e;obtain⟨cur,hgr⟩:=Zz wKH.out (q:=q) rfl;rw[hgr]at hq;cases hq;cases ho)).trans ((Below.block x4U q (zG.1 hq).1).trans hq);have hR:LvR D B lo b g k S a w2 (VQ (vM t a1)) Ds (U.setCell ⟨g,a1,none⟩ (.int .u8 (n':Int))):=⟨⟨s,vM t a1,_,rfl,hEC.out,by rw[hdn];exact wAM.1,rSB,by rw[<-hm0.out];exact oSB⟩,hkB,hmB⟩
        have hlt:VQ (vM t a1)<nn:=by rw[hnn.out];have:=qbB (t:=t) (a:=a1) (by rw[hnv.out];exact h0'.out);omega
        replace⟨hR,hlt⟩:=zH2 hR hlt;clear g0 g1 g2 hfg wAM hkB cB rSB oSB hmB hdn hU x4U;go_wp2_with fail;refine Qn ?_;go_wp2_with fail;exact qce hK0.out _ hlt.out Ds rfl zQ hR.out
     ·obtain rfl:nv=1:=zO;have hone:Hid (qP t a1=1):=hnv;have wRV:qm (qv S t)=true:=Qg.2 ⟨(Qg.1 hS).1,hXK.out,(Qg.1 hS).2.2⟩;have hnn2:=zH (qcg (S:=S) (t:=t) (a:=a1) (by rw[hone.out];decide) (by rw[hone.out];exact hle.out));replace wRV:=zH wRV;clear h0z h1;go_upto_region 8 with fail;have g0':∀V,qj.r W V->_:=λV hV=>g0 V (hW.trans hV);have g1':∀V,qj.r W V->_:=λV hV=>g1 V (hW.trans hV);have g2':∀V,qj.r W V->_:=λV hV=>g2 V (hW.trans hV);clear g0 g1 g2;refine qt zQ ?_;refine qX (w:=W) qj (qQ []) (List.replicate 10 true) 0 zQ zQ zQ zQ zQ zQ zQ ?st (Rel.drew _ _) ?walk
      case st=>exact qi (λ_ h=>by cases h)
      case walk=>
       intro K hK;dsimp only[qw,List.replicate];refine zB7 ?_
       first
        |(refine qd (.pointer (some ⟨g,a1,none⟩)) zA0 zA0 (λW hW _=>⟨W,?_,Rel.refl _ W⟩) ?_
          ·go_simp;intro hge;exfalso;omega
          simp only[Act.put,qe,qc,qf,zA,zB,zC])
        |skip
       refine zB7 ?_;refine qD (hK _ _ λV hV hF=>?_);clear hF hK;have hV:Ext W V:=hV;refine zC4 ?_;go_wp2;refine Qn ?_;have x4V:Ext w4 V:=Ext.trans hW hV;have rSV:=qb rS4 x4V;have rXV:=qb rX4 x4V;have kXV:=qa rXV;have hbV:=hb4.out.ext x4V;have hkV:=zH (hk4.out.fresh (by have:=x2.size;omega) (Below.mono x4V zO));have hmV:=zH (hm4.out.keep (W:=V) λq o hq _=>(Below.block x4V q (zG.1 hq).1).trans hq);have oSV:=zH (zh oS4.out x4V);have HN:=(by obtain⟨A1',n1',c1',A2',n2',c2',c3',A4',c4',hr',hLW⟩:=hbV.sto;have H:=vS lo b A1' n1' c1' A2' n2' c2' _ 256 c3' A4' 256 c4' (qv S t) wRV.out a1 ht8 hXP V ⟨hlb,hr',hLW⟩;rw[hnn2.out]at H;exact H:Calls prog 145 #[.pointer (some ⟨b,0,none⟩),.int .i64 (a1:Int)] V (zm (qbr V.heap.size (qk S a1)) V))
       have zgV:=hbV.size.2.2.2.1;replace hbV:=zH hbV;clear hb4 hk4 hm4 oS4 rS4 rX4;go_wp2_with fail;refine HN.mono ?_;clear HN;rintro e wN ⟨uN,rfl,hN,hBN⟩;have xN:Ext V wN:=hBN;have zNh:=xN.size;have z4V:=x4V.size;have rXN:=qb rXV xN;have kXN:=qa rXN;have rSN:=qb rSV xN;clear hBN kXV;obtain⟨lv,An,nn',cn,er,rfl,hBU⟩:∃lv An nn' cn er,uN=.tuple #[jL lv An nn' cn,.int .i64 er]/\((er≠0/\qk S a1=none)\/(er=0/\∃xs,qk S a1=some (lv,xs)/\nn'=xs.length/\ZB V.heap.size wN (.slice An nn' cn) xs)):=by
        rcases hnd:qk S a1 with _|⟨l,xs⟩
        ·rw[hnd]at hN;obtain⟨er,hne,rfl⟩:=hN;exact⟨0,none,0,0,er,rfl,.inl ⟨hne,rfl⟩⟩
        ·rw[hnd]at hN;obtain⟨A9,c9,rfl,hi⟩:=hN;exact⟨l,A9,xs.length,c9,0,rfl,.inr ⟨rfl,xs,rfl,rfl,hi⟩⟩
       replace hBU:=zH hBU;clear hN;go_upto_region 11 with fail;generalize hwM:World.alloc wN _=wM;have xM:Ext wN wM:=by rw[<-hwM];exact zN _ _
       have rN:wM.heap[wN.heap.size]?=some (.cells #[.int .i64 lv,.slice An nn' cn] 113 (0,0)):=by rw[<-hwM];exact zI _ _ _ rfl
       clear hwM;have xVM:Ext V wM:=xN.trans xM;have g0:∀U,qj.r wM U->_:=λU hU=>g0' U (Ext.trans hV (Ext.trans xVM hU));have g1:∀U,qj.r wM U->_:=λU hU=>g1' U (Ext.trans hV (Ext.trans xVM hU));have hfg:∀U,Ext wM U->U.frozen? ⟨g,a1,none⟩=false:=λU hU=>(ZW (zh wKH.out (Ext.trans x4V (Ext.trans xVM hU)))).2.1 a1;have hcg:∀U,qj.r wM U->_:=λU hU=>g2' U (Ext.trans hV (Ext.trans xVM hU));clear g0' g1' g2' hW hV;refine qt zQ ?_;refine qX (w:=wM) qj (qQ []) (List.replicate 8 true) 1 zQ zQ zQ zQ zQ zQ zQ ?st (Rel.drew _ _) ?walk
       case st=>exact qi (λ_ h=>by cases h)
       case walk=>
        intro K hK;dsimp only[qw,List.replicate];refine zB7 ?_
        first
         |(refine qd (.pointer (some ⟨g,a1,none⟩)) zA0 zA0 (λW hW _=>⟨W,?_,Rel.refl _ W⟩) ?_
           ·go_simp;intro hge;exfalso;omega
           simp only[Act.put,qe,qc,qf,zA,zB,zC])
         |skip
        refine zB7 ?_;refine qD (hK _ _ λU hU hF=>?_);clear hF hK;have hU:Ext wM U:=hU;refine zC4 ?_;have k2:=hcg U hU;have f2:=hfg U hU;have xVU:Ext V U:=xVM.trans hU;have x4U:Ext w4 U:=x4V.trans xVU;have wAM:=(hbV.out.ext xVU).count hXP 0;have hkB:Qh lo b g k w2 (U.setCell ⟨g,a1,none⟩ (.int .u8 0)):=(hkV.out.fresh (by have:=x2.size;omega) (Below.mono xVU zO)).trans wAM.2 (Zj.refl _ _);have cB:∀q,q≠g->(U.setCell ⟨g,a1,none⟩ (.int .u8 0)).heap[q]?=U.heap[q]?:=λq hq=>zJ _ _ _ _ hq;have zB:(U.setCell ⟨g,a1,none⟩ (.int .u8 0)).heap.size=U.heap.size:=zA3;have rSB:=(cB _ (hgS.out _ zO)).trans (qb rSN (xM.trans hU));have rXB:=(cB _ (hgS.out _ zO)).trans (qb rXN (xM.trans hU));have rNB:=(cB wN.heap.size (hgS.out _ zO)).trans (qb rN hU);have oSB:(U.setCell ⟨g,a1,none⟩ (.int .u8 0)).ownsRow w2.heap.size 235 2 (.slice (some ⟨gb,0,none⟩) m cap) m (vP s):=Zb (zh oSV.out xVU) λq hq=>by cases hq;exact cB gb (hgS.out _ hgb)
        have hmB:jU (w2.heap.size+2) Ds (U.setCell ⟨g,a1,none⟩ (.int .u8 0)):=hmV.out.keep λq o hq ho=>(cB q (λe=>by subst e;obtain⟨cur,hgr⟩:=Zz (zh wKH.out x4V) (q:=q) rfl;rw[hgr]at hq;cases hq;cases ho)).trans ((Below.block xVU q (zG.1 hq).1).trans hq);have hFB:=wQK.out _ hkB a1 hXP;have wDM:∀xs,ZB V.heap.size wN (.slice An nn' cn) xs->ZB V.heap.size (U.setCell ⟨g,a1,none⟩ (.int .u8 0)) (.slice An nn' cn) xs:=λxs hi=>(hi.ext (xM.trans hU)).keep (by rw[zB];exact zM _) λp h1 _=>World.cell?_setCell_other _ _ _ _ λe=>by subst e;simp only at h1;omega
        have zU:V.heap.size<=U.heap.size:=xVU.size;have zNU:wN.heap.size<U.heap.size:=Nat.lt_of_lt_of_le (zG.1 rN).1 hU.size;have hb0:Bch D B lo b g k (qv S (t.set a1 0)) (U.setCell ⟨g,a1,none⟩ (.int .u8 0)):=wAM.1;replace⟨wDM,hb0,hkB,oSB,hmB⟩:=zH5 wDM hb0 hkB oSB hmB;clear g0 g1 hfg hcg wAM rSN rXN rN cB rSV rXV hbV hkV hmV oSV wKH x4U;replace hU:=zH hU;go_wp2;refine Qn ?_;generalize World.setCell U _ _=wB at*;have kSB:=qa rSB;have kXB:=qa rXB;have kNB:=qa rNB;clear f2 k2;have zVB:V.heap.size<=wB.heap.size:=zO;have zNB:wN.heap.size<wB.heap.size:=zO;replace zB:=zH zB;rcases hBU.out with⟨hne,hnd⟩|⟨rfl,xs,hnd,rfl,hi⟩
        ·have hq:=zH (hLI.out.none_ hone.out hnd);have hZN:(er != 0)=true:=by rw[bne_iff_ne];exact hne
         have hBY:=zH (Jw.bad2 (a:=a) (D:=D) (B:=B) x2 hlw hq.out hkB.out);clear wDM hb0 hFB hBU hnd;go_wp2_with fail;exact Yh rfl rfl hmB.out λC hC=>hBY.out C (hC.mono zO)
        ·have hi2:=wDM.out xs hi;obtain⟨f1,hf1⟩:∃f1,qP S.now a1=f1:=⟨_,rfl⟩
         have hf0:=hle.out;rw[hf1]at hFB hf0;have hz3:((f1:Int)==0)=false:=by rw[beq_eq_false_iff_ne];omega
         have hlx:=(zy hnd).2.2;have hl0:=(zy hnd).1;replace⟨hf1,hf0⟩:=zH2 hf1 hf0;by_cases hlev:0<=l1/\lv≠l1
         ·have hq:=zH (hLI.out.level hone.out hnd hlev.1 hlev.2);have hBY:=zH (Jw.bad2 (a:=a) (D:=D) (B:=B) x2 hlw hq.out hkB.out);have d1:decide (l1≥0)=true:=decide_eq_true hlev.1;have d3:(lv != l1)=true:=by rw[bne_iff_ne];exact hlev.2
          replace hlev:=zH hlev;clear wDM hb0 hBU hnd hi hi2 hlx hl0;go_wp2_with fail;exact Yh rfl rfl hmB.out λC hC=>hBY.out C (hC.mono zO)
         ·have hd0:(decide (l1≥0)=false/\decide (0<=l1)=false)\/(decide (l1≥0)=true/\decide (0<=l1)=true/\(lv != l1)=false/\decide (lv=l1)=true):=by
           by_cases h1:0<=l1
           ·by_cases h2:lv=l1
            ·exact .inr ⟨decide_eq_true h1,decide_eq_true h1,by rw[bne_eq_false_iff_eq];exact h2,decide_eq_true h2⟩
            ·exact absurd ⟨h1,h2⟩ hlev
           ·exact .inl ⟨decide_eq_false h1,decide_eq_false h1⟩
          by_cases hlv:0<lv
          ·have wXG:=zH (hLI.out.push hone.out hnd hlev hlv);have wRR:VQ (t.set a1 0)<nn:=by rw[hnn.out];have:=Gy hone.out;omega
           have d5:decide (lv>0)=true:=decide_eq_true hlv;have hxl:0<xs.length:=by have:=(qF hnd).1;unfold Qj ZZ at this;simp only[Bool.and_eq_true,decide_eq_true_eq]at this;have:=this.1.2.2.2 hlv;omega
           have hrr:=λx hx=>((qF hnd).2.1 x hx).1.2.2.2.1.1;obtain⟨ps,hps,⟨An',cn',e9,hc9,hm9,hrd⟩,hpi,hfr,-⟩:=id hi2;simp only[Value.slice.injEq,true_and]at e9;obtain⟨rfl,rfl⟩:=e9;obtain⟨b2,o2,rfl,hb2,wGM⟩:=hrd.2 hxl;have hb2lo:V.heap.size<=b2:=hfr _ _ _ rfl;have hpl:ps.length=xs.length:=by rw[<-hps,List.length_map]
           obtain⟨us,hus⟩:∃us:List Ui,us=ps.map λp=>((p.1,kh p.2):Ui):=⟨_,rfl⟩
           have hul:us.length=xs.length:=by rw[hus,List.length_map,hpl]
           have hVG:∀i (hi:i<ps.length),us[i]?.getD uiz=(ps[i].1,kh ps[i].2):=λi hi=>by rw[hus,List.getElem?_map,zL hi];rfl
           have hsv:∀i (hi:i<ps.length),sv (kh ps[i].2)=ps[i].2:=λi hi=>by obtain⟨⟨A,c,e⟩,_⟩:=hpi ps[i] (List.getElem_mem hi);rw[e];rfl
           have wSH:∀j,0<=(us[j]?.getD uiz).1.r:=λj=>by
            by_cases hj:j<ps.length
            ·rw[hVG j hj];exact hrr _ (by rw[<-hps];exact List.mem_map_of_mem (f:=λp:It×Value=>p.1) (List.getElem_mem hj))
            ·rw[List.getElem?_eq_none (by rw[hul];omega)];exact Int.le_refl 0
           have wKR:=refs_rev (us:=us) (xs:=xs) (by rw[hus,List.map_map];exact hps) (lv-1);have hCF:∀W,Ext wB W->∀i,i<us.length->W.cell? ⟨b2,o2+i*5,none⟩=some (.int .u8 (us[i]?.getD uiz).1.k)/\W.cell? ⟨b2,o2+i*5+1,none⟩=some (.int .u32 (us[i]?.getD uiz).1.i)/\W.cell? ⟨b2,o2+i*5+2,none⟩=some (.int .u32 (us[i]?.getD uiz).1.o)/\W.cell? ⟨b2,o2+i*5+3,none⟩=some (.int .i64 (us[i]?.getD uiz).1.r)/\W.cell? ⟨b2,o2+i*5+4,none⟩=some (sv (us[i]?.getD uiz).2):=λW hW i hi=>by have hi':i<ps.length:=zO;obtain⟨q0,q1,q2,q3,q4⟩:=JX ps i hi';rw[hVG i hi'];simp only;rw[hsv i hi'];exact⟨Ext.cell hW (wGM _ _ q0),by rw[Nat.add_assoc];exact Ext.cell hW (wGM _ _ q1),by rw[Nat.add_assoc];exact Ext.cell hW (wGM _ _ q2),by rw[Nat.add_assoc];exact Ext.cell hW (wGM _ _ q3),by rw[Nat.add_assoc];exact Ext.cell hW (wGM _ _ q4)⟩
           replace hus:=zH hus;have wOP:=zH hul;have hl16:=zH (zy hnd);have hwl:wrap64 (lv-1)=lv-1:=IntWalk.wrap64_in _ (by have:=hl16.out;omega);replace⟨hxl,hlev,hlv,hCF,wKR,wSH⟩:=zH6 hxl hlev hlv hCF wKR wSH;replace hlx:=zH hlx;clear wDM hBU hi hi2 hps hpi hfr hrd wGM hVG hsv hrr hc9 hm9 hl0 hpl hul;rcases hd0 with⟨d1,d2⟩|⟨d1,d2,d3,d4⟩
           all_goals
            go_wp2_with fail;refine(qcX _ xs.length cn wB).mono ?_;rintro e w8 ⟨rfl,rfl⟩;go_wp2_with fail;generalize hwR:World.alloc wB _=wR;have xBR:Ext wB wR:=by rw[<-hwR];exact zN _ _
            have zR:wB.heap.size+1<=wR.heap.size:=by rw[<-hwR];simp
            have rIR:wR.heap[wB.heap.size]?=some (.cells #[.slice (some ⟨b2,o2,none⟩) xs.length cn] 55 (0,0)):=by rw[<-hwR];exact zI _ _ _ rfl
            clear hwR;have hb2R:b2<wR.heap.size:=zO;have hSW:SWi wR wB.heap.size b2 (.slice (some ⟨b2,o2,none⟩) xs.length cn) us:=⟨by rw[qa rIR];rfl,.inr ⟨o2,cn,by rw[wOP.out],λi hi=>hCF.out wR xBR i hi⟩⟩
            have rSR:=qb rSB xBR;have rNR:=qb rNB xBR;have oSR:=zh oSB.out xBR;have hmR:jU (w2.heap.size+2) Ds wR:=hmB.out.keep λq o hq _=>(Below.block xBR q (zG.1 hq).1).trans hq;have hDR:∀D∈Ds,D<wR.heap.size:=λD hD=>(zG.1 (hmR.at_ D hD).2).1;have zV2:w2.heap.size<=V.heap.size:=zO;have hgbV:gb<V.heap.size:=zO;have zwR:w2.heap.size<=wR.heap.size:=zO;have hsR:wB.heap.size<wR.heap.size:=zO;replace⟨hSW,hDR⟩:=zH2 hSW hDR;clear kSB kXB kNB rSB rXB rNB;generalize hNR:({tmps:=_,defers:=_}:Act)=act;refine(wpIn_wide (n:=3)).1 ?_;refine wpIn_rangeFunc_ownH rfl zO (gf:=197) (lb:=#[.pointer (some ⟨wB.heap.size,0,none⟩)]) (by rw[<-hNR];simp[Act.eval]) trivial (enters_of func197 zQ rfl)
             (qfZ (3-1) zO wB.heap.size b2 _ us (by rw[wOP.out];have:=hlx.out;omega) wR hsR hb2R hSW.out) Qu.t (Qu.b hsR hb2R) (Below.refl _ _) (λ_=>rfl)
             (λpre W'=>W'.heap[wN.heap.size]?=some (.cells #[.int .i64 lv,.slice (some ⟨b2,o2,none⟩) xs.length cn] 113 (0,0))/\(∃sv',W'.heap[w2.heap.size+1]?=some (.cells #[sv'] 236 (0,0))/\W'.ownsRow w2.heap.size 235 2 sv' (m+pre.length) (vP (s++pre.map (λj=>((us[j]?.getD uiz).1.r.toNat,lv-1))))/\∀q,sv'.ownBlock=some q->q<V.heap.size\/wR.heap.size<=q)/\Below w2.heap.size wR W'/\jU (w2.heap.size+2) Ds W')
             (λ_ _ _=>False)
             (OwnFrom.and (QF _ _ _ _) (OwnFrom.and (qfj _ _ _ _ _) (OwnFrom.and (ownFrom_below zwR zwR) (qdl hDR.out))))
             (λ_ _ _ _ _ hs _ _=>hs)
             ⟨rNR,⟨_,rSR,by simpa using oSR,λq hq=>.inl (by cases hq;exact hgbV)⟩,Below.refl _ _,hmR⟩
             (λj a' W'=>∃t11,a'=(((({tmps:=act.tmps,defers:=[]}:Act).put (some 112) (.int .i64 (j:Int))).put (some 113) (.agg #[.int .u8 (us[j]?.getD uiz).1.k,.int .u32 (us[j]?.getD uiz).1.i,.int .u32 (us[j]?.getD uiz).1.o,.int .i64 (us[j]?.getD uiz).1.r,sv (us[j]?.getD uiz).2])).put (some 11) (.pointer (some ⟨t11,0,none⟩)))/\W'.heap[t11]?=some (.cells #[.int .u8 (us[j]?.getD uiz).1.k,.int .u32 (us[j]?.getD uiz).1.i,.int .u32 (us[j]?.getD uiz).1.o,.int .i64 (us[j]?.getD uiz).1.r,sv (us[j]?.getD uiz).2] 51 (0,0)))
             (λx a' s A C row hs hg hr=>by obtain⟨t11,e,h⟩:=hs;exact⟨t11,e,QF (β:=Unit) _ _ _ _ () A C row h hg hr⟩) ?assign ?body ?done ?stop
            case assign=>
             rintro l' pre j W' K ⟨i1,⟨sv',i2,i3,i4⟩,i5,i6⟩ hK;subst hNR;have z5:=i5.size
             gi_wp2
             exact hK _ _ ((KeepsOthers.alloc _ _).from _) ⟨zK _ _ _ zO,zK _ _ _ zO⟩ ⟨qb i1 (zN _ _),⟨sv',qb i2 (zN _ _),i3.alloc _,i4⟩,Below.alloc i5 zO _,i6.keep λq o hq _=>(zK _ _ _ (zG.1 hq).1).trans hq⟩ ⟨W'.heap.size,rfl,zI _ _ _ rfl⟩
            case body=>
             rintro l' pre j a' W' hll ⟨rr,hlp⟩ ⟨i1,⟨sv',i2,i3,i4⟩,i5,i6⟩ ⟨t11,rfl,wOF⟩ hpre;subst hNR;simp only[Act.put,zA,zB,zC];have hr0:=wSH.out j;obtain⟨u9,hu9⟩:∃u9,us[j]?.getD uiz=u9:=⟨_,rfl⟩
             have wHJ:Hid ((pre++[j]).map (λj=>((us[j]?.getD uiz).1.r.toNat,lv-1))=pre.map (λj=>((us[j]?.getD uiz).1.r.toNat,lv-1))++[(u9.1.r.toNat,lv-1)]):=zH (by rw[List.map_append,List.map_cons,List.map_nil,hu9]);rw[hu9]at wOF hr0⊢;obtain⟨rn,hrn⟩:∃rn:Nat,u9.1.r=(rn:Int):=⟨u9.1.r.toNat,zO⟩
             have hrt:Hid (u9.1.r.toNat=rn):=zH zO;rw[hrn]at wOF⊢;obtain⟨pre',wKK⟩:∃pre',pre.map (λj=>((us[j]?.getD uiz).1.r.toNat,lv-1))=pre':=⟨_,rfl⟩
             rw[wKK]at i3 wHJ;have kr:=qa i2;have kN:=qa i1;have kY:=qa wOF;have zS:=(zG.1 i2).1;have zN':=(zG.1 i1).1;have z5:=i5.size;have hne:sv'.ownBlock≠some (w2.heap.size+1):=λe=>by obtain⟨cur,hg⟩:=Zz i3 e;exact qL hg i2 zA1 rfl
             obtain⟨Av,cv,rfl,-,-⟩:=qG i3;obtain⟨i0,hi,hz0,hz1,hz2⟩:=info_parts Tryz.info_owed;have wAV:m+pre.length<1073741824:=by have h2:=qkb S.now;have h3:=hLI.out.few;have h4:=hlx.out;have h5:=wOP.out;have h6:=hm0.out;simp only[List.length_append,List.length_cons,List.length_nil]at h3;omega
             have i3H:=zH i3;replace⟨hu9,hrn,wKK,wAV⟩:=zH4 hu9 hrn wKK wAV
             gi_wp2_with (gi_at_builtin;refine TN ?_)
             refine Qm.go (TM W' rfl (.tmp 114) (.tmp 121) 236 rfl w2.heap.size 235 i0 _ 2 16 underlying236 hi hz0 hz1 hz2 rfl zA1 (.slice Av (m+pre.length) cv) (m+pre.length) _ (by first|exact rfl|simp[Act.eval]) i3H.out #[.int .i64 (rn:Int),.int .i64 (lv-1)] (by first|exact rfl|simp[Act.eval]) rfl zA8 wAV.out zA1 zO ?_);intro v' W3 hQC hg hat;have hg0:∀g,(Value.slice Av (m+pre.length) cv).ownBlock=some g->w2.heap.size<=g:=λg e=>(QM i3H.out _ e).1;have hr3:W3.heap[w2.heap.size+1]?=_:=(hg.block _ zS (λe=>hne e.symm)).trans i2;have hN3:W3.heap[wN.heap.size]?=_:=(hg.block _ zN' (λe=>by have:=i4 _ e.symm;omega)).trans i1;have hb23:W3.heap[b2]?=W'.heap[b2]?:=hg.block _ zO (λe=>by have:=i4 _ e.symm;omega);have hbB3:W3.heap[wB.heap.size]?=W'.heap[wB.heap.size]?:=hg.block _ zO (λe=>by have:=i4 _ e.symm;omega);have kr3:=qa hr3;have fr3:=qg hr3;have hB3:Below w2.heap.size W' W3:=qgb hg λg e=>by have:=hg0 g e;omega
             have wRY:v'.ownBlock≠some (w2.heap.size+1):=λe=>by obtain⟨cur,hgx⟩:=Zz hQC e;exact qL hgx hr3 zA1 rfl
             have hat3:∀q,v'.ownBlock=some q->q<V.heap.size\/wR.heap.size<=q:=λq e=>by
              rcases hat with h|⟨g',h,h'⟩
              ·exact i4 q (h.symm.trans e)
              ·rw[h]at e;cases e;right;omega
             have hm3:jU (w2.heap.size+2) Ds W3:=i6.keep λq o hq ho=>(hg.block q (zG.1 hq).1 λe=>by obtain⟨cur,hgx⟩:=Zz i3H.out e.symm;rw[hgx]at hq;cases hq;cases ho).trans hq;have hRV:KeepsOthers W' W3:=qgF i3H.out hg;replace⟨hg,hat⟩:=zH2 hg hat;obtain⟨Av',cv',rfl,-,-⟩:=qG hQC;replace hQC:=zH hQC;clear i3 kr kN kY wOF hr0
             gi_wp2_with fail
             refine⟨(hRV.trans (KeepsOthers.setCell _ _ _)).from _,⟨(zJ _ _ _ _ (by show wB.heap.size≠w2.heap.size+1;omega)).trans hbB3,(zJ _ _ _ _ (by show b2≠w2.heap.size+1;omega)).trans hb23⟩,(zJ _ _ _ _ (by show wN.heap.size≠w2.heap.size+1;omega)).trans hN3,⟨_,qo hr3 0 _,?_,hat3⟩,i5.trans (hB3.setCell (p:=⟨w2.heap.size+1,0,none⟩) zA3 _),hm3.keep λq o hq ho=>(zJ _ _ _ _ λe=>by have e':q=w2.heap.size+1:=e;rw[e',hr3]at hq;cases hq;cases ho).trans hq⟩;rw[wHJ.out,List.length_append,List.length_singleton,<-List.append_assoc,Ge,qef,hrt.out];exact Zb hQC.out λq hq=>zJ _ _ _ _ λe=>wRY (by have e':q=w2.heap.size+1:=e;rw[<-e'];exact hq)
            case done=>
             rintro Dm ys W' hD hys ⟨i1,⟨sv',i2,i3,i4⟩,i5,i6⟩ hK;subst hNR;have hl3:m+ys.length=(s++((qB xs).map λr=>(r,lv-1)).reverse).length:=by rw[hys,Zt,List.length_append,List.length_reverse,List.length_map,wOP.out,<-hm0.out];simp[qB]
             rw[hl3,hys,wKR.out]at i3;have hBW:Below w2.heap.size wB W':=(Below.mono xBR zO).trans i5;have hR:LvR D B lo b g k S a w2 (VQ (t.set a1 0)) (Dm::Ds) W':=⟨⟨_,t.set a1 0,sv',rfl,wXG.out,(h0.out.ext x2).fresh hb0.out hBW,i2,i3⟩,hkB.out.fresh (by have:=x2.size;omega) hBW,i6.add hDR.out hD zO hK⟩
             replace⟨hR,wRR⟩:=zH2 hR wRR;clear i1 i2 i3 i4 i5 i6 hl3 hBW hK hys;go_wp2_with fail;exact qce hK0.out _ wRR.out (Dm::Ds) rfl zQ hR.out
            case stop=>rintro Dm c pre W _ _ h _;exact h.elim
          ·obtain rfl:lv=0:=zO;have wVF:=zH (λer (he:looseL (qB xs) (t.set a1 0)=.error er)=>hLI.out.leafBad hone.out hnd hlev hlv he);have hokL:=zH (λt' (he:looseL (qB xs) (t.set a1 0)=.ok t')=>And.intro (hLI.out.leaf hone.out hnd hlev hlv he) (show VQ t'<nn by rw[hnn.out];have:=Gy hone.out;have:=(kI he).1;omega));have hrr:=Ym hnd;have hio:=zH (λx hx=>((qF hnd).2.1 x hx).1.2.2.2.1.1);have hnB:∀q,w2.heap.size<=q->¬B3 b g k q:=λq hq hx=>by have:=(h0.out.b3 q hx).2;have:=x2.size;omega
           have hx0:∀C,qT (B3 b g k) wB C->Its C C.heap.size (.slice An xs.length cn) xs:=λC hC=>hi2.keepX hC λq hq=>hnB q zO;replace⟨hrr,hx0⟩:=zH2 hrr hx0;have hA:=(hx0.out wB (qT.refl _ _)).at_.2.2.2;replace⟨hA,hlx,hnB,hlev⟩:=zH4 hA hlx hnB hlev;clear wDM hBU hi hi2 hl0 hlv hnd;rcases hd0 with⟨d1,d2⟩|⟨d1,d2,d3,d4⟩
           all_goals
            generalize hwq:wr=wq at*;clear hwq;go_wp2_with fail;go_loopw [4,126] (λv i wr'=>L0I D B lo b g k S (t.set a1 0) xs wB v i wr') (λ_ i _=>xs.length-(intOf i).toNat)
            case atStart=>exact⟨0,_,rfl,Nat.zero_le _,rfl,rfl,hb0.out,Qh.refl _ _ _ _ _⟩
            case round=>
             obtain⟨j,t9,rfl,hj,rfl,hlo,hbt,hbm⟩:=hrel.ex;clear hrel;have hkA:=zH (hkB.out.trans hbm (Zj.refl _ _));have rNr:=hbm.row rNB (hnB.out _ zO);have rSr:=hbm.row rSB (hnB.out _ zO);have kNr:=qa rNr;have hmr:=zH (hmB.out.bkeep hbm λq hq=>hnB.out q zO);by_cases hlt:j<xs.length
             ·obtain⟨bi,off,rfl,hbi⟩:=hA.out zO;obtain⟨A',c',d0,d1',d2',d3',d4',-⟩:=(hx0.out wr hbm.keepX).item j hlt;have hr8:=hrr.out _ (List.mem_map_of_mem (f:=λx:It=>x.r.toNat) (List.getElem_mem hlt));have hr0:0<=xs[j].r:=hio.out _ (List.getElem_mem hlt);have hGU:=zH (λh0 h1=>qbU hlt hlo h0 h1);have hEC:=zH (λh0 h1=>qaC hlt hlo h0 h1);have hMO:=zH (λh0=>qaD hlt hlo h0);generalize xs[j]=x at*;have hj1:=zH (IntWalk.wrap64_in ((j:Int)+1) (by have:=hlx.out;omega));obtain⟨r,hra⟩:∃r:Nat,x.r=(r:Int):=⟨x.r.toNat,zO⟩
              have hsa:(x.r).toNat=r:=zO;have ha9:r<256:=by rw[hsa]at hr8;exact hr8.2
              rw[hra]at d3';rw[hsa]at hGU hEC hMO;have hz:=hbt.size.2.2.2.2.2.1;have HL:=zH (λW (hW:Ext wr W)=>Xr D B lo b g k (qv S t9) r ha9 W (hbt.ext hW));replace⟨hbt,hbm⟩:=zH2 hbt hbm;clear hra hsa hr8 hr0 hlo hbi;rcases Nat.eq_zero_or_pos r with ha0|ha0
              ·subst ha0;have hF:L0I D B lo b g k S (t.set a1 0) xs wB (.int .i64 0) (.int .i64 ((j:Int)+1)) (wr.alloc (.cells #[.int .u8 x.k,.int .u32 x.i,.int .u32 x.o,.int .i64 0,.slice A' x.val.length c'] 51)):=⟨j+1,t9,rfl,zO,rfl,hMO.out rfl,hbt.out.ext (zN _ _),hbm.out.trans (Qh.of_ext (zN _ _) hz) (Zj.refl _ _)⟩
               replace hF:=zH hF;clear hGU hEC hMO HL;go_wp2_with fail;try rw[hj1.out]
               refine⟨hF.out,?_⟩;simp[intOf];omega
              ·have hza:((r:Int)==0)=false:=by rw[beq_eq_false_iff_ne];omega
               replace ha0:=zH ha0;go_wp2_with fail;generalize hwa:World.alloc wr _=wa;have xa:Ext wr wa:=by rw[<-hwa];exact zN _ _
               clear hwa d0 d1' d2' d3' d4';refine(HL.out wa xa).mono ?_;clear HL;rintro e wl ⟨hkl,hcl⟩;have wNO:=(Qh.of_ext xa hz).trans hkl (Zj.refl _ _);have hYO:=hbm.out.trans wNO (Zj.refl _ _);rcases hcl with⟨hc0,rfl⟩|⟨hc0,rfl,hbl⟩
               ·have hBY:=zH (Jw.bad2 (a:=a) (D:=D) (B:=B) x2 hlw (wVF.out _ (hGU.out (by have:=ha0.out;omega) hc0)) (hkB.out.trans hYO (Zj.refl _ _)));have hml:=zH (hmr.out.bkeep wNO λq hq=>hnB.out q zO);clear hGU hEC hMO hkl hYO hc0 hkA wNO;go_wp2_with fail;exact Yh rfl rfl hml.out λC hC=>hBY.out C (hC.mono zO)
               ·have hF:L0I D B lo b g k S (t.set a1 0) xs wB (.int .i64 0) (.int .i64 ((j:Int)+1)) wl:=⟨j+1,_,rfl,zO,rfl,hEC.out (by have:=ha0.out;omega) hc0,hbl,hYO⟩
                replace hF:=zH hF;clear hGU hEC hMO hkl hYO hc0 hbl hkA wNO;go_wp2_with fail;try rw[hj1.out]
                refine⟨hF.out,?_⟩;simp[intOf];omega
             ·obtain rfl:j=xs.length:=zO;rw[List.take_length]at hlo;obtain⟨hLn,hln⟩:=hokL.out t9 hlo;have oSr:wr.ownsRow w2.heap.size 235 2 (.slice (some ⟨gb,0,none⟩) m cap) m (vP s):=hbm.own oSB.out λq hq=>hnB.out q (QM oSB.out q hq).1;have hR:LvR D B lo b g k S a w2 (VQ t9) Ds wr:=⟨⟨s,t9,_,rfl,hLn,hbt,rSr,by rw[<-hm0.out];exact oSr⟩,hkA.out,hmr.out⟩
              replace⟨hR,hln⟩:=zH2 hR hln;clear hlo hbt hbm hkA hmr hLn oSr;go_wp2_with fail;exact qce hK0.out _ hln.out Ds rfl zQ hR.out
end Go.Proofs.YtmeadnlmepcmbaaGreat
namespace Go.Proofs.YtmeadnlmepcmbaaGreat
open Go.RowKit
abbrev YI(x:It)(A:OA)(c:Nat):Array Value:=#[.int .u8 x.k,.int .u32 x.i,.int .u32 x.o,.int .i64 x.r,.slice A x.val.length c]
abbrev item0:Array Value:=#[.int .u8 0,.int .u32 0,.int .u32 0,.int .i64 0,.slice none 0 0]
def FindQ(lo:Nat)(q:Option It)(u:Value)(W:World):Prop:=match q with
 |none=>u=.tuple #[.agg item0,.int .i64 6]
 |some x=>∃A c,u=.tuple #[.agg (YI x A c),.int .i64 0]/\Bys W W.heap.size (.slice A x.val.length c) x.val/\Zw lo (.slice A x.val.length c)
theorem qdf{w:World}{lo b off n c:Nat}{xs:List It}(h:ZB lo w (.slice (some ⟨b,off,none⟩) n c) xs)(i:Nat)(hi:i<xs.length):∃A' c',ItAt w w.heap.size b (off+i*5) xs[i] A' c'/\Zw lo (.slice A' xs[i].val.length c'):=by
 obtain⟨ps,rfl,⟨A,c1,e,_,_,hr⟩,hp,hf,hg⟩:=h;cases e;have hi':i<ps.length:=by simpa using hi
 obtain⟨b',off',e,hb,hc⟩:=hr.2 zO;cases e;obtain⟨c0,c1,c2,c3,c4⟩:=JX ps i hi';have hgi:=hg ps[i] (List.getElem_mem hi');obtain⟨⟨A',c',e5⟩,hby⟩:=hp ps[i] (List.getElem_mem hi');rw[e5]at c4 hby hgi;refine⟨A',c',?_,by simpa using hgi⟩;simp only[List.getElem_map];refine⟨hc _ _ c0,?_,?_,?_,?_,hby⟩
 ·rw[Nat.add_assoc];exact hc _ _ c1
 ·rw[Nat.add_assoc];exact hc _ _ c2
 ·rw[Nat.add_assoc];exact hc _ _ c3
 ·rw[Nat.add_assoc];exact hc _ _ c4
def vc(S:Sto)(i:Value):Nat:=match qk S (intOf i).toNat with
 |some (l,_)=>l.toNat
 |none=>0
theorem VA{S:Sto}{r h:Nat}{ys:List It}(hn:qk S r=some ((h:Int),ys)):vc S (.int .i64 (r:Int))=h:=by unfold vc intOf;simp only[Int.toNat_natCast];rw[hn];simp
structure FnI(S:Sto)(K:K3)(q:Option It)(w2:World)(i:Value)(wr:World):Prop where
 ex:∃(h r:Nat)(ys:List It),i=.int .i64 (r:Int)/\8<=r/\r<256/\qk S r=some ((h:Int),ys)/\(qz S h ys).isSome=true/\Vc S K h ys=q/\Ext w2 wr
theorem GG{R:Ending->World->Prop}{a:Act}{W:World}{b:Nat}{cs:Array Value}{v:Value}(h6:a.tmps[6]?.getD undef=.pointer (some ⟨b,0,none⟩))(h7:a.tmps[7]?.getD undef=v)(hd:a.defers=[])(hBT:W.heap[b]?=some (.cells cs 51 (0,0)))(hs:∃x0 x1 x2 x3 x4,cs=#[x0,x1,x2,x3,x4])(hR:R (.returned (.tuple #[.agg cs,v])) W):bodyPost prog Tryz.f87 R .ret a W:=by
 refine bodyPost_ret (v:=.tuple #[.agg cs,v]) ?_ hd hR;have k:=qa hBT;obtain⟨x0,x1,x2,x3,x4,rfl⟩:=hs;simp[results,results87,go_sem,h6,h7,k]
theorem row5{w:World}{b:Nat}{ty:TypeId}{y0 y1 y2 y3 y4:Value}(h:w.heap[b]?=some (.cells #[y0,y1,y2,y3,y4] ty (0,0)))(x0 x1 x2 x3 x4:Value):(((((w.setCell ⟨b,0,none⟩ x0).setCell ⟨b,1,none⟩ x1).setCell ⟨b,2,none⟩ x2).setCell ⟨b,3,none⟩ x3).setCell ⟨b,4,none⟩ x4).heap[b]?=some (.cells #[x0,x1,x2,x3,x4] ty (0,0)):=qo (qo (qo (qo (qo h 0 x0) 1 x1) 2 x2) 3 x3) 4 x4
theorem qhV{w0 w:World}{B b:Nat}(h:Below B w0 w)(hb:B<=b)(x0 x1 x2 x3 x4:Value):Below B w0 (((((w.setCell ⟨b,0,none⟩ x0).setCell ⟨b,1,none⟩ x1).setCell ⟨b,2,none⟩ x2).setCell ⟨b,3,none⟩ x3).setCell ⟨b,4,none⟩ x4):=
 Below.setCell (Below.setCell (Below.setCell (Below.setCell (Below.setCell h (p:=⟨b,0,none⟩) hb _) (p:=⟨b,1,none⟩) hb _) (p:=⟨b,2,none⟩) hb _) (p:=⟨b,3,none⟩) hb _) (p:=⟨b,4,none⟩) hb _
theorem its_set5{w:World}{lo b:Nat}{v:Value}{xs:List It}(h:ZB lo w v xs)(hb:b<lo)(x0 x1 x2 x3 x4:Value):ZB lo (((((w.setCell ⟨b,0,none⟩ x0).setCell ⟨b,1,none⟩ x1).setCell ⟨b,2,none⟩ x2).setCell ⟨b,3,none⟩ x3).setCell ⟨b,4,none⟩ x4) v xs:=by
 refine h.keep zA3 (λq hq _=>?_);have hne:∀j,(⟨b,j,none⟩:Addr)≠q:=λj e=>by subst e;simp at hq;omega
 rw[World.cell?_setCell_other _ _ _ _ (hne _),World.cell?_setCell_other _ _ _ _ (hne _),World.cell?_setCell_other _ _ _ _ (hne _),World.cell?_setCell_other _ _ _ _ (hne _),World.cell?_setCell_other _ _ _ _ (hne _)]
theorem its_cell{w:World}{lo b:Nat}{v:Value}{xs:List It}(_:ZB lo w v xs){q:Addr}(hb:b<lo)(x0 x1 x2 x3 x4:Value)(hq:lo<=q.block):(((((w.setCell ⟨b,0,none⟩ x0).setCell ⟨b,1,none⟩ x1).setCell ⟨b,2,none⟩ x2).setCell ⟨b,3,none⟩ x3).setCell ⟨b,4,none⟩ x4).cell? q=w.cell? q:=by
 have hne:∀j,(⟨b,j,none⟩:Addr)≠q:=λj e=>by subst e;simp at hq;omega
 rw[World.cell?_setCell_other _ _ _ _ (hne _),World.cell?_setCell_other _ _ _ _ (hne _),World.cell?_setCell_other _ _ _ _ (hne _),World.cell?_setCell_other _ _ _ _ (hne _),World.cell?_setCell_other _ _ _ _ (hne _)]
set_option maxRecDepth 100000 in
theorem qkw(A1 n1 c1 A2 n2 c2 A3 n3 c3 A4 n4 c4)(S:Sto)(hS:qm S=true)(a lvl:Nat)(xs:List It)(ha:8<=a)(ha2:a<256)(hn:qk S a=some ((lvl:Int),xs))(hsp:(qz S lvl xs).isSome=true)(k i o:Int)(w:World)(hst:Qq w w.heap.size (.slice A1 n1 c1) (.slice A2 n2 c2) (.slice A3 n3 c3) (.slice A4 n4 c4) S):Calls prog 87 #[Qp A1 n1 c1 A2 n2 c2 A3 n3 c3 A4 n4 c4,.int .i64 (a:Int),UK k i o] w (zm (FindQ w.heap.size (Vc S (k,i,o) lvl xs)) w):=by
 have HCK:=zH (λW (hx:Ext w W)=>YE A1 n1 c1 A2 n2 c2 A3 n3 c3 A4 n4 c4 S hS a ⟨ha,ha2,lvl,xs,hn,hsp⟩ W (hst.ext hx));have HON:=zH (λW (hx:Ext w W)=>qfa A1 n1 c1 A2 n2 c2 A3 n3 c3 A4 n4 c4 S (by have:=(Qb hS).2.2.1;omega) W (hst.ext hx));obtain⟨q,hq⟩:∃q,Vc S (k,i,o) lvl xs=q:=⟨_,rfl⟩
 rw[hq];have HI0:∀W,FnI S (k,i,o) q W (.int .i64 (a:Int)) W:=λW=>⟨lvl,a,xs,rfl,ha,ha2,hn,hsp,hq,Ext.refl _⟩
 replace⟨HI0,hS⟩:=zH2 HI0 hS;clear hst hn hsp hq ha ha2;go_enter func87,ntmps87;go_wp2_with fail;generalize hw1:(World.alloc (World.alloc (World.alloc w _) _) _)=w1;have x1:Ext w w1:=by rw[<-hw1];exact((zN _ _).trans (zN _ _)).trans (zN _ _)
 have rs1:w1.heap[w.heap.size]?=some (.cells #[.slice A1 n1 c1,.slice A2 n2 c2,.slice A3 n3 c3,.slice A4 n4 c4] 28 (0,0)):=by rw[<-hw1];exact(zK _ _ _ zA2).trans ((zK _ _ _ zA3).trans (zI _ _ _ rfl))
 have rk1:w1.heap[w.heap.size+1]?=some (.cells #[.int .u8 k,.int .u32 i,.int .u32 o] 49 (0,0)):=by rw[<-hw1];exact(zK _ _ _ zA3).trans (zI _ _ _ zA3)
 have ri1:w1.heap[w.heap.size+2]?=some (.cells item0 51 (0,0)):=by rw[<-hw1];exact zI _ _ _ zA3
 clear hw1;have ks1:=qa rs1;go_step3;go_wp2_with fail;refine(HCK.out w1 x1).mono ?_;clear HCK;rintro e w2 ⟨u,rfl,⟨m,rfl⟩,hB⟩;have x2:Ext w w2:=Ext.trans x1 hB;have rs2:=qb rs1 hB;have rk2:=qb rk1 hB;have ri2:=qb ri1 hB;clear rs1 rk1 ri1 hB x1 ks1;have ks2:=qa rs2;go_wp2_with fail;refine(HON.out w2 x2).mono ?_;clear HON;rintro e w3 ⟨u,rfl,⟨bb,A3',c3',rfl,hOn,-⟩,hB⟩;have x3:Ext w w3:=Ext.trans x2 hB;have rk3:=qb rk2 hB;have ri3:=qb ri2 hB;clear rs2 rk2 ri2 hB x2 ks2;replace hOn:=zH hOn;have I0:=zH (HI0.out w3);clear HI0;go_wp2_with fail;go_step3;go_wp2_with fail;go_loopw [10] (λj wr=>FnI S (k,i,o) q w3 j wr) (λj _=>vc S j)
 case atStart=>exact I0.out
 case round=>
  obtain⟨h,r,ys,rfl,h8,h256,hn,hsp,hq,xr⟩:=hrel.ex;clear I0 hrel;have hlv:=VA hn;obtain⟨hm1,hm2,-⟩:=qF hn;have hyl:ys.length<=5:=by unfold Qj ZZ at hm1;simp at hm1;omega
  have hZV:=(ZN hsp).2;have hBN:=vS 0 bb A1 n1 c1 A2 n2 n2 A3' n3 c3' A4 n4 c4 S hS.out r h8 h256 wr ⟨Nat.zero_le _,(hOn.out.ext xr).2⟩;rw[hn]at hBN;have xwr:=x3.trans xr;have rkr:=qb rk3 xr;have rir:=qb ri3 xr;have zr:w.heap.size+2<wr.heap.size:=(zG.1 rir).1;replace⟨hlv,hsp,hn,hq,hm2,hZV⟩:=zH6 hlv hsp hn hq hm2 hZV;clear hm1;go_wp2_with fail;refine hBN.mono ?_;clear hBN;rintro e w4 ⟨u,rfl,⟨A9,c9,rfl,hBC⟩,hB⟩;have hB':Ext wr w4:=hB;have x4:=xwr.trans hB';have rk4:=qb rkr hB';have ri4:=qb rir hB';have z4:w.heap.size+2<w4.heap.size:=(zG.1 ri4).1;have kk4:=qa rk4;have z41:w.heap.size+1<w4.heap.size:=zO;replace hBC:=zH hBC;replace xr:=zH (xr.trans hB');clear rkr rir hB hB' xwr;go_wp2_with fail;generalize hw5:(World.alloc w4 _)=w5;have x5:Ext w4 w5:=by rw[<-hw5];exact zN _ _
  have rn5:w5.heap[w4.heap.size]?=some (.cells #[.int .i64 h,.slice A9 ys.length c9] 113 (0,0)):=by rw[<-hw5];exact zI _ _ _ rfl
  clear hw5;refine(GR (h:Int) A9 c9 ys k i o _ w5 hyl (hBC.out.ext x5)).mono ?_;rintro e w6 ⟨rfl,hB⟩;have x56:Ext w4 w6:=x5.trans hB;have rn6:=qb rn5 hB;have ri6:=qb ri4 x56;have kn6:=qa rn6;have fi6:=qg ri6;have ki6:=qa ri6;have hKN:=zH (hBC.out.ext x56);replace xr:=zH (xr.out.trans x56);replace x4:=zH (x4.trans x56);clear rn5 x5 hB x56 rk4 ri4 kk4 z4 z41;have hA:=hKN.out.its.at_.2.2.2;have hUZ:=Jm ys (k,i,o);have hIT:=zH (λj (hj:j<ys.length) b9 off (he:A9=some ⟨b9,off,none⟩)=>by have:=hKN.out.its;rw[he]at this;exact this.item j hj);obtain⟨ie,hie⟩:∃ie,VN ys (k,i,o)=ie:=⟨_,rfl⟩
  obtain⟨p,hp⟩:∃p,qA ys (k,i,o)=p:=⟨_,rfl⟩
  have hT:ie=true->∃hp:qA ys (k,i,o)<ys.length,qp (ys[qA ys (k,i,o)]'hp)=(k,i,o):=λh0=>by
   rw[h0]at hie;by_cases hl:qA ys (k,i,o)<ys.length
   ·rw[JM hl]at hie;exact⟨hl,of_decide_eq_true hie⟩
   ·rw[VX hl]at hie;cases hie
  have hF:ie=false->∀hp:qA ys (k,i,o)<ys.length,qp (ys[qA ys (k,i,o)]'hp)≠(k,i,o):=λh0 hl=>by rw[h0,JM hl]at hie;exact of_decide_eq_false hie
  rw[hie,hp];rw[hp]at hUZ;have hT':=zH hT;have hF':=zH hF;replace⟨hp,hie⟩:=zH2 hp hie;clear hT hF;have HREL:=zH (λ(x:It)(hx:x∈ys)(hd:Yf ys (k,i,o)=some x)(h':Nat)(hh:h=h'+1)=>by
   have h1:=QG hsp.out x hx;rw[hh]at h1;obtain⟨b,e1,e2,e3,zs,e4,e5⟩:=QE h1;have e6:qk S x.r.toNat=some ((h':Int),zs):=by rw[e1,Int.toNat_natCast];exact e4
   have e7:Vc S (k,i,o) h' zs=q:=by rw[<-XL hd e6,<-hh];exact hq.out
   have e8:vc S (.int .i64 (b:Int))<vc S (.int .i64 (r:Int)):=by rw[VA e4,hlv.out];omega
   exact(⟨b,e1,⟨⟨h',b,zs,rfl,e2,e3,e4,e5,e7,xr.out⟩⟩,e8⟩:∃b:Nat,x.r=(b:Int)/\FnI S (k,i,o) q w3 (.int .i64 (b:Int)) w6/\vc S (.int .i64 (b:Int))<vc S (.int .i64 (r:Int))))
  rcases Nat.eq_zero_or_pos h with h0|h0
  ·have hh1:((h:Int)==0)=true:=by rw[beq_iff_eq];omega
   clear HREL;cases ie
   ·have hz:q=none:=by rw[<-hq.out,h0,qgX,qjK hZV.out (hF'.out rfl)]
    replace⟨h0,hz⟩:=zH2 h0 hz;clear hA hUZ;go_wp2_with fail;exact GG (b:=w.heap.size+2) rfl rfl rfl (row5 ri6 _ _ _ _ _) ⟨_,_,_,_,_,rfl⟩ ⟨_,rfl,by rw[hz.out];rfl,qhV x4.out zO _ _ _ _ _⟩
   ·obtain⟨hpl,hke⟩:=hT'.out rfl;have hz:q=some ys[qA ys (k,i,o)]:=by rw[<-hq.out,h0,qgX,leaf_is hZV.out hpl hke]
    obtain⟨b9,off,rfl,hb9⟩:=hA zO;obtain⟨A',c',d0,d1,d2,d3,d4,-⟩:=hIT.out _ hpl b9 off rfl;have hfr:=zH (λj=>XF hKN.out b9 off ys.length c9 j rfl zO);have hI5:=λx0 x1 x2 x3 x4=>qdf (its_set5 hKN.out (b:=w.heap.size+1+1) zO x0 x1 x2 x3 x4) _ hpl;have hpp:=hp.out;generalize ys[qA ys (k,i,o)]=x at*;simp only[hpp]at hpl d0 d1 d2 d3 d4 hI5;replace⟨h0,hz,hI5,hke⟩:=zH4 h0 hz hI5 hke;clear hA hUZ hpp hb9;go_wp2_with fail;obtain⟨A'',c'',⟨-,-,-,-,g4,gb⟩,gf⟩:=hI5.out (.int .u8 x.k) (.int .u32 x.i) (.int .u32 x.o) (.int .i64 x.r) (.slice A' x.val.length c');have wXU:=its_cell hKN.out (b:=w.heap.size+1+1) (q:=⟨b9,off+p*5+4,none⟩) zO (.int .u8 x.k) (.int .u32 x.i) (.int .u32 x.o) (.int .i64 x.r) (.slice A' x.val.length c') (hfr.out 0);rw[wXU,d4]at g4;simp only[Option.some.injEq,Value.slice.injEq,true_and]at g4;obtain⟨rfl,rfl⟩:=g4;exact GG (b:=w.heap.size+2) rfl rfl rfl (row5 ri6 _ _ _ _ _) ⟨_,_,_,_,_,rfl⟩ ⟨_,rfl,by rw[hz.out];exact⟨A',c',rfl,gb,gf.mono zO⟩,qhV x4.out zO _ _ _ _ _⟩
  ·have hh1:((h:Int)==0)=false:=by rw[beq_eq_false_iff_ne];omega
   obtain⟨h',hh⟩:∃h',h=h'+1:=⟨h-1,zO⟩
   replace⟨hh,h0⟩:=zH2 hh h0;cases ie
   ·rcases Nat.eq_zero_or_pos p with hp0|hp0
    ·have hz:q=none:=by rw[<-hq.out,hh.out,qgV (qjD hZV.out (by rw[hp.out];exact hp0) (hF'.out rfl))]
     have hp1:((p:Int)==0)=true:=by rw[beq_iff_eq];omega
     replace⟨hp0,hz⟩:=zH2 hp0 hz;clear hA hUZ HREL;go_wp2_with fail;exact GG (b:=w.heap.size+2) rfl rfl rfl (row5 ri6 _ _ _ _ _) ⟨_,_,_,_,_,rfl⟩ ⟨_,rfl,by rw[hz.out];rfl,qhV x4.out zO _ _ _ _ _⟩
    ·have hd:=qao hZV.out (by rw[hp.out];exact hp0) (hF'.out rfl);have hp1:((p:Int)==0)=false:=by rw[beq_eq_false_iff_ne];omega
     have hp2:decide (p=0)=false:=decide_eq_false zO;simp only[hp.out]at hd;obtain⟨b',e1,e2,e3⟩:=HREL.out _ (List.getElem_mem _) hd h' hh.out;obtain⟨x,hx⟩:∃x,ys[p-1]'(by omega)=x:=⟨_,rfl⟩
     rw[hx]at hd e1;obtain⟨p',rfl⟩:∃p',p=p'+1:=⟨p-1,zO⟩
     obtain⟨b9,off,rfl,hb9⟩:=hA zO;obtain⟨A',c',-,-,-,d3,-,-⟩:=hIT.out p' zO b9 off rfl;simp only[Nat.add_sub_cancel]at hx;rw[hx,e1]at d3;replace hx:=zH hx;have hQU:wrap64 (((p'+1:Nat):Int)-1)=(p':Int):=by rw[IntWalk.wrap64_in _ zO];omega
     have hlt:p'<ys.length:=zO;replace hQU:=hQU;replace⟨hd,e1,e2,e3⟩:=zH4 hd e1 e2 e3;clear hA HREL;replace⟨hUZ,hp0⟩:=zH2 hUZ hp0;go_wp2_with fail;exact⟨e2.out,e3.out⟩
   ·obtain⟨hpl,hke⟩:=hT'.out rfl;have hd:=qjC hZV.out hpl hke;obtain⟨b',e1,e2,e3⟩:=HREL.out _ (List.getElem_mem _) hd h' hh.out;obtain⟨b9,off,rfl,hb9⟩:=hA zO;obtain⟨A',c',-,-,-,d3,-,-⟩:=hIT.out _ hpl b9 off rfl;rw[e1]at d3;have hpp:=hp.out;simp only[hpp]at hpl d3;replace⟨hd,hke,e1,e2,e3⟩:=zH5 hd hke e1 e2 e3;clear hA HREL hUZ hpp;obtain⟨pz,hp1,hp2⟩:∃pz:Bool,((p:Int)==0)=pz/\decide (p=0)=pz:=by
     rcases Nat.eq_zero_or_pos p with hp0|hp0
     ·exact⟨true,by rw[beq_iff_eq];omega,decide_eq_true hp0⟩
     ·exact⟨false,by rw[beq_eq_false_iff_ne];omega,decide_eq_false zO⟩
    cases pz;all_goals
     go_wp2_with fail;exact⟨e2.out,e3.out⟩
def jq(S:Sto)(root next:Int)(dead:List Int)(vs:List Vol):Prop:=∃refs nodes,QR S root next dead vs/\Qz S (QJ root dead vs) refs nodes/\ZS S refs
def ZC(S:Sto)(root next:Int)(dead:List Int):Prop:=∀vs,QR S root next dead vs->∃refs nodes,Qz S (QJ root dead vs) refs nodes/\¬ZS S refs
theorem Yu{vs:List Vol}{id:Int}{v:Vol}(h:jf vs id=some v):v∈vs:=List.mem_of_find?_eq_some h
theorem qlg{S:Sto}{root next:Int}{dead:List Int}{vs:List Vol}(h:QR S root next dead vs){v:Vol}(hv:v∈vs):∃a:Nat,v.root=(a:Int)/\jT S a:=
 Zs (h.ok v.root (by unfold zl;exact List.mem_append_right _ (List.mem_map.2 ⟨v,hv,rfl⟩)))
set_option maxRecDepth 100000 in
theorem qls(v:Vol)(bi:Nat)(id:Int)(q1 q2 q3:Value)(w:World)(h:w.heap[bi]?=some (.cells #[.int .u32 id,q1,q2,q3] 36 (0,0))):Calls prog 124 #[VR v,.pointer (some ⟨bi,0,none⟩)] w (Ret (.bool (decide (v.id=id))) w):=by
 have ki:=qa h;have zi:bi<w.heap.size:=(zG.1 h).1;clear h;go_enter func124,ntmps124;by_cases he:v.id=id
 ·have h1:(v.id==id)=true:=by rw[beq_iff_eq];exact he
  rw[decide_eq_true he];replace he:=zH he;go_wp2;go_ret;exact⟨rfl,zN _ _⟩
 ·have h1:(v.id==id)=false:=by rw[beq_eq_false_iff_ne];exact he
  rw[decide_eq_false he];replace he:=zH he;go_wp2;go_ret;exact⟨rfl,zN _ _⟩
set_option maxRecDepth 100000 in
theorem qje(A c)(vs:List Vol)(hl:vs.length<=16)(bi:Nat)(id:Int)(q1 q2 q3:Value)(w:World)(h:w.heap[bi]?=some (.cells #[.int .u32 id,q1,q2,q3] 36 (0,0)))(hr:Rd w w.heap.size 4 A vs.length (ZT vs)):Calls prog 60 #[.slice A vs.length c,.func (.func 124) #[] #[.pointer (some ⟨bi,0,none⟩)]] w (zm (λu _=>VolIx vs id u) w):=by
 replace hr:=zH hr;go_enter func60,ntmps60;go_wp2_with fail;go_loopw [8] (λi wr=>∃k:Nat,k<=vs.length/\i=.int .i64 (k:Int)/\Ext w wr/\∀j (hj:j<vs.length),j<k->vs[j].id≠id) (λi _=>vs.length-(intOf i).toNat)
 case atStart=>exact⟨0,Nat.zero_le _,rfl,Ext.refl _,λj _ hj=>absurd hj (Nat.not_lt_zero _)⟩
 case round=>
  obtain⟨k,hk,rfl,xr,hno⟩:=hrel;replace hno:=zH hno;by_cases hlt:k<vs.length
  ·obtain⟨bv,offv,rfl,hbv,hCF⟩:=hr.out.2 zO;obtain⟨d0,d1,d2,d3⟩:=vX vs k hlt;replace d0:=Ext.cell xr (hCF _ _ d0);replace d1:=Ext.cell xr (hCF _ _ d1);replace d2:=Ext.cell xr (hCF _ _ d2);replace d3:=Ext.cell xr (hCF _ _ d3);have HAT:=zH (λhe=>qhC (id:=id) hlt he λi hi hik=>hno.out i hi hik);have HNO:=zH (λ(he:vs[k].id≠id) j (hj:j<vs.length) (hjk:j<k+1)=>by
    rcases Nat.lt_or_ge j k with h1|h1
    ·exact hno.out j hj h1
    ·obtain rfl:j=k:=zO;exact he)
   generalize vs[k]=u at*;rw[<-Nat.add_assoc]at d1 d2 d3;clear hCF;have hQU:=zH (IntWalk.wrap64_in ((k:Int)+1) zO);have hV:=qls u bi id q1 q2 q3 wr (qb h xr);go_wp2_with fail;refine hV.mono ?_;rintro e w2 ⟨rfl,hB⟩;clear d0 d1 d2 d3 hV;by_cases he:u.id=id
   ·rw[decide_eq_true he];have HQ:=zH (HAT.out he);clear HAT HNO;replace he:=zH he;go_wp2_with fail;refine bodyPost_ret (v:=.int .i64 (k:Int)) ?_ rfl ⟨_,rfl,HQ.out,Ext.trans xr hB⟩;simp[results,results60,go_sem]
   ·rw[decide_eq_false he];have HQ:=zH (HNO.out he);clear HAT HNO;replace he:=zH he;have hw1:=hQU.out;go_wp2_with fail;refine⟨⟨k+1,hlt,rfl,Ext.trans xr hB,λj hj hjk=>HQ.out j hj hjk⟩,?_⟩;simp[intOf];omega
  ·obtain rfl:k=vs.length:=zO;have HQ:=zH (qcN (id:=id) λi hi=>hno.out i hi hi);go_wp2_with fail;refine bodyPost_ret (v:=.int .i64 (-1)) ?_ rfl ⟨_,rfl,HQ.out,xr⟩;simp[results,results60,go_sem]
set_option maxRecDepth 100000 in
theorem vhas_any(A c)(vs:List Vol)(hl:vs.length<=16)(bi:Nat)(id:Int)(q1 q2 q3:Value)(w:World)(h:w.heap[bi]?=some (.cells #[.int .u32 id,q1,q2,q3] 36 (0,0)))(hr:Rd w w.heap.size 4 A vs.length (ZT vs)):Calls prog 123 #[.slice A vs.length c,.func (.func 124) #[] #[.pointer (some ⟨bi,0,none⟩)]] w (Ret (.bool (jf vs id).isSome) w):=by
 have HV:=zH (qje A c vs hl bi id q1 q2 q3 w h hr);clear h hr;go_enter func123,ntmps123;go_wp2_with fail;refine HV.out.mono ?_;clear HV;rintro e w2 ⟨u,rfl,hu,hB⟩;rcases hu with⟨j,hj,rfl,hv⟩|⟨rfl,hv⟩
 ·have e1:decide ((j:Int)≥0)=true:=decide_eq_true zO;replace hv:=zH hv;go_wp2;go_ret;exact⟨by rw[hv.out];rfl,hB⟩
 ·replace hv:=zH hv;go_wp2;go_ret;exact⟨by rw[hv.out];rfl,hB⟩
end Go.Proofs.YtmeadnlmepcmbaaGreat
