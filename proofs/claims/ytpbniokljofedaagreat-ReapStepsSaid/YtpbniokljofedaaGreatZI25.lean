/- Texts Leave, joined. -/
import Derived.Test.YtpbniokljofedaaGreatZI23
import Derived.Test.YtpbniokljofedaaGreatZI24
set_option linter.unusedSimpArgs false
set_option linter.unusedVariables false
set_option maxHeartbeats 8000000
open Go.Proofs.Tryz
namespace Go.Proofs.YtpbniokljofedaaGreat
open Go.RowKit Go.Shelf
attribute [local go_sem] Oper.semAt_some
def Jj (st:List (Nat×Int)):List Value:=st.flatMap fun p=>[.int .i64 (p.1:Int),.int .i64 p.2]
theorem XW (s r:List (Nat×Int)):Jj (s++r)=Jj s++Jj r:=by unfold Jj;rw[List.flatMap_append]
theorem qbm (x:Nat×Int):Jj [x]=[.int .i64 (x.1:Int),.int .i64 x.2]:=rfl
theorem qbl:∀ st:List (Nat×Int),(Jj st).length=st.length*2
 | []=>rfl
 |x :: r=>by have:=qbl r;have e:Jj (x :: r)=[.int .i64 (x.1:Int),.int .i64 x.2]++Jj r:=rfl;rw[e];simp only[List.length_append,List.length_cons,List.length_nil];omega
theorem qY.fresh {lo b g:Nat} {k:Option Nat} {w W C:World} (h:qY lo b g k w W) (hl:lo<=w.heap.size) (hx:Below w.heap.size W C):qY lo b g k w C:=
 ⟨h.below.trans (Below.mono hx hl),fun q hq hn=>(hx.block q hq).trans (h.rows q hq hn)⟩
theorem jx.bad2 {D:Nat->Prop} {B lo b g:Nat} {k:Option Nat} {S:Sto} {a:Nat} {w w2 W:World} (x2:Ext w w2) (hl:lo<=w.heap.size) (h:Qz S (-1) S.now a=none) (hB:qY lo b g k w2 W):∀ C,Below w2.heap.size W C->jx D B lo b g k S a w (.returned (.int .i64 8)) C:=fun C hC=>by have z2:=x2.size;exact jx.bad h ((qY.of_ext x2 hl).trans (hB.fresh zO hC) (Zf.refl _ _))
theorem jx.good2 {D:Nat->Prop} {B lo b g:Nat} {k:Option Nat} {S S0:Sto} {a:Nat} {t:List UInt8} {w w2 W:World} (h0:Bch D B lo b g k S0 w) (x2:Ext w w2) (h:Qz S (-1) S.now a=some t) (hB:qY lo b g k w2 W) (hb:Bch D B lo b g k (qu S t) W):∀ C,Below w2.heap.size W C->jx D B lo b g k S a w (.returned (.int .i64 0)) C:=fun C hC=>by have z2:=x2.size;have hl:=h0.size.2.2.2.2.2.1;exact jx.good h ((qY.of_ext x2 hl).trans (hB.fresh zO hC) (Zf.refl _ _)) ((h0.ext x2).fresh hb hC)
theorem VN {n lo:Nat} {R:Ending->World->Prop} {a:Act} {W:World} {v:Value} {Ds:List Nat} (h4:a.tmps[4]?.getD undef=v) (hd:a.defers=Ds.map Gv) (hm:jc lo Ds W) (hR:∀ C,Below lo W C->R (.returned v) C):bodyPostM Fence.wide n prog Tryz.f104 R .ret a W:=by
 change LeavesInM Fence.wide n prog Tryz.f104 a.tmps R a.defers .returning W;rw[hd];refine XJ (lo:=lo) Ds W hm fun C h1 h2 h3 h4' h5=>⟨v,?_,hR C ⟨h3,h4',h5,zO,fun q hq=>h1 q fun hm'=>?_⟩⟩
 ·simp[results,results104,go_sem,h4]
 ·have:=(hm.at_ q hm').1;omega
theorem Tryz.info_owed:(Tryz.prog.info? 221).map (fun i=>(i.zero,i.size,i.bytes))=some (some (.agg #[.int .i64 0,.int .i64 0]),2,16):=zQ
theorem qcl {B:Nat} (b base m:Nat) (f:List Nat->List (Nat×Int)) (p:Value->Prop):OwnFrom B (fun (pre:List Nat) W=>∃ v,W.heap[b]?=some (.cells #[v] 222 (0,0))/\W.ownsRow base 221 2 v (m+pre.length) (Jj (f pre))/\p v):=fun s A C row ⟨v,h1,h2,h3⟩ hg hr =>
 ⟨v,Qt (β:=Unit) _ _ _ _ () A C row h1 hg hr,h2.kept hg (by
  rcases hv:v.ownBlock with _|g
  ·exact .inl rfl
  ·refine .inr fun e=>?_;obtain⟨_,o,ho,hc⟩:=hr g e.symm;rcases XX h2 g hv with ⟨c,fz,h3⟩;rw[ho] at h3;cases h3;cases hc),h3⟩
theorem qaE {β:Type} {B lo:Nat} {Ds:List Nat} (hB:∀ D∈Ds,D<B):OwnFrom B (fun (_:β) W=>jc lo Ds W):=fun _ A C row h hg hr=>⟨h.nodup,fun D hD=>⟨(h.at_ D hD).1,(hg.block D (zG.1 (h.at_ D hD).2).1 fun e=>by have:=(hr D e.symm).1;have:=hB D hD;omega).trans (h.at_ D hD).2⟩⟩
theorem refs_rev {xs:List It} {us:List Ui} (h:us.map (·.1)=xs) (l:Int):(Zn (fun j=>us.length-1-j) us.length).map (fun j=>((us[j]?.getD uiz).1.r.toNat,l))=((qX xs).map fun r=>(r,l)).reverse:=by
 subst h;refine List.ext_getElem (by simp[zj,qX]) fun i h1 h2=>?_;have h3:i<us.length:=by simpa [zj] using h1
 have e1:(Zn (fun j=>us.length-1-j) us.length)[i]'(by rw[zj];exact h3)=us.length-1-i:=by have:=Yy us.length us.length i h3;rw[zL (by rw[zj];exact h3)] at this;exact Option.some.inj this
 rw[List.getElem_map,e1,List.getElem_reverse,List.getElem_map];have h4:us.length-1-i<us.length:=zO;have h5:us[us.length-1-i]?.getD uiz=us[us.length-1-i]:=by rw[zL h4];rfl
 rw[h5];simp[qX]
theorem qgD:∀ t:List UInt8,JV t<=255*t.length
 | []=>by simp[JV]
 |x :: r=>by have:=qgD r;have h:=x.toNat_lt;simp only[JV,List.length_cons];omega
theorem jc.add {lo n D:Nat} {Ds:List Nat} {W:World} (h:jc lo Ds W) (hlt:∀ D∈Ds,D<n) (hD:n<=D) (hl:lo<=D) (hr:W.heap[D]?=some (.deferred (some []))):jc lo (D :: Ds) W:=by
 refine⟨List.nodup_cons.2 ⟨fun hm=>by have:=hlt D hm;omega,h.nodup⟩,fun q hq=>?_⟩;rcases List.mem_cons.1 hq with rfl|hq
 ·exact⟨hl,hr⟩
 ·exact h.at_ q hq
theorem jc.bkeep {lo lo' b g:Nat} {k:Option Nat} {Ds:List Nat} {w W:World} (h:jc lo Ds w) (hk:qY lo' b g k w W) (hn:∀ q,lo<=q->¬B3 b g k q):jc lo Ds W:=
 ⟨h.nodup,fun D hD=>⟨(h.at_ D hD).1,(hk.rows D (zG.1 (h.at_ D hD).2).1 (hn D (h.at_ D hD).1)).trans (h.at_ D hD).2⟩⟩
structure LvR (D:Nat->Prop) (B lo b g:Nat) (k:Option Nat) (S:Sto) (a:Nat) (w2:World) (n:Nat) (Ds:List Nat) (wr:World):Prop where
 ex:∃ st t sv,n=JV t/\LvI S a st t/\Bch D B lo b g k (qu S t) wr/\wr.heap[w2.heap.size+1]?=some (.cells #[sv] 222 (0,0))/\wr.ownsRow w2.heap.size 221 2 sv st.length (Jj st)
 keep:qY lo b g k w2 wr
 marks:jc (w2.heap.size+2) Ds wr
def maskL:List Bool:=List.replicate 7 false++List.replicate 133 true
set_option maxRecDepth 100000 in
theorem UX (D:Nat->Prop) (B lo b g:Nat) (k:Option Nat) (S:Sto) (hS:qo S=true) (a:Nat) (ha:8<=a) (bK:a<256) (w:World) (h:Bch D B lo b g k S w):Calls prog 104 #[.pointer (some ⟨b,0,none⟩),.int .i64 (a:Int)] w (jx D B lo b g k S a w):=by
 obtain⟨ik,hzb,uo,hzg,rY,uq,wX⟩:=h.size;obtain⟨hlen,hAX⟩:=h.lens;obtain⟨A1,n1,c1,v2,c3,A4,c4,kr,nZ,ui⟩:=h.cells;have aB:w.ownsRow lo 5 1 (.slice (some ⟨g,0,none⟩) 256 c3) 256 (S.now.map bv):=by obtain⟨A1',n1',c1',v2',c3',A4',eP,lY,uO,_⟩:=h.ex;have:=(kr 2).symm.trans (qa lY 2);simp at this;rw[this];exact uO
 have aT:Bys w w.heap.size (.slice (some ⟨g,0,none⟩) 256 c3) S.now:=Bys.of_own aB;have HC:=zH (GT _ S.now zO w aT);have h0:=zH h;have pM:=zH (LvI.start hS ha bK);clear aT aB nZ ui h wX;refine(callsIn_wide (n:=3)).1 ?_;refine callsIn_of_wp_marks func104 rfl trivial ?_ rfl;simp only[ntmps104,List.size_toArray,List.length_cons,List.length_nil,Nat.reduceAdd,Nat.reduceSub,Array.replicate_succ,Array.replicate_zero,List.push_toArray,List.append_toArray,List.nil_append,List.cons_append];refine wpIn_wide.2 ?_;go_wp2_with fail;refine HC.mono ?_;clear HC;rintro e w2 ⟨u,rfl,hF,hB⟩;have x2:Ext w w2:=hB;obtain⟨AF,cF,rfl,-,-⟩:=qy hF;obtain⟨bF,oF,rfl,hbF,hFlo,hcF⟩:∃ bF oF,AF=some ⟨bF,oF,none⟩/\bF<w2.heap.size/\w.heap.size<=bF/\∀ j,j<256->w2.cell? ⟨bF,oF+j,none⟩=some (.int .u8 (ZE S j:Int)):=by rw[hlen] at hF;obtain⟨bF,oF,e,h1,h2⟩:=(Rd.of_own hF).2 zO;have aP:=Ze.of_own hF ⟨bF,oF,none⟩ _ _ (by rw[e]);exact⟨bF,oF,e,h1,aP,fun j hj=>h2 j _ (by rw[List.getElem?_map,zL zO];simp[ZE,zL (show j<S.now.length by omega)])⟩
 have hIS:Hid (∀ W,qY lo b g k w2 W->∀ j,j<256->W.cell? ⟨bF,oF+j,none⟩=some (.int .u8 (qT S.now j:Int))):=zH fun W hW j hj=>hW.keepX ⟨bF,oF+j,none⟩ _ (fun hx=>by have:=(h0.out.b3 bF hx).2;omega) (hcF j hj);clear hcF;have bI:=zH (h0.out.ext x2);clear hB hF kr;go_wp2_with fail;generalize aO:(World.alloc (World.alloc w2 _) _)=w3;have dJ:Ext w2 w3:=by rw[<-aO];exact(zN _ _).trans (zN _ _)
 have rS:w3.heap[w2.heap.size+1]?=some (.cells #[.slice (some ⟨w2.heap.size,0,none⟩) 1 1] 222 (0,0)):=by rw[<-aO];exact zI _ _ _ zA3
 have oS:w3.ownsRow w2.heap.size 221 2 (.slice (some ⟨w2.heap.size,0,none⟩) 1 1) 1 (Jj [(a,-1)]):=by have h:=World.ownsRow_lit (base:=w2.heap.size) (e:=221) (size:=2) w2 #[.int .i64 (a:Int),.int .i64 (-1)] 1 (zM _) zA7 rfl;rw[<-aO];exact h.alloc _
 clear aO;have hR0:LvR D B lo b g k S a w2 (JV S.now) [] w3:=⟨⟨[(a,-1)],S.now,_,rfl,pM.out,bI.out.ext dJ,rS,oS⟩,qY.of_ext dJ (by have:=x2.size;omega),jc.nil _ _⟩
 replace hR0:=zH hR0;clear rS oS dJ bI pM;refine qcA maskL (JV S.now) (fun n _ Ds wr=>LvR D B lo b g k S a w2 n Ds wr) hR0.out zQ ?_;intro nn gg Ds wr K0 hrel hK0;replace hK0:=zH hK0;clear hR0;obtain⟨st,t,sv,ny,pM,wW,rS,oS⟩:=hrel.ex;have hkp:=zH hrel.keep;have hmk:=zH hrel.marks;have xz:=hrel.keep.below.size;clear hrel;replace ny:=zH ny;replace pM:=zH pM;replace wW:=zH wW;dsimp only[mixL,maskL,List.replicate,List.cons_append,List.nil_append,List.append_assoc,cond_true,cond_false,List.append_eq,Nat.reduceAdd];generalize gg 7=v7,gg 8=v8,gg 9=v9,gg 10=v10,gg 11=v11,gg 12=v12,gg 13=v13,gg 14=v14,gg 15=v15,gg 16=v16,gg 17=v17,gg 18=v18,gg 19=v19,gg 20=v20,gg 21=v21,gg 22=v22,gg 23=v23,gg 24=v24,gg 25=v25,gg 26=v26,gg 27=v27,gg 28=v28,gg 29=v29,gg 30=v30,gg 31=v31,gg 32=v32,gg 33=v33,gg 34=v34,gg 35=v35,gg 36=v36,gg 37=v37,gg 38=v38,gg 39=v39,gg 40=v40,gg 41=v41,gg 42=v42,gg 43=v43,gg 44=v44,gg 45=v45,gg 46=v46,gg 47=v47,gg 48=v48,gg 49=v49,gg 50=v50,gg 51=v51,gg 52=v52,gg 53=v53,gg 54=v54,gg 55=v55,gg 56=v56,gg 57=v57,gg 58=v58,gg 59=v59,gg 60=v60,gg 61=v61,gg 62=v62,gg 63=v63,gg 64=v64,gg 65=v65,gg 66=v66,gg 67=v67,gg 68=v68,gg 69=v69,gg 70=v70,gg 71=v71,gg 72=v72,gg 73=v73,gg 74=v74,gg 75=v75,gg 76=v76,gg 77=v77,gg 78=v78,gg 79=v79,gg 80=v80,gg 81=v81,gg 82=v82,gg 83=v83,gg 84=v84,gg 85=v85,gg 86=v86,gg 87=v87,gg 88=v88,gg 89=v89,gg 90=v90,gg 91=v91,gg 92=v92,gg 93=v93,gg 94=v94,gg 95=v95,gg 96=v96,gg 97=v97,gg 98=v98,gg 99=v99,gg 100=v100,gg 101=v101,gg 102=v102,gg 103=v103,gg 104=v104,gg 105=v105,gg 106=v106,gg 107=v107,gg 108=v108,gg 109=v109,gg 110=v110,gg 111=v111,gg 112=v112,gg 113=v113,gg 114=v114,gg 115=v115,gg 116=v116,gg 117=v117,gg 118=v118,gg 119=v119,gg 120=v120,gg 121=v121,gg 122=v122,gg 123=v123,gg 124=v124,gg 125=v125,gg 126=v126,gg 127=v127,gg 128=v128,gg 129=v129,gg 130=v130,gg 131=v131,gg 132=v132,gg 133=v133,gg 134=v134,gg 135=v135,gg 136=v136,gg 137=v137,gg 138=v138,gg 139=v139;clear gg;rcases List.eq_nil_or_concat st with rfl|⟨s,x,rfl⟩
 ·obtain⟨As,cs,rfl,-,-⟩:=qy oS;have aI:=zH (jx.good2 h0.out x2 pM.out.done hkp.out wW.out);have kS:=qa rS;clear oS hK0;go_wp2_with fail;exact VN rfl rfl hmk.out fun C hC=>aI.out C (hC.mono zO)
 ·rw[List.concat_eq_append] at *;obtain⟨a1,l1⟩:=x;obtain⟨ht8,oh,oD,htl6⟩:=pM.out.top;simp only at ht8 oh oD htl6;obtain⟨m,hm0⟩:∃ m,m=s.length:=⟨_,rfl⟩
  rw[List.length_append,List.length_singleton,<-hm0,XW,qbm] at oS;rcases oS.2 with ⟨-,h0'⟩|⟨gb,cap,cur,rfl,rY,aC,fP,eG,bV,nN⟩
  ·exfalso;omega
  ·obtain⟨gb',off',e0,hgb',aS⟩:=(Rd.of_own oS).2 zO;simp only[Option.some.injEq,Addr.mk.injEq,and_true] at e0;obtain⟨rfl,rfl⟩:=e0;have hls:(Jj s).length=m*2:=by rw[qbl,hm0]
   have kb0:=aS (m*2) (.int .i64 (a1:Int)) (by rw[List.getElem?_append_right zO,hls];simp);have kb1:=aS (m*2+1) (.int .i64 l1) (by rw[List.getElem?_append_right zO,hls];simp);rw[Nat.zero_add] at kb0 kb1;clear aS;have lN:gb≠w2.heap.size+1:=qN aC rS zA1;have oS2:=Xm (xs:=Jj s) (news:=[.int .i64 (a1:Int),.int .i64 l1]) (n:=m) (m:=1) oS hls;have hw22:wrap64 (m:Int)=(m:Int):=IntWalk.wrap64_in _ (by unfold maxLen at eG;omega);have hmc:m<=cap:=Nat.le_of_succ_le fP;have hcap:¬cap=0:=fun e=>by rw[e] at fP;exact absurd fP (Nat.not_succ_le_zero _)
   have kS:=qa rS;have fS:=qe rS;have zS:w2.heap.size+1<wr.heap.size:=(zG.1 rS).1;have zg:gb<wr.heap.size:=(zG.1 aC).1;replace oS2:=zH oS2;replace hm0:=zH hm0;replace pM:=zH pM.out;clear aC nN bV eG fP oS hls;go_upto_region 6 with fail;have dG:Below w2.heap.size wr ((wr.setCell ⟨w2.heap.size+1,0,none⟩ (.slice (some ⟨gb,0,none⟩) m cap)).alloc (.cells #[.int .i64 (a1:Int),.int .i64 l1] 221)):=Below.alloc (Below.setCell (Below.refl _ _) (p:=⟨w2.heap.size+1,0,none⟩) zA3 _) (by simpa using xz) _;have rX4:((wr.setCell ⟨w2.heap.size+1,0,none⟩ (.slice (some ⟨gb,0,none⟩) m cap)).alloc (.cells #[.int .i64 (a1:Int),.int .i64 l1] 221)).heap[wr.heap.size]?=some (.cells #[.int .i64 (a1:Int),.int .i64 l1] 221 (0,0)):=zI _ _ _ zA3;have rS4:((wr.setCell ⟨w2.heap.size+1,0,none⟩ (.slice (some ⟨gb,0,none⟩) m cap)).alloc (.cells #[.int .i64 (a1:Int),.int .i64 l1] 221)).heap[w2.heap.size+1]?=some (.cells #[.slice (some ⟨gb,0,none⟩) m cap] 222 (0,0)):=(zK _ _ _ (by simpa using zS)).trans (qi rS 0 _);have ko4:∀ q,q<wr.heap.size->q≠w2.heap.size+1->((wr.setCell ⟨w2.heap.size+1,0,none⟩ (.slice (some ⟨gb,0,none⟩) m cap)).alloc (.cells #[.int .i64 (a1:Int),.int .i64 l1] 221)).heap[q]?=wr.heap[q]?:=fun q hq aN=>(zK _ _ _ (by simpa using hq)).trans (zJ _ _ _ _ aN);have z4:((wr.setCell ⟨w2.heap.size+1,0,none⟩ (.slice (some ⟨gb,0,none⟩) m cap)).alloc (.cells #[.int .i64 (a1:Int),.int .i64 l1] 221)).heap.size=wr.heap.size+1:=zA3;generalize hw4:World.alloc (World.setCell wr _ _) _=w4 at *;clear hw4 kS fS kb0 kb1;have oS4:w4.ownsRow w2.heap.size 221 2 (.slice (some ⟨gb,0,none⟩) m cap) m (Jj s):=QA oS2.out fun q hq=>by cases hq;exact ko4 gb zg lN
   have iI:=(h0.out.ext x2).fresh wW.out dG;have sZ:=zH (hkp.out.fresh (by have:=x2.size;omega) dG);have hm4:=zH (hmk.out.keep (W:=w4) fun q o hq ho=>(ko4 q (zG.1 hq).1 (fun e=>by subst e;rw[rS] at hq;cases hq;cases ho)).trans hq);have hle:qT t a1<=qT S.now a1:=pM.out.le a1;have oP:=pM.out.may;clear lN wW hkp hmk rS ko4 oS2 dG;obtain⟨A1,n1,c1,v2,c3,A4,c4,xG,hog,-⟩:=iI.ex;obtain⟨hkg,hfg0,-,hzg4⟩:=zm hog;have hkga:=hkg a1 oh;have g0:∀ W,qk.r w4 W->∀ i,W.cell? ⟨b,i,none⟩=#[.slice A1 n1 c1,v2,.slice (some ⟨g,0,none⟩) 256 c3,.slice A4 256 c4][i]?:=fun W hW=>qa (qb xG hW);have g1:∀ W,qk.r w4 W->∀ i,W.cell? ⟨wr.heap.size,i,none⟩=#[.int .i64 (a1:Int),.int .i64 l1][i]?:=fun W hW=>qa (qb rX4 hW);have g2:∀ W,qk.r w4 W->W.cell? ⟨g,a1,none⟩=some (.int .u8 (qT t a1:Int)):=fun W hW=>Ext.cell hW hkga;have az:=UI t a1;have hBJ:=zH hog;have hgb2:g≠b:=iI.size.2.2.2.2.1;have hgS:Hid (∀ q,w2.heap.size<=q->q≠g):=zH fun q hq e=>by have:=(h0.out.b3 g (.inr (.inl rfl))).2;have:=x2.size;omega
   replace iI:=zH iI;replace oS4:=zH oS4;replace oP:=zH oP;replace hle:=zH hle;obtain⟨nv,iw⟩:∃ nv,qT t a1=nv:=⟨_,rfl⟩
   rw[iw] at g2 az hle;replace iw:=zH iw;clear hog hkg hfg0 hkga;refine qm zQ ?_;refine qL (w:=w4) qk (qD []) (List.replicate 10 true) 0 zQ zQ zQ zQ zQ zQ zQ ?st (Rel.drew _ _) ?walk
   case st=>exact qj (fun _ h=>by cases h)
   case walk =>
    intro K hK;dsimp only[qp,List.replicate];repeat ((first|(refine qd ?_ zA0 zA0 (fun W hW _=>⟨W,?_,Rel.refl _ W⟩) ?_;rotate_left;(go_simp<;>with_reducible rfl))|(refine qh zA0 ?_));try simp only[Act.put,ql,qf,qc,qg,zA,zB,zC])
    first
     |(refine qd (.pointer (some ⟨g,a1,none⟩)) zA0 zA0 (fun W hW _=>⟨W,?_,Rel.refl _ W⟩) ?_
       ·go_simp;intro iD;exfalso;omega
       simp only[Act.put,qf,qc,qg,zA,zB,zC])
     |skip
    repeat ((first|(refine qd ?_ zA0 zA0 (fun W hW _=>⟨W,?_,Rel.refl _ W⟩) ?_;rotate_left;(go_simp<;>with_reducible rfl))|(refine qh zA0 ?_));try simp only[Act.put,ql,qf,qc,qg,zA,zB,zC])
    refine qt (hK _ _ fun W hW hF=>?_);clear hF hK;have hW:Ext w4 W:=hW;refine zC3 ?_;go_wp2;refine Qm ?_;by_cases h0z:nv=0
    ·have hq:=zH (pM.out.bad0 (by rw[iw.out];exact h0z));subst h0z;have aI:=zH (jx.bad2 (a:=a) (D:=D) (B:=B) x2 uq hq.out (sZ.out.fresh (by have:=x2.size;omega) (Below.mono hW zO)));have yU:=zH (hm4.out.keep (W:=W) fun q o hq _=>(Below.block hW q (zG.1 hq).1).trans hq);clear g0 g1 g2;go_wp2_with fail;exact VN rfl rfl yU.out fun C hC=>aI.out C (hC.mono zO)
    ·have aV:((nv:Int) == 0)=false:=by rw[beq_eq_false_iff_ne];omega
     have aX:decide (nv=0)=false:=decide_eq_false h0z;have h0':=zH h0z;by_cases h1:1<nv
     ·have hd1:decide ((1:Int)<(nv:Int))=true:=decide_eq_true zO;have ae:=zH (pM.out.more (by rw[iw.out];exact h1));replace h1:=zH h1;clear h0z;go_upto_region 8 with fail;have g0':∀ V,qk.r W V->_:=fun V hV=>g0 V (hW.trans hV);have g1':∀ V,qk.r W V->_:=fun V hV=>g1 V (hW.trans hV);have g2':∀ V,qk.r W V->_:=fun V hV=>g2 V (hW.trans hV);clear g0 g1 g2;refine qm zQ ?_;refine qL (w:=W) qk (qD []) (List.replicate 10 true) 0 zQ zQ zQ zQ zQ zQ zQ ?st (Rel.drew _ _) ?walk
      case st=>exact qj (fun _ h=>by cases h)
      case walk =>
       intro K hK;dsimp only[qp,List.replicate];repeat ((first|(refine qd ?_ zA0 zA0 (fun W hW _=>⟨W,?_,Rel.refl _ W⟩) ?_;rotate_left;(go_simp<;>with_reducible rfl))|(refine qh zA0 ?_));try simp only[Act.put,ql,qf,qc,qg,zA,zB,zC])
       first
        |(refine qd (.pointer (some ⟨g,a1,none⟩)) zA0 zA0 (fun W hW _=>⟨W,?_,Rel.refl _ W⟩) ?_
          ·go_simp;intro iD;exfalso;omega
          simp only[Act.put,qf,qc,qg,zA,zB,zC])
        |skip
       repeat ((first|(refine qd ?_ zA0 zA0 (fun W hW _=>⟨W,?_,Rel.refl _ W⟩) ?_;rotate_left;(go_simp<;>with_reducible rfl))|(refine qh zA0 ?_));try simp only[Act.put,ql,qf,qc,qg,zA,zB,zC])
       refine qt (hK _ _ fun V hV hF=>?_);clear hF hK;have hV:Ext W V:=hV;refine zC3 ?_;go_wp2;refine Qm ?_;have wP:Ext w4 V:=Ext.trans hW hV;have g0:∀ U,qk.r V U->_:=fun U hU=>g0' U (Ext.trans hV hU);have g1:∀ U,qk.r V U->_:=fun U hU=>g1' U (Ext.trans hV hU);have g2:∀ U,qk.r V U->_:=fun U hU=>g2' U (Ext.trans hV hU);have hfg:∀ U,Ext V U->U.frozen? ⟨g,a1,none⟩=false:=fun U hU=>(zm (QM hBJ.out (Ext.trans wP hU))).2.1 a1;obtain⟨n',hm⟩:∃ n',nv=n'+1:=⟨nv-1,by have:=h1.out;omega⟩
       have hmt:(UInt8.ofNat (nv-1)).toNat=n':=by rw[show nv-1=n' by omega,UInt8.toNat_ofNat'];omega
       have hwv:IntKind.u8.wrap ((nv:Int)-1)=(n':Int):=by rw[qcu (n:=nv) zO az,hmt]
       have lV:bv (UInt8.ofNat (nv-1))=.int .u8 (n':Int):=by show Value.int .u8 _=_;rw[hmt]
       replace lV:=zH lV;replace hm:=zH hm;replace wP:=zH wP;clear hmt;clear g0' g1' g2' hW hV;go_upto_region 9 with fail;refine qm zQ ?_;refine qL (w:=V) qk (qD []) (List.replicate 11 true) 1 zQ zQ zQ zQ zQ zQ zQ ?st (Rel.drew _ _) ?walk
       case st=>exact qj (fun _ h=>by cases h)
       case walk =>
        intro K hK;dsimp only[qp,List.replicate];repeat ((first|(refine qd ?_ zA0 zA0 (fun W hW _=>⟨W,?_,Rel.refl _ W⟩) ?_;rotate_left;(go_simp<;>with_reducible rfl))|(refine qh zA0 ?_));try simp only[Act.put,ql,qf,qc,qg,zA,zB,zC])
        first
         |(refine qd (.pointer (some ⟨g,a1,none⟩)) zA0 zA0 (fun W hW _=>⟨W,?_,Rel.refl _ W⟩) ?_
           ·go_simp;intro iD;exfalso;omega
           simp only[Act.put,qf,qc,qg,zA,zB,zC])
         |skip
        repeat ((first|(refine qd ?_ zA0 zA0 (fun W hW _=>⟨W,?_,Rel.refl _ W⟩) ?_;rotate_left;(go_simp<;>with_reducible rfl))|(refine qh zA0 ?_));try simp only[Act.put,ql,qf,qc,qg,zA,zB,zC])
        first
         |(refine qd (.pointer (some ⟨g,a1,none⟩)) zA0 zA0 (fun W hW _=>⟨W,?_,Rel.refl _ W⟩) ?_
           ·go_simp;intro iD;exfalso;omega
           simp only[Act.put,qf,qc,qg,zA,zB,zC])
         |skip
        repeat ((first|(refine qd ?_ zA0 zA0 (fun W hW _=>⟨W,?_,Rel.refl _ W⟩) ?_;rotate_left;(go_simp<;>with_reducible rfl))|(refine qh zA0 ?_));try simp only[Act.put,ql,qf,qc,qg,zA,zB,zC])
        refine qt (hK _ _ fun U hU hF=>?_);clear hF hK;have hU:Ext V U:=hU;refine zC3 ?_;have k2:=g2 U hU;have f2:=hfg U hU;have x4U:=wP.out.trans hU;have sF:=(iI.out.ext x4U).count oh (UInt8.ofNat (nv-1));rw[lV.out] at sF;have hdn:ZL t a1=t.set a1 (UInt8.ofNat (nv-1)):=by unfold ZL;rw[iw.out]
        have xy:qY lo b g k w2 (U.setCell ⟨g,a1,none⟩ (.int .u8 (n':Int))):=(sZ.out.fresh (by have:=x2.size;omega) (Below.mono x4U zO)).trans sF.2 (Zf.refl _ _);have cB:∀ q,q≠g->(U.setCell ⟨g,a1,none⟩ (.int .u8 (n':Int))).heap[q]?=U.heap[q]?:=fun q hq=>zJ _ _ _ _ hq;have rSB:=(cB (w2.heap.size+1) (hgS.out _ zO)).trans (qb rS4 x4U);have oSB:(U.setCell ⟨g,a1,none⟩ (.int .u8 (n':Int))).ownsRow w2.heap.size 221 2 (.slice (some ⟨gb,0,none⟩) m cap) m (Jj s):=QA (QM oS4.out x4U) fun q hq=>by cases hq;exact cB gb (hgS.out _ rY)
        have hmB:jc (w2.heap.size+2) Ds (U.setCell ⟨g,a1,none⟩ (.int .u8 (n':Int))):=hm4.out.keep fun q o hq ho=>(cB q (fun e=>by subst e;obtain⟨cur,bP⟩:=Zl hBJ.out (q:=q) rfl;rw[bP] at hq;cases hq;cases ho)).trans ((Below.block x4U q (zG.1 hq).1).trans hq);have hR:LvR D B lo b g k S a w2 (JV (ZL t a1)) Ds (U.setCell ⟨g,a1,none⟩ (.int .u8 (n':Int))):=⟨⟨s,ZL t a1,_,rfl,ae.out,by rw[hdn];exact sF.1,rSB,by rw[<-hm0.out];exact oSB⟩,xy,hmB⟩
        have hlt:JV (ZL t a1)<nn:=by rw[ny.out];have:=Gc (t:=t) (a:=a1) (by rw[iw.out];exact h0'.out);omega
        replace hR:=zH hR;replace hlt:=zH hlt;clear g0 g1 g2 hfg sF xy cB rSB oSB hmB hdn hU x4U;go_wp2_with fail;refine Qm ?_;go_wp2_with fail;exact Gy hK0.out _ hlt.out Ds rfl zQ hR.out
     ·obtain rfl:nv=1:=zO;have hone:Hid (qT t a1=1):=iw;have hKJ:qo (qu S t)=true:=qZ.2 ⟨(qZ.1 hS).1,oP.out,(qZ.1 hS).2.2⟩;have hnn2:=zH (qfv (S:=S) (t:=t) (a:=a1) (by rw[hone.out];decide) (by rw[hone.out];exact hle.out));replace hKJ:=zH hKJ;clear h0z h1;go_upto_region 8 with fail;have g0':∀ V,qk.r W V->_:=fun V hV=>g0 V (hW.trans hV);have g1':∀ V,qk.r W V->_:=fun V hV=>g1 V (hW.trans hV);have g2':∀ V,qk.r W V->_:=fun V hV=>g2 V (hW.trans hV);clear g0 g1 g2;refine qm zQ ?_;refine qL (w:=W) qk (qD []) (List.replicate 10 true) 0 zQ zQ zQ zQ zQ zQ zQ ?st (Rel.drew _ _) ?walk
      case st=>exact qj (fun _ h=>by cases h)
      case walk =>
       intro K hK;dsimp only[qp,List.replicate];repeat ((first|(refine qd ?_ zA0 zA0 (fun W hW _=>⟨W,?_,Rel.refl _ W⟩) ?_;rotate_left;(go_simp<;>with_reducible rfl))|(refine qh zA0 ?_));try simp only[Act.put,ql,qf,qc,qg,zA,zB,zC])
       first
        |(refine qd (.pointer (some ⟨g,a1,none⟩)) zA0 zA0 (fun W hW _=>⟨W,?_,Rel.refl _ W⟩) ?_
          ·go_simp;intro iD;exfalso;omega
          simp only[Act.put,qf,qc,qg,zA,zB,zC])
        |skip
       repeat ((first|(refine qd ?_ zA0 zA0 (fun W hW _=>⟨W,?_,Rel.refl _ W⟩) ?_;rotate_left;(go_simp<;>with_reducible rfl))|(refine qh zA0 ?_));try simp only[Act.put,ql,qf,qc,qg,zA,zB,zC])
       refine qt (hK _ _ fun V hV hF=>?_);clear hF hK;have hV:Ext W V:=hV;refine zC3 ?_;go_wp2;refine Qm ?_;have wP:Ext w4 V:=Ext.trans hW hV;have rSV:=qb rS4 wP;have rXV:=qb rX4 wP;have kXV:=qa rXV;have hbV:=iI.out.ext wP;have hkV:=zH (sZ.out.fresh (by have:=x2.size;omega) (Below.mono wP zO));have hmV:=zH (hm4.out.keep (W:=V) fun q o hq _=>(Below.block wP q (zG.1 hq).1).trans hq);have oSV:=zH (QM oS4.out wP);have HN:=(by obtain⟨A1',n1',c1',A2',n2',c2',c3',A4',eP,lY,gm⟩:=hbV.sto;have H:=vy lo b A1' n1' c1' A2' n2' c2' _ 256 c3' A4' 256 eP (qu S t) hKJ.out a1 ht8 oh V ⟨ik,lY,gm⟩;rw[hnn2.out] at H;exact H:Calls prog 67 #[.pointer (some ⟨b,0,none⟩),.int .i64 (a1:Int)] V (QV (UV V.heap.size (qv S a1)) V))
       have zgV:=hbV.size.2.2.2.1;replace hbV:=zH hbV;clear iI sZ hm4 oS4 rS4 rX4;go_wp2_with fail;refine HN.mono ?_;clear HN;rintro e wN ⟨uN,rfl,hN,wU⟩;have xN:Ext V wN:=wU;have zNh:=xN.size;have z4V:=wP.size;have rXN:=qb rXV xN;have kXN:=qa rXN;have rSN:=qb rSV xN;clear wU kXV;obtain⟨lv,An,nn',cn,er,rfl,aQ⟩:∃ lv An nn' cn er,uN=.tuple #[je lv An nn' cn,.int .i64 er]/\((er≠0/\qv S a1=none)\/(er=0/\∃ xs,qv S a1=some (lv,xs)/\nn'=xs.length/\Zv V.heap.size wN (.slice An nn' cn) xs)):=by
        rcases hnd:qv S a1 with _|⟨l,xs⟩
        ·rw[hnd] at hN;obtain⟨er,aN,rfl⟩:=hN;exact⟨0,none,0,0,er,rfl,.inl ⟨aN,rfl⟩⟩
        ·rw[hnd] at hN;obtain⟨A9,c9,rfl,hi⟩:=hN;exact⟨l,A9,xs.length,c9,0,rfl,.inr ⟨rfl,xs,rfl,rfl,hi⟩⟩
       replace aQ:=zH aQ;clear hN;go_upto_region 11 with fail;generalize hwM:World.alloc wN _=wM;have xM:Ext wN wM:=by rw[<-hwM];exact zN _ _
       have rN:wM.heap[wN.heap.size]?=some (.cells #[.int .i64 lv,.slice An nn' cn] 49 (0,0)):=by rw[<-hwM];exact zI _ _ _ rfl
       clear hwM;have xVM:Ext V wM:=xN.trans xM;have g0:∀ U,qk.r wM U->_:=fun U hU=>g0' U (Ext.trans hV (Ext.trans xVM hU));have g1:∀ U,qk.r wM U->_:=fun U hU=>g1' U (Ext.trans hV (Ext.trans xVM hU));have hfg:∀ U,Ext wM U->U.frozen? ⟨g,a1,none⟩=false:=fun U hU=>(zm (QM hBJ.out (Ext.trans wP (Ext.trans xVM hU)))).2.1 a1;have hcg:∀ U,qk.r wM U->_:=fun U hU=>g2' U (Ext.trans hV (Ext.trans xVM hU));clear g0' g1' g2' hW hV;refine qm zQ ?_;refine qL (w:=wM) qk (qD []) (List.replicate 8 true) 1 zQ zQ zQ zQ zQ zQ zQ ?st (Rel.drew _ _) ?walk
       case st=>exact qj (fun _ h=>by cases h)
       case walk =>
        intro K hK;dsimp only[qp,List.replicate];repeat ((first|(refine qd ?_ zA0 zA0 (fun W hW _=>⟨W,?_,Rel.refl _ W⟩) ?_;rotate_left;(go_simp<;>with_reducible rfl))|(refine qh zA0 ?_));try simp only[Act.put,ql,qf,qc,qg,zA,zB,zC])
        first
         |(refine qd (.pointer (some ⟨g,a1,none⟩)) zA0 zA0 (fun W hW _=>⟨W,?_,Rel.refl _ W⟩) ?_
           ·go_simp;intro iD;exfalso;omega
           simp only[Act.put,qf,qc,qg,zA,zB,zC])
         |skip
        repeat ((first|(refine qd ?_ zA0 zA0 (fun W hW _=>⟨W,?_,Rel.refl _ W⟩) ?_;rotate_left;(go_simp<;>with_reducible rfl))|(refine qh zA0 ?_));try simp only[Act.put,ql,qf,qc,qg,zA,zB,zC])
        refine qt (hK _ _ fun U hU hF=>?_);clear hF hK;have hU:Ext wM U:=hU;refine zC3 ?_;have k2:=hcg U hU;have f2:=hfg U hU;have xVU:Ext V U:=xVM.trans hU;have x4U:Ext w4 U:=wP.trans xVU;have sF:=(hbV.out.ext xVU).count oh 0;have xy:qY lo b g k w2 (U.setCell ⟨g,a1,none⟩ (.int .u8 0)):=(hkV.out.fresh (by have:=x2.size;omega) (Below.mono xVU zO)).trans sF.2 (Zf.refl _ _);have cB:∀ q,q≠g->(U.setCell ⟨g,a1,none⟩ (.int .u8 0)).heap[q]?=U.heap[q]?:=fun q hq=>zJ _ _ _ _ hq;have zB:(U.setCell ⟨g,a1,none⟩ (.int .u8 0)).heap.size=U.heap.size:=zA3;have rSB:=(cB _ (hgS.out _ zO)).trans (qb rSN (xM.trans hU));have rXB:=(cB _ (hgS.out _ zO)).trans (qb rXN (xM.trans hU));have rNB:=(cB wN.heap.size (hgS.out _ zO)).trans (qb rN hU);have oSB:(U.setCell ⟨g,a1,none⟩ (.int .u8 0)).ownsRow w2.heap.size 221 2 (.slice (some ⟨gb,0,none⟩) m cap) m (Jj s):=QA (QM oSV.out xVU) fun q hq=>by cases hq;exact cB gb (hgS.out _ rY)
        have hmB:jc (w2.heap.size+2) Ds (U.setCell ⟨g,a1,none⟩ (.int .u8 0)):=hmV.out.keep fun q o hq ho=>(cB q (fun e=>by subst e;obtain⟨cur,bP⟩:=Zl (QM hBJ.out wP) (q:=q) rfl;rw[bP] at hq;cases hq;cases ho)).trans ((Below.block xVU q (zG.1 hq).1).trans hq);have hFB:=hIS.out _ xy a1 oh;have uj:∀ xs,Zv V.heap.size wN (.slice An nn' cn) xs->Zv V.heap.size (U.setCell ⟨g,a1,none⟩ (.int .u8 0)) (.slice An nn' cn) xs:=fun xs hi=>(hi.ext (xM.trans hU)).keep (by rw[zB];exact zM _) fun p h1 _=>World.cell?_setCell_other _ _ _ _ fun e=>by subst e;simp only at h1;omega
        have zU:V.heap.size<=U.heap.size:=xVU.size;have zNU:wN.heap.size<U.heap.size:=Nat.lt_of_lt_of_le (zG.1 rN).1 hU.size;have hb0:Bch D B lo b g k (qu S (t.set a1 0)) (U.setCell ⟨g,a1,none⟩ (.int .u8 0)):=sF.1;replace uj:=zH uj;replace hb0:=zH hb0;replace xy:=zH xy;replace oSB:=zH oSB;replace hmB:=zH hmB;clear g0 g1 hfg hcg sF rSN rXN rN cB rSV rXV hbV hkV hmV oSV hBJ x4U;replace hU:=zH hU;go_wp2;refine Qm ?_;generalize World.setCell U _ _=wB at *;have kSB:=qa rSB;have kXB:=qa rXB;have kNB:=qa rNB;clear f2 k2;have zVB:V.heap.size<=wB.heap.size:=zO;have zNB:wN.heap.size<wB.heap.size:=zO;replace zB:=zH zB;rcases aQ.out with ⟨aN,hnd⟩|⟨rfl,xs,hnd,rfl,hi⟩
        ·have hq:=zH (pM.out.none_ hone.out hnd);have pg:(er != 0)=true:=by rw[bne_iff_ne];exact aN
         have aI:=zH (jx.bad2 (a:=a) (D:=D) (B:=B) x2 uq hq.out xy.out);clear uj hb0 hFB aQ hnd;go_wp2_with fail;exact VN rfl rfl hmB.out fun C hC=>aI.out C (hC.mono zO)
        ·have dD:=uj.out xs hi;obtain⟨f1,hf1⟩:∃ f1,qT S.now a1=f1:=⟨_,rfl⟩
         have hf0:=hle.out;rw[hf1] at hFB hf0;have hz3:((f1:Int) == 0)=false:=by rw[beq_eq_false_iff_ne];omega
         have hlx:=(zt hnd).2.2;have hl0:=(zt hnd).1;replace hf1:=zH hf1;replace hf0:=zH hf0;by_cases hlev:0<=l1/\lv≠l1
         ·have hq:=zH (pM.out.level hone.out hnd hlev.1 hlev.2);have aI:=zH (jx.bad2 (a:=a) (D:=D) (B:=B) x2 uq hq.out xy.out);have d1:decide (l1≥0)=true:=decide_eq_true hlev.1;have d3:(lv != l1)=true:=by rw[bne_iff_ne];exact hlev.2
          replace hlev:=zH hlev;clear uj hb0 aQ hnd hi dD hlx hl0;go_wp2_with fail;exact VN rfl rfl hmB.out fun C hC=>aI.out C (hC.mono zO)
         ·have hd0:(decide (l1≥0)=false/\decide (0<=l1)=false)\/(decide (l1≥0)=true/\decide (0<=l1)=true/\(lv != l1)=false/\decide (lv=l1)=true):=by
           by_cases h1:0<=l1
           ·by_cases h2:lv=l1
            ·exact .inr ⟨decide_eq_true h1,decide_eq_true h1,by rw[bne_eq_false_iff_eq];exact h2,decide_eq_true h2⟩
            ·exact absurd ⟨h1,h2⟩ hlev
           ·exact .inl ⟨decide_eq_false h1,decide_eq_false h1⟩
          by_cases hlv:0<lv
          ·have hRM:=zH (pM.out.push hone.out hnd hlev hlv);have hKC:JV (t.set a1 0)<nn:=by rw[ny.out];have:=Tl hone.out;omega
           have d5:decide (lv>0)=true:=decide_eq_true hlv;have fH:0<xs.length:=by have:=(Qc hnd).1;unfold Qe jv at this;simp only[Bool.and_eq_true,decide_eq_true_eq] at this;have:=this.1.2.2.2 hlv;omega
           have yX:=fun x hx=>((Qc hnd).2.1 x hx).1.2.2.2.1.1;obtain⟨ps,cZ,⟨An',cn',e9,hc9,hm9,oV⟩,iE,hfr,-⟩:=id dD;simp only[Value.slice.injEq,true_and] at e9;obtain⟨rfl,rfl⟩:=e9;obtain⟨b2,o2,rfl,bI,xn⟩:=oV.2 fH;have hb2lo:V.heap.size<=b2:=hfr _ _ _ rfl;have bU:ps.length=xs.length:=by rw[<-cZ,List.length_map]
           obtain⟨us,wF⟩:∃ us:List Ui,us=ps.map fun p=>((p.1,VB p.2):Ui):=⟨_,rfl⟩
           have lZ:us.length=xs.length:=by rw[wF,List.length_map,bU]
           have wG:∀ i (hi:i<ps.length),us[i]?.getD uiz=(ps[i].1,VB ps[i].2):=fun i hi=>by rw[wF,List.getElem?_map,zL hi];rfl
           have uQ:∀ i (hi:i<ps.length),sv (VB ps[i].2)=ps[i].2:=fun i hi=>by obtain⟨⟨A,c,e⟩,_⟩:=iE ps[i] (List.getElem_mem hi);rw[e];rfl
           have hKV:∀ j,0<=(us[j]?.getD uiz).1.r:=fun j=>by
            by_cases hj:j<ps.length
            ·rw[wG j hj];exact yX _ (by rw[<-cZ];exact List.mem_map_of_mem (f:=fun p:It×Value=>p.1) (List.getElem_mem hj))
            ·rw[List.getElem?_eq_none (by rw[lZ];omega)];exact Int.le_refl 0
           have hBV:=refs_rev (us:=us) (xs:=xs) (by rw[wF,List.map_map];exact cZ) (lv-1);have aS:∀ W,Ext wB W->∀ i,i<us.length->W.cell? ⟨b2,o2+i*5,none⟩=some (.int .u8 (us[i]?.getD uiz).1.k)/\W.cell? ⟨b2,o2+i*5+1,none⟩=some (.int .u32 (us[i]?.getD uiz).1.i)/\W.cell? ⟨b2,o2+i*5+2,none⟩=some (.int .u32 (us[i]?.getD uiz).1.o)/\W.cell? ⟨b2,o2+i*5+3,none⟩=some (.int .i64 (us[i]?.getD uiz).1.r)/\W.cell? ⟨b2,o2+i*5+4,none⟩=some (sv (us[i]?.getD uiz).2):=fun W hW i hi=>by have iK:i<ps.length:=zO;obtain⟨q0,q1,q2,q3,q4⟩:=vz ps i iK;rw[wG i iK];simp only;rw[uQ i iK];exact⟨Ext.cell hW (xn _ _ q0),by rw[Nat.add_assoc];exact Ext.cell hW (xn _ _ q1),by rw[Nat.add_assoc];exact Ext.cell hW (xn _ _ q2),by rw[Nat.add_assoc];exact Ext.cell hW (xn _ _ q3),by rw[Nat.add_assoc];exact Ext.cell hW (xn _ _ q4)⟩
           replace wF:=zH wF;have hFK:=zH lZ;have hAV:=zH (zt hnd);have yM:wrap64 (lv-1)=lv-1:=IntWalk.wrap64_in _ (by have:=hAV.out;omega);replace fH:=zH fH;replace hlev:=zH hlev;replace hlv:=zH hlv;replace aS:=zH aS;replace hBV:=zH hBV;replace hKV:=zH hKV;replace hlx:=zH hlx;clear uj aQ hi dD cZ iE hfr oV xn wG uQ yX hc9 hm9 hl0 bU lZ;rcases hd0 with ⟨d1,d2⟩|⟨d1,d2,d3,d4⟩
           all_goals
            go_wp2_with fail;refine(qap _ xs.length cn wB).mono ?_;rintro e w8 ⟨rfl,rfl⟩;go_wp2_with fail;generalize hwR:World.alloc wB _=wR;have xBR:Ext wB wR:=by rw[<-hwR];exact zN _ _
            have zR:wB.heap.size+1<=wR.heap.size:=by rw[<-hwR];simp
            have rIR:wR.heap[wB.heap.size]?=some (.cells #[.slice (some ⟨b2,o2,none⟩) xs.length cn] 47 (0,0)):=by rw[<-hwR];exact zI _ _ _ rfl
            clear hwR;have hb2R:b2<wR.heap.size:=zO;have hSW:SWi wR wB.heap.size b2 (.slice (some ⟨b2,o2,none⟩) xs.length cn) us:=⟨by rw[qa rIR];rfl,.inr ⟨o2,cn,by rw[hFK.out],fun i hi=>aS.out wR xBR i hi⟩⟩
            have rSR:=qb rSB xBR;have rNR:=qb rNB xBR;have oSR:=QM oSB.out xBR;have hmR:jc (w2.heap.size+2) Ds wR:=hmB.out.keep fun q o hq _=>(Below.block xBR q (zG.1 hq).1).trans hq;have hDR:∀ D∈Ds,D<wR.heap.size:=fun D hD=>(zG.1 (hmR.at_ D hD).2).1;have zV2:w2.heap.size<=V.heap.size:=zO;have hgbV:gb<V.heap.size:=zO;have zwR:w2.heap.size<=wR.heap.size:=zO;have hsR:wB.heap.size<wR.heap.size:=zO;replace hSW:=zH hSW;replace hDR:=zH hDR;clear kSB kXB kNB rSB rXB rNB;generalize fU:({ tmps:=_,defers:=_ }:Act)=act;refine(wpIn_wide (n:=3)).1 ?_;refine wpIn_rangeFunc_ownH rfl zO (gf:=170) (lb:=#[.pointer (some ⟨wB.heap.size,0,none⟩)]) (by rw[<-fU];simp[Act.eval]) trivial (enters_of func170 zQ rfl)
             (qcU (3-1) zO wB.heap.size b2 _ us (by rw[hFK.out];have:=hlx.out;omega) wR hsR hb2R hSW.out) Qi.t (Qi.b hsR hb2R) (Below.refl _ _) (fun _=>rfl)
             (fun pre W'=>W'.heap[wN.heap.size]?=some (.cells #[.int .i64 lv,.slice (some ⟨b2,o2,none⟩) xs.length cn] 49 (0,0))/\(∃ sv',W'.heap[w2.heap.size+1]?=some (.cells #[sv'] 222 (0,0))/\W'.ownsRow w2.heap.size 221 2 sv' (m+pre.length) (Jj (s++pre.map (fun j=>((us[j]?.getD uiz).1.r.toNat,lv-1))))/\∀ q,sv'.ownBlock=some q->q<V.heap.size\/wR.heap.size<=q)/\Below w2.heap.size wR W'/\jc (w2.heap.size+2) Ds W')
             (fun _ _ _=>False)
             (OwnFrom.and (Qt _ _ _ _) (OwnFrom.and (qcl _ _ _ _ _) (OwnFrom.and (ownFrom_below zwR zwR) (qaE hDR.out))))
             (fun _ _ _ _ _ hs _ _=>hs)
             ⟨rNR,⟨_,rSR,by simpa using oSR,fun q hq=>.inl (by cases hq;exact hgbV)⟩,Below.refl _ _,hmR⟩
             (fun j a' W'=>∃ t11,a'=(((({ tmps:=act.tmps,defers:=[] }:Act).put (some 112) (.int .i64 (j:Int))).put (some 113) (.agg #[.int .u8 (us[j]?.getD uiz).1.k,.int .u32 (us[j]?.getD uiz).1.i,.int .u32 (us[j]?.getD uiz).1.o,.int .i64 (us[j]?.getD uiz).1.r,sv (us[j]?.getD uiz).2])).put (some 11) (.pointer (some ⟨t11,0,none⟩)))/\W'.heap[t11]?=some (.cells #[.int .u8 (us[j]?.getD uiz).1.k,.int .u32 (us[j]?.getD uiz).1.i,.int .u32 (us[j]?.getD uiz).1.o,.int .i64 (us[j]?.getD uiz).1.r,sv (us[j]?.getD uiz).2] 68 (0,0)))
             (fun x a' s A C row hs hg hr=>by obtain⟨t11,e,h⟩:=hs;exact⟨t11,e,Qt (β:=Unit) _ _ _ _ () A C row h hg hr⟩) ?assign ?body ?done ?stop
            case assign =>
             rintro l' pre j W' K ⟨i1,⟨sv',i2,i3,i4⟩,i5,i6⟩ hK;subst fU;have z5:=i5.size
             gi_wp2
             exact hK _ _ ((KeepsOthers.alloc _ _).from _) ⟨zK _ _ _ zO,zK _ _ _ zO⟩ ⟨qb i1 (zN _ _),⟨sv',qb i2 (zN _ _),i3.alloc _,i4⟩,Below.alloc i5 zO _,i6.keep fun q o hq _=>(zK _ _ _ (zG.1 hq).1).trans hq⟩ ⟨W'.heap.size,rfl,zI _ _ _ rfl⟩
            case body =>
             rintro l' pre j a' W' hll ⟨rr,hlp⟩ ⟨i1,⟨sv',i2,i3,i4⟩,i5,i6⟩ ⟨t11,rfl,hFC⟩ hpre;subst fU;simp only[Act.put,zA,zB,zC];have hr0:=hKV.out j;obtain⟨u9,hu9⟩:∃ u9,us[j]?.getD uiz=u9:=⟨_,rfl⟩
             have yB:Hid ((pre++[j]).map (fun j=>((us[j]?.getD uiz).1.r.toNat,lv-1))=pre.map (fun j=>((us[j]?.getD uiz).1.r.toNat,lv-1))++[(u9.1.r.toNat,lv-1)]):=zH (by rw[List.map_append,List.map_cons,List.map_nil,hu9]);rw[hu9] at hFC hr0 ⊢;obtain⟨rn,hrn⟩:∃ rn:Nat,u9.1.r=(rn:Int):=⟨u9.1.r.toNat,zO⟩
             have hrt:Hid (u9.1.r.toNat=rn):=zH zO;rw[hrn] at hFC ⊢;obtain⟨pre',hBP⟩:∃ pre',pre.map (fun j=>((us[j]?.getD uiz).1.r.toNat,lv-1))=pre':=⟨_,rfl⟩
             rw[hBP] at i3 yB;have kr:=qa i2;have kN:=qa i1;have kY:=qa hFC;have zS:=(zG.1 i2).1;have zN':=(zG.1 i1).1;have z5:=i5.size;have aN:sv'.ownBlock≠some (w2.heap.size+1):=fun e=>by obtain⟨cur,hg⟩:=Zl i3 e;exact qN hg i2 zA1 rfl
             obtain⟨Av,cv,rfl,-,-⟩:=qy i3;obtain⟨i0,hi,aY,aV,aX⟩:=info_parts Tryz.info_owed;have sV:m+pre.length<1073741824:=by have h2:=qgD S.now;have h3:=pM.out.few;have h4:=hlx.out;have h5:=hFK.out;have h6:=hm0.out;simp only[List.length_append,List.length_cons,List.length_nil] at h3;omega
             have i3H:=zH i3;replace hu9:=zH hu9;replace hrn:=zH hrn;replace hBP:=zH hBP;replace sV:=zH sV
             gi_wp2_with (gi_at_builtin;refine YQ ?_)
             refine Qh.go (YP W' rfl (.tmp 114) (.tmp 121) 222 rfl w2.heap.size 221 i0 _ 2 16 underlying222 hi aY aV aX rfl zA1 (.slice Av (m+pre.length) cv) (m+pre.length) _ (by first|exact rfl|simp[Act.eval]) i3H.out #[.int .i64 (rn:Int),.int .i64 (lv-1)] (by first|exact rfl|simp[Act.eval]) rfl zA8 sV.out zA1 zO ?_);intro v' W3 dL hg dQ;have hg0:∀ g,(Value.slice Av (m+pre.length) cv).ownBlock=some g->w2.heap.size<=g:=fun g e=>(Ql i3H.out _ e).1;have wC:W3.heap[w2.heap.size+1]?=_:=(hg.block _ zS (fun e=>aN e.symm)).trans i2;have hN3:W3.heap[wN.heap.size]?=_:=(hg.block _ zN' (fun e=>by have:=i4 _ e.symm;omega)).trans i1;have hb23:W3.heap[b2]?=W'.heap[b2]?:=hg.block _ zO (fun e=>by have:=i4 _ e.symm;omega);have hbB3:W3.heap[wB.heap.size]?=W'.heap[wB.heap.size]?:=hg.block _ zO (fun e=>by have:=i4 _ e.symm;omega);have kr3:=qa wC;have fr3:=qe wC;have pJ:Below w2.heap.size W' W3:=TO hg fun g e=>by have:=hg0 g e;omega
             have hKO:v'.ownBlock≠some (w2.heap.size+1):=fun e=>by obtain⟨cur,hgx⟩:=Zl dL e;exact qN hgx wC zA1 rfl
             have hat3:∀ q,v'.ownBlock=some q->q<V.heap.size\/wR.heap.size<=q:=fun q e=>by
              rcases dQ with h|⟨g',h,h'⟩
              ·exact i4 q (h.symm.trans e)
              ·rw[h] at e;cases e;right;omega
             have tC:jc (w2.heap.size+2) Ds W3:=i6.keep fun q o hq ho=>(hg.block q (zG.1 hq).1 fun e=>by obtain⟨cur,hgx⟩:=Zl i3H.out e.symm;rw[hgx] at hq;cases hq;cases ho).trans hq;have mP:KeepsOthers W' W3:=Ue i3H.out hg;replace hg:=zH hg;replace dQ:=zH dQ;obtain⟨Av',cv',rfl,-,-⟩:=qy dL;replace dL:=zH dL;clear i3 kr kN kY hFC hr0
             gi_wp2_with fail
             refine⟨(mP.trans (KeepsOthers.setCell _ _ _)).from _,⟨(zJ _ _ _ _ (by show wB.heap.size≠w2.heap.size+1;omega)).trans hbB3,(zJ _ _ _ _ (by show b2≠w2.heap.size+1;omega)).trans hb23⟩,(zJ _ _ _ _ (by show wN.heap.size≠w2.heap.size+1;omega)).trans hN3,⟨_,qi wC 0 _,?_,hat3⟩,i5.trans (pJ.setCell (p:=⟨w2.heap.size+1,0,none⟩) zA3 _),tC.keep fun q o hq ho=>(zJ _ _ _ _ fun e=>by have e':q=w2.heap.size+1:=e;rw[e',wC] at hq;cases hq;cases ho).trans hq⟩;rw[yB.out,List.length_append,List.length_singleton,<-List.append_assoc,XW,qbm,hrt.out];exact QA dL.out fun q hq=>zJ _ _ _ _ fun e=>hKO (by have e':q=w2.heap.size+1:=e;rw[<-e'];exact hq)
            case done =>
             rintro Dm ys W' hD yZ ⟨i1,⟨sv',i2,i3,i4⟩,i5,i6⟩ hK;subst fU;have nJ:m+ys.length=(s++((qX xs).map fun r=>(r,lv-1)).reverse).length:=by rw[yZ,zj,List.length_append,List.length_reverse,List.length_map,hFK.out,<-hm0.out];simp[qX]
             rw[nJ,yZ,hBV.out] at i3;have xX:Below w2.heap.size wB W':=(Below.mono xBR zO).trans i5;have hR:LvR D B lo b g k S a w2 (JV (t.set a1 0)) (Dm :: Ds) W':=⟨⟨_,t.set a1 0,sv',rfl,hRM.out,(h0.out.ext x2).fresh hb0.out xX,i2,i3⟩,xy.out.fresh (by have:=x2.size;omega) xX,i6.add hDR.out hD zO hK⟩
             replace hR:=zH hR;replace hKC:=zH hKC;clear i1 i2 i3 i4 i5 i6 nJ xX hK yZ;go_wp2_with fail;exact Gy hK0.out _ hKC.out (Dm :: Ds) rfl zQ hR.out
            case stop =>rintro Dm c pre W _ _ h _;exact h.elim
          ·obtain rfl:lv=0:=zO;have hPH:=zH (fun er (he:QG (qX xs) (t.set a1 0)=.error er)=>pM.out.leafBad hone.out hnd hlev hlv he);have hokL:=zH (fun t' (he:QG (qX xs) (t.set a1 0)=.ok t')=>And.intro (pM.out.leaf hone.out hnd hlev hlv he) (show JV t'<nn by rw[ny.out];have:=Tl hone.out;have:=(Ym he).1;omega));have yX:=Yp hnd;have mJ:=zH (fun x hx=>((Qc hnd).2.1 x hx).1.2.2.2.1.1);have hnB:∀ q,w2.heap.size<=q->¬B3 b g k q:=fun q hq hx=>by have:=(h0.out.b3 q hx).2;have:=x2.size;omega
           have hx0:∀ C,Qa (B3 b g k) wB C->Its C C.heap.size (.slice An xs.length cn) xs:=fun C hC=>dD.keepX hC fun q hq=>hnB q zO;replace yX:=zH yX;replace hx0:=zH hx0;have hA:=(hx0.out wB (Qa.refl _ _)).at_.2.2.2;replace hA:=zH hA;replace hlx:=zH hlx;replace hnB:=zH hnB;replace hlev:=zH hlev;clear uj aQ hi dD hl0 hlv hnd;rcases hd0 with ⟨d1,d2⟩|⟨d1,d2,d3,d4⟩
           all_goals
            generalize hwq:wr=wq at *;clear hwq;go_wp2_with fail;go_loopw [4,126] (fun v i wr'=>L0I D B lo b g k S (t.set a1 0) xs wB v i wr') (fun _ i _=>xs.length-(intOf i).toNat)
            case atStart=>exact⟨0,_,rfl,Nat.zero_le _,rfl,rfl,hb0.out,qY.refl _ _ _ _ _⟩
            case round =>
             obtain⟨j,t9,rfl,hj,rfl,aP,pR,lV⟩:=hrel.ex;clear hrel;have hkA:=zH (xy.out.trans lV (Zf.refl _ _));have rNr:=lV.row rNB (hnB.out _ zO);have rSr:=lV.row rSB (hnB.out _ zO);have kNr:=qa rNr;have hmr:=zH (hmB.out.bkeep lV fun q hq=>hnB.out q zO);by_cases hlt:j<xs.length
             ·obtain⟨bi,off,rfl,hbi⟩:=hA.out zO;obtain⟨A',c',d0,d1',d2',d3',d4',-⟩:=(hx0.out wr lV.keepX).item j hlt;have tY:=yX.out _ (List.mem_map_of_mem (f:=fun x:It=>x.r.toNat) (List.getElem_mem hlt));have hr0:0<=xs[j].r:=mJ.out _ (List.getElem_mem hlt);have ah:=zH (fun h0 h1=>Gt hlt aP h0 h1);have ae:=zH (fun h0 h1=>Ul hlt aP h0 h1);have fA:=zH (fun h0=>Um hlt aP h0);generalize xs[j]=x at *;have hj1:=zH (IntWalk.wrap64_in ((j:Int)+1) (by have:=hlx.out;omega));obtain⟨r,hra⟩:∃ r:Nat,x.r=(r:Int):=⟨x.r.toNat,zO⟩
              have hsa:(x.r).toNat=r:=zO;have ha9:r<256:=by rw[hsa] at tY;exact tY.2
              rw[hra] at d3';rw[hsa] at ah ae fA;have hz:=pR.size.2.2.2.2.2.1;have HL:=zH (fun W (hW:Ext wr W)=>TQ D B lo b g k (qu S t9) r ha9 W (pR.ext hW));replace pR:=zH pR;replace lV:=zH lV;clear hra hsa tY hr0 aP hbi;rcases Nat.eq_zero_or_pos r with xh|xh
              ·subst xh;have hF:L0I D B lo b g k S (t.set a1 0) xs wB (.int .i64 0) (.int .i64 ((j:Int)+1)) (wr.alloc (.cells #[.int .u8 x.k,.int .u32 x.i,.int .u32 x.o,.int .i64 0,.slice A' x.val.length c'] 68)):=⟨j+1,t9,rfl,zO,rfl,fA.out rfl,pR.out.ext (zN _ _),lV.out.trans (qY.of_ext (zN _ _) hz) (Zf.refl _ _)⟩
               replace hF:=zH hF;clear ah ae fA HL;go_wp2_with fail;try rw[hj1.out]
               refine⟨hF.out,?_⟩;simp[intOf];omega
              ·have hza:((r:Int) == 0)=false:=by rw[beq_eq_false_iff_ne];omega
               replace xh:=zH xh;go_wp2_with fail;generalize iG:World.alloc wr _=wa;have xa:Ext wr wa:=by rw[<-iG];exact zN _ _
               clear iG d0 d1' d2' d3' d4';refine(HL.out wa xa).mono ?_;clear HL;rintro e wl ⟨hkl,bJ⟩;have hEN:=(qY.of_ext xa hz).trans hkl (Zf.refl _ _);have pY:=lV.out.trans hEN (Zf.refl _ _);rcases bJ with ⟨dC,rfl⟩|⟨dC,rfl,cO⟩
               ·have aI:=zH (jx.bad2 (a:=a) (D:=D) (B:=B) x2 uq (hPH.out _ (ah.out (by have:=xh.out;omega) dC)) (xy.out.trans pY (Zf.refl _ _)));have ut:=zH (hmr.out.bkeep hEN fun q hq=>hnB.out q zO);clear ah ae fA hkl pY dC hkA hEN;go_wp2_with fail;exact VN rfl rfl ut.out fun C hC=>aI.out C (hC.mono zO)
               ·have hF:L0I D B lo b g k S (t.set a1 0) xs wB (.int .i64 0) (.int .i64 ((j:Int)+1)) wl:=⟨j+1,_,rfl,zO,rfl,ae.out (by have:=xh.out;omega) dC,cO,pY⟩
                replace hF:=zH hF;clear ah ae fA hkl pY dC cO hkA hEN;go_wp2_with fail;try rw[hj1.out]
                refine⟨hF.out,?_⟩;simp[intOf];omega
             ·obtain rfl:j=xs.length:=zO;rw[List.take_length] at aP;obtain⟨hLn,hln⟩:=hokL.out t9 aP;have oSr:wr.ownsRow w2.heap.size 221 2 (.slice (some ⟨gb,0,none⟩) m cap) m (Jj s):=lV.own oSB.out fun q hq=>hnB.out q (Ql oSB.out q hq).1;have hR:LvR D B lo b g k S a w2 (JV t9) Ds wr:=⟨⟨s,t9,_,rfl,hLn,pR,rSr,by rw[<-hm0.out];exact oSr⟩,hkA.out,hmr.out⟩
              replace hR:=zH hR;replace hln:=zH hln;clear aP pR lV hkA hmr hLn oSr;go_wp2_with fail;exact Gy hK0.out _ hln.out Ds rfl zQ hR.out
end Go.Proofs.YtpbniokljofedaaGreat
