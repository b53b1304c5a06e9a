/- Lemmas of the proof. -/
import Derived.Test.YtmeadnlmepcmbaaGreatZJ16
set_option linter.all false
set_option maxHeartbeats 8000000
open Go.Proofs.Tryz
namespace Go.Proofs.YtmeadnlmepcmbaaGreat
open Go.RowKit Go.Shelf
attribute [local go_sem] Oper.semAt_some
def vB (st:List (Nat×Int)):List Value:=st.flatMap fun p=>[.int .i64 (p.1:Int),.int .i64 p.2]
theorem UR (s r:List (Nat×Int)):vB (s++r)=vB s++vB r:=by unfold vB;rw[List.flatMap_append]
theorem qdJ (x:Nat×Int):vB [x]=[.int .i64 (x.1:Int),.int .i64 x.2]:=rfl
theorem qdI:∀ st:List (Nat×Int),(vB st).length=st.length*2
 | []=>rfl
 |x :: r=>by have:=qdI r;have e:vB (x :: r)=[.int .i64 (x.1:Int),.int .i64 x.2]++vB r:=rfl;rw[e];simp only[List.length_append,List.length_cons,List.length_nil];omega
theorem Qg.fresh {lo b g:Nat} {k:Option Nat} {w W C:World} (h:Qg lo b g k w W) (hl:lo<=w.heap.size) (hx:Below w.heap.size W C):Qg lo b g k w C:=
 ⟨h.below.trans (Below.mono hx hl),fun q hq hn=>(hx.block q hq).trans (h.rows q hq hn)⟩
theorem jT.bad2 {D:Nat->Prop} {B lo b g:Nat} {k:Option Nat} {S:Sto} {a:Nat} {w w2 W:World} (x2:Ext w w2) (hl:lo<=w.heap.size) (h:QH S (-1) S.now a=none) (hB:Qg lo b g k w2 W):∀ C,Below w2.heap.size W C->jT D B lo b g k S a w (.returned (.int .i64 8)) C:=fun C hC=>by have z2:=x2.size;exact jT.bad h ((Qg.of_ext x2 hl).trans (hB.fresh zO hC) (ZD.refl _ _))
theorem jT.good2 {D:Nat->Prop} {B lo b g:Nat} {k:Option Nat} {S S0:Sto} {a:Nat} {t:List UInt8} {w w2 W:World} (h0:Bch D B lo b g k S0 w) (x2:Ext w w2) (h:QH S (-1) S.now a=some t) (hB:Qg lo b g k w2 W) (hb:Bch D B lo b g k (qw S t) W):∀ C,Below w2.heap.size W C->jT D B lo b g k S a w (.returned (.int .i64 0)) C:=fun C hC=>by have z2:=x2.size;have hl:=h0.size.2.2.2.2.2.1;exact jT.good h ((Qg.of_ext x2 hl).trans (hB.fresh zO hC) (ZD.refl _ _)) ((h0.ext x2).fresh hb hC)
theorem KI {n lo:Nat} {R:Ending->World->Prop} {a:Act} {W:World} {v:Value} {Ds:List Nat} (h4:a.tmps[4]?.getD undef=v) (hd:a.defers=Ds.map qbL) (hm:jM lo Ds W) (hR:∀ C,Below lo W C->R (.returned v) C):bodyPostM Fence.wide n prog Tryz.f121 R .ret a W:=by
 change LeavesInM Fence.wide n prog Tryz.f121 a.tmps R a.defers .returning W;rw[hd];refine Uz (lo:=lo) Ds W hm fun C h1 h2 h3 h4' h5=>⟨v,?_,hR C ⟨h3,h4',h5,zO,fun q hq=>h1 q fun hm'=>?_⟩⟩
 ·simp[results,results121,go_sem,h4]
 ·have:=(hm.at_ q hm').1;omega
theorem Tryz.info_owed:(Tryz.prog.info? 235).map (fun i=>(i.zero,i.size,i.bytes))=some (some (.agg #[.int .i64 0,.int .i64 0]),2,16):=zQ
theorem qeL {B:Nat} (b base m:Nat) (f:List Nat->List (Nat×Int)) (p:Value->Prop):OwnFrom B (fun (pre:List Nat) W=>∃ v,W.heap[b]?=some (.cells #[v] 236 (0,0))/\W.ownsRow base 235 2 v (m+pre.length) (vB (f pre))/\p v):=fun s A C row ⟨v,h1,h2,h3⟩ hg hr =>
 ⟨v,QC (β:=Unit) _ _ _ _ () A C row h1 hg hr,h2.kept hg (by
  rcases hv:v.ownBlock with _|g
  ·exact .inl rfl
  ·refine .inr fun e=>?_;obtain⟨_,o,ho,hc⟩:=hr g e.symm;rcases US h2 g hv with ⟨c,fz,h3⟩;rw[ho] at h3;cases h3;cases hc),h3⟩
theorem qcR {β:Type} {B lo:Nat} {Ds:List Nat} (hB:∀ D∈Ds,D<B):OwnFrom B (fun (_:β) W=>jM lo Ds W):=fun _ A C row h hg hr=>⟨h.nodup,fun D hD=>⟨(h.at_ D hD).1,(hg.block D (zG.1 (h.at_ D hD).2).1 fun e=>by have:=(hr D e.symm).1;have:=hB D hD;omega).trans (h.at_ D hD).2⟩⟩
theorem refs_rev {xs:List It} {us:List Ui} (h:us.map (·.1)=xs) (l:Int):(jl (fun j=>us.length-1-j) us.length).map (fun j=>((us[j]?.getD uiz).1.r.toNat,l))=((qz xs).map fun r=>(r,l)).reverse:=by
 subst h;refine List.ext_getElem (by simp[ZA,qz]) fun i h1 h2=>?_;have h3:i<us.length:=by simpa [ZA] using h1
 have e1:(jl (fun j=>us.length-1-j) us.length)[i]'(by rw[ZA];exact h3)=us.length-1-i:=by have:=XX us.length us.length i h3;rw[zL (by rw[ZA];exact h3)] at this;exact Option.some.inj this
 rw[List.getElem_map,e1,List.getElem_reverse,List.getElem_map];have h4:us.length-1-i<us.length:=zO;have h5:us[us.length-1-i]?.getD uiz=us[us.length-1-i]:=by rw[zL h4];rfl
 rw[h5];simp[qz]
theorem qjS:∀ t:List UInt8,Vq t<=255*t.length
 | []=>by simp[Vq]
 |x :: r=>by have:=qjS r;have h:=x.toNat_lt;simp only[Vq,List.length_cons];omega
theorem jM.add {lo n D:Nat} {Ds:List Nat} {W:World} (h:jM lo Ds W) (hlt:∀ D∈Ds,D<n) (hD:n<=D) (hl:lo<=D) (hr:W.heap[D]?=some (.deferred (some []))):jM lo (D :: Ds) W:=by
 refine⟨List.nodup_cons.2 ⟨fun hm=>by have:=hlt D hm;omega,h.nodup⟩,fun q hq=>?_⟩;rcases List.mem_cons.1 hq with rfl|hq
 ·exact⟨hl,hr⟩
 ·exact h.at_ q hq
theorem jM.bkeep {lo lo' b g:Nat} {k:Option Nat} {Ds:List Nat} {w W:World} (h:jM lo Ds w) (hk:Qg lo' b g k w W) (hn:∀ q,lo<=q->¬B3 b g k q):jM lo Ds W:=
 ⟨h.nodup,fun D hD=>⟨(h.at_ D hD).1,(hk.rows D (zG.1 (h.at_ D hD).2).1 (hn D (h.at_ D hD).1)).trans (h.at_ D hD).2⟩⟩
structure LvR (D:Nat->Prop) (B lo b g:Nat) (k:Option Nat) (S:Sto) (a:Nat) (w2:World) (n:Nat) (Ds:List Nat) (wr:World):Prop where
 ex:∃ st t sv,n=Vq t/\LvI S a st t/\Bch D B lo b g k (qw S t) wr/\wr.heap[w2.heap.size+1]?=some (.cells #[sv] 236 (0,0))/\wr.ownsRow w2.heap.size 235 2 sv st.length (vB st)
 keep:Qg lo b g k w2 wr
 marks:jM (w2.heap.size+2) Ds wr
def maskL:List Bool:=List.replicate 7 false++List.replicate 133 true
set_option maxRecDepth 100000 in
theorem qbo (D:Nat->Prop) (B lo b g:Nat) (k:Option Nat) (S:Sto) (hS:ql S=true) (a:Nat) (ha:8<=a) (ak:a<256) (w:World) (h:Bch D B lo b g k S w):Calls prog 121 #[.pointer (some ⟨b,0,none⟩),.int .i64 (a:Int)] w (jT D B lo b g k S a w):=by
 obtain⟨lV,hzb,xP,hzg,yG,rG,wG⟩:=h.size;obtain⟨hlen,hAK⟩:=h.lens;obtain⟨A1,n1,c1,v2,c3,A4,c4,kr,nU,sF⟩:=h.cells;have aB:w.ownsRow lo 5 1 (.slice (some ⟨g,0,none⟩) 256 c3) 256 (S.now.map bv):=by obtain⟨A1',n1',c1',v2',c3',A4',c4',mZ,uD,_⟩:=h.ex;have:=(kr 2).symm.trans (qa mZ 2);simp at this;rw[this];exact uD
 have aS:Bys w w.heap.size (.slice (some ⟨g,0,none⟩) 256 c3) S.now:=Bys.of_own aB;have HC:=zH (TX _ S.now zO w aS);have h0:=zH h;have oN:=zH (LvI.start hS ha ak);clear aS aB nU sF h wG;refine(callsIn_wide (n:=3)).1 ?_;refine callsIn_of_wp_marks func121 rfl trivial ?_ rfl;simp only[ntmps121,List.size_toArray,List.length_cons,List.length_nil,Nat.reduceAdd,Nat.reduceSub,Array.replicate_succ,Array.replicate_zero,List.push_toArray,List.append_toArray,List.nil_append,List.cons_append];refine wpIn_wide.2 ?_;go_wp2_with fail;refine HC.mono ?_;clear HC;rintro e w2 ⟨u,rfl,hF,hB⟩;have x2:Ext w w2:=hB;obtain⟨AF,cF,rfl,-,-⟩:=qE hF;obtain⟨bF,oF,rfl,hbF,hFlo,hcF⟩:∃ bF oF,AF=some ⟨bF,oF,none⟩/\bF<w2.heap.size/\w.heap.size<=bF/\∀ j,j<256->w2.cell? ⟨bF,oF+j,none⟩=some (.int .u8 (Zo S j:Int)):=by rw[hlen] at hF;obtain⟨bF,oF,e,h1,h2⟩:=(Rd.of_own hF).2 zO;have aQ:=Zu.of_own hF ⟨bF,oF,none⟩ _ _ (by rw[e]);exact⟨bF,oF,e,h1,aQ,fun j hj=>h2 j _ (by rw[List.getElem?_map,zL zO];simp[Zo,zL (show j<S.now.length by omega)])⟩
 have hGN:Hid (∀ W,Qg lo b g k w2 W->∀ j,j<256->W.cell? ⟨bF,oF+j,none⟩=some (.int .u8 (qN S.now j:Int))):=zH fun W hW j hj=>hW.keepX ⟨bF,oF+j,none⟩ _ (fun hx=>by have:=(h0.out.b3 bF hx).2;omega) (hcF j hj);clear hcF;have bU:=zH (h0.out.ext x2);clear hB hF kr;go_wp2_with fail;generalize aO:(World.alloc (World.alloc w2 _) _)=w3;have x23:Ext w2 w3:=by rw[<-aO];exact(zN _ _).trans (zN _ _)
 have rS:w3.heap[w2.heap.size+1]?=some (.cells #[.slice (some ⟨w2.heap.size,0,none⟩) 1 1] 236 (0,0)):=by rw[<-aO];exact zI _ _ _ zA2
 have oS:w3.ownsRow w2.heap.size 235 2 (.slice (some ⟨w2.heap.size,0,none⟩) 1 1) 1 (vB [(a,-1)]):=by have h:=World.ownsRow_lit (base:=w2.heap.size) (e:=235) (size:=2) w2 #[.int .i64 (a:Int),.int .i64 (-1)] 1 (zM _) zA6 rfl;rw[<-aO];exact h.alloc _
 clear aO;have hR0:LvR D B lo b g k S a w2 (Vq S.now) [] w3:=⟨⟨[(a,-1)],S.now,_,rfl,oN.out,bU.out.ext x23,rS,oS⟩,Qg.of_ext x23 (by have:=x2.size;omega),jM.nil _ _⟩
 replace hR0:=zH hR0;clear rS oS x23 bU oN;refine qfc maskL (Vq S.now) (fun n _ Ds wr=>LvR D B lo b g k S a w2 n Ds wr) hR0.out zQ ?_;intro nn gg Ds wr K0 hrel hK0;replace hK0:=zH hK0;clear hR0;obtain⟨st,t,sv,xR,oN,wF,rS,oS⟩:=hrel.ex;have hkp:=zH hrel.keep;have hmk:=zH hrel.marks;have xz:=hrel.keep.below.size;clear hrel;replace xR:=zH xR;replace oN:=zH oN;replace wF:=zH wF;dsimp only[mixL,maskL,List.replicate,List.cons_append,List.nil_append,List.append_assoc,cond_true,cond_false,List.append_eq,Nat.reduceAdd];generalize gg 7=v7,gg 8=v8,gg 9=v9,gg 10=v10,gg 11=v11,gg 12=v12,gg 13=v13,gg 14=v14,gg 15=v15,gg 16=v16,gg 17=v17,gg 18=v18,gg 19=v19,gg 20=v20,gg 21=v21,gg 22=v22,gg 23=v23,gg 24=v24,gg 25=v25,gg 26=v26,gg 27=v27,gg 28=v28,gg 29=v29,gg 30=v30,gg 31=v31,gg 32=v32,gg 33=v33,gg 34=v34,gg 35=v35,gg 36=v36,gg 37=v37,gg 38=v38,gg 39=v39,gg 40=v40,gg 41=v41,gg 42=v42,gg 43=v43,gg 44=v44,gg 45=v45,gg 46=v46,gg 47=v47,gg 48=v48,gg 49=v49,gg 50=v50,gg 51=v51,gg 52=v52,gg 53=v53,gg 54=v54,gg 55=v55,gg 56=v56,gg 57=v57,gg 58=v58,gg 59=v59,gg 60=v60,gg 61=v61,gg 62=v62,gg 63=v63,gg 64=v64,gg 65=v65,gg 66=v66,gg 67=v67,gg 68=v68,gg 69=v69,gg 70=v70,gg 71=v71,gg 72=v72,gg 73=v73,gg 74=v74,gg 75=v75,gg 76=v76,gg 77=v77,gg 78=v78,gg 79=v79,gg 80=v80,gg 81=v81,gg 82=v82,gg 83=v83,gg 84=v84,gg 85=v85,gg 86=v86,gg 87=v87,gg 88=v88,gg 89=v89,gg 90=v90,gg 91=v91,gg 92=v92,gg 93=v93,gg 94=v94,gg 95=v95,gg 96=v96,gg 97=v97,gg 98=v98,gg 99=v99,gg 100=v100,gg 101=v101,gg 102=v102,gg 103=v103,gg 104=v104,gg 105=v105,gg 106=v106,gg 107=v107,gg 108=v108,gg 109=v109,gg 110=v110,gg 111=v111,gg 112=v112,gg 113=v113,gg 114=v114,gg 115=v115,gg 116=v116,gg 117=v117,gg 118=v118,gg 119=v119,gg 120=v120,gg 121=v121,gg 122=v122,gg 123=v123,gg 124=v124,gg 125=v125,gg 126=v126,gg 127=v127,gg 128=v128,gg 129=v129,gg 130=v130,gg 131=v131,gg 132=v132,gg 133=v133,gg 134=v134,gg 135=v135,gg 136=v136,gg 137=v137,gg 138=v138,gg 139=v139;clear gg;rcases List.eq_nil_or_concat st with rfl|⟨s,x,rfl⟩
 ·obtain⟨As,cs,rfl,-,-⟩:=qE oS;have aJ:=zH (jT.good2 h0.out x2 oN.out.done hkp.out wF.out);have kS:=qa rS;clear oS hK0;go_wp2_with fail;exact KI rfl rfl hmk.out fun C hC=>aJ.out C (hC.mono zO)
 ·rw[List.concat_eq_append] at *;obtain⟨a1,l1⟩:=x;obtain⟨ht8,oM,mi,htl6⟩:=oN.out.top;simp only at ht8 oM mi htl6;obtain⟨m,hm0⟩:∃ m,m=s.length:=⟨_,rfl⟩
  rw[List.length_append,List.length_singleton,<-hm0,UR,qdJ] at oS;rcases oS.2 with ⟨-,dP⟩|⟨gb,cap,cur,rfl,yG,aF,gZ,fF,dA,nM⟩
  ·exfalso;omega
  ·obtain⟨gb',off',e0,hgb',aU⟩:=(Rd.of_own oS).2 zO;simp only[Option.some.injEq,Addr.mk.injEq,and_true] at e0;obtain⟨rfl,rfl⟩:=e0;have hls:(vB s).length=m*2:=by rw[qdI,hm0]
   have kb0:=aU (m*2) (.int .i64 (a1:Int)) (by rw[List.getElem?_append_right zO,hls];simp);have kb1:=aU (m*2+1) (.int .i64 l1) (by rw[List.getElem?_append_right zO,hls];simp);rw[Nat.zero_add] at kb0 kb1;clear aU;have mX:gb≠w2.heap.size+1:=qU aF rS zD;have oS2:=TU (xs:=vB s) (news:=[.int .i64 (a1:Int),.int .i64 l1]) (n:=m) (m:=1) oS hls;have hw22:wrap64 (m:Int)=(m:Int):=IntWalk.wrap64_in _ (by unfold maxLen at fF;omega);have hmc:m<=cap:=Nat.le_of_succ_le gZ;have hcap:¬cap=0:=fun e=>by rw[e] at gZ;exact absurd gZ (Nat.not_succ_le_zero _)
   have kS:=qa rS;have fS:=qe rS;have zS:w2.heap.size+1<wr.heap.size:=(zG.1 rS).1;have zg:gb<wr.heap.size:=(zG.1 aF).1;replace oS2:=zH oS2;replace hm0:=zH hm0;replace oN:=zH oN.out;clear aF nM dA fF gZ oS hls;go_upto_region 6 with fail;have bT:Below w2.heap.size wr ((wr.setCell ⟨w2.heap.size+1,0,none⟩ (.slice (some ⟨gb,0,none⟩) m cap)).alloc (.cells #[.int .i64 (a1:Int),.int .i64 l1] 235)):=Below.alloc (Below.setCell (Below.refl _ _) (p:=⟨w2.heap.size+1,0,none⟩) zA2 _) (by simpa using xz) _;have rX4:((wr.setCell ⟨w2.heap.size+1,0,none⟩ (.slice (some ⟨gb,0,none⟩) m cap)).alloc (.cells #[.int .i64 (a1:Int),.int .i64 l1] 235)).heap[wr.heap.size]?=some (.cells #[.int .i64 (a1:Int),.int .i64 l1] 235 (0,0)):=zI _ _ _ zA2;have rS4:((wr.setCell ⟨w2.heap.size+1,0,none⟩ (.slice (some ⟨gb,0,none⟩) m cap)).alloc (.cells #[.int .i64 (a1:Int),.int .i64 l1] 235)).heap[w2.heap.size+1]?=some (.cells #[.slice (some ⟨gb,0,none⟩) m cap] 236 (0,0)):=(zK _ _ _ (by simpa using zS)).trans (qi rS 0 _);have ko4:∀ q,q<wr.heap.size->q≠w2.heap.size+1->((wr.setCell ⟨w2.heap.size+1,0,none⟩ (.slice (some ⟨gb,0,none⟩) m cap)).alloc (.cells #[.int .i64 (a1:Int),.int .i64 l1] 235)).heap[q]?=wr.heap[q]?:=fun q hq aG=>(zK _ _ _ (by simpa using hq)).trans (zJ _ _ _ _ aG);have z4:((wr.setCell ⟨w2.heap.size+1,0,none⟩ (.slice (some ⟨gb,0,none⟩) m cap)).alloc (.cells #[.int .i64 (a1:Int),.int .i64 l1] 235)).heap.size=wr.heap.size+1:=zA2;generalize hw4:World.alloc (World.setCell wr _ _) _=w4 at *;clear hw4 kS fS kb0 kb1;have oS4:w4.ownsRow w2.heap.size 235 2 (.slice (some ⟨gb,0,none⟩) m cap) m (vB s):=Zx oS2.out fun q hq=>by cases hq;exact ko4 gb zg mX
   have oP:=(h0.out.ext x2).fresh wF.out bT;have sJ:=zH (hkp.out.fresh (by have:=x2.size;omega) bT);have hm4:=zH (hmk.out.keep (W:=w4) fun q o hq ho=>(ko4 q (zG.1 hq).1 (fun e=>by subst e;rw[rS] at hq;cases hq;cases ho)).trans hq);have hle:qN t a1<=qN S.now a1:=oN.out.le a1;have oH:=oN.out.may;clear mX wF hkp hmk rS ko4 oS2 bT;obtain⟨A1,n1,c1,v2,c3,A4,c4,hrb,hog,-⟩:=oP.ex;obtain⟨hkg,hfg0,-,hzg4⟩:=ZB hog;have hkga:=hkg a1 oM;have g0:∀ W,qj.r w4 W->∀ i,W.cell? ⟨b,i,none⟩=#[.slice A1 n1 c1,v2,.slice (some ⟨g,0,none⟩) 256 c3,.slice A4 256 c4][i]?:=fun W hW=>qa (qb hrb hW);have g1:∀ W,qj.r w4 W->∀ i,W.cell? ⟨wr.heap.size,i,none⟩=#[.int .i64 (a1:Int),.int .i64 l1][i]?:=fun W hW=>qa (qb rX4 hW);have g2:∀ W,qj.r w4 W->W.cell? ⟨g,a1,none⟩=some (.int .u8 (qN t a1:Int)):=fun W hW=>Ext.cell hW hkga;have bG:=XH t a1;have hAS:=zH hog;have hgb2:g≠b:=oP.size.2.2.2.2.1;have hgS:Hid (∀ q,w2.heap.size<=q->q≠g):=zH fun q hq e=>by have:=(h0.out.b3 g (.inr (.inl rfl))).2;have:=x2.size;omega
   replace oP:=zH oP;replace oS4:=zH oS4;replace oH:=zH oH;replace hle:=zH hle;obtain⟨nv,gm⟩:∃ nv,qN t a1=nv:=⟨_,rfl⟩
   rw[gm] at g2 bG hle;replace gm:=zH gm;clear hog hkg hfg0 hkga;refine qp zQ ?_;refine qQ (w:=w4) qj (qH []) (List.replicate 10 true) 0 zQ zQ zQ zQ zQ zQ zQ ?st (Rel.drew _ _) ?walk
   case st=>exact qk (fun _ h=>by cases h)
   case walk =>
    intro K hK;dsimp only[qu,List.replicate];refine zB6 ?_
    first
     |(refine qd (.pointer (some ⟨g,a1,none⟩)) zA0 zA0 (fun W hW _=>⟨W,?_,Rel.refl _ W⟩) ?_
       ·go_simp;intro ig;exfalso;omega
       simp only[Act.put,qf,qc,qg,zA,zB,zC])
     |skip
    refine zB6 ?_;refine qv (hK _ _ fun W hW hF=>?_);clear hF hK;have hW:Ext w4 W:=hW;refine zC3 ?_;go_wp2;refine Qr ?_;by_cases h0z:nv=0
    ·have hq:=zH (oN.out.bad0 (by rw[gm.out];exact h0z));subst h0z;have aJ:=zH (jT.bad2 (a:=a) (D:=D) (B:=B) x2 rG hq.out (sJ.out.fresh (by have:=x2.size;omega) (Below.mono hW zO)));have yK:=zH (hm4.out.keep (W:=W) fun q o hq _=>(Below.block hW q (zG.1 hq).1).trans hq);clear g0 g1 g2;go_wp2_with fail;exact KI rfl rfl yK.out fun C hC=>aJ.out C (hC.mono zO)
    ·have aV:((nv:Int) == 0)=false:=by rw[beq_eq_false_iff_ne];omega
     have aW:decide (nv=0)=false:=decide_eq_false h0z;have dP:=zH h0z;by_cases h1:1<nv
     ·have hd1:decide ((1:Int)<(nv:Int))=true:=decide_eq_true zO;have aZ:=zH (oN.out.more (by rw[gm.out];exact h1));replace h1:=zH h1;clear h0z;go_upto_region 8 with fail;have g0':∀ V,qj.r W V->_:=fun V hV=>g0 V (hW.trans hV);have g1':∀ V,qj.r W V->_:=fun V hV=>g1 V (hW.trans hV);have g2':∀ V,qj.r W V->_:=fun V hV=>g2 V (hW.trans hV);clear g0 g1 g2;refine qp zQ ?_;refine qQ (w:=W) qj (qH []) (List.replicate 10 true) 0 zQ zQ zQ zQ zQ zQ zQ ?st (Rel.drew _ _) ?walk
      case st=>exact qk (fun _ h=>by cases h)
      case walk =>
       intro K hK;dsimp only[qu,List.replicate];refine zB6 ?_
       first
        |(refine qd (.pointer (some ⟨g,a1,none⟩)) zA0 zA0 (fun W hW _=>⟨W,?_,Rel.refl _ W⟩) ?_
          ·go_simp;intro ig;exfalso;omega
          simp only[Act.put,qf,qc,qg,zA,zB,zC])
        |skip
       refine zB6 ?_;refine qv (hK _ _ fun V hV hF=>?_);clear hF hK;have hV:Ext W V:=hV;refine zC3 ?_;go_wp2;refine Qr ?_;have x4V:Ext w4 V:=Ext.trans hW hV;have g0:∀ U,qj.r V U->_:=fun U hU=>g0' U (Ext.trans hV hU);have g1:∀ U,qj.r V U->_:=fun U hU=>g1' U (Ext.trans hV hU);have g2:∀ U,qj.r V U->_:=fun U hU=>g2' U (Ext.trans hV hU);have hfg:∀ U,Ext V U->U.frozen? ⟨g,a1,none⟩=false:=fun U hU=>(ZB (zm hAS.out (Ext.trans x4V hU))).2.1 a1;obtain⟨n',hm⟩:∃ n',nv=n'+1:=⟨nv-1,by have:=h1.out;omega⟩
       have hmt:(UInt8.ofNat (nv-1)).toNat=n':=by rw[show nv-1=n' by omega,UInt8.toNat_ofNat'];omega
       have hwv:IntKind.u8.wrap ((nv:Int)-1)=(n':Int):=by rw[qjW (n:=nv) zO bG,hmt]
       have lS:bv (UInt8.ofNat (nv-1))=.int .u8 (n':Int):=by show Value.int .u8 _=_;rw[hmt]
       replace lS:=zH lS;replace hm:=zH hm;replace x4V:=zH x4V;clear hmt;clear g0' g1' g2' hW hV;go_upto_region 9 with fail;refine qp zQ ?_;refine qQ (w:=V) qj (qH []) (List.replicate 11 true) 1 zQ zQ zQ zQ zQ zQ zQ ?st (Rel.drew _ _) ?walk
       case st=>exact qk (fun _ h=>by cases h)
       case walk =>
        intro K hK;dsimp only[qu,List.replicate];refine zB6 ?_
        first
         |(refine qd (.pointer (some ⟨g,a1,none⟩)) zA0 zA0 (fun W hW _=>⟨W,?_,Rel.refl _ W⟩) ?_
           ·go_simp;intro ig;exfalso;omega
           simp only[Act.put,qf,qc,qg,zA,zB,zC])
         |skip
        refine zB6 ?_
        first
         |(refine qd (.pointer (some ⟨g,a1,none⟩)) zA0 zA0 (fun W hW _=>⟨W,?_,Rel.refl _ W⟩) ?_
           ·go_simp;intro ig;exfalso;omega
           simp only[Act.put,qf,qc,qg,zA,zB,zC])
         |skip
        refine zB6 ?_;refine qv (hK _ _ fun U hU hF=>?_);clear hF hK;have hU:Ext V U:=hU;refine zC3 ?_;have k2:=g2 U hU;have f2:=hfg U hU;have x4U:=x4V.out.trans hU;have rM:=(oP.out.ext x4U).count oM (UInt8.ofNat (nv-1));rw[lS.out] at rM;have hdn:vd t a1=t.set a1 (UInt8.ofNat (nv-1)):=by unfold vd;rw[gm.out]
        have xJ:Qg lo b g k w2 (U.setCell ⟨g,a1,none⟩ (.int .u8 (n':Int))):=(sJ.out.fresh (by have:=x2.size;omega) (Below.mono x4U zO)).trans rM.2 (ZD.refl _ _);have cB:∀ q,q≠g->(U.setCell ⟨g,a1,none⟩ (.int .u8 (n':Int))).heap[q]?=U.heap[q]?:=fun q hq=>zJ _ _ _ _ hq;have rSB:=(cB (w2.heap.size+1) (hgS.out _ zO)).trans (qb rS4 x4U);have oSB:(U.setCell ⟨g,a1,none⟩ (.int .u8 (n':Int))).ownsRow w2.heap.size 235 2 (.slice (some ⟨gb,0,none⟩) m cap) m (vB s):=Zx (zm oS4.out x4U) fun q hq=>by cases hq;exact cB gb (hgS.out _ yG)
        have hmB:jM (w2.heap.size+2) Ds (U.setCell ⟨g,a1,none⟩ (.int .u8 (n':Int))):=hm4.out.keep fun q o hq ho=>(cB q (fun e=>by subst e;obtain⟨cur,bK⟩:=jh hAS.out (q:=q) rfl;rw[bK] at hq;cases hq;cases ho)).trans ((Below.block x4U q (zG.1 hq).1).trans hq);have hR:LvR D B lo b g k S a w2 (Vq (vd t a1)) Ds (U.setCell ⟨g,a1,none⟩ (.int .u8 (n':Int))):=⟨⟨s,vd t a1,_,rfl,aZ.out,by rw[hdn];exact rM.1,rSB,by rw[<-hm0.out];exact oSB⟩,xJ,hmB⟩
        have hlt:Vq (vd t a1)<nn:=by rw[xR.out];have:=qbv (t:=t) (a:=a1) (by rw[gm.out];exact dP.out);omega
        replace hR:=zH hR;replace hlt:=zH hlt;clear g0 g1 g2 hfg rM xJ cB rSB oSB hmB hdn hU x4U;go_wp2_with fail;refine Qr ?_;go_wp2_with fail;exact qbO hK0.out _ hlt.out Ds rfl zQ hR.out
     ·obtain rfl:nv=1:=zO;have hone:Hid (qN t a1=1):=gm;have hII:ql (qw S t)=true:=qG.2 ⟨(qG.1 hS).1,oH.out,(qG.1 hS).2.2⟩;have hnn2:=zH (qbP (S:=S) (t:=t) (a:=a1) (by rw[hone.out];decide) (by rw[hone.out];exact hle.out));replace hII:=zH hII;clear h0z h1;go_upto_region 8 with fail;have g0':∀ V,qj.r W V->_:=fun V hV=>g0 V (hW.trans hV);have g1':∀ V,qj.r W V->_:=fun V hV=>g1 V (hW.trans hV);have g2':∀ V,qj.r W V->_:=fun V hV=>g2 V (hW.trans hV);clear g0 g1 g2;refine qp zQ ?_;refine qQ (w:=W) qj (qH []) (List.replicate 10 true) 0 zQ zQ zQ zQ zQ zQ zQ ?st (Rel.drew _ _) ?walk
      case st=>exact qk (fun _ h=>by cases h)
      case walk =>
       intro K hK;dsimp only[qu,List.replicate];refine zB6 ?_
       first
        |(refine qd (.pointer (some ⟨g,a1,none⟩)) zA0 zA0 (fun W hW _=>⟨W,?_,Rel.refl _ W⟩) ?_
          ·go_simp;intro ig;exfalso;omega
          simp only[Act.put,qf,qc,qg,zA,zB,zC])
        |skip
       refine zB6 ?_;refine qv (hK _ _ fun V hV hF=>?_);clear hF hK;have hV:Ext W V:=hV;refine zC3 ?_;go_wp2;refine Qr ?_;have x4V:Ext w4 V:=Ext.trans hW hV;have rSV:=qb rS4 x4V;have rXV:=qb rX4 x4V;have kXV:=qa rXV;have hbV:=oP.out.ext x4V;have hkV:=zH (sJ.out.fresh (by have:=x2.size;omega) (Below.mono x4V zO));have hmV:=zH (hm4.out.keep (W:=V) fun q o hq _=>(Below.block x4V q (zG.1 hq).1).trans hq);have oSV:=zH (zm oS4.out x4V);have HN:=(by obtain⟨A1',n1',c1',A2',n2',c2',c3',A4',c4',mZ,lK⟩:=hbV.sto;have H:=Kz lo b A1' n1' c1' A2' n2' c2' _ 256 c3' A4' 256 c4' (qw S t) hII.out a1 ht8 oM V ⟨lV,mZ,lK⟩;rw[hnn2.out] at H;exact H:Calls prog 145 #[.pointer (some ⟨b,0,none⟩),.int .i64 (a1:Int)] V (Zg (qde V.heap.size (qt S a1)) V))
       have zgV:=hbV.size.2.2.2.1;replace hbV:=zH hbV;clear oP sJ hm4 oS4 rS4 rX4;go_wp2_with fail;refine HN.mono ?_;clear HN;rintro e wN ⟨uN,rfl,hN,pq⟩;have xN:Ext V wN:=pq;have zNh:=xN.size;have z4V:=x4V.size;have rXN:=qb rXV xN;have kXN:=qa rXN;have rSN:=qb rSV xN;clear pq kXV;obtain⟨lv,An,nn',cn,er,rfl,aP⟩:∃ lv An nn' cn er,uN=.tuple #[jP lv An nn' cn,.int .i64 er]/\((er≠0/\qt S a1=none)\/(er=0/\∃ xs,qt S a1=some (lv,xs)/\nn'=xs.length/\ZL V.heap.size wN (.slice An nn' cn) xs)):=by
        rcases hnd:qt S a1 with _|⟨l,xs⟩
        ·rw[hnd] at hN;obtain⟨er,aG,rfl⟩:=hN;exact⟨0,none,0,0,er,rfl,.inl ⟨aG,rfl⟩⟩
        ·rw[hnd] at hN;obtain⟨A9,c9,rfl,hi⟩:=hN;exact⟨l,A9,xs.length,c9,0,rfl,.inr ⟨rfl,xs,rfl,rfl,hi⟩⟩
       replace aP:=zH aP;clear hN;go_upto_region 11 with fail;generalize hwM:World.alloc wN _=wM;have xM:Ext wN wM:=by rw[<-hwM];exact zN _ _
       have rN:wM.heap[wN.heap.size]?=some (.cells #[.int .i64 lv,.slice An nn' cn] 113 (0,0)):=by rw[<-hwM];exact zI _ _ _ rfl
       clear hwM;have xVM:Ext V wM:=xN.trans xM;have g0:∀ U,qj.r wM U->_:=fun U hU=>g0' U (Ext.trans hV (Ext.trans xVM hU));have g1:∀ U,qj.r wM U->_:=fun U hU=>g1' U (Ext.trans hV (Ext.trans xVM hU));have hfg:∀ U,Ext wM U->U.frozen? ⟨g,a1,none⟩=false:=fun U hU=>(ZB (zm hAS.out (Ext.trans x4V (Ext.trans xVM hU)))).2.1 a1;have hcg:∀ U,qj.r wM U->_:=fun U hU=>g2' U (Ext.trans hV (Ext.trans xVM hU));clear g0' g1' g2' hW hV;refine qp zQ ?_;refine qQ (w:=wM) qj (qH []) (List.replicate 8 true) 1 zQ zQ zQ zQ zQ zQ zQ ?st (Rel.drew _ _) ?walk
       case st=>exact qk (fun _ h=>by cases h)
       case walk =>
        intro K hK;dsimp only[qu,List.replicate];refine zB6 ?_
        first
         |(refine qd (.pointer (some ⟨g,a1,none⟩)) zA0 zA0 (fun W hW _=>⟨W,?_,Rel.refl _ W⟩) ?_
           ·go_simp;intro ig;exfalso;omega
           simp only[Act.put,qf,qc,qg,zA,zB,zC])
         |skip
        refine zB6 ?_;refine qv (hK _ _ fun U hU hF=>?_);clear hF hK;have hU:Ext wM U:=hU;refine zC3 ?_;have k2:=hcg U hU;have f2:=hfg U hU;have xVU:Ext V U:=xVM.trans hU;have x4U:Ext w4 U:=x4V.trans xVU;have rM:=(hbV.out.ext xVU).count oM 0;have xJ:Qg lo b g k w2 (U.setCell ⟨g,a1,none⟩ (.int .u8 0)):=(hkV.out.fresh (by have:=x2.size;omega) (Below.mono xVU zO)).trans rM.2 (ZD.refl _ _);have cB:∀ q,q≠g->(U.setCell ⟨g,a1,none⟩ (.int .u8 0)).heap[q]?=U.heap[q]?:=fun q hq=>zJ _ _ _ _ hq;have zB:(U.setCell ⟨g,a1,none⟩ (.int .u8 0)).heap.size=U.heap.size:=zA2;have rSB:=(cB _ (hgS.out _ zO)).trans (qb rSN (xM.trans hU));have rXB:=(cB _ (hgS.out _ zO)).trans (qb rXN (xM.trans hU));have rNB:=(cB wN.heap.size (hgS.out _ zO)).trans (qb rN hU);have oSB:(U.setCell ⟨g,a1,none⟩ (.int .u8 0)).ownsRow w2.heap.size 235 2 (.slice (some ⟨gb,0,none⟩) m cap) m (vB s):=Zx (zm oSV.out xVU) fun q hq=>by cases hq;exact cB gb (hgS.out _ yG)
        have hmB:jM (w2.heap.size+2) Ds (U.setCell ⟨g,a1,none⟩ (.int .u8 0)):=hmV.out.keep fun q o hq ho=>(cB q (fun e=>by subst e;obtain⟨cur,bK⟩:=jh (zm hAS.out x4V) (q:=q) rfl;rw[bK] at hq;cases hq;cases ho)).trans ((Below.block xVU q (zG.1 hq).1).trans hq);have hFB:=hGN.out _ xJ a1 oM;have uX:∀ xs,ZL V.heap.size wN (.slice An nn' cn) xs->ZL V.heap.size (U.setCell ⟨g,a1,none⟩ (.int .u8 0)) (.slice An nn' cn) xs:=fun xs hi=>(hi.ext (xM.trans hU)).keep (by rw[zB];exact zM _) fun p h1 _=>World.cell?_setCell_other _ _ _ _ fun e=>by subst e;simp only at h1;omega
        have zU:V.heap.size<=U.heap.size:=xVU.size;have zNU:wN.heap.size<U.heap.size:=Nat.lt_of_lt_of_le (zG.1 rN).1 hU.size;have hb0:Bch D B lo b g k (qw S (t.set a1 0)) (U.setCell ⟨g,a1,none⟩ (.int .u8 0)):=rM.1;replace uX:=zH uX;replace hb0:=zH hb0;replace xJ:=zH xJ;replace oSB:=zH oSB;replace hmB:=zH hmB;clear g0 g1 hfg hcg rM rSN rXN rN cB rSV rXV hbV hkV hmV oSV hAS x4U;replace hU:=zH hU;go_wp2;refine Qr ?_;generalize World.setCell U _ _=wB at *;have kSB:=qa rSB;have kXB:=qa rXB;have kNB:=qa rNB;clear f2 k2;have zVB:V.heap.size<=wB.heap.size:=zO;have zNB:wN.heap.size<wB.heap.size:=zO;replace zB:=zH zB;rcases aP.out with ⟨aG,hnd⟩|⟨rfl,xs,hnd,rfl,hi⟩
        ·have hq:=zH (oN.out.none_ hone.out hnd);have pG:(er != 0)=true:=by rw[bne_iff_ne];exact aG
         have aJ:=zH (jT.bad2 (a:=a) (D:=D) (B:=B) x2 rG hq.out xJ.out);clear uX hb0 hFB aP hnd;go_wp2_with fail;exact KI rfl rfl hmB.out fun C hC=>aJ.out C (hC.mono zO)
        ·have hi2:=uX.out xs hi;obtain⟨f1,yE⟩:∃ f1,qN S.now a1=f1:=⟨_,rfl⟩
         have hf0:=hle.out;rw[yE] at hFB hf0;have hz3:((f1:Int) == 0)=false:=by rw[beq_eq_false_iff_ne];omega
         have hlx:=(jw hnd).2.2;have hl0:=(jw hnd).1;replace yE:=zH yE;replace hf0:=zH hf0;by_cases hlev:0<=l1/\lv≠l1
         ·have hq:=zH (oN.out.level hone.out hnd hlev.1 hlev.2);have aJ:=zH (jT.bad2 (a:=a) (D:=D) (B:=B) x2 rG hq.out xJ.out);have d1:decide (l1≥0)=true:=decide_eq_true hlev.1;have d3:(lv != l1)=true:=by rw[bne_iff_ne];exact hlev.2
          replace hlev:=zH hlev;clear uX hb0 aP hnd hi hi2 hlx hl0;go_wp2_with fail;exact KI rfl rfl hmB.out fun C hC=>aJ.out C (hC.mono zO)
         ·have hd0:(decide (l1≥0)=false/\decide (0<=l1)=false)\/(decide (l1≥0)=true/\decide (0<=l1)=true/\(lv != l1)=false/\decide (lv=l1)=true):=by
           by_cases h1:0<=l1
           ·by_cases h2:lv=l1
            ·exact .inr ⟨decide_eq_true h1,decide_eq_true h1,by rw[bne_eq_false_iff_eq];exact h2,decide_eq_true h2⟩
            ·exact absurd ⟨h1,h2⟩ hlev
           ·exact .inl ⟨decide_eq_false h1,decide_eq_false h1⟩
          by_cases hlv:0<lv
          ·have hOG:=zH (oN.out.push hone.out hnd hlev hlv);have hIC:Vq (t.set a1 0)<nn:=by rw[xR.out];have:=Gl hone.out;omega
           have d5:decide (lv>0)=true:=decide_eq_true hlv;have fC:0<xs.length:=by have:=(qM hnd).1;unfold Qf ja at this;simp only[Bool.and_eq_true,decide_eq_true_eq] at this;have:=this.1.2.2.2 hlv;omega
           have yO:=fun x hx=>((qM hnd).2.1 x hx).1.2.2.2.1.1;obtain⟨ps,ax,⟨An',cn',e9,hc9,hm9,pM⟩,iP,hfr,-⟩:=id hi2;simp only[Value.slice.injEq,true_and] at e9;obtain⟨rfl,rfl⟩:=e9;obtain⟨b2,o2,rfl,bU,xC⟩:=pM.2 fC;have hb2lo:V.heap.size<=b2:=hfr _ _ _ rfl;have bM:ps.length=xs.length:=by rw[<-ax,List.length_map]
           obtain⟨us,ut⟩:∃ us:List Ui,us=ps.map fun p=>((p.1,Ku p.2):Ui):=⟨_,rfl⟩
           have lY:us.length=xs.length:=by rw[ut,List.length_map,bM]
           have uu:∀ i (hi:i<ps.length),us[i]?.getD uiz=(ps[i].1,Ku ps[i].2):=fun i hi=>by rw[ut,List.getElem?_map,zL hi];rfl
           have uI:∀ i (hi:i<ps.length),sv (Ku ps[i].2)=ps[i].2:=fun i hi=>by obtain⟨⟨A,c,e⟩,_⟩:=iP ps[i] (List.getElem_mem hi);rw[e];rfl
           have hIX:∀ j,0<=(us[j]?.getD uiz).1.r:=fun j=>by
            by_cases hj:j<ps.length
            ·rw[uu j hj];exact yO _ (by rw[<-ax];exact List.mem_map_of_mem (f:=fun p:It×Value=>p.1) (List.getElem_mem hj))
            ·rw[List.getElem?_eq_none (by rw[lY];omega)];exact Int.le_refl 0
           have hBD:=refs_rev (us:=us) (xs:=xs) (by rw[ut,List.map_map];exact ax) (lv-1);have aU:∀ W,Ext wB W->∀ i,i<us.length->W.cell? ⟨b2,o2+i*5,none⟩=some (.int .u8 (us[i]?.getD uiz).1.k)/\W.cell? ⟨b2,o2+i*5+1,none⟩=some (.int .u32 (us[i]?.getD uiz).1.i)/\W.cell? ⟨b2,o2+i*5+2,none⟩=some (.int .u32 (us[i]?.getD uiz).1.o)/\W.cell? ⟨b2,o2+i*5+3,none⟩=some (.int .i64 (us[i]?.getD uiz).1.r)/\W.cell? ⟨b2,o2+i*5+4,none⟩=some (sv (us[i]?.getD uiz).2):=fun W hW i hi=>by have fP:i<ps.length:=zO;obtain⟨q0,q1,q2,q3,q4⟩:=vD ps i fP;rw[uu i fP];simp only;rw[uI i fP];exact⟨Ext.cell hW (xC _ _ q0),by rw[Nat.add_assoc];exact Ext.cell hW (xC _ _ q1),by rw[Nat.add_assoc];exact Ext.cell hW (xC _ _ q2),by rw[Nat.add_assoc];exact Ext.cell hW (xC _ _ q3),by rw[Nat.add_assoc];exact Ext.cell hW (xC _ _ q4)⟩
           replace ut:=zH ut;have hES:=zH lY;have ug:=zH (jw hnd);have wS:wrap64 (lv-1)=lv-1:=IntWalk.wrap64_in _ (by have:=ug.out;omega);replace fC:=zH fC;replace hlev:=zH hlev;replace hlv:=zH hlv;replace aU:=zH aU;replace hBD:=zH hBD;replace hIX:=zH hIX;replace hlx:=zH hlx;clear uX aP hi hi2 ax iP hfr pM xC uu uI yO hc9 hm9 hl0 bM lY;rcases hd0 with ⟨d1,d2⟩|⟨d1,d2,d3,d4⟩
           all_goals
            go_wp2_with fail;refine(qcD _ xs.length cn wB).mono ?_;rintro e w8 ⟨rfl,rfl⟩;go_wp2_with fail;generalize hwR:World.alloc wB _=wR;have xBR:Ext wB wR:=by rw[<-hwR];exact zN _ _
            have zR:wB.heap.size+1<=wR.heap.size:=by rw[<-hwR];simp
            have rIR:wR.heap[wB.heap.size]?=some (.cells #[.slice (some ⟨b2,o2,none⟩) xs.length cn] 55 (0,0)):=by rw[<-hwR];exact zI _ _ _ rfl
            clear hwR;have hb2R:b2<wR.heap.size:=zO;have hSW:SWi wR wB.heap.size b2 (.slice (some ⟨b2,o2,none⟩) xs.length cn) us:=⟨by rw[qa rIR];rfl,.inr ⟨o2,cn,by rw[hES.out],fun i hi=>aU.out wR xBR i hi⟩⟩
            have rSR:=qb rSB xBR;have rNR:=qb rNB xBR;have oSR:=zm oSB.out xBR;have hmR:jM (w2.heap.size+2) Ds wR:=hmB.out.keep fun q o hq _=>(Below.block xBR q (zG.1 hq).1).trans hq;have hDR:∀ D∈Ds,D<wR.heap.size:=fun D hD=>(zG.1 (hmR.at_ D hD).2).1;have zV2:w2.heap.size<=V.heap.size:=zO;have hgbV:gb<V.heap.size:=zO;have zwR:w2.heap.size<=wR.heap.size:=zO;have hsR:wB.heap.size<wR.heap.size:=zO;replace hSW:=zH hSW;replace hDR:=zH hDR;clear kSB kXB kNB rSB rXB rNB;generalize nO:({ tmps:=_,defers:=_ }:Act)=act;refine(wpIn_wide (n:=3)).1 ?_;refine wpIn_rangeFunc_ownH rfl zO (gf:=197) (lb:=#[.pointer (some ⟨wB.heap.size,0,none⟩)]) (by rw[<-nO];simp[Act.eval]) trivial (enters_of func197 zQ rfl)
             (qfy (3-1) zO wB.heap.size b2 _ us (by rw[hES.out];have:=hlx.out;omega) wR hsR hb2R hSW.out) QA.t (QA.b hsR hb2R) (Below.refl _ _) (fun _=>rfl)
             (fun pre W'=>W'.heap[wN.heap.size]?=some (.cells #[.int .i64 lv,.slice (some ⟨b2,o2,none⟩) xs.length cn] 113 (0,0))/\(∃ sv',W'.heap[w2.heap.size+1]?=some (.cells #[sv'] 236 (0,0))/\W'.ownsRow w2.heap.size 235 2 sv' (m+pre.length) (vB (s++pre.map (fun j=>((us[j]?.getD uiz).1.r.toNat,lv-1))))/\∀ q,sv'.ownBlock=some q->q<V.heap.size\/wR.heap.size<=q)/\Below w2.heap.size wR W'/\jM (w2.heap.size+2) Ds W')
             (fun _ _ _=>False)
             (OwnFrom.and (QC _ _ _ _) (OwnFrom.and (qeL _ _ _ _ _) (OwnFrom.and (ownFrom_below zwR zwR) (qcR hDR.out))))
             (fun _ _ _ _ _ hs _ _=>hs)
             ⟨rNR,⟨_,rSR,by simpa using oSR,fun q hq=>.inl (by cases hq;exact hgbV)⟩,Below.refl _ _,hmR⟩
             (fun j a' W'=>∃ t11,a'=(((({ tmps:=act.tmps,defers:=[] }:Act).put (some 112) (.int .i64 (j:Int))).put (some 113) (.agg #[.int .u8 (us[j]?.getD uiz).1.k,.int .u32 (us[j]?.getD uiz).1.i,.int .u32 (us[j]?.getD uiz).1.o,.int .i64 (us[j]?.getD uiz).1.r,sv (us[j]?.getD uiz).2])).put (some 11) (.pointer (some ⟨t11,0,none⟩)))/\W'.heap[t11]?=some (.cells #[.int .u8 (us[j]?.getD uiz).1.k,.int .u32 (us[j]?.getD uiz).1.i,.int .u32 (us[j]?.getD uiz).1.o,.int .i64 (us[j]?.getD uiz).1.r,sv (us[j]?.getD uiz).2] 51 (0,0)))
             (fun x a' s A C row hs hg hr=>by obtain⟨t11,e,h⟩:=hs;exact⟨t11,e,QC (β:=Unit) _ _ _ _ () A C row h hg hr⟩) ?assign ?body ?done ?stop
            case assign =>
             rintro l' pre j W' K ⟨i1,⟨sv',i2,i3,i4⟩,i5,i6⟩ hK;subst nO;have z5:=i5.size
             gi_wp2
             exact hK _ _ ((KeepsOthers.alloc _ _).from _) ⟨zK _ _ _ zO,zK _ _ _ zO⟩ ⟨qb i1 (zN _ _),⟨sv',qb i2 (zN _ _),i3.alloc _,i4⟩,Below.alloc i5 zO _,i6.keep fun q o hq _=>(zK _ _ _ (zG.1 hq).1).trans hq⟩ ⟨W'.heap.size,rfl,zI _ _ _ rfl⟩
            case body =>
             rintro l' pre j a' W' hll ⟨rr,hlp⟩ ⟨i1,⟨sv',i2,i3,i4⟩,i5,i6⟩ ⟨t11,rfl,hEM⟩ hpre;subst nO;simp only[Act.put,zA,zB,zC];have hr0:=hIX.out j;obtain⟨u9,hu9⟩:∃ u9,us[j]?.getD uiz=u9:=⟨_,rfl⟩
             have xQ:Hid ((pre++[j]).map (fun j=>((us[j]?.getD uiz).1.r.toNat,lv-1))=pre.map (fun j=>((us[j]?.getD uiz).1.r.toNat,lv-1))++[(u9.1.r.toNat,lv-1)]):=zH (by rw[List.map_append,List.map_cons,List.map_nil,hu9]);rw[hu9] at hEM hr0 ⊢;obtain⟨rn,hrn⟩:∃ rn:Nat,u9.1.r=(rn:Int):=⟨u9.1.r.toNat,zO⟩
             have hrt:Hid (u9.1.r.toNat=rn):=zH zO;rw[hrn] at hEM ⊢;obtain⟨pre',hAV⟩:∃ pre',pre.map (fun j=>((us[j]?.getD uiz).1.r.toNat,lv-1))=pre':=⟨_,rfl⟩
             rw[hAV] at i3 xQ;have kr:=qa i2;have kN:=qa i1;have kY:=qa hEM;have zS:=(zG.1 i2).1;have zN':=(zG.1 i1).1;have z5:=i5.size;have aG:sv'.ownBlock≠some (w2.heap.size+1):=fun e=>by obtain⟨cur,hg⟩:=jh i3 e;exact qU hg i2 zD rfl
             obtain⟨Av,cv,rfl,-,-⟩:=qE i3;obtain⟨i0,hi,ag,aV,aW⟩:=info_parts Tryz.info_owed;have sD:m+pre.length<1073741824:=by have h2:=qjS S.now;have h3:=oN.out.few;have h4:=hlx.out;have h5:=hES.out;have h6:=hm0.out;simp only[List.length_append,List.length_cons,List.length_nil] at h3;omega
             have i3H:=zH i3;replace hu9:=zH hu9;replace hrn:=zH hrn;replace hAV:=zH hAV;replace sD:=zH sD
             gi_wp2_with (gi_at_builtin;refine Kx ?_)
             refine QF.go (Kw W' rfl (.tmp 114) (.tmp 121) 236 rfl w2.heap.size 235 i0 _ 2 16 underlying236 hi ag aV aW rfl zD (.slice Av (m+pre.length) cv) (m+pre.length) _ (by first|exact rfl|simp[Act.eval]) i3H.out #[.int .i64 (rn:Int),.int .i64 (lv-1)] (by first|exact rfl|simp[Act.eval]) rfl zA7 sD.out zD zO ?_);intro v' W3 dH hg fE;have hg0:∀ g,(Value.slice Av (m+pre.length) cv).ownBlock=some g->w2.heap.size<=g:=fun g e=>(QP i3H.out _ e).1;have rH:W3.heap[w2.heap.size+1]?=_:=(hg.block _ zS (fun e=>aG e.symm)).trans i2;have hN3:W3.heap[wN.heap.size]?=_:=(hg.block _ zN' (fun e=>by have:=i4 _ e.symm;omega)).trans i1;have hb23:W3.heap[b2]?=W'.heap[b2]?:=hg.block _ zO (fun e=>by have:=i4 _ e.symm;omega);have hbB3:W3.heap[wB.heap.size]?=W'.heap[wB.heap.size]?:=hg.block _ zO (fun e=>by have:=i4 _ e.symm;omega);have kr3:=qa rH;have fr3:=qe rH;have tq:Below w2.heap.size W' W3:=qaa hg fun g e=>by have:=hg0 g e;omega
             have hIM:v'.ownBlock≠some (w2.heap.size+1):=fun e=>by obtain⟨cur,hgx⟩:=jh dH e;exact qU hgx rH zD rfl
             have hat3:∀ q,v'.ownBlock=some q->q<V.heap.size\/wR.heap.size<=q:=fun q e=>by
              rcases fE with h|⟨g',h,h'⟩
              ·exact i4 q (h.symm.trans e)
              ·rw[h] at e;cases e;right;omega
             have wH:jM (w2.heap.size+2) Ds W3:=i6.keep fun q o hq ho=>(hg.block q (zG.1 hq).1 fun e=>by obtain⟨cur,hgx⟩:=jh i3H.out e.symm;rw[hgx] at hq;cases hq;cases ho).trans hq;have mP:KeepsOthers W' W3:=qao i3H.out hg;replace hg:=zH hg;replace fE:=zH fE;obtain⟨Av',cv',rfl,-,-⟩:=qE dH;replace dH:=zH dH;clear i3 kr kN kY hEM hr0
             gi_wp2_with fail
             refine⟨(mP.trans (KeepsOthers.setCell _ _ _)).from _,⟨(zJ _ _ _ _ (by show wB.heap.size≠w2.heap.size+1;omega)).trans hbB3,(zJ _ _ _ _ (by show b2≠w2.heap.size+1;omega)).trans hb23⟩,(zJ _ _ _ _ (by show wN.heap.size≠w2.heap.size+1;omega)).trans hN3,⟨_,qi rH 0 _,?_,hat3⟩,i5.trans (tq.setCell (p:=⟨w2.heap.size+1,0,none⟩) zA2 _),wH.keep fun q o hq ho=>(zJ _ _ _ _ fun e=>by have e':q=w2.heap.size+1:=e;rw[e',rH] at hq;cases hq;cases ho).trans hq⟩;rw[xQ.out,List.length_append,List.length_singleton,<-List.append_assoc,UR,qdJ,hrt.out];exact Zx dH.out fun q hq=>zJ _ _ _ _ fun e=>hIM (by have e':q=w2.heap.size+1:=e;rw[<-e'];exact hq)
            case done =>
             rintro Dm ys W' hD eQ ⟨i1,⟨sv',i2,i3,i4⟩,i5,i6⟩ hK;subst nO;have mQ:m+ys.length=(s++((qz xs).map fun r=>(r,lv-1)).reverse).length:=by rw[eQ,ZA,List.length_append,List.length_reverse,List.length_map,hES.out,<-hm0.out];simp[qz]
             rw[mQ,eQ,hBD.out] at i3;have yU:Below w2.heap.size wB W':=(Below.mono xBR zO).trans i5;have hR:LvR D B lo b g k S a w2 (Vq (t.set a1 0)) (Dm :: Ds) W':=⟨⟨_,t.set a1 0,sv',rfl,hOG.out,(h0.out.ext x2).fresh hb0.out yU,i2,i3⟩,xJ.out.fresh (by have:=x2.size;omega) yU,i6.add hDR.out hD zO hK⟩
             replace hR:=zH hR;replace hIC:=zH hIC;clear i1 i2 i3 i4 i5 i6 mQ yU hK eQ;go_wp2_with fail;exact qbO hK0.out _ hIC.out (Dm :: Ds) rfl zQ hR.out
            case stop =>rintro Dm c pre W _ _ h _;exact h.elim
          ·obtain rfl:lv=0:=zO;have hLZ:=zH (fun er (he:looseL (qz xs) (t.set a1 0)=.error er)=>oN.out.leafBad hone.out hnd hlev hlv he);have hokL:=zH (fun t' (he:looseL (qz xs) (t.set a1 0)=.ok t')=>And.intro (oN.out.leaf hone.out hnd hlev hlv he) (show Vq t'<nn by rw[xR.out];have:=Gl hone.out;have:=(VL he).1;omega));have yO:=KM hnd;have fQ:=zH (fun x hx=>((qM hnd).2.1 x hx).1.2.2.2.1.1);have hnB:∀ q,w2.heap.size<=q->¬B3 b g k q:=fun q hq hx=>by have:=(h0.out.b3 q hx).2;have:=x2.size;omega
           have hx0:∀ C,Ql (B3 b g k) wB C->Its C C.heap.size (.slice An xs.length cn) xs:=fun C hC=>hi2.keepX hC fun q hq=>hnB q zO;replace yO:=zH yO;replace hx0:=zH hx0;have hA:=(hx0.out wB (Ql.refl _ _)).at_.2.2.2;replace hA:=zH hA;replace hlx:=zH hlx;replace hnB:=zH hnB;replace hlev:=zH hlev;clear uX aP hi hi2 hl0 hlv hnd;rcases hd0 with ⟨d1,d2⟩|⟨d1,d2,d3,d4⟩
           all_goals
            generalize hwq:wr=wq at *;clear hwq;go_wp2_with fail;go_loopw [4,126] (fun v i wr'=>L0I D B lo b g k S (t.set a1 0) xs wB v i wr') (fun _ i _=>xs.length-(intOf i).toNat)
            case atStart=>exact⟨0,_,rfl,Nat.zero_le _,rfl,rfl,hb0.out,Qg.refl _ _ _ _ _⟩
            case round =>
             obtain⟨j,t9,rfl,hj,rfl,aQ,oQ,lS⟩:=hrel.ex;clear hrel;have hkA:=zH (xJ.out.trans lS (ZD.refl _ _));have rNr:=lS.row rNB (hnB.out _ zO);have rSr:=lS.row rSB (hnB.out _ zO);have kNr:=qa rNr;have hmr:=zH (hmB.out.bkeep lS fun q hq=>hnB.out q zO);by_cases hlt:j<xs.length
             ·obtain⟨bi,off,rfl,hbi⟩:=hA.out zO;obtain⟨A',c',d0,d1',d2',d3',d4',-⟩:=(hx0.out wr lS.keepX).item j hlt;have oJ:=yO.out _ (List.mem_map_of_mem (f:=fun x:It=>x.r.toNat) (List.getElem_mem hlt));have hr0:0<=xs[j].r:=fQ.out _ (List.getElem_mem hlt);have ai:=zH (fun h0 h1=>qbJ hlt aQ h0 h1);have aZ:=zH (fun h0 h1=>qat hlt aQ h0 h1);have fA:=zH (fun h0=>qau hlt aQ h0);generalize xs[j]=x at *;have hj1:=zH (IntWalk.wrap64_in ((j:Int)+1) (by have:=hlx.out;omega));obtain⟨r,hra⟩:∃ r:Nat,x.r=(r:Int):=⟨x.r.toNat,zO⟩
              have hsa:(x.r).toNat=r:=zO;have ha9:r<256:=by rw[hsa] at oJ;exact oJ.2
              rw[hra] at d3';rw[hsa] at ai aZ fA;have hz:=oQ.size.2.2.2.2.2.1;have HL:=zH (fun W (hW:Ext wr W)=>qac D B lo b g k (qw S t9) r ha9 W (oQ.ext hW));replace oQ:=zH oQ;replace lS:=zH lS;clear hra hsa oJ hr0 aQ hbi;rcases Nat.eq_zero_or_pos r with uQ|uQ
              ·subst uQ;have hF:L0I D B lo b g k S (t.set a1 0) xs wB (.int .i64 0) (.int .i64 ((j:Int)+1)) (wr.alloc (.cells #[.int .u8 x.k,.int .u32 x.i,.int .u32 x.o,.int .i64 0,.slice A' x.val.length c'] 51)):=⟨j+1,t9,rfl,zO,rfl,fA.out rfl,oQ.out.ext (zN _ _),lS.out.trans (Qg.of_ext (zN _ _) hz) (ZD.refl _ _)⟩
               replace hF:=zH hF;clear ai aZ fA HL;go_wp2_with fail;try rw[hj1.out]
               refine⟨hF.out,?_⟩;simp[intOf];omega
              ·have hza:((r:Int) == 0)=false:=by rw[beq_eq_false_iff_ne];omega
               replace uQ:=zH uQ;go_wp2_with fail;generalize lM:World.alloc wr _=wa;have xa:Ext wr wa:=by rw[<-lM];exact zN _ _
               clear lM d0 d1' d2' d3' d4';refine(HL.out wa xa).mono ?_;clear HL;rintro e wl ⟨hkl,ah⟩;have hDT:=(Qg.of_ext xa hz).trans hkl (ZD.refl _ _);have oq:=lS.out.trans hDT (ZD.refl _ _);rcases ah with ⟨dQ,rfl⟩|⟨dQ,rfl,cZ⟩
               ·have aJ:=zH (jT.bad2 (a:=a) (D:=D) (B:=B) x2 rG (hLZ.out _ (ai.out (by have:=uQ.out;omega) dQ)) (xJ.out.trans oq (ZD.refl _ _)));have pF:=zH (hmr.out.bkeep hDT fun q hq=>hnB.out q zO);clear ai aZ fA hkl oq dQ hkA hDT;go_wp2_with fail;exact KI rfl rfl pF.out fun C hC=>aJ.out C (hC.mono zO)
               ·have hF:L0I D B lo b g k S (t.set a1 0) xs wB (.int .i64 0) (.int .i64 ((j:Int)+1)) wl:=⟨j+1,_,rfl,zO,rfl,aZ.out (by have:=uQ.out;omega) dQ,cZ,oq⟩
                replace hF:=zH hF;clear ai aZ fA hkl oq dQ cZ hkA hDT;go_wp2_with fail;try rw[hj1.out]
                refine⟨hF.out,?_⟩;simp[intOf];omega
             ·obtain rfl:j=xs.length:=zO;rw[List.take_length] at aQ;obtain⟨hLn,hln⟩:=hokL.out t9 aQ;have oSr:wr.ownsRow w2.heap.size 235 2 (.slice (some ⟨gb,0,none⟩) m cap) m (vB s):=lS.own oSB.out fun q hq=>hnB.out q (QP oSB.out q hq).1;have hR:LvR D B lo b g k S a w2 (Vq t9) Ds wr:=⟨⟨s,t9,_,rfl,hLn,oQ,rSr,by rw[<-hm0.out];exact oSr⟩,hkA.out,hmr.out⟩
              replace hR:=zH hR;replace hln:=zH hln;clear aQ oQ lS hkA hmr hLn oSr;go_wp2_with fail;exact qbO hK0.out _ hln.out Ds rfl zQ hR.out
end Go.Proofs.YtmeadnlmepcmbaaGreat
namespace Go.Proofs.YtmeadnlmepcmbaaGreat
open Go.RowKit
theorem UQ (w:World) (g o la ca vg lb cb:Nat) (cur vcur:Array Value) (hg:w.heap[g]?=some (.cells cur 51 (0,0))) (hv:w.heap[vg]?=some (.cells vcur 51 (0,0))) (aG:vg≠g) (h0:cur.size≠0) (vo:Nat) : (callFunc 167 #[.slice (some ⟨vg,vo,none⟩) lb cb,.slice (some ⟨g,o,none⟩) la ca]).run prog w=.ok (.value (.bool false)) w:=by
 rw[run_callFunc_extern func167 zQ zQ zQ (e:=Extern.SlicesOverlaps.overlaps #[55,55] #[4]) zQ,
  Lib.run_overlaps_apart w 55 4 51 underlying55 5 (fun w=>sizeOf51 w) ⟨vg,vo,none⟩ ⟨g,o,none⟩ lb cb la ca aG 51 51 vcur.size cur.size (by simp[World.shape?,hv]) (by simp[World.shape?,hg]) h0 (by simp[World.frozen?,hv]) (by simp[World.frozen?,hv])]
 rfl
set_option maxRecDepth 100000 in
theorem qhW (lo:Nat) (s:Value) (n i:Nat) (xs:List Value) (v:Value) (m lov:Nat) (vs:List Value) (w:World) (ho:w.ownsRow lo 51 5 s n xs) (hv:w.ownsRow lov 51 5 v m vs) (uI:∀ q,v.ownBlock=some q->s.ownBlock≠some q) (hm:0<m) (hnm:n+m<=100) (hi:i<=n) (h1x:∀ u∈xs,u.oneCell'=true) (wV:∀ u∈vs,u.oneCell'=true) (aQ:lo<=w.heap.size):Calls prog 166 #[s,.int .i64 (i:Int),v] w (YX lo s (n+m) (xs.take (i*5)++vs++xs.drop (i*5)) w):=by
 obtain⟨i0,oZ,ag,aV,aW⟩:=info_parts Tryz.info_item;have bC:=hv.1;have fC:=ho.1;obtain⟨vg,vcap,vcur,rfl,hvlo,hvg,hvc,yQ,hvs,hvt⟩:∃ g cap cur,v=.slice (some ⟨g,0,none⟩) m cap/\lov<=g/\w.heap[g]?=some (.cells cur 51 (0,0))/\m<=cap/\cap<=maxLen/\cur.size=cap*5/\cur.toList.take (m*5)=vs:=by
  rcases hv.2 with ⟨_,h0⟩|h
  ·omega
  ·exact h
 have iW:=qfp hv;have hm0:((m:Int) == 0)=false:=by rw[beq_eq_false_iff_ne];omega
 have hrv:Rd w w.heap.size 5 (some ⟨vg,0,none⟩) m vs:=Rd.of_own hv;by_cases hin:i=n
 ·subst hin;have hy:xs.take (i*5)++vs++xs.drop (i*5)=xs++vs:=by rw[List.take_of_length_le zO,List.drop_of_length_le zO,List.append_nil]
  rw[hy];have hd1:decide ((i:Int)=(i:Int))=true:=decide_eq_true rfl;have hgo:∀ A c,s=.slice A i c->(A=none\/∃ g,A=some ⟨g,0,none⟩)->Calls prog 166 #[s,.int .i64 (i:Int),.slice (some ⟨vg,0,none⟩) m vcap] w (YX lo s (i+m) (xs++vs) w):=fun A c hs hA=>by
   have hic:i<=c:=by obtain⟨A',c',e,h1,h2⟩:=qE ho;rw[hs] at e;cases e;exact h1
   subst hs;clear hvg hvs hvt iW hy;replace yQ:=zH yQ;have aJ:∀ (v':Value) (w':World),w'.ownsRow lo 51 5 v' (i+m) (xs++vs)->w.grownBy w' (Value.slice A i c).ownBlock->Below lo w w'->YX lo (.slice A i c) (i+m) (xs++vs) w (.returned v') w':=fun v' w' h1 h2 h3=>⟨v',rfl,h1,h3,fun q hq hn=>h2.block q hq fun e=>hn e.symm⟩
   replace aJ:=zH aJ;rcases hA with rfl|⟨g,rfl⟩
   ·go_enter func166,ntmps166;go_wp2_with (at_builtin;refine Qh ?_);refine QF.go (Qz _ rfl (.tmp 23) (.tmp 24) 55 rfl lo 51 i0 _ 5 48 underlying55 oZ ag aV aW rfl zD _ i xs rfl ho w.heap.size _ m vcap vs zE hrv wV zO zD aQ ?_);intro v' w' h1 h2 h3 _;go_wp2_with fail;go_ret;exact aJ.out v' w' h1 h2 h3
   ·go_enter func166,ntmps166;by_cases hci:c=i
    ·subst hci;have hGY:c-c=0:=zO;go_wp2_with (at_builtin;refine Qh ?_);refine QF.go (Qz _ rfl (.tmp 23) (.tmp 24) 55 rfl lo 51 i0 _ 5 48 underlying55 oZ ag aV aW rfl zD _ c xs rfl ho w.heap.size _ m vcap vs zE hrv wV zO zD aQ ?_);intro v' w' h1 h2 h3 _;go_wp2_with fail;go_ret;exact aJ.out v' w' h1 h2 h3
    ·have hGY:¬(c-i=0):=zO;go_wp2_with (at_builtin;refine Qh ?_);refine QF.go (Qz _ rfl (.tmp 23) (.tmp 24) 55 rfl lo 51 i0 _ 5 48 underlying55 oZ ag aV aW rfl zD _ i xs rfl ho w.heap.size _ m vcap vs zE hrv wV zO zD aQ ?_);intro v' w' h1 h2 h3 _;go_wp2_with fail;go_ret;exact aJ.out v' w' h1 h2 h3
  rcases ho.2 with ⟨e,h0⟩|⟨g,cap,cur,e,_⟩
  ·exact hgo none 0 (by rw[e,h0]) (.inl rfl)
  ·exact hgo _ cap e (.inr ⟨g,rfl⟩)
 ·obtain⟨g,cap,cur,rfl,mG,hg,gZ,fF,dA,hct⟩:∃ g cap cur,s=.slice (some ⟨g,0,none⟩) n cap/\lo<=g/\w.heap[g]?=some (.cells cur 51 (0,0))/\n<=cap/\cap<=maxLen/\cur.size=cap*5/\cur.toList.take (n*5)=xs:=by
   rcases ho.2 with ⟨_,h0⟩|h
   ·omega
   ·exact h
  have hlt:i<n:=zO;have iH:((i:Int) == (n:Int))=false:=by rw[beq_eq_false_iff_ne];omega
  have hci:¬(cap=i):=zO;have hBR:vg≠g:=fun e=>uI vg rfl (by rw[e];rfl);have gJ:(xs.drop (i*5)).length=(n-i)*5:=by rw[List.length_drop];omega
  have h1d:∀ u∈xs.drop (i*5),u.oneCell'=true:=fun u hu=>h1x u (List.mem_of_mem_drop hu);have hsz:(Tryz.prog.info? 51).map (·.size)=some 5:=by rw[oZ];simp[aV]
  have fK:∀ W:World,W.heap[g]?=w.heap[g]?->∀ j u,(xs.drop (i*5))[j]?=some u->W.cell? ((⟨g,i*5,none⟩:Addr).add j)=some u:=fun W hW j u hu=>by
   rw[Addr.add_lit,qa (hW.trans hg),<-Array.getElem?_toList];rw[List.getElem?_drop,<-hct,List.getElem?_take] at hu;split at hu
   ·exact hu
   ·cases hu
  have lZ:∀ W:World,W.heap[vg]?=w.heap[vg]?->∀ j u,vs[j]?=some u->W.cell? ((⟨vg,0,none⟩:Addr).add j)=some u:=fun W hW j u hu=>by rw[World.cell?_of_block (w:=w) (by rw[Addr.add_lit];exact hW)];exact iW j u hu
  have hgl:=(zG.1 hg).1;replace fF:=zH fF;replace yQ:=zH yQ;replace h1x:=zH h1x;replace uI:=zH uI;have hEW:=(zG.1 hvg).1;clear iW hrv ho hv;by_cases hcap:cap<n+m
  ·obtain⟨k,hk⟩:∃ k,k=n+m-i:=⟨_,rfl⟩
   have eP:(n:Int)+(m:Int)-(i:Int)=((k:Nat):Int):=zO;obtain⟨C,hC⟩:∃ C,C=grownCap w (i+k) cap 51:=⟨_,rfl⟩
   have hCge:i+k<=C:=by rw[hC];exact grownCap_ge w (i+k) cap _
   have hCm:C<=maxLen:=by rw[hC];exact grownCap_le_maxLen w (i+k) cap _ zA6
   obtain⟨cur0,gz⟩:∃ cur0:Array Value,cur0=(xs.take (i*5)).toArray++Builtin.zeroCells (Value.agg #[.int .u8 0,.int .u32 0,.int .u32 0,.int .i64 0,.slice none 0 0]).cells k++Builtin.zeroCells (Value.agg #[.int .u8 0,.int .u32 0,.int .u32 0,.int .i64 0,.slice none 0 0]).cells (C-(i+k)):=⟨_,rfl⟩
   have az:∀ ty,(Builtin.append_ #[55,3] ty #[.slice (some ⟨g,0,none⟩) i cap,.int .i64 ((n:Int)+(m:Int)-(i:Int))]).run prog w=.ok (.slice (some ⟨w.heap.size,0,none⟩) (i+k) C) (w.drew.alloc (.cells cur0 51)):=fun ty=>by
    rw[eP,hC,gz,hC];exact Lib.run_append_grow_zeros (P:=prog) w 55 3 ty 51 i0 _ .i64 .i64 underlying55 underlying3 oZ ag (some ⟨g,0,none⟩) i cap (xs.take (i*5)) (by
     rw[aV];exact run_firstCells_some w.drew 5 i ⟨g,0,none⟩ i cap (xs.take (i*5)) (by rw[List.length_take];omega) (fun j u hu=>by
      rw[Addr.add_lit,Nat.zero_add];show w.cell? _=_;rw[qa hg,<-Array.getElem?_toList];rw[<-hct,List.take_take,List.getElem?_take] at hu;split at hu
      ·exact hu
      ·cases hu)) k zO zO zO zO (by rw[aW];omega) (by rw[aW];exact growslice_fits zO zO)
   have dQ:cur0.size=C*5:=by rw[gz];simp only[Array.size_append,List.size_toArray,size_zeroCells,List.length_take];simp only[Value.cells,List.size_toArray,List.length_cons,List.length_nil];omega
   have uT:cur0.toList.take (i*5)=xs.take (i*5):=by
    rw[gz];simp only[Array.toList_append,List.append_assoc];have:i*5=(xs.take (i*5)).length:=by rw[List.length_take];omega
    rw[this];simp
   clear gz hC;have hsd:(i+k)=n+m:=zO;have aJ:∀ W:World,W.heap[w.heap.size]?=some (.cells (spl (spl cur0 i vs) (i+m) (xs.drop (i*5))) 51 (0,0))->Below lo w W->(∀ q,q<w.heap.size->W.heap[q]?=w.heap[q]?)->YX lo (.slice (some ⟨g,0,none⟩) n cap) (n+m) (xs.take (i*5)++vs++xs.drop (i*5)) w (.returned (.slice (some ⟨w.heap.size,0,none⟩) (i+k) C)) W:=fun W h1 h2 h3=>by
    rw[hsd];refine⟨_,rfl,RowI.own ⟨_,h1,?_,?_⟩ ?_ aQ zO hCm,h2,fun q hq _=>h3 q hq⟩
    ·rw[zj (k:=n-i) gJ (by rw[zj bC zO];omega),zj bC zO,dQ]
    ·have e1:=XU uT bC zO;have e2:=XU e1 gJ (by rw[zj bC zO];omega);rw[<-e2];congr 1;omega
    ·simp only[List.length_append,List.length_take,gJ,bC];omega
   replace aJ:=zH aJ;replace uT:=zH uT;clear eP;replace hk:=zH hk;have hiC:¬(C=i):=zO;have himC:¬(C=i+m):=zO;replace hCm:=zH hCm;go_enter func166,ntmps166;go_wp2_with (at_builtin;refine Qh ?_);refine QF.go (Lib.wpList_append_run _ rfl _ _ _ _ rfl _ _ rfl rfl _ _ (az _) ?_);clear az;generalize aA:World.alloc _ _=w1;have p1:w1.heap[w.heap.size]?=some (.cells cur0 51 (0,0)):=by rw[<-aA];exact zI _ _ _ rfl
   have k1:∀ q,q<w.heap.size->w1.heap[q]?=w.heap[q]?:=fun q hq=>by rw[<-aA];exact zK _ _ _ hq
   have z1:w.heap.size<=w1.heap.size:=by rw[<-aA];simp
   have B1:Below lo w w1:=by rw[<-aA];exact Below.mono ((Ext.drew w).trans (zN _ _)) aQ
   clear aA;have eU:∀ ty,(Builtin.copy_ #[55,55] ty #[.slice (some ⟨w.heap.size,i*5,none⟩) (n+m-i) (C-i),.slice (some ⟨vg,0,none⟩) m vcap]).run prog w1=.ok (.int .i64 (m:Nat)) (w1.setRow w.heap.size (spl cur0 i vs)):=fun ty =>
    Ju (k:=m) (o:=i) p1 bC zO underlying55 hsz zA8 (lZ w1 (k1 _ hEW)) wV
   obtain⟨w2,bP⟩:∃ w2,w2=w1.setRow w.heap.size (spl cur0 i vs):=⟨_,rfl⟩
   rw[<-bP] at eU;have p2:w2.heap[w.heap.size]?=some (.cells (spl cur0 i vs) 51 (0,0)):=by rw[bP];exact setRow_heap _ _ _ _ _ _ p1
   have k2:∀ q,q<w.heap.size->w2.heap[q]?=w.heap[q]?:=fun q hq=>by rw[bP];exact(setRow_other _ _ _ _ zO).trans (k1 q hq)
   have z2:w.heap.size<=w2.heap.size:=by rw[bP];simpa using z1
   have B2:Below lo w w2:=by rw[bP];exact Zi B1 aQ aQ _
   have s2:=zj (cur:=cur0) (o:=i) bC zO;clear bP p1 k1 z1;have dO:∀ W:World,Ext w2 W->∀ ty,(Builtin.copy_ #[55,55] ty #[.slice (some ⟨w.heap.size,(i+m)*5,none⟩) (n+m-(i+m)) (C-(i+m)),.slice (some ⟨g,i*5,none⟩) (n-i) (cap-i)]).run prog W=.ok (.int .i64 ((n-i:Nat):Int)) (W.setRow w.heap.size (spl (spl cur0 i vs) (i+m) (xs.drop (i*5)))):=fun W hW ty =>
    Ju (k:=n-i) (o:=i+m) (qb p2 hW) gJ zO underlying55 hsz zA8 (fK W ((Below.block hW g zO).trans (k2 _ hgl))) h1d
   have bn:∀ W:World,Ext w2 W->YX lo (.slice (some ⟨g,0,none⟩) n cap) (n+m) (xs.take (i*5)++vs++xs.drop (i*5)) w (.returned (.slice (some ⟨w.heap.size,0,none⟩) (n+m) C)) (W.setRow w.heap.size (spl (spl cur0 i vs) (i+m) (xs.drop (i*5)))):=fun W hW=>by have:=aJ.out (W.setRow w.heap.size (spl (spl cur0 i vs) (i+m) (xs.drop (i*5)))) (setRow_heap _ _ _ _ _ _ (qb p2 hW)) (Zi (B2.trans (Below.mono hW zO)) aQ aQ _) (fun q hq=>(setRow_other _ _ _ _ zO).trans ((Below.block hW q zO).trans (k2 q hq)));rw[hsd] at this;exact this
   replace bn:=zH bn;replace dO:=zH dO;clear aJ;have hJD:=zH (show IntKind.i64.wrap ((i:Int)+(m:Int))=((i+m:Nat):Int) by rw[IntKind.wrap_i64];omega);have him:(0:Int)<=(i:Int)+(m:Int):=zO;have himt:((i:Int)+(m:Int)).toNat=i+m:=zO;go_upto_region 11 with (simp only[eU])
   refine qp zQ ?_;refine qQ (w:=w2) qj (qH []) (List.replicate 8 true) 1 zQ zQ zQ zQ zQ zQ zQ ?st (Rel.drew _ _) ?walk
   case st=>exact qk (fun _ h=>by cases h)
   case walk =>
    intro K hK;dsimp only[qu,List.replicate];refine zB6 ?_;refine qd (.slice (some ⟨w.heap.size,(i+m)*5,none⟩) (n+m-(i+m)) (C-(i+m))) zA0 zA0 (fun W hW _=>⟨W,?_,Rel.refl _ W⟩) ?_
    ·go_simp;rw[hJD.out,Int.toNat_natCast,if_pos zO,if_neg zO]
    refine zB6 ?_;refine qv (hK _ _ fun W hW hF=>?_);clear hF hK;have hW:Ext w2 W:=hW;refine zC3 ?_;have bG:=dO.out W hW;go_wp2_with (simp only[bG]);refine Qr ?_;go_wp2_with fail;go_ret;exact bn.out W hW
  ·have hov:∀ la ca lb cb,(callFunc 167 #[.slice (some ⟨vg,0,none⟩) lb cb,.slice (some ⟨g,(i+m)*5,none⟩) la ca]).run prog w=.ok (.value (.bool false)) w:=fun la ca lb cb=>UQ w g _ la ca vg lb cb cur vcur hg hvg hBR zO 0;go_enter func166,ntmps166;go_upto_region 15 with (simp only[hov])
   have hMI:(n+m)*5<=cur.size:=zO;have eU:∀ W:World,Ext w W->∀ ty dc sc,(Builtin.copy_ #[55,55] ty #[.slice (some ⟨g,(i+m)*5,none⟩) (n+m-(i+m)) dc,.slice (some ⟨g,i*5,none⟩) (n+m-i) sc]).run prog W=.ok (.int .i64 ((n-i:Nat):Int)) (W.setRow g (spl cur (i+m) (xs.drop (i*5)))):=fun W hW ty dc sc =>
    Ju (k:=n-i) (o:=i+m) (qb hg hW) gJ zO underlying55 hsz zA8 (fK W (Below.block hW g hgl)) h1d
   have s1:=zj (cur:=cur) (o:=i+m) gJ zO;have dO:∀ W:World,Ext w W->∀ ty dc,(Builtin.copy_ #[55,55] ty #[.slice (some ⟨g,i*5,none⟩) (n+m-i) dc,.slice (some ⟨vg,0,none⟩) m vcap]).run prog (W.setRow g (spl cur (i+m) (xs.drop (i*5))))=.ok (.int .i64 (m:Nat)) ((W.setRow g (spl cur (i+m) (xs.drop (i*5)))).setRow g (spl (spl cur (i+m) (xs.drop (i*5))) i vs)):=fun W hW ty dc =>
    Ju (k:=m) (o:=i) (setRow_heap _ _ _ _ _ _ (qb hg hW)) bC zO underlying55 hsz zA8 (lZ _ ((setRow_other _ _ _ _ hBR).trans (Below.block hW vg hEW))) wV
   have aJ:∀ W:World,Ext w W->YX lo (.slice (some ⟨g,0,none⟩) n cap) (n+m) (xs.take (i*5)++vs++xs.drop (i*5)) w (.returned (.slice (some ⟨g,0,none⟩) (n+m) cap)) ((W.setRow g (spl cur (i+m) (xs.drop (i*5)))).setRow g (spl (spl cur (i+m) (xs.drop (i*5))) i vs)):=fun W hW=>by
    refine⟨_,rfl,RowI.own ⟨_,setRow_heap _ _ _ _ _ _ (setRow_heap _ _ _ _ _ _ (qb hg hW)),?_,?_⟩ ?_ mG zO fF.out,Zi (Zi (Below.mono hW aQ) aQ mG _) aQ mG _,fun q hq hn=>?_⟩
    ·rw[zj bC zO,s1,dA]
    ·exact qla hct fC bC hi hMI
    ·simp only[List.length_append,List.length_take,gJ,bC];omega
    ·have:q≠g:=fun e=>hn (by rw[e];rfl);exact(setRow_other _ _ _ _ this).trans ((setRow_other _ _ _ _ this).trans (Below.block hW q hq))
   replace aJ:=zH aJ;replace dO:=zH dO;replace eU:=zH eU;have hJD:=zH (show IntKind.i64.wrap ((i:Int)+(m:Int))=((i+m:Nat):Int) by rw[IntKind.wrap_i64];omega);clear hov fK lZ;refine qp zQ ?_;refine qQ (w:=w) qj (qH []) (List.replicate 8 true) 1 zQ zQ zQ zQ zQ zQ zQ ?st (Rel.drew _ _) ?walk
   case st=>exact qk (fun _ h=>by cases h)
   case walk =>
    intro K hK;dsimp only[qu,List.replicate];refine zB6 ?_;refine qd (.slice (some ⟨g,(i+m)*5,none⟩) (n+m-(i+m)) (cap-(i+m))) zA0 zA0 (fun W hW _=>⟨W,?_,Rel.refl _ W⟩) ?_
    ·go_simp;rw[hJD.out,Int.toNat_natCast,if_pos zO,if_neg zO]
    refine zB6 ?_;refine qd (.slice (some ⟨g,i*5,none⟩) (n+m-i) (cap-i)) zA0 zA0 (fun W hW _=>⟨W,?_,Rel.refl _ W⟩) ?_
    ·go_simp;intro hx;exfalso;omega
    refine zB6 ?_;refine qv (hK _ _ fun W hW hF=>?_);clear hF hK;have hW:Ext w W:=hW;refine zC3 ?_;have dE:=eU.out W hW;have bG:=dO.out W hW;have sF:=zH (aJ.out W hW);generalize World.setRow (World.setRow W _ _) _ _=wf at *;generalize World.setRow W _ _=wm at *;go_wp2_with (simp only[dE]);refine Qr ?_;go_wp2_with (simp only[bG]);go_ret;exact sF.out
end Go.Proofs.YtmeadnlmepcmbaaGreat
