/- Lemmas of the proof. -/
import Derived.Test.YtmeadnlmepcmbaaGreatZN17
set_option linter.all false
set_option maxHeartbeats 8000000
open Go.Proofs.Tryz
namespace Go.Proofs.YtmeadnlmepcmbaaGreat
open Go.RowKit Go.Shelf
attribute [local go_sem] Oper.semAt_some
def vD (st:List (Nat×Int)):List Value:=st.flatMap fun p=>[.int .i64 (p.1:Int),.int .i64 p.2]
theorem UH (s r:List (Nat×Int)):vD (s++r)=vD s++vD r:=by unfold vD;rw[List.flatMap_append]
theorem qdH (x:Nat×Int):vD [x]=[.int .i64 (x.1:Int),.int .i64 x.2]:=rfl
theorem qdG:∀ st:List (Nat×Int),(vD st).length=st.length*2
 | []=>rfl
 |x :: r=>by have:=qdG r;have e:vD (x :: r)=[.int .i64 (x.1:Int),.int .i64 x.2]++vD r:=rfl;rw[e];simp only[List.length_append,List.length_cons,List.length_nil];omega
theorem Qf.fresh {lo b g:Nat} {k:Option Nat} {w W C:World} (h:Qf lo b g k w W) (hl:lo<=w.heap.size) (hx:Below w.heap.size W C):Qf lo b g k w C:=
 ⟨h.below.trans (Below.mono hx hl),fun q hq hn=>(hx.block q hq).trans (h.rows q hq hn)⟩
theorem jW.bad2 {D:Nat->Prop} {B lo b g:Nat} {k:Option Nat} {S:Sto} {a:Nat} {w w2 W:World} (x2:Ext w w2) (hl:lo<=w.heap.size) (h:QL S (-1) S.now a=none) (hB:Qf lo b g k w2 W):∀ C,Below w2.heap.size W C->jW D B lo b g k S a w (.returned (.int .i64 8)) C:=fun C hC=>by have z2:=x2.size;exact jW.bad h ((Qf.of_ext x2 hl).trans (hB.fresh zO hC) (ZK.refl _ _))
theorem jW.good2 {D:Nat->Prop} {B lo b g:Nat} {k:Option Nat} {S S0:Sto} {a:Nat} {t:List UInt8} {w w2 W:World} (h0:Bch D B lo b g k S0 w) (x2:Ext w w2) (h:QL S (-1) S.now a=some t) (hB:Qf lo b g k w2 W) (hb:Bch D B lo b g k (qy S t) W):∀ C,Below w2.heap.size W C->jW D B lo b g k S a w (.returned (.int .i64 0)) C:=fun C hC=>by have z2:=x2.size;have hl:=h0.size.2.2.2.2.2.1;exact jW.good h ((Qf.of_ext x2 hl).trans (hB.fresh zO hC) (ZK.refl _ _)) ((h0.ext x2).fresh hb hC)
theorem KB {n lo:Nat} {R:Ending->World->Prop} {a:Act} {W:World} {v:Value} {Ds:List Nat} (h4:a.tmps[4]?.getD undef=v) (hd:a.defers=Ds.map qbB) (hm:jT lo Ds W) (hR:∀ C,Below lo W C->R (.returned v) C):bodyPostM Fence.wide n prog Tryz.f121 R .ret a W:=by
 change LeavesInM Fence.wide n prog Tryz.f121 a.tmps R a.defers .returning W;rw[hd];refine Uo (lo:=lo) Ds W hm fun C h1 h2 h3 h4' h5=>⟨v,?_,hR C ⟨h3,h4',h5,zO,fun q hq=>h1 q fun hm'=>?_⟩⟩
 ·simp[results,results121,go_sem,h4]
 ·have:=(hm.at_ q hm').1;omega
theorem Tryz.info_owed:(Tryz.prog.info? 235).map (fun i=>(i.zero,i.size,i.bytes))=some (some (.agg #[.int .i64 0,.int .i64 0]),2,16):=zQ
theorem qeP {B:Nat} (b base m:Nat) (f:List Nat->List (Nat×Int)) (p:Value->Prop):OwnFrom B (fun (pre:List Nat) W=>∃ v,W.heap[b]?=some (.cells #[v] 236 (0,0))/\W.ownsRow base 235 2 v (m+pre.length) (vD (f pre))/\p v):=fun s A C row ⟨v,h1,h2,h3⟩ hg hr =>
 ⟨v,Qb (β:=Unit) _ _ _ _ () A C row h1 hg hr,h2.kept hg (by
  rcases hv:v.ownBlock with _|g
  ·exact .inl rfl
  ·refine .inr fun e=>?_;obtain⟨_,o,ho,hc⟩:=hr g e.symm;rcases UI h2 g hv with ⟨c,fz,h3⟩;rw[ho] at h3;cases h3;cases hc),h3⟩
theorem qcX {β:Type} {B lo:Nat} {Ds:List Nat} (hB:∀ D∈Ds,D<B):OwnFrom B (fun (_:β) W=>jT lo Ds W):=fun _ A C row h hg hr=>⟨h.nodup,fun D hD=>⟨(h.at_ D hD).1,(hg.block D (zG.1 (h.at_ D hD).2).1 fun e=>by have:=(hr D e.symm).1;have:=hB D hD;omega).trans (h.at_ D hD).2⟩⟩
theorem refs_rev {xs:List It} {us:List Ui} (h:us.map (·.1)=xs) (l:Int):(jw (fun j=>us.length-1-j) us.length).map (fun j=>((us[j]?.getD uiz).1.r.toNat,l))=((qE xs).map fun r=>(r,l)).reverse:=by
 subst h;refine List.ext_getElem (by simp[ZH,qE]) fun i h1 h2=>?_;have h3:i<us.length:=by simpa [ZH] using h1
 have e1:(jw (fun j=>us.length-1-j) us.length)[i]'(by rw[ZH];exact h3)=us.length-1-i:=by have:=XQ us.length us.length i h3;rw[zL (by rw[ZH];exact h3)] at this;exact Option.some.inj this
 rw[List.getElem_map,e1,List.getElem_reverse,List.getElem_map];have h4:us.length-1-i<us.length:=zO;have h5:us[us.length-1-i]?.getD uiz=us[us.length-1-i]:=by rw[zL h4];rfl
 rw[h5];simp[qE]
theorem qjz:∀ t:List UInt8,Vo t<=255*t.length
 | []=>by simp[Vo]
 |x :: r=>by have:=qjz r;have h:=x.toNat_lt;simp only[Vo,List.length_cons];omega
theorem jT.add {lo n D:Nat} {Ds:List Nat} {W:World} (h:jT lo Ds W) (hlt:∀ D∈Ds,D<n) (hD:n<=D) (hl:lo<=D) (hr:W.heap[D]?=some (.deferred (some []))):jT lo (D :: Ds) W:=by
 refine⟨List.nodup_cons.2 ⟨fun hm=>by have:=hlt D hm;omega,h.nodup⟩,fun q hq=>?_⟩;rcases List.mem_cons.1 hq with rfl|hq
 ·exact⟨hl,hr⟩
 ·exact h.at_ q hq
theorem jT.bkeep {lo lo' b g:Nat} {k:Option Nat} {Ds:List Nat} {w W:World} (h:jT lo Ds w) (hk:Qf lo' b g k w W) (hn:∀ q,lo<=q->¬B3 b g k q):jT lo Ds W:=
 ⟨h.nodup,fun D hD=>⟨(h.at_ D hD).1,(hk.rows D (zG.1 (h.at_ D hD).2).1 (hn D (h.at_ D hD).1)).trans (h.at_ D hD).2⟩⟩
structure LvR (D:Nat->Prop) (B lo b g:Nat) (k:Option Nat) (S:Sto) (a:Nat) (w2:World) (n:Nat) (Ds:List Nat) (wr:World):Prop where
 ex:∃ st t sv,n=Vo t/\LvI S a st t/\Bch D B lo b g k (qy S t) wr/\wr.heap[w2.heap.size+1]?=some (.cells #[sv] 236 (0,0))/\wr.ownsRow w2.heap.size 235 2 sv st.length (vD st)
 keep:Qf lo b g k w2 wr
 marks:jT (w2.heap.size+2) Ds wr
def maskL:List Bool:=List.replicate 7 false++List.replicate 133 true
set_option maxRecDepth 100000 in
theorem qba (D:Nat->Prop) (B lo b g:Nat) (k:Option Nat) (S:Sto) (hS:ql S=true) (a:Nat) (ha:8<=a) (ha2:a<256) (w:World) (h:Bch D B lo b g k S w):Calls prog 121 #[.pointer (some ⟨b,0,none⟩),.int .i64 (a:Int)] w (jW D B lo b g k S a w):=by
 obtain⟨hlb,hzb,hlg,hzg,hgb,hlw,hkq⟩:=h.size;obtain⟨hlen,wSZ⟩:=h.lens;obtain⟨A1,n1,c1,v2,c3,A4,c4,kr,hkn,hfn⟩:=h.cells;have hBQ:w.ownsRow lo 5 1 (.slice (some ⟨g,0,none⟩) 256 c3) 256 (S.now.map bv):=by obtain⟨A1',n1',c1',v2',c3',A4',c4',hr',ho',_⟩:=h.ex;have:=(kr 2).symm.trans (qa hr' 2);simp at this;rw[this];exact ho'
 have hby:Bys w w.heap.size (.slice (some ⟨g,0,none⟩) 256 c3) S.now:=Bys.of_own hBQ;have HC:=zH (TN _ S.now zO w hby);have h0:=zH h;have hLI:=zH (LvI.start hS ha ha2);clear hby hBQ hkn hfn h hkq;refine(callsIn_wide (n:=3)).1 ?_;refine callsIn_of_wp_marks func121 rfl trivial ?_ rfl;simp only[ntmps121,List.size_toArray,List.length_cons,List.length_nil,Nat.reduceAdd,Nat.reduceSub,Array.replicate_succ,Array.replicate_zero,List.push_toArray,List.append_toArray,List.nil_append,List.cons_append];refine wpIn_wide.2 ?_;go_wp2_with fail;refine HC.mono ?_;clear HC;rintro e w2 ⟨u,rfl,hF,hB⟩;have x2:Ext w w2:=hB;obtain⟨AF,cF,rfl,-,-⟩:=qB hF;obtain⟨bF,oF,rfl,hbF,hFlo,hcF⟩:∃ bF oF,AF=some ⟨bF,oF,none⟩/\bF<w2.heap.size/\w.heap.size<=bF/\∀ j,j<256->w2.cell? ⟨bF,oF+j,none⟩=some (.int .u8 (Zo S j:Int)):=by rw[hlen] at hF;obtain⟨bF,oF,e,h1,h2⟩:=(Rd.of_own hF).2 zO;have hlo:=Zv.of_own hF ⟨bF,oF,none⟩ _ _ (by rw[e]);exact⟨bF,oF,e,h1,hlo,fun j hj=>h2 j _ (by rw[List.getElem?_map,zL zO];simp[Zo,zL (show j<S.now.length by omega)])⟩
 have wYY:Hid (∀ W,Qf lo b g k w2 W->∀ j,j<256->W.cell? ⟨bF,oF+j,none⟩=some (.int .u8 (qL S.now j:Int))):=zH fun W hW j hj=>hW.keepX ⟨bF,oF+j,none⟩ _ (fun hx=>by have:=(h0.out.b3 bF hx).2;omega) (hcF j hj);clear hcF;have hb2:=zH (h0.out.ext x2);clear hB hF kr;go_wp2_with fail;generalize hw3:(World.alloc (World.alloc w2 _) _)=w3;have x23:Ext w2 w3:=by rw[<-hw3];exact(zN _ _).trans (zN _ _)
 have rS:w3.heap[w2.heap.size+1]?=some (.cells #[.slice (some ⟨w2.heap.size,0,none⟩) 1 1] 236 (0,0)):=by rw[<-hw3];exact zI _ _ _ zA2
 have oS:w3.ownsRow w2.heap.size 235 2 (.slice (some ⟨w2.heap.size,0,none⟩) 1 1) 1 (vD [(a,-1)]):=by have h:=World.ownsRow_lit (base:=w2.heap.size) (e:=235) (size:=2) w2 #[.int .i64 (a:Int),.int .i64 (-1)] 1 (zM _) zA6 rfl;rw[<-hw3];exact h.alloc _
 clear hw3;have hR0:LvR D B lo b g k S a w2 (Vo S.now) [] w3:=⟨⟨[(a,-1)],S.now,_,rfl,hLI.out,hb2.out.ext x23,rS,oS⟩,Qf.of_ext x23 (by have:=x2.size;omega),jT.nil _ _⟩
 replace hR0:=zH hR0;clear rS oS x23 hb2 hLI;refine qfh maskL (Vo S.now) (fun n _ Ds wr=>LvR D B lo b g k S a w2 n Ds wr) hR0.out zQ ?_;intro nn gg Ds wr K0 hrel hK0;replace hK0:=zH hK0;clear hR0;obtain⟨st,t,sv,hnn,hLI,hbr,rS,oS⟩:=hrel.ex;have hkp:=zH hrel.keep;have hmk:=zH hrel.marks;have xz:=hrel.keep.below.size;clear hrel;replace hnn:=zH hnn;replace hLI:=zH hLI;replace hbr:=zH hbr;dsimp only[mixL,maskL,List.replicate,List.cons_append,List.nil_append,List.append_assoc,cond_true,cond_false,List.append_eq,Nat.reduceAdd];generalize gg 7=v7,gg 8=v8,gg 9=v9,gg 10=v10,gg 11=v11,gg 12=v12,gg 13=v13,gg 14=v14,gg 15=v15,gg 16=v16,gg 17=v17,gg 18=v18,gg 19=v19,gg 20=v20,gg 21=v21,gg 22=v22,gg 23=v23,gg 24=v24,gg 25=v25,gg 26=v26,gg 27=v27,gg 28=v28,gg 29=v29,gg 30=v30,gg 31=v31,gg 32=v32,gg 33=v33,gg 34=v34,gg 35=v35,gg 36=v36,gg 37=v37,gg 38=v38,gg 39=v39,gg 40=v40,gg 41=v41,gg 42=v42,gg 43=v43,gg 44=v44,gg 45=v45,gg 46=v46,gg 47=v47,gg 48=v48,gg 49=v49,gg 50=v50,gg 51=v51,gg 52=v52,gg 53=v53,gg 54=v54,gg 55=v55,gg 56=v56,gg 57=v57,gg 58=v58,gg 59=v59,gg 60=v60,gg 61=v61,gg 62=v62,gg 63=v63,gg 64=v64,gg 65=v65,gg 66=v66,gg 67=v67,gg 68=v68,gg 69=v69,gg 70=v70,gg 71=v71,gg 72=v72,gg 73=v73,gg 74=v74,gg 75=v75,gg 76=v76,gg 77=v77,gg 78=v78,gg 79=v79,gg 80=v80,gg 81=v81,gg 82=v82,gg 83=v83,gg 84=v84,gg 85=v85,gg 86=v86,gg 87=v87,gg 88=v88,gg 89=v89,gg 90=v90,gg 91=v91,gg 92=v92,gg 93=v93,gg 94=v94,gg 95=v95,gg 96=v96,gg 97=v97,gg 98=v98,gg 99=v99,gg 100=v100,gg 101=v101,gg 102=v102,gg 103=v103,gg 104=v104,gg 105=v105,gg 106=v106,gg 107=v107,gg 108=v108,gg 109=v109,gg 110=v110,gg 111=v111,gg 112=v112,gg 113=v113,gg 114=v114,gg 115=v115,gg 116=v116,gg 117=v117,gg 118=v118,gg 119=v119,gg 120=v120,gg 121=v121,gg 122=v122,gg 123=v123,gg 124=v124,gg 125=v125,gg 126=v126,gg 127=v127,gg 128=v128,gg 129=v129,gg 130=v130,gg 131=v131,gg 132=v132,gg 133=v133,gg 134=v134,gg 135=v135,gg 136=v136,gg 137=v137,gg 138=v138,gg 139=v139;clear gg;rcases List.eq_nil_or_concat st with rfl|⟨s,x,rfl⟩
 ·obtain⟨As,cs,rfl,-,-⟩:=qB oS;have hCI:=zH (jW.good2 h0.out x2 hLI.out.done hkp.out hbr.out);have kS:=qa rS;clear oS hK0;go_wp2_with fail;exact KB rfl rfl hmk.out fun C hC=>hCI.out C (hC.mono zO)
 ·rw[List.concat_eq_append] at *;obtain⟨a1,l1⟩:=x;obtain⟨ht8,wFU,htl,htl6⟩:=hLI.out.top;simp only at ht8 wFU htl htl6;obtain⟨m,hm0⟩:∃ m,m=s.length:=⟨_,rfl⟩
  rw[List.length_append,List.length_singleton,<-hm0,UH,qdH] at oS;rcases oS.2 with ⟨-,h0'⟩|⟨gb,cap,cur,rfl,hgb,hCA,hnc,hcm,hcs,htk⟩
  ·exfalso;omega
  ·obtain⟨gb',off',e0,hgb',hDL⟩:=(Rd.of_own oS).2 zO;simp only[Option.some.injEq,Addr.mk.injEq,and_true] at e0;obtain⟨rfl,rfl⟩:=e0;have hls:(vD s).length=m*2:=by rw[qdG,hm0]
   have kb0:=hDL (m*2) (.int .i64 (a1:Int)) (by rw[List.getElem?_append_right zO,hls];simp);have kb1:=hDL (m*2+1) (.int .i64 l1) (by rw[List.getElem?_append_right zO,hls];simp);rw[Nat.zero_add] at kb0 kb1;clear hDL;have hns:gb≠w2.heap.size+1:=qR hCA rS zD;have oS2:=Yp (xs:=vD s) (news:=[.int .i64 (a1:Int),.int .i64 l1]) (n:=m) (m:=1) oS hls;have hw22:wrap64 (m:Int)=(m:Int):=IntWalk.wrap64_in _ (by unfold maxLen at hcm;omega);have hmc:m<=cap:=Nat.le_of_succ_le hnc;have hcap:¬cap=0:=fun e=>by rw[e] at hnc;exact absurd hnc (Nat.not_succ_le_zero _)
   have kS:=qa rS;have fS:=qd rS;have zS:w2.heap.size+1<wr.heap.size:=(zG.1 rS).1;have zg:gb<wr.heap.size:=(zG.1 hCA).1;replace oS2:=zH oS2;replace hm0:=zH hm0;replace hLI:=zH hLI.out;clear hCA htk hcs hcm hnc oS hls;go_upto_region 6 with fail;have hB4:Below w2.heap.size wr ((wr.setCell ⟨w2.heap.size+1,0,none⟩ (.slice (some ⟨gb,0,none⟩) m cap)).alloc (.cells #[.int .i64 (a1:Int),.int .i64 l1] 235)):=Below.alloc (Below.setCell (Below.refl _ _) (p:=⟨w2.heap.size+1,0,none⟩) zA2 _) (by simpa using xz) _;have rX4:((wr.setCell ⟨w2.heap.size+1,0,none⟩ (.slice (some ⟨gb,0,none⟩) m cap)).alloc (.cells #[.int .i64 (a1:Int),.int .i64 l1] 235)).heap[wr.heap.size]?=some (.cells #[.int .i64 (a1:Int),.int .i64 l1] 235 (0,0)):=zI _ _ _ zA2;have rS4:((wr.setCell ⟨w2.heap.size+1,0,none⟩ (.slice (some ⟨gb,0,none⟩) m cap)).alloc (.cells #[.int .i64 (a1:Int),.int .i64 l1] 235)).heap[w2.heap.size+1]?=some (.cells #[.slice (some ⟨gb,0,none⟩) m cap] 236 (0,0)):=(zK _ _ _ (by simpa using zS)).trans (qi rS 0 _);have ko4:∀ q,q<wr.heap.size->q≠w2.heap.size+1->((wr.setCell ⟨w2.heap.size+1,0,none⟩ (.slice (some ⟨gb,0,none⟩) m cap)).alloc (.cells #[.int .i64 (a1:Int),.int .i64 l1] 235)).heap[q]?=wr.heap[q]?:=fun q hq hne=>(zK _ _ _ (by simpa using hq)).trans (zJ _ _ _ _ hne);have z4:((wr.setCell ⟨w2.heap.size+1,0,none⟩ (.slice (some ⟨gb,0,none⟩) m cap)).alloc (.cells #[.int .i64 (a1:Int),.int .i64 l1] 235)).heap.size=wr.heap.size+1:=zA2;generalize hw4:World.alloc (World.setCell wr _ _) _=w4 at *;clear hw4 kS fS kb0 kb1;have oS4:w4.ownsRow w2.heap.size 235 2 (.slice (some ⟨gb,0,none⟩) m cap) m (vD s):=ZC oS2.out fun q hq=>by cases hq;exact ko4 gb zg hns
   have hb4:=(h0.out.ext x2).fresh hbr.out hB4;have hk4:=zH (hkp.out.fresh (by have:=x2.size;omega) hB4);have hm4:=zH (hmk.out.keep (W:=w4) fun q o hq ho=>(ko4 q (zG.1 hq).1 (fun e=>by subst e;rw[rS] at hq;cases hq;cases ho)).trans hq);have hle:qL t a1<=qL S.now a1:=hLI.out.le a1;have wFN:=hLI.out.may;clear hns hbr hkp hmk rS ko4 oS2 hB4;obtain⟨A1,n1,c1,v2,c3,A4,c4,hrb,hog,-⟩:=hb4.ex;obtain⟨hkg,hfg0,-,hzg4⟩:=Za hog;have hkga:=hkg a1 wFU;have g0:∀ W,qm.r w4 W->∀ i,W.cell? ⟨b,i,none⟩=#[.slice A1 n1 c1,v2,.slice (some ⟨g,0,none⟩) 256 c3,.slice A4 256 c4][i]?:=fun W hW=>qa (qb hrb hW);have g1:∀ W,qm.r w4 W->∀ i,W.cell? ⟨wr.heap.size,i,none⟩=#[.int .i64 (a1:Int),.int .i64 l1][i]?:=fun W hW=>qa (qb rX4 hW);have g2:∀ W,qm.r w4 W->W.cell? ⟨g,a1,none⟩=some (.int .u8 (qL t a1:Int)):=fun W hW=>Ext.cell hW hkga;have hc2:=Xx t a1;have wTG:=zH hog;have hgb2:g≠b:=hb4.size.2.2.2.2.1;have hgS:Hid (∀ q,w2.heap.size<=q->q≠g):=zH fun q hq e=>by have:=(h0.out.b3 g (.inr (.inl rfl))).2;have:=x2.size;omega
   replace hb4:=zH hb4;replace oS4:=zH oS4;replace wFN:=zH wFN;replace hle:=zH hle;obtain⟨nv,hnv⟩:∃ nv,qL t a1=nv:=⟨_,rfl⟩
   rw[hnv] at g2 hc2 hle;replace hnv:=zH hnv;clear hog hkg hfg0 hkga;refine qp zQ ?_;refine Qa (w:=w4) qm (qM []) (List.replicate 10 true) 0 zQ zQ zQ zQ zQ zQ zQ ?st (Rel.drew _ _) ?walk
   case st=>exact qj (fun _ h=>by cases h)
   case walk =>
    intro K hK;dsimp only[qw,List.replicate];refine zB5 ?_
    first
     |(refine qe (.pointer (some ⟨g,a1,none⟩)) zA0 zA0 (fun W hW _=>⟨W,?_,Rel.refl _ W⟩) ?_
       ·go_simp;intro hge;exfalso;omega
       simp only[Act.put,qf,qc,qg,zA,zB,zC])
     |skip
    refine zB5 ?_;refine qA (hK _ _ fun W hW hF=>?_);clear hF hK;have hW:Ext w4 W:=hW;refine zB7 ?_;go_wp2;refine Qw ?_;by_cases h0z:nv=0
    ·have hq:=zH (hLI.out.bad0 (by rw[hnv.out];exact h0z));subst h0z;have hCI:=zH (jW.bad2 (a:=a) (D:=D) (B:=B) x2 hlw hq.out (hk4.out.fresh (by have:=x2.size;omega) (Below.mono hW zO)));have hmW:=zH (hm4.out.keep (W:=W) fun q o hq _=>(Below.block hW q (zG.1 hq).1).trans hq);clear g0 g1 g2;go_wp2_with fail;exact KB rfl rfl hmW.out fun C hC=>hCI.out C (hC.mono zO)
    ·have hz1:((nv:Int) == 0)=false:=by rw[beq_eq_false_iff_ne];omega
     have hz2:decide (nv=0)=false:=decide_eq_false h0z;have h0':=zH h0z;by_cases h1:1<nv
     ·have hd1:decide ((1:Int)<(nv:Int))=true:=decide_eq_true zO;have hFI:=zH (hLI.out.more (by rw[hnv.out];exact h1));replace h1:=zH h1;clear h0z;go_upto_region 8 with fail;have g0':∀ V,qm.r W V->_:=fun V hV=>g0 V (hW.trans hV);have g1':∀ V,qm.r W V->_:=fun V hV=>g1 V (hW.trans hV);have g2':∀ V,qm.r W V->_:=fun V hV=>g2 V (hW.trans hV);clear g0 g1 g2;refine qp zQ ?_;refine Qa (w:=W) qm (qM []) (List.replicate 10 true) 0 zQ zQ zQ zQ zQ zQ zQ ?st (Rel.drew _ _) ?walk
      case st=>exact qj (fun _ h=>by cases h)
      case walk =>
       intro K hK;dsimp only[qw,List.replicate];refine zB5 ?_
       first
        |(refine qe (.pointer (some ⟨g,a1,none⟩)) zA0 zA0 (fun W hW _=>⟨W,?_,Rel.refl _ W⟩) ?_
          ·go_simp;intro hge;exfalso;omega
          simp only[Act.put,qf,qc,qg,zA,zB,zC])
        |skip
       refine zB5 ?_;refine qA (hK _ _ fun V hV hF=>?_);clear hF hK;have hV:Ext W V:=hV;refine zB7 ?_;go_wp2;refine Qw ?_;have x4V:Ext w4 V:=Ext.trans hW hV;have g0:∀ U,qm.r V U->_:=fun U hU=>g0' U (Ext.trans hV hU);have g1:∀ U,qm.r V U->_:=fun U hU=>g1' U (Ext.trans hV hU);have g2:∀ U,qm.r V U->_:=fun U hU=>g2' U (Ext.trans hV hU);have hfg:∀ U,Ext V U->U.frozen? ⟨g,a1,none⟩=false:=fun U hU=>(Za (QR wTG.out (Ext.trans x4V hU))).2.1 a1;obtain⟨n',hm⟩:∃ n',nv=n'+1:=⟨nv-1,by have:=h1.out;omega⟩
       have hmt:(UInt8.ofNat (nv-1)).toNat=n':=by rw[show nv-1=n' by omega,UInt8.toNat_ofNat'];omega
       have hwv:IntKind.u8.wrap ((nv:Int)-1)=(n':Int):=by rw[qfa (n:=nv) zO hc2,hmt]
       have hbm:bv (UInt8.ofNat (nv-1))=.int .u8 (n':Int):=by show Value.int .u8 _=_;rw[hmt]
       replace hbm:=zH hbm;replace hm:=zH hm;replace x4V:=zH x4V;clear hmt;clear g0' g1' g2' hW hV;go_upto_region 9 with fail;refine qp zQ ?_;refine Qa (w:=V) qm (qM []) (List.replicate 11 true) 1 zQ zQ zQ zQ zQ zQ zQ ?st (Rel.drew _ _) ?walk
       case st=>exact qj (fun _ h=>by cases h)
       case walk =>
        intro K hK;dsimp only[qw,List.replicate];refine zB5 ?_
        first
         |(refine qe (.pointer (some ⟨g,a1,none⟩)) zA0 zA0 (fun W hW _=>⟨W,?_,Rel.refl _ W⟩) ?_
           ·go_simp;intro hge;exfalso;omega
           simp only[Act.put,qf,qc,qg,zA,zB,zC])
         |skip
        refine zB5 ?_
        first
         |(refine qe (.pointer (some ⟨g,a1,none⟩)) zA0 zA0 (fun W hW _=>⟨W,?_,Rel.refl _ W⟩) ?_
           ·go_simp;intro hge;exfalso;omega
           simp only[Act.put,qf,qc,qg,zA,zB,zC])
         |skip
        refine zB5 ?_;refine qA (hK _ _ fun U hU hF=>?_);clear hF hK;have hU:Ext V U:=hU;refine zB7 ?_;have k2:=g2 U hU;have f2:=hfg U hU;have x4U:=x4V.out.trans hU;have wIU:=(hb4.out.ext x4U).count wFU (UInt8.ofNat (nv-1));rw[hbm.out] at wIU;have hdn:ju t a1=t.set a1 (UInt8.ofNat (nv-1)):=by unfold ju;rw[hnv.out]
        have hkB:Qf lo b g k w2 (U.setCell ⟨g,a1,none⟩ (.int .u8 (n':Int))):=(hk4.out.fresh (by have:=x2.size;omega) (Below.mono x4U zO)).trans wIU.2 (ZK.refl _ _);have cB:∀ q,q≠g->(U.setCell ⟨g,a1,none⟩ (.int .u8 (n':Int))).heap[q]?=U.heap[q]?:=fun q hq=>zJ _ _ _ _ hq;have rSB:=(cB (w2.heap.size+1) (hgS.out _ zO)).trans (qb rS4 x4U);have oSB:(U.setCell ⟨g,a1,none⟩ (.int .u8 (n':Int))).ownsRow w2.heap.size 235 2 (.slice (some ⟨gb,0,none⟩) m cap) m (vD s):=ZC (QR oS4.out x4U) fun q hq=>by cases hq;exact cB gb (hgS.out _ hgb)
        have hmB:jT (w2.heap.size+2) Ds (U.setCell ⟨g,a1,none⟩ (.int .u8 (n':Int))):=hm4.out.keep fun q o hq ho=>(cB q (fun e=>by subst e;obtain⟨cur,hgr⟩:=jr wTG.out (q:=q) rfl;rw[hgr] at hq;cases hq;cases ho)).trans ((Below.block x4U q (zG.1 hq).1).trans hq);have hR:LvR D B lo b g k S a w2 (Vo (ju t a1)) Ds (U.setCell ⟨g,a1,none⟩ (.int .u8 (n':Int))):=⟨⟨s,ju t a1,_,rfl,hFI.out,by rw[hdn];exact wIU.1,rSB,by rw[<-hm0.out];exact oSB⟩,hkB,hmB⟩
        have hlt:Vo (ju t a1)<nn:=by rw[hnn.out];have:=qbh (t:=t) (a:=a1) (by rw[hnv.out];exact h0'.out);omega
        replace hR:=zH hR;replace hlt:=zH hlt;clear g0 g1 g2 hfg wIU hkB cB rSB oSB hmB hdn hU x4U;go_wp2_with fail;refine Qw ?_;go_wp2_with fail;exact qbE hK0.out _ hlt.out Ds rfl zQ hR.out
     ·obtain rfl:nv=1:=zO;have hone:Hid (qL t a1=1):=hnv;have xAR:ql (qy S t)=true:=qF.2 ⟨(qF.1 hS).1,wFN.out,(qF.1 hS).2.2⟩;have hnn2:=zH (Yj (S:=S) (t:=t) (a:=a1) (by rw[hone.out];decide) (by rw[hone.out];exact hle.out));replace xAR:=zH xAR;clear h0z h1;go_upto_region 8 with fail;have g0':∀ V,qm.r W V->_:=fun V hV=>g0 V (hW.trans hV);have g1':∀ V,qm.r W V->_:=fun V hV=>g1 V (hW.trans hV);have g2':∀ V,qm.r W V->_:=fun V hV=>g2 V (hW.trans hV);clear g0 g1 g2;refine qp zQ ?_;refine Qa (w:=W) qm (qM []) (List.replicate 10 true) 0 zQ zQ zQ zQ zQ zQ zQ ?st (Rel.drew _ _) ?walk
      case st=>exact qj (fun _ h=>by cases h)
      case walk =>
       intro K hK;dsimp only[qw,List.replicate];refine zB5 ?_
       first
        |(refine qe (.pointer (some ⟨g,a1,none⟩)) zA0 zA0 (fun W hW _=>⟨W,?_,Rel.refl _ W⟩) ?_
          ·go_simp;intro hge;exfalso;omega
          simp only[Act.put,qf,qc,qg,zA,zB,zC])
        |skip
       refine zB5 ?_;refine qA (hK _ _ fun V hV hF=>?_);clear hF hK;have hV:Ext W V:=hV;refine zB7 ?_;go_wp2;refine Qw ?_;have x4V:Ext w4 V:=Ext.trans hW hV;have rSV:=qb rS4 x4V;have rXV:=qb rX4 x4V;have kXV:=qa rXV;have hbV:=hb4.out.ext x4V;have hkV:=zH (hk4.out.fresh (by have:=x2.size;omega) (Below.mono x4V zO));have hmV:=zH (hm4.out.keep (W:=V) fun q o hq _=>(Below.block x4V q (zG.1 hq).1).trans hq);have oSV:=zH (QR oS4.out x4V);have HN:=(by obtain⟨A1',n1',c1',A2',n2',c2',c3',A4',c4',hr',wAH⟩:=hbV.sto;have H:=Kv lo b A1' n1' c1' A2' n2' c2' _ 256 c3' A4' 256 c4' (qy S t) xAR.out a1 ht8 wFU V ⟨hlb,hr',wAH⟩;rw[hnn2.out] at H;exact H:Calls prog 145 #[.pointer (some ⟨b,0,none⟩),.int .i64 (a1:Int)] V (zF (qdk V.heap.size (qu S a1)) V))
       have zgV:=hbV.size.2.2.2.1;replace hbV:=zH hbV;clear hb4 hk4 hm4 oS4 rS4 rX4;go_wp2_with fail;refine HN.mono ?_;clear HN;rintro e wN ⟨uN,rfl,hN,hBN⟩;have xN:Ext V wN:=hBN;have zNh:=xN.size;have z4V:=x4V.size;have rXN:=qb rXV xN;have kXN:=qa rXN;have rSN:=qb rSV xN;clear hBN kXV;obtain⟨lv,An,nn',cn,er,rfl,hDJ⟩:∃ lv An nn' cn er,uN=.tuple #[jU lv An nn' cn,.int .i64 er]/\((er≠0/\qu S a1=none)\/(er=0/\∃ xs,qu S a1=some (lv,xs)/\nn'=xs.length/\je V.heap.size wN (.slice An nn' cn) xs)):=by
        rcases hnd:qu S a1 with _|⟨l,xs⟩
        ·rw[hnd] at hN;obtain⟨er,hne,rfl⟩:=hN;exact⟨0,none,0,0,er,rfl,.inl ⟨hne,rfl⟩⟩
        ·rw[hnd] at hN;obtain⟨A9,c9,rfl,hi⟩:=hN;exact⟨l,A9,xs.length,c9,0,rfl,.inr ⟨rfl,xs,rfl,rfl,hi⟩⟩
       replace hDJ:=zH hDJ;clear hN;go_upto_region 11 with fail;generalize hwM:World.alloc wN _=wM;have xM:Ext wN wM:=by rw[<-hwM];exact zN _ _
       have rN:wM.heap[wN.heap.size]?=some (.cells #[.int .i64 lv,.slice An nn' cn] 113 (0,0)):=by rw[<-hwM];exact zI _ _ _ rfl
       clear hwM;have xVM:Ext V wM:=xN.trans xM;have g0:∀ U,qm.r wM U->_:=fun U hU=>g0' U (Ext.trans hV (Ext.trans xVM hU));have g1:∀ U,qm.r wM U->_:=fun U hU=>g1' U (Ext.trans hV (Ext.trans xVM hU));have hfg:∀ U,Ext wM U->U.frozen? ⟨g,a1,none⟩=false:=fun U hU=>(Za (QR wTG.out (Ext.trans x4V (Ext.trans xVM hU)))).2.1 a1;have hcg:∀ U,qm.r wM U->_:=fun U hU=>g2' U (Ext.trans hV (Ext.trans xVM hU));clear g0' g1' g2' hW hV;refine qp zQ ?_;refine Qa (w:=wM) qm (qM []) (List.replicate 8 true) 1 zQ zQ zQ zQ zQ zQ zQ ?st (Rel.drew _ _) ?walk
       case st=>exact qj (fun _ h=>by cases h)
       case walk =>
        intro K hK;dsimp only[qw,List.replicate];refine zB5 ?_
        first
         |(refine qe (.pointer (some ⟨g,a1,none⟩)) zA0 zA0 (fun W hW _=>⟨W,?_,Rel.refl _ W⟩) ?_
           ·go_simp;intro hge;exfalso;omega
           simp only[Act.put,qf,qc,qg,zA,zB,zC])
         |skip
        refine zB5 ?_;refine qA (hK _ _ fun U hU hF=>?_);clear hF hK;have hU:Ext wM U:=hU;refine zB7 ?_;have k2:=hcg U hU;have f2:=hfg U hU;have xVU:Ext V U:=xVM.trans hU;have x4U:Ext w4 U:=x4V.trans xVU;have wIU:=(hbV.out.ext xVU).count wFU 0;have hkB:Qf lo b g k w2 (U.setCell ⟨g,a1,none⟩ (.int .u8 0)):=(hkV.out.fresh (by have:=x2.size;omega) (Below.mono xVU zO)).trans wIU.2 (ZK.refl _ _);have cB:∀ q,q≠g->(U.setCell ⟨g,a1,none⟩ (.int .u8 0)).heap[q]?=U.heap[q]?:=fun q hq=>zJ _ _ _ _ hq;have zB:(U.setCell ⟨g,a1,none⟩ (.int .u8 0)).heap.size=U.heap.size:=zA2;have rSB:=(cB _ (hgS.out _ zO)).trans (qb rSN (xM.trans hU));have rXB:=(cB _ (hgS.out _ zO)).trans (qb rXN (xM.trans hU));have rNB:=(cB wN.heap.size (hgS.out _ zO)).trans (qb rN hU);have oSB:(U.setCell ⟨g,a1,none⟩ (.int .u8 0)).ownsRow w2.heap.size 235 2 (.slice (some ⟨gb,0,none⟩) m cap) m (vD s):=ZC (QR oSV.out xVU) fun q hq=>by cases hq;exact cB gb (hgS.out _ hgb)
        have hmB:jT (w2.heap.size+2) Ds (U.setCell ⟨g,a1,none⟩ (.int .u8 0)):=hmV.out.keep fun q o hq ho=>(cB q (fun e=>by subst e;obtain⟨cur,hgr⟩:=jr (QR wTG.out x4V) (q:=q) rfl;rw[hgr] at hq;cases hq;cases ho)).trans ((Below.block xVU q (zG.1 hq).1).trans hq);have hFB:=wYY.out _ hkB a1 wFU;have wMS:∀ xs,je V.heap.size wN (.slice An nn' cn) xs->je V.heap.size (U.setCell ⟨g,a1,none⟩ (.int .u8 0)) (.slice An nn' cn) xs:=fun xs hi=>(hi.ext (xM.trans hU)).keep (by rw[zB];exact zM _) fun p h1 _=>World.cell?_setCell_other _ _ _ _ fun e=>by subst e;simp only at h1;omega
        have zU:V.heap.size<=U.heap.size:=xVU.size;have zNU:wN.heap.size<U.heap.size:=Nat.lt_of_lt_of_le (zG.1 rN).1 hU.size;have hb0:Bch D B lo b g k (qy S (t.set a1 0)) (U.setCell ⟨g,a1,none⟩ (.int .u8 0)):=wIU.1;replace wMS:=zH wMS;replace hb0:=zH hb0;replace hkB:=zH hkB;replace oSB:=zH oSB;replace hmB:=zH hmB;clear g0 g1 hfg hcg wIU rSN rXN rN cB rSV rXV hbV hkV hmV oSV wTG x4U;replace hU:=zH hU;go_wp2;refine Qw ?_;generalize World.setCell U _ _=wB at *;have kSB:=qa rSB;have kXB:=qa rXB;have kNB:=qa rNB;clear f2 k2;have zVB:V.heap.size<=wB.heap.size:=zO;have zNB:wN.heap.size<wB.heap.size:=zO;replace zB:=zH zB;rcases hDJ.out with ⟨hne,hnd⟩|⟨rfl,xs,hnd,rfl,hi⟩
        ·have hq:=zH (hLI.out.none_ hone.out hnd);have wIE:(er != 0)=true:=by rw[bne_iff_ne];exact hne
         have hCI:=zH (jW.bad2 (a:=a) (D:=D) (B:=B) x2 hlw hq.out hkB.out);clear wMS hb0 hFB hDJ hnd;go_wp2_with fail;exact KB rfl rfl hmB.out fun C hC=>hCI.out C (hC.mono zO)
        ·have hi2:=wMS.out xs hi;obtain⟨f1,hf1⟩:∃ f1,qL S.now a1=f1:=⟨_,rfl⟩
         have hf0:=hle.out;rw[hf1] at hFB hf0;have hz3:((f1:Int) == 0)=false:=by rw[beq_eq_false_iff_ne];omega
         have hlx:=(jH hnd).2.2;have hl0:=(jH hnd).1;replace hf1:=zH hf1;replace hf0:=zH hf0;by_cases hlev:0<=l1/\lv≠l1
         ·have hq:=zH (hLI.out.level hone.out hnd hlev.1 hlev.2);have hCI:=zH (jW.bad2 (a:=a) (D:=D) (B:=B) x2 hlw hq.out hkB.out);have d1:decide (l1≥0)=true:=decide_eq_true hlev.1;have d3:(lv != l1)=true:=by rw[bne_iff_ne];exact hlev.2
          replace hlev:=zH hlev;clear wMS hb0 hDJ hnd hi hi2 hlx hl0;go_wp2_with fail;exact KB rfl rfl hmB.out fun C hC=>hCI.out C (hC.mono zO)
         ·have hd0:(decide (l1≥0)=false/\decide (0<=l1)=false)\/(decide (l1≥0)=true/\decide (0<=l1)=true/\(lv != l1)=false/\decide (lv=l1)=true):=by
           by_cases h1:0<=l1
           ·by_cases h2:lv=l1
            ·exact .inr ⟨decide_eq_true h1,decide_eq_true h1,by rw[bne_eq_false_iff_eq];exact h2,decide_eq_true h2⟩
            ·exact absurd ⟨h1,h2⟩ hlev
           ·exact .inl ⟨decide_eq_false h1,decide_eq_false h1⟩
          by_cases hlv:0<lv
          ·have xGC:=zH (hLI.out.push hone.out hnd hlev hlv);have xAM:Vo (t.set a1 0)<nn:=by rw[hnn.out];have:=Ga hone.out;omega
           have d5:decide (lv>0)=true:=decide_eq_true hlv;have hxl:0<xs.length:=by have:=(qQ hnd).1;unfold Qn Jq at this;simp only[Bool.and_eq_true,decide_eq_true_eq] at this;have:=this.1.2.2.2 hlv;omega
           have hrr:=fun x hx=>((qQ hnd).2.1 x hx).1.2.2.2.1.1;obtain⟨ps,hps,⟨An',cn',e9,hc9,hm9,hrd⟩,hpi,hfr,-⟩:=id hi2;simp only[Value.slice.injEq,true_and] at e9;obtain⟨rfl,rfl⟩:=e9;obtain⟨b2,o2,rfl,hb2,wPE⟩:=hrd.2 hxl;have hb2lo:V.heap.size<=b2:=hfr _ _ _ rfl;have hpl:ps.length=xs.length:=by rw[<-hps,List.length_map]
           obtain⟨us,hus⟩:∃ us:List Ui,us=ps.map fun p=>((p.1,ku p.2):Ui):=⟨_,rfl⟩
           have hul:us.length=xs.length:=by rw[hus,List.length_map,hpl]
           have wNL:∀ i (hi:i<ps.length),us[i]?.getD uiz=(ps[i].1,ku ps[i].2):=fun i hi=>by rw[hus,List.getElem?_map,zL hi];rfl
           have hsv:∀ i (hi:i<ps.length),sv (ku ps[i].2)=ps[i].2:=fun i hi=>by obtain⟨⟨A,c,e⟩,_⟩:=hpi ps[i] (List.getElem_mem hi);rw[e];rfl
           have xBE:∀ j,0<=(us[j]?.getD uiz).1.r:=fun j=>by
            by_cases hj:j<ps.length
            ·rw[wNL j hj];exact hrr _ (by rw[<-hps];exact List.mem_map_of_mem (f:=fun p:It×Value=>p.1) (List.getElem_mem hj))
            ·rw[List.getElem?_eq_none (by rw[hul];omega)];exact Int.le_refl 0
           have wTO:=refs_rev (us:=us) (xs:=xs) (by rw[hus,List.map_map];exact hps) (lv-1);have hDL:∀ W,Ext wB W->∀ i,i<us.length->W.cell? ⟨b2,o2+i*5,none⟩=some (.int .u8 (us[i]?.getD uiz).1.k)/\W.cell? ⟨b2,o2+i*5+1,none⟩=some (.int .u32 (us[i]?.getD uiz).1.i)/\W.cell? ⟨b2,o2+i*5+2,none⟩=some (.int .u32 (us[i]?.getD uiz).1.o)/\W.cell? ⟨b2,o2+i*5+3,none⟩=some (.int .i64 (us[i]?.getD uiz).1.r)/\W.cell? ⟨b2,o2+i*5+4,none⟩=some (sv (us[i]?.getD uiz).2):=fun W hW i hi=>by have hi':i<ps.length:=zO;obtain⟨q0,q1,q2,q3,q4⟩:=VG ps i hi';rw[wNL i hi'];simp only;rw[hsv i hi'];exact⟨Ext.cell hW (wPE _ _ q0),by rw[Nat.add_assoc];exact Ext.cell hW (wPE _ _ q1),by rw[Nat.add_assoc];exact Ext.cell hW (wPE _ _ q2),by rw[Nat.add_assoc];exact Ext.cell hW (wPE _ _ q3),by rw[Nat.add_assoc];exact Ext.cell hW (wPE _ _ q4)⟩
           replace hus:=zH hus;have wWN:=zH hul;have wSX:=zH (jH hnd);have hwl:wrap64 (lv-1)=lv-1:=IntWalk.wrap64_in _ (by have:=wSX.out;omega);replace hxl:=zH hxl;replace hlev:=zH hlev;replace hlv:=zH hlv;replace hDL:=zH hDL;replace wTO:=zH wTO;replace xBE:=zH xBE;replace hlx:=zH hlx;clear wMS hDJ hi hi2 hps hpi hfr hrd wPE wNL hsv hrr hc9 hm9 hl0 hpl hul;rcases hd0 with ⟨d1,d2⟩|⟨d1,d2,d3,d4⟩
           all_goals
            go_wp2_with fail;refine(qcH _ xs.length cn wB).mono ?_;rintro e w8 ⟨rfl,rfl⟩;go_wp2_with fail;generalize hwR:World.alloc wB _=wR;have xBR:Ext wB wR:=by rw[<-hwR];exact zN _ _
            have zR:wB.heap.size+1<=wR.heap.size:=by rw[<-hwR];simp
            have rIR:wR.heap[wB.heap.size]?=some (.cells #[.slice (some ⟨b2,o2,none⟩) xs.length cn] 55 (0,0)):=by rw[<-hwR];exact zI _ _ _ rfl
            clear hwR;have hb2R:b2<wR.heap.size:=zO;have hSW:SWi wR wB.heap.size b2 (.slice (some ⟨b2,o2,none⟩) xs.length cn) us:=⟨by rw[qa rIR];rfl,.inr ⟨o2,cn,by rw[wWN.out],fun i hi=>hDL.out wR xBR i hi⟩⟩
            have rSR:=qb rSB xBR;have rNR:=qb rNB xBR;have oSR:=QR oSB.out xBR;have hmR:jT (w2.heap.size+2) Ds wR:=hmB.out.keep fun q o hq _=>(Below.block xBR q (zG.1 hq).1).trans hq;have hDR:∀ D∈Ds,D<wR.heap.size:=fun D hD=>(zG.1 (hmR.at_ D hD).2).1;have zV2:w2.heap.size<=V.heap.size:=zO;have hgbV:gb<V.heap.size:=zO;have zwR:w2.heap.size<=wR.heap.size:=zO;have hsR:wB.heap.size<wR.heap.size:=zO;replace hSW:=zH hSW;replace hDR:=zH hDR;clear kSB kXB kNB rSB rXB rNB;generalize wDQ:({ tmps:=_,defers:=_ }:Act)=act;refine(wpIn_wide (n:=3)).1 ?_;refine wpIn_rangeFunc_ownH rfl zO (gf:=197) (lb:=#[.pointer (some ⟨wB.heap.size,0,none⟩)]) (by rw[<-wDQ];simp[Act.eval]) trivial (enters_of func197 zQ rfl)
             (qfz (3-1) zO wB.heap.size b2 _ us (by rw[wWN.out];have:=hlx.out;omega) wR hsR hb2R hSW.out) Qy.t (Qy.b hsR hb2R) (Below.refl _ _) (fun _=>rfl)
             (fun pre W'=>W'.heap[wN.heap.size]?=some (.cells #[.int .i64 lv,.slice (some ⟨b2,o2,none⟩) xs.length cn] 113 (0,0))/\(∃ sv',W'.heap[w2.heap.size+1]?=some (.cells #[sv'] 236 (0,0))/\W'.ownsRow w2.heap.size 235 2 sv' (m+pre.length) (vD (s++pre.map (fun j=>((us[j]?.getD uiz).1.r.toNat,lv-1))))/\∀ q,sv'.ownBlock=some q->q<V.heap.size\/wR.heap.size<=q)/\Below w2.heap.size wR W'/\jT (w2.heap.size+2) Ds W')
             (fun _ _ _=>False)
             (OwnFrom.and (Qb _ _ _ _) (OwnFrom.and (qeP _ _ _ _ _) (OwnFrom.and (ownFrom_below zwR zwR) (qcX hDR.out))))
             (fun _ _ _ _ _ hs _ _=>hs)
             ⟨rNR,⟨_,rSR,by simpa using oSR,fun q hq=>.inl (by cases hq;exact hgbV)⟩,Below.refl _ _,hmR⟩
             (fun j a' W'=>∃ t11,a'=(((({ tmps:=act.tmps,defers:=[] }:Act).put (some 112) (.int .i64 (j:Int))).put (some 113) (.agg #[.int .u8 (us[j]?.getD uiz).1.k,.int .u32 (us[j]?.getD uiz).1.i,.int .u32 (us[j]?.getD uiz).1.o,.int .i64 (us[j]?.getD uiz).1.r,sv (us[j]?.getD uiz).2])).put (some 11) (.pointer (some ⟨t11,0,none⟩)))/\W'.heap[t11]?=some (.cells #[.int .u8 (us[j]?.getD uiz).1.k,.int .u32 (us[j]?.getD uiz).1.i,.int .u32 (us[j]?.getD uiz).1.o,.int .i64 (us[j]?.getD uiz).1.r,sv (us[j]?.getD uiz).2] 51 (0,0)))
             (fun x a' s A C row hs hg hr=>by obtain⟨t11,e,h⟩:=hs;exact⟨t11,e,Qb (β:=Unit) _ _ _ _ () A C row h hg hr⟩) ?assign ?body ?done ?stop
            case assign =>
             rintro l' pre j W' K ⟨i1,⟨sv',i2,i3,i4⟩,i5,i6⟩ hK;subst wDQ;have z5:=i5.size
             gi_wp2
             exact hK _ _ ((KeepsOthers.alloc _ _).from _) ⟨zK _ _ _ zO,zK _ _ _ zO⟩ ⟨qb i1 (zN _ _),⟨sv',qb i2 (zN _ _),i3.alloc _,i4⟩,Below.alloc i5 zO _,i6.keep fun q o hq _=>(zK _ _ _ (zG.1 hq).1).trans hq⟩ ⟨W'.heap.size,rfl,zI _ _ _ rfl⟩
            case body =>
             rintro l' pre j a' W' hll ⟨rr,hlp⟩ ⟨i1,⟨sv',i2,i3,i4⟩,i5,i6⟩ ⟨t11,rfl,wWF⟩ hpre;subst wDQ;simp only[Act.put,zA,zB,zC];have hr0:=xBE.out j;obtain⟨u9,hu9⟩:∃ u9,us[j]?.getD uiz=u9:=⟨_,rfl⟩
             have wPK:Hid ((pre++[j]).map (fun j=>((us[j]?.getD uiz).1.r.toNat,lv-1))=pre.map (fun j=>((us[j]?.getD uiz).1.r.toNat,lv-1))++[(u9.1.r.toNat,lv-1)]):=zH (by rw[List.map_append,List.map_cons,List.map_nil,hu9]);rw[hu9] at wWF hr0 ⊢;obtain⟨rn,hrn⟩:∃ rn:Nat,u9.1.r=(rn:Int):=⟨u9.1.r.toNat,zO⟩
             have hrt:Hid (u9.1.r.toNat=rn):=zH zO;rw[hrn] at wWF ⊢;obtain⟨pre',wTJ⟩:∃ pre',pre.map (fun j=>((us[j]?.getD uiz).1.r.toNat,lv-1))=pre':=⟨_,rfl⟩
             rw[wTJ] at i3 wPK;have kr:=qa i2;have kN:=qa i1;have kY:=qa wWF;have zS:=(zG.1 i2).1;have zN':=(zG.1 i1).1;have z5:=i5.size;have hne:sv'.ownBlock≠some (w2.heap.size+1):=fun e=>by obtain⟨cur,hg⟩:=jr i3 e;exact qR hg i2 zD rfl
             obtain⟨Av,cv,rfl,-,-⟩:=qB i3;obtain⟨i0,hi,hz0,hz1,hz2⟩:=info_parts Tryz.info_owed;have wJL:m+pre.length<1073741824:=by have h2:=qjz S.now;have h3:=hLI.out.few;have h4:=hlx.out;have h5:=wWN.out;have h6:=hm0.out;simp only[List.length_append,List.length_cons,List.length_nil] at h3;omega
             have i3H:=zH i3;replace hu9:=zH hu9;replace hrn:=zH hrn;replace wTJ:=zH wTJ;replace wJL:=zH wJL
             gi_wp2_with (gi_at_builtin;refine Tm ?_)
             refine QI.go (Tl W' rfl (.tmp 114) (.tmp 121) 236 rfl w2.heap.size 235 i0 _ 2 16 underlying236 hi hz0 hz1 hz2 rfl zD (.slice Av (m+pre.length) cv) (m+pre.length) _ (by first|exact rfl|simp[Act.eval]) i3H.out #[.int .i64 (rn:Int),.int .i64 (lv-1)] (by first|exact rfl|simp[Act.eval]) rfl zA7 wJL.out zD zO ?_);intro v' W3 hNX hg hat;have hg0:∀ g,(Value.slice Av (m+pre.length) cv).ownBlock=some g->w2.heap.size<=g:=fun g e=>(QZ i3H.out _ e).1;have hr3:W3.heap[w2.heap.size+1]?=_:=(hg.block _ zS (fun e=>hne e.symm)).trans i2;have hN3:W3.heap[wN.heap.size]?=_:=(hg.block _ zN' (fun e=>by have:=i4 _ e.symm;omega)).trans i1;have hb23:W3.heap[b2]?=W'.heap[b2]?:=hg.block _ zO (fun e=>by have:=i4 _ e.symm;omega);have hbB3:W3.heap[wB.heap.size]?=W'.heap[wB.heap.size]?:=hg.block _ zO (fun e=>by have:=i4 _ e.symm;omega);have kr3:=qa hr3;have fr3:=qd hr3;have hB3:Below w2.heap.size W' W3:=GN hg fun g e=>by have:=hg0 g e;omega
             have xAU:v'.ownBlock≠some (w2.heap.size+1):=fun e=>by obtain⟨cur,hgx⟩:=jr hNX e;exact qR hgx hr3 zD rfl
             have hat3:∀ q,v'.ownBlock=some q->q<V.heap.size\/wR.heap.size<=q:=fun q e=>by
              rcases hat with h|⟨g',h,h'⟩
              ·exact i4 q (h.symm.trans e)
              ·rw[h] at e;cases e;right;omega
             have hm3:jT (w2.heap.size+2) Ds W3:=i6.keep fun q o hq ho=>(hg.block q (zG.1 hq).1 fun e=>by obtain⟨cur,hgx⟩:=jr i3H.out e.symm;rw[hgx] at hq;cases hq;cases ho).trans hq;have wCC:KeepsOthers W' W3:=qaa i3H.out hg;replace hg:=zH hg;replace hat:=zH hat;obtain⟨Av',cv',rfl,-,-⟩:=qB hNX;replace hNX:=zH hNX;clear i3 kr kN kY wWF hr0
             gi_wp2_with fail
             refine⟨(wCC.trans (KeepsOthers.setCell _ _ _)).from _,⟨(zJ _ _ _ _ (by show wB.heap.size≠w2.heap.size+1;omega)).trans hbB3,(zJ _ _ _ _ (by show b2≠w2.heap.size+1;omega)).trans hb23⟩,(zJ _ _ _ _ (by show wN.heap.size≠w2.heap.size+1;omega)).trans hN3,⟨_,qi hr3 0 _,?_,hat3⟩,i5.trans (hB3.setCell (p:=⟨w2.heap.size+1,0,none⟩) zA2 _),hm3.keep fun q o hq ho=>(zJ _ _ _ _ fun e=>by have e':q=w2.heap.size+1:=e;rw[e',hr3] at hq;cases hq;cases ho).trans hq⟩;rw[wPK.out,List.length_append,List.length_singleton,<-List.append_assoc,UH,qdH,hrt.out];exact ZC hNX.out fun q hq=>zJ _ _ _ _ fun e=>xAU (by have e':q=w2.heap.size+1:=e;rw[<-e'];exact hq)
            case done =>
             rintro Dm ys W' hD hys ⟨i1,⟨sv',i2,i3,i4⟩,i5,i6⟩ hK;subst wDQ;have hl3:m+ys.length=(s++((qE xs).map fun r=>(r,lv-1)).reverse).length:=by rw[hys,ZH,List.length_append,List.length_reverse,List.length_map,wWN.out,<-hm0.out];simp[qE]
             rw[hl3,hys,wTO.out] at i3;have hBW:Below w2.heap.size wB W':=(Below.mono xBR zO).trans i5;have hR:LvR D B lo b g k S a w2 (Vo (t.set a1 0)) (Dm :: Ds) W':=⟨⟨_,t.set a1 0,sv',rfl,xGC.out,(h0.out.ext x2).fresh hb0.out hBW,i2,i3⟩,hkB.out.fresh (by have:=x2.size;omega) hBW,i6.add hDR.out hD zO hK⟩
             replace hR:=zH hR;replace xAM:=zH xAM;clear i1 i2 i3 i4 i5 i6 hl3 hBW hK hys;go_wp2_with fail;exact qbE hK0.out _ xAM.out (Dm :: Ds) rfl zQ hR.out
            case stop =>rintro Dm c pre W _ _ h _;exact h.elim
          ·obtain rfl:lv=0:=zO;have xEE:=zH (fun er (he:looseL (qE xs) (t.set a1 0)=.error er)=>hLI.out.leafBad hone.out hnd hlev hlv he);have hokL:=zH (fun t' (he:looseL (qE xs) (t.set a1 0)=.ok t')=>And.intro (hLI.out.leaf hone.out hnd hlev hlv he) (show Vo t'<nn by rw[hnn.out];have:=Ga hone.out;have:=(VJ he).1;omega));have hrr:=KH hnd;have hio:=zH (fun x hx=>((qQ hnd).2.1 x hx).1.2.2.2.1.1);have hnB:∀ q,w2.heap.size<=q->¬B3 b g k q:=fun q hq hx=>by have:=(h0.out.b3 q hx).2;have:=x2.size;omega
           have hx0:∀ C,Ql (B3 b g k) wB C->Its C C.heap.size (.slice An xs.length cn) xs:=fun C hC=>hi2.keepX hC fun q hq=>hnB q zO;replace hrr:=zH hrr;replace hx0:=zH hx0;have hA:=(hx0.out wB (Ql.refl _ _)).at_.2.2.2;replace hA:=zH hA;replace hlx:=zH hlx;replace hnB:=zH hnB;replace hlev:=zH hlev;clear wMS hDJ hi hi2 hl0 hlv hnd;rcases hd0 with ⟨d1,d2⟩|⟨d1,d2,d3,d4⟩
           all_goals
            generalize hwq:wr=wq at *;clear hwq;go_wp2_with fail;go_loopw [4,126] (fun v i wr'=>L0I D B lo b g k S (t.set a1 0) xs wB v i wr') (fun _ i _=>xs.length-(intOf i).toNat)
            case atStart=>exact⟨0,_,rfl,Nat.zero_le _,rfl,rfl,hb0.out,Qf.refl _ _ _ _ _⟩
            case round =>
             obtain⟨j,t9,rfl,hj,rfl,hlo,hbt,hbm⟩:=hrel.ex;clear hrel;have hkA:=zH (hkB.out.trans hbm (ZK.refl _ _));have rNr:=hbm.row rNB (hnB.out _ zO);have rSr:=hbm.row rSB (hnB.out _ zO);have kNr:=qa rNr;have hmr:=zH (hmB.out.bkeep hbm fun q hq=>hnB.out q zO);by_cases hlt:j<xs.length
             ·obtain⟨bi,off,rfl,hbi⟩:=hA.out zO;obtain⟨A',c',d0,d1',d2',d3',d4',-⟩:=(hx0.out wr hbm.keepX).item j hlt;have hr8:=hrr.out _ (List.mem_map_of_mem (f:=fun x:It=>x.r.toNat) (List.getElem_mem hlt));have hr0:0<=xs[j].r:=hio.out _ (List.getElem_mem hlt);have hJM:=zH (fun h0 h1=>qbz hlt hlo h0 h1);have hFI:=zH (fun h0 h1=>qaf hlt hlo h0 h1);have hRP:=zH (fun h0=>qag hlt hlo h0);generalize xs[j]=x at *;have hj1:=zH (IntWalk.wrap64_in ((j:Int)+1) (by have:=hlx.out;omega));obtain⟨r,hra⟩:∃ r:Nat,x.r=(r:Int):=⟨x.r.toNat,zO⟩
              have hsa:(x.r).toNat=r:=zO;have ha9:r<256:=by rw[hsa] at hr8;exact hr8.2
              rw[hra] at d3';rw[hsa] at hJM hFI hRP;have hz:=hbt.size.2.2.2.2.2.1;have HL:=zH (fun W (hW:Ext wr W)=>GP D B lo b g k (qy S t9) r ha9 W (hbt.ext hW));replace hbt:=zH hbt;replace hbm:=zH hbm;clear hra hsa hr8 hr0 hlo hbi;rcases Nat.eq_zero_or_pos r with ha0|ha0
              ·subst ha0;have hF:L0I D B lo b g k S (t.set a1 0) xs wB (.int .i64 0) (.int .i64 ((j:Int)+1)) (wr.alloc (.cells #[.int .u8 x.k,.int .u32 x.i,.int .u32 x.o,.int .i64 0,.slice A' x.val.length c'] 51)):=⟨j+1,t9,rfl,zO,rfl,hRP.out rfl,hbt.out.ext (zN _ _),hbm.out.trans (Qf.of_ext (zN _ _) hz) (ZK.refl _ _)⟩
               replace hF:=zH hF;clear hJM hFI hRP HL;go_wp2_with fail;try rw[hj1.out]
               refine⟨hF.out,?_⟩;simp[intOf];omega
              ·have hza:((r:Int) == 0)=false:=by rw[beq_eq_false_iff_ne];omega
               replace ha0:=zH ha0;go_wp2_with fail;generalize hwa:World.alloc wr _=wa;have xa:Ext wr wa:=by rw[<-hwa];exact zN _ _
               clear hwa d0 d1' d2' d3' d4';refine(HL.out wa xa).mono ?_;clear HL;rintro e wl ⟨hkl,hcl⟩;have wVP:=(Qf.of_ext xa hz).trans hkl (ZK.refl _ _);have wIC:=hbm.out.trans wVP (ZK.refl _ _);rcases hcl with ⟨hc0,rfl⟩|⟨hc0,rfl,hbl⟩
               ·have hCI:=zH (jW.bad2 (a:=a) (D:=D) (B:=B) x2 hlw (xEE.out _ (hJM.out (by have:=ha0.out;omega) hc0)) (hkB.out.trans wIC (ZK.refl _ _)));have hml:=zH (hmr.out.bkeep wVP fun q hq=>hnB.out q zO);clear hJM hFI hRP hkl wIC hc0 hkA wVP;go_wp2_with fail;exact KB rfl rfl hml.out fun C hC=>hCI.out C (hC.mono zO)
               ·have hF:L0I D B lo b g k S (t.set a1 0) xs wB (.int .i64 0) (.int .i64 ((j:Int)+1)) wl:=⟨j+1,_,rfl,zO,rfl,hFI.out (by have:=ha0.out;omega) hc0,hbl,wIC⟩
                replace hF:=zH hF;clear hJM hFI hRP hkl wIC hc0 hbl hkA wVP;go_wp2_with fail;try rw[hj1.out]
                refine⟨hF.out,?_⟩;simp[intOf];omega
             ·obtain rfl:j=xs.length:=zO;rw[List.take_length] at hlo;obtain⟨hLn,hln⟩:=hokL.out t9 hlo;have oSr:wr.ownsRow w2.heap.size 235 2 (.slice (some ⟨gb,0,none⟩) m cap) m (vD s):=hbm.own oSB.out fun q hq=>hnB.out q (QZ oSB.out q hq).1;have hR:LvR D B lo b g k S a w2 (Vo t9) Ds wr:=⟨⟨s,t9,_,rfl,hLn,hbt,rSr,by rw[<-hm0.out];exact oSr⟩,hkA.out,hmr.out⟩
              replace hR:=zH hR;replace hln:=zH hln;clear hlo hbt hbm hkA hmr hLn oSr;go_wp2_with fail;exact qbE hK0.out _ hln.out Ds rfl zQ hR.out
end Go.Proofs.YtmeadnlmepcmbaaGreat
namespace Go.Proofs.YtmeadnlmepcmbaaGreat
open Go.RowKit
theorem UG (w:World) (g o la ca vg lb cb:Nat) (cur vcur:Array Value) (hg:w.heap[g]?=some (.cells cur 51 (0,0))) (hv:w.heap[vg]?=some (.cells vcur 51 (0,0))) (hne:vg≠g) (h0:cur.size≠0) (vo:Nat) : (callFunc 167 #[.slice (some ⟨vg,vo,none⟩) lb cb,.slice (some ⟨g,o,none⟩) la ca]).run prog w=.ok (.value (.bool false)) w:=by
 rw[run_callFunc_extern func167 zQ zQ zQ (e:=Extern.SlicesOverlaps.overlaps #[55,55] #[4]) zQ,
  Lib.run_overlaps_apart w 55 4 51 underlying55 5 (fun w=>sizeOf51 w) ⟨vg,vo,none⟩ ⟨g,o,none⟩ lb cb la ca hne 51 51 vcur.size cur.size (by simp[World.shape?,hv]) (by simp[World.shape?,hg]) h0 (by simp[World.frozen?,hv]) (by simp[World.frozen?,hv])]
 rfl
set_option maxRecDepth 100000 in
theorem qhN (lo:Nat) (s:Value) (n i:Nat) (xs:List Value) (v:Value) (m lov:Nat) (vs:List Value) (w:World) (ho:w.ownsRow lo 51 5 s n xs) (hv:w.ownsRow lov 51 5 v m vs) (hsv:∀ q,v.ownBlock=some q->s.ownBlock≠some q) (hm:0<m) (hnm:n+m<=100) (hi:i<=n) (h1x:∀ u∈xs,u.oneCell'=true) (h1v:∀ u∈vs,u.oneCell'=true) (hlo:lo<=w.heap.size):Calls prog 166 #[s,.int .i64 (i:Int),v] w (YQ lo s (n+m) (xs.take (i*5)++vs++xs.drop (i*5)) w):=by
 obtain⟨i0,hi0,hz0,hz1,hz2⟩:=info_parts Tryz.info_item;have hvl:=hv.1;have hxl:=ho.1;obtain⟨vg,vcap,vcur,rfl,hvlo,hvg,hvc,hvm,hvs,hvt⟩:∃ g cap cur,v=.slice (some ⟨g,0,none⟩) m cap/\lov<=g/\w.heap[g]?=some (.cells cur 51 (0,0))/\m<=cap/\cap<=maxLen/\cur.size=cap*5/\cur.toList.take (m*5)=vs:=by
  rcases hv.2 with ⟨_,h0⟩|h
  ·omega
  ·exact h
 have hXE:=qfq hv;have hm0:((m:Int) == 0)=false:=by rw[beq_eq_false_iff_ne];omega
 have hrv:Rd w w.heap.size 5 (some ⟨vg,0,none⟩) m vs:=Rd.of_own hv;by_cases hin:i=n
 ·subst hin;have hy:xs.take (i*5)++vs++xs.drop (i*5)=xs++vs:=by rw[List.take_of_length_le zO,List.drop_of_length_le zO,List.append_nil]
  rw[hy];have hd1:decide ((i:Int)=(i:Int))=true:=decide_eq_true rfl;have hgo:∀ A c,s=.slice A i c->(A=none\/∃ g,A=some ⟨g,0,none⟩)->Calls prog 166 #[s,.int .i64 (i:Int),.slice (some ⟨vg,0,none⟩) m vcap] w (YQ lo s (i+m) (xs++vs) w):=fun A c hs hA=>by
   have hic:i<=c:=by obtain⟨A',c',e,h1,h2⟩:=qB ho;rw[hs] at e;cases e;exact h1
   subst hs;clear hvg hvs hvt hXE hy;replace hvm:=zH hvm;have hCI:∀ (v':Value) (w':World),w'.ownsRow lo 51 5 v' (i+m) (xs++vs)->w.grownBy w' (Value.slice A i c).ownBlock->Below lo w w'->YQ lo (.slice A i c) (i+m) (xs++vs) w (.returned v') w':=fun v' w' h1 h2 h3=>⟨v',rfl,h1,h3,fun q hq hn=>h2.block q hq fun e=>hn e.symm⟩
   replace hCI:=zH hCI;rcases hA with rfl|⟨g,rfl⟩
   ·go_enter func166,ntmps166;go_wp2_with (at_builtin;refine Qg ?_);refine QI.go (QF _ rfl (.tmp 23) (.tmp 24) 55 rfl lo 51 i0 _ 5 48 underlying55 hi0 hz0 hz1 hz2 rfl zD _ i xs rfl ho w.heap.size _ m vcap vs zE hrv h1v zO zD hlo ?_);intro v' w' h1 h2 h3 _;go_wp2_with fail;go_ret;exact hCI.out v' w' h1 h2 h3
   ·go_enter func166,ntmps166;by_cases hci:c=i
    ·subst hci;have wZS:c-c=0:=zO;go_wp2_with (at_builtin;refine Qg ?_);refine QI.go (QF _ rfl (.tmp 23) (.tmp 24) 55 rfl lo 51 i0 _ 5 48 underlying55 hi0 hz0 hz1 hz2 rfl zD _ c xs rfl ho w.heap.size _ m vcap vs zE hrv h1v zO zD hlo ?_);intro v' w' h1 h2 h3 _;go_wp2_with fail;go_ret;exact hCI.out v' w' h1 h2 h3
    ·have wZS:¬(c-i=0):=zO;go_wp2_with (at_builtin;refine Qg ?_);refine QI.go (QF _ rfl (.tmp 23) (.tmp 24) 55 rfl lo 51 i0 _ 5 48 underlying55 hi0 hz0 hz1 hz2 rfl zD _ i xs rfl ho w.heap.size _ m vcap vs zE hrv h1v zO zD hlo ?_);intro v' w' h1 h2 h3 _;go_wp2_with fail;go_ret;exact hCI.out v' w' h1 h2 h3
  rcases ho.2 with ⟨e,h0⟩|⟨g,cap,cur,e,_⟩
  ·exact hgo none 0 (by rw[e,h0]) (.inl rfl)
  ·exact hgo _ cap e (.inr ⟨g,rfl⟩)
 ·obtain⟨g,cap,cur,rfl,wBU,hg,hnc,hcm,hcs,hct⟩:∃ g cap cur,s=.slice (some ⟨g,0,none⟩) n cap/\lo<=g/\w.heap[g]?=some (.cells cur 51 (0,0))/\n<=cap/\cap<=maxLen/\cur.size=cap*5/\cur.toList.take (n*5)=xs:=by
   rcases ho.2 with ⟨_,h0⟩|h
   ·omega
   ·exact h
  have hlt:i<n:=zO;have hVL:((i:Int) == (n:Int))=false:=by rw[beq_eq_false_iff_ne];omega
  have hci:¬(cap=i):=zO;have wTV:vg≠g:=fun e=>hsv vg rfl (by rw[e];rfl);have hdl:(xs.drop (i*5)).length=(n-i)*5:=by rw[List.length_drop];omega
  have h1d:∀ u∈xs.drop (i*5),u.oneCell'=true:=fun u hu=>h1x u (List.mem_of_mem_drop hu);have hsz:(Tryz.prog.info? 51).map (·.size)=some 5:=by rw[hi0];simp[hz1]
  have hgd:∀ W:World,W.heap[g]?=w.heap[g]?->∀ j u,(xs.drop (i*5))[j]?=some u->W.cell? ((⟨g,i*5,none⟩:Addr).add j)=some u:=fun W hW j u hu=>by
   rw[Addr.add_lit,qa (hW.trans hg),<-Array.getElem?_toList];rw[List.getElem?_drop,<-hct,List.getElem?_take] at hu;split at hu
   ·exact hu
   ·cases hu
  have hvd:∀ W:World,W.heap[vg]?=w.heap[vg]?->∀ j u,vs[j]?=some u->W.cell? ((⟨vg,0,none⟩:Addr).add j)=some u:=fun W hW j u hu=>by rw[World.cell?_of_block (w:=w) (by rw[Addr.add_lit];exact hW)];exact hXE j u hu
  have hgl:=(zG.1 hg).1;replace hcm:=zH hcm;replace hvm:=zH hvm;replace h1x:=zH h1x;replace hsv:=zH hsv;have wWV:=(zG.1 hvg).1;clear hXE hrv ho hv;by_cases hcap:cap<n+m
  ·obtain⟨k,hk⟩:∃ k,k=n+m-i:=⟨_,rfl⟩
   have hki:(n:Int)+(m:Int)-(i:Int)=((k:Nat):Int):=zO;obtain⟨C,hC⟩:∃ C,C=grownCap w (i+k) cap 51:=⟨_,rfl⟩
   have hCge:i+k<=C:=by rw[hC];exact grownCap_ge w (i+k) cap _
   have hCm:C<=maxLen:=by rw[hC];exact grownCap_le_maxLen w (i+k) cap _ zA6
   obtain⟨cur0,hUU⟩:∃ cur0:Array Value,cur0=(xs.take (i*5)).toArray++Builtin.zeroCells (Value.agg #[.int .u8 0,.int .u32 0,.int .u32 0,.int .i64 0,.slice none 0 0]).cells k++Builtin.zeroCells (Value.agg #[.int .u8 0,.int .u32 0,.int .u32 0,.int .i64 0,.slice none 0 0]).cells (C-(i+k)):=⟨_,rfl⟩
   have hGG:∀ ty,(Builtin.append_ #[55,3] ty #[.slice (some ⟨g,0,none⟩) i cap,.int .i64 ((n:Int)+(m:Int)-(i:Int))]).run prog w=.ok (.slice (some ⟨w.heap.size,0,none⟩) (i+k) C) (w.drew.alloc (.cells cur0 51)):=fun ty=>by
    rw[hki,hC,hUU,hC];exact Lib.run_append_grow_zeros (P:=prog) w 55 3 ty 51 i0 _ .i64 .i64 underlying55 underlying3 hi0 hz0 (some ⟨g,0,none⟩) i cap (xs.take (i*5)) (by
     rw[hz1];exact run_firstCells_some w.drew 5 i ⟨g,0,none⟩ i cap (xs.take (i*5)) (by rw[List.length_take];omega) (fun j u hu=>by
      rw[Addr.add_lit,Nat.zero_add];show w.cell? _=_;rw[qa hg,<-Array.getElem?_toList];rw[<-hct,List.take_take,List.getElem?_take] at hu;split at hu
      ·exact hu
      ·cases hu)) k zO zO zO zO (by rw[hz2];omega) (by rw[hz2];exact growslice_fits zO zO)
   have hc0:cur0.size=C*5:=by rw[hUU];simp only[Array.size_append,List.size_toArray,size_zeroCells,List.length_take];simp only[Value.cells,List.size_toArray,List.length_cons,List.length_nil];omega
   have wMP:cur0.toList.take (i*5)=xs.take (i*5):=by
    rw[hUU];simp only[Array.toList_append,List.append_assoc];have:i*5=(xs.take (i*5)).length:=by rw[List.length_take];omega
    rw[this];simp
   clear hUU hC;have hsd:(i+k)=n+m:=zO;have hCI:∀ W:World,W.heap[w.heap.size]?=some (.cells (spl (spl cur0 i vs) (i+m) (xs.drop (i*5))) 51 (0,0))->Below lo w W->(∀ q,q<w.heap.size->W.heap[q]?=w.heap[q]?)->YQ lo (.slice (some ⟨g,0,none⟩) n cap) (n+m) (xs.take (i*5)++vs++xs.drop (i*5)) w (.returned (.slice (some ⟨w.heap.size,0,none⟩) (i+k) C)) W:=fun W h1 h2 h3=>by
    rw[hsd];refine⟨_,rfl,RowI.own ⟨_,h1,?_,?_⟩ ?_ hlo zO hCm,h2,fun q hq _=>h3 q hq⟩
    ·rw[zh (k:=n-i) hdl (by rw[zh hvl zO];omega),zh hvl zO,hc0]
    ·have e1:=XL wMP hvl zO;have e2:=XL e1 hdl (by rw[zh hvl zO];omega);rw[<-e2];congr 1;omega
    ·simp only[List.length_append,List.length_take,hdl,hvl];omega
   replace hCI:=zH hCI;replace wMP:=zH wMP;clear hki;replace hk:=zH hk;have hiC:¬(C=i):=zO;have himC:¬(C=i+m):=zO;replace hCm:=zH hCm;go_enter func166,ntmps166;go_wp2_with (at_builtin;refine Qg ?_);refine QI.go (Lib.wpList_append_run _ rfl _ _ _ _ rfl _ _ rfl rfl _ _ (hGG _) ?_);clear hGG;generalize hw1:World.alloc _ _=w1;have p1:w1.heap[w.heap.size]?=some (.cells cur0 51 (0,0)):=by rw[<-hw1];exact zI _ _ _ rfl
   have k1:∀ q,q<w.heap.size->w1.heap[q]?=w.heap[q]?:=fun q hq=>by rw[<-hw1];exact zK _ _ _ hq
   have z1:w.heap.size<=w1.heap.size:=by rw[<-hw1];simp
   have B1:Below lo w w1:=by rw[<-hw1];exact Below.mono ((Ext.drew w).trans (zN _ _)) hlo
   clear hw1;have hRD:∀ ty,(Builtin.copy_ #[55,55] ty #[.slice (some ⟨w.heap.size,i*5,none⟩) (n+m-i) (C-i),.slice (some ⟨vg,0,none⟩) m vcap]).run prog w1=.ok (.int .i64 (m:Nat)) (w1.setRow w.heap.size (spl cur0 i vs)):=fun ty =>
    Jy (k:=m) (o:=i) p1 hvl zO underlying55 hsz zA8 (hvd w1 (k1 _ wWV)) h1v
   obtain⟨w2,hw2⟩:∃ w2,w2=w1.setRow w.heap.size (spl cur0 i vs):=⟨_,rfl⟩
   rw[<-hw2] at hRD;have p2:w2.heap[w.heap.size]?=some (.cells (spl cur0 i vs) 51 (0,0)):=by rw[hw2];exact setRow_heap _ _ _ _ _ _ p1
   have k2:∀ q,q<w.heap.size->w2.heap[q]?=w.heap[q]?:=fun q hq=>by rw[hw2];exact(setRow_other _ _ _ _ zO).trans (k1 q hq)
   have z2:w.heap.size<=w2.heap.size:=by rw[hw2];simpa using z1
   have B2:Below lo w w2:=by rw[hw2];exact Zj B1 hlo hlo _
   have s2:=zh (cur:=cur0) (o:=i) hvl zO;clear hw2 p1 k1 z1;have hOL:∀ W:World,Ext w2 W->∀ ty,(Builtin.copy_ #[55,55] ty #[.slice (some ⟨w.heap.size,(i+m)*5,none⟩) (n+m-(i+m)) (C-(i+m)),.slice (some ⟨g,i*5,none⟩) (n-i) (cap-i)]).run prog W=.ok (.int .i64 ((n-i:Nat):Int)) (W.setRow w.heap.size (spl (spl cur0 i vs) (i+m) (xs.drop (i*5)))):=fun W hW ty =>
    Jy (k:=n-i) (o:=i+m) (qb p2 hW) hdl zO underlying55 hsz zA8 (hgd W ((Below.block hW g zO).trans (k2 _ hgl))) h1d
   have hLR:∀ W:World,Ext w2 W->YQ lo (.slice (some ⟨g,0,none⟩) n cap) (n+m) (xs.take (i*5)++vs++xs.drop (i*5)) w (.returned (.slice (some ⟨w.heap.size,0,none⟩) (n+m) C)) (W.setRow w.heap.size (spl (spl cur0 i vs) (i+m) (xs.drop (i*5)))):=fun W hW=>by have:=hCI.out (W.setRow w.heap.size (spl (spl cur0 i vs) (i+m) (xs.drop (i*5)))) (setRow_heap _ _ _ _ _ _ (qb p2 hW)) (Zj (B2.trans (Below.mono hW zO)) hlo hlo _) (fun q hq=>(setRow_other _ _ _ _ zO).trans ((Below.block hW q zO).trans (k2 q hq)));rw[hsd] at this;exact this
   replace hLR:=zH hLR;replace hOL:=zH hOL;clear hCI;have xBP:=zH (show IntKind.i64.wrap ((i:Int)+(m:Int))=((i+m:Nat):Int) by rw[IntKind.wrap_i64];omega);have him:(0:Int)<=(i:Int)+(m:Int):=zO;have himt:((i:Int)+(m:Int)).toNat=i+m:=zO;go_upto_region 11 with (simp only[hRD])
   refine qp zQ ?_;refine Qa (w:=w2) qm (qM []) (List.replicate 8 true) 1 zQ zQ zQ zQ zQ zQ zQ ?st (Rel.drew _ _) ?walk
   case st=>exact qj (fun _ h=>by cases h)
   case walk =>
    intro K hK;dsimp only[qw,List.replicate];refine zB5 ?_;refine qe (.slice (some ⟨w.heap.size,(i+m)*5,none⟩) (n+m-(i+m)) (C-(i+m))) zA0 zA0 (fun W hW _=>⟨W,?_,Rel.refl _ W⟩) ?_
    ·go_simp;rw[xBP.out,Int.toNat_natCast,if_pos zO,if_neg zO]
    refine zB5 ?_;refine qA (hK _ _ fun W hW hF=>?_);clear hF hK;have hW:Ext w2 W:=hW;refine zB7 ?_;have hc2:=hOL.out W hW;go_wp2_with (simp only[hc2]);refine Qw ?_;go_wp2_with fail;go_ret;exact hLR.out W hW
  ·have hov:∀ la ca lb cb,(callFunc 167 #[.slice (some ⟨vg,0,none⟩) lb cb,.slice (some ⟨g,(i+m)*5,none⟩) la ca]).run prog w=.ok (.value (.bool false)) w:=fun la ca lb cb=>UG w g _ la ca vg lb cb cur vcur hg hvg wTV zO 0;go_enter func166,ntmps166;go_upto_region 15 with (simp only[hov])
   have xEJ:(n+m)*5<=cur.size:=zO;have hRD:∀ W:World,Ext w W->∀ ty dc sc,(Builtin.copy_ #[55,55] ty #[.slice (some ⟨g,(i+m)*5,none⟩) (n+m-(i+m)) dc,.slice (some ⟨g,i*5,none⟩) (n+m-i) sc]).run prog W=.ok (.int .i64 ((n-i:Nat):Int)) (W.setRow g (spl cur (i+m) (xs.drop (i*5)))):=fun W hW ty dc sc =>
    Jy (k:=n-i) (o:=i+m) (qb hg hW) hdl zO underlying55 hsz zA8 (hgd W (Below.block hW g hgl)) h1d
   have s1:=zh (cur:=cur) (o:=i+m) hdl zO;have hOL:∀ W:World,Ext w W->∀ ty dc,(Builtin.copy_ #[55,55] ty #[.slice (some ⟨g,i*5,none⟩) (n+m-i) dc,.slice (some ⟨vg,0,none⟩) m vcap]).run prog (W.setRow g (spl cur (i+m) (xs.drop (i*5))))=.ok (.int .i64 (m:Nat)) ((W.setRow g (spl cur (i+m) (xs.drop (i*5)))).setRow g (spl (spl cur (i+m) (xs.drop (i*5))) i vs)):=fun W hW ty dc =>
    Jy (k:=m) (o:=i) (setRow_heap _ _ _ _ _ _ (qb hg hW)) hvl zO underlying55 hsz zA8 (hvd _ ((setRow_other _ _ _ _ wTV).trans (Below.block hW vg wWV))) h1v
   have hCI:∀ W:World,Ext w W->YQ lo (.slice (some ⟨g,0,none⟩) n cap) (n+m) (xs.take (i*5)++vs++xs.drop (i*5)) w (.returned (.slice (some ⟨g,0,none⟩) (n+m) cap)) ((W.setRow g (spl cur (i+m) (xs.drop (i*5)))).setRow g (spl (spl cur (i+m) (xs.drop (i*5))) i vs)):=fun W hW=>by
    refine⟨_,rfl,RowI.own ⟨_,setRow_heap _ _ _ _ _ _ (setRow_heap _ _ _ _ _ _ (qb hg hW)),?_,?_⟩ ?_ wBU zO hcm.out,Zj (Zj (Below.mono hW hlo) hlo wBU _) hlo wBU _,fun q hq hn=>?_⟩
    ·rw[zh hvl zO,s1,hcs]
    ·exact qkB hct hxl hvl hi xEJ
    ·simp only[List.length_append,List.length_take,hdl,hvl];omega
    ·have:q≠g:=fun e=>hn (by rw[e];rfl);exact(setRow_other _ _ _ _ this).trans ((setRow_other _ _ _ _ this).trans (Below.block hW q hq))
   replace hCI:=zH hCI;replace hOL:=zH hOL;replace hRD:=zH hRD;have xBP:=zH (show IntKind.i64.wrap ((i:Int)+(m:Int))=((i+m:Nat):Int) by rw[IntKind.wrap_i64];omega);clear hov hgd hvd;refine qp zQ ?_;refine Qa (w:=w) qm (qM []) (List.replicate 8 true) 1 zQ zQ zQ zQ zQ zQ zQ ?st (Rel.drew _ _) ?walk
   case st=>exact qj (fun _ h=>by cases h)
   case walk =>
    intro K hK;dsimp only[qw,List.replicate];refine zB5 ?_;refine qe (.slice (some ⟨g,(i+m)*5,none⟩) (n+m-(i+m)) (cap-(i+m))) zA0 zA0 (fun W hW _=>⟨W,?_,Rel.refl _ W⟩) ?_
    ·go_simp;rw[xBP.out,Int.toNat_natCast,if_pos zO,if_neg zO]
    refine zB5 ?_;refine qe (.slice (some ⟨g,i*5,none⟩) (n+m-i) (cap-i)) zA0 zA0 (fun W hW _=>⟨W,?_,Rel.refl _ W⟩) ?_
    ·go_simp;intro hx;exfalso;omega
    refine zB5 ?_;refine qA (hK _ _ fun W hW hF=>?_);clear hF hK;have hW:Ext w W:=hW;refine zB7 ?_;have hc1:=hRD.out W hW;have hc2:=hOL.out W hW;have hfn:=zH (hCI.out W hW);generalize World.setRow (World.setRow W _ _) _ _=wf at *;generalize World.setRow W _ _=wm at *;go_wp2_with (simp only[hc1]);refine Qw ?_;go_wp2_with (simp only[hc2]);go_ret;exact hfn.out
end Go.Proofs.YtmeadnlmepcmbaaGreat
