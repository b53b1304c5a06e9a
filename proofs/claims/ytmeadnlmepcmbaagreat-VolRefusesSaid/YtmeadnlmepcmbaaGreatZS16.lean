/- Lemmas of the proof. -/
import Derived.Test.YtmeadnlmepcmbaaGreatZS15
set_option linter.all false
set_option maxHeartbeats 8000000
open Go.Proofs.Tryz
open Go.Value renaming slice→y,int→E,pointer→Q
open Option renaming some→F,none→M
open Go.IntKind renaming i64→I,u32→Oc
open Go.Obj renaming cells→O
open Go renaming World→X,Value→Od
open Go.Ending renaming returned→Y
open Go.World renaming alloc→Z
open Bool renaming true→Oa,false→Ob
namespace Go.Proofs.YtmeadnlmepcmbaaGreat
open Go.RowKit Go.Shelf
attribute [local go_sem] Oper.semAt_some
variable {W W' w w2:World}{v:Value}{k:Option Nat}{D:Nat->Prop}{S S0:Sto}{a n lo B:Nat}{R:Ending->World->Prop}{Ds:List Nat}{β:Type}{xs:List It}
abbrev Ui:Type:=It×Sl
abbrev uiz:Ui:=((⟨0,0,0,0,[]⟩:It),(M,0,0))
set_option maxRecDepth 100000 in
theorem backi_in(n:Nat)(hn:1<=n)(l Bs b off len cap:Nat)(us:List Ui)(hDE:len<1099511627776)(J Jx:List Nat->X->Prop)(hY:∀pre (x:Nat) W,J pre W->pre.length<len->YieldAt Fence.wide (n-1) prog l #[(x:Int),.agg #[E .u8 (us[x]?.getD uiz).1.k,E Oc (us[x]?.getD uiz).1.i,E Oc (us[x]?.getD uiz).1.o,E I (us[x]?.getD uiz).1.r,sv (us[x]?.getD uiz).2]] W λe W'=>
   (e=Y (.bool Oa)/\J (pre++[x]) W'/\Qx Bs b W W')\/(e=Y (.bool Ob)/\Jx (pre++[x]) W'))
  (W:X) (hBs:W.cell? Bs=F (y (b,off) len cap)) (hc:∀i,i<len->W.cell? ⟨b,off+i*5,M⟩=F (E .u8 (us[i]?.getD uiz).1.k)/\W.cell? ⟨b,off+i*5+1,M⟩=F (E Oc (us[i]?.getD uiz).1.i)/\W.cell? ⟨b,off+i*5+2,M⟩=F (E Oc (us[i]?.getD uiz).1.o)/\W.cell? ⟨b,off+i*5+3,M⟩=F (E I (us[i]?.getD uiz).1.r)/\W.cell? ⟨b,off+i*5+4,M⟩=F (sv (us[i]?.getD uiz).2)) (h0:J [] W) :
  CallsIn Fence.wide n prog 197 #[.func (.yield l) #[] #[],Q Bs] W λe W'=>(∃v,e=Y v) /\
   ((∃ys,ys=jf (λj=>len-1-j) len/\J ys W')\/(∃pre,(∃k,k<=len/\pre=jf (λj=>len-1-j) k)/\Jx pre W')):=by
 refine callsIn_of_wp func197 rfl trivial ?_ rfl;simp only[ntmps197,List.size_toArray,List.length_cons,List.length_nil,Nat.reduceAdd,Nat.reduceSub,Array.replicate_succ,Array.replicate_zero,List.push_toArray,List.append_toArray,List.nil_append,List.cons_append]
 gi_wp2
 gi_loopw [3] (λi wr=>∃k:Nat,k<=len/\i=E I ((len:Int)-1-k)/\J (jf (λj=>len-1-j) k) wr/\Qx Bs b W wr)
  (λi _=>(intOf i+1).toNat)
 case atStart=>exact⟨0,Nat.zero_le _,zA3,h0,Qx.refl _ _ _⟩
 case round=>
  obtain⟨k,hk,rfl,hJs,hnx⟩:=hrel;have hBr:wr.cell? Bs=F (y (b,off) len cap):=(World.cell?_of_block (w:=W) hnx.1).trans hBs;by_cases hlt:k<len
  ·obtain⟨fn,tmps,assign,body,hy,hR⟩:=hY _ (len-1-k) wr hJs (by rw[ZA];exact hlt);have hc0:=(World.cell?_of_block (w:=W) (a:=⟨b,off+(len-1-k)*5,M⟩) hnx.2).trans (hc (len-1-k) zO).1;have hc1:=(World.cell?_of_block (w:=W) (a:=⟨b,off+(len-1-k)*5+1,M⟩) hnx.2).trans (hc (len-1-k) zO).2.1;have hc2:=(World.cell?_of_block (w:=W) (a:=⟨b,off+(len-1-k)*5+2,M⟩) hnx.2).trans (hc (len-1-k) zO).2.2.1;have hc3:=(World.cell?_of_block (w:=W) (a:=⟨b,off+(len-1-k)*5+3,M⟩) hnx.2).trans (hc (len-1-k) zO).2.2.2.1;have hc4:=(World.cell?_of_block (w:=W) (a:=⟨b,off+(len-1-k)*5+4,M⟩) hnx.2).trans (hc (len-1-k) zO).2.2.2.2;try dsimp only at hy
   obtain⟨i,hi⟩:∃i:Nat,len-1-k=i:=⟨_,rfl⟩
   have hi2:(len:Int)-1-k=(i:Int):=zO;have hil:i<len:=zO;have hik:k+i+1<=len/\len<=k+i+1:=zO;have HU:=zH (VA (λj=>len-1-j) k);obtain⟨u,hu⟩:∃u,us[i]?.getD uiz=u:=⟨_,rfl⟩
   rw[hi]at hc0 hc1 hc2 hc3 hc4 hy hR;rw[hu]at hc0 hc1 hc2 hc3 hc4 hy;rw[hi2];clear hi2;clear hu;have HI:=zH hi;clear hi
   gi_wp2
   refine hR.mono ?_;rintro e W3 (⟨rfl,hJ3,hk3⟩|⟨rfl,hKP⟩)
   ·gi_wp2
    go_roundw
    case rel=>exact⟨k+1,zO,by go_num,by rw[HU.out,HI.out];exact hJ3,hnx.t hk3⟩
    case measure=>simp[intOf]
   gi_wp2
   refine bodyPost_ret (results_none rfl _ _ _) rfl ?_;exact⟨⟨_,rfl⟩,.inr ⟨_,⟨k+1,zO,by rw[HU.out,HI.out]⟩,hKP⟩⟩
  obtain rfl:k=len:=zO
  gi_wp2
  go_end0;exact⟨⟨_,rfl⟩,.inl ⟨_,rfl,hJs⟩⟩
set_option maxRecDepth 100000 in
theorem qfK(n l Bs c:Nat)(A:OA)(J:List Nat->X->Prop)(W:X)(hBs:W.cell? Bs=F (y A 0 c))(h0:J [] W):CallsIn Fence.wide n prog 197 #[.func (.yield l) #[] #[],Q Bs] W λe W'=>(∃v,e=Y v)/\J [] W':=by
 refine callsIn_of_wp func197 rfl trivial ?_ rfl;simp only[ntmps197,List.size_toArray,List.length_cons,List.length_nil,Nat.reduceAdd,Nat.reduceSub,Array.replicate_succ,Array.replicate_zero,List.push_toArray,List.append_toArray,List.nil_append,List.cons_append]
 gi_wp2
 gi_loopw [3] (λi wr=>i=E I (-1)/\J [] wr) (λ_ _=>0)
 case atStart=>exact⟨rfl,h0⟩
 case round=>
  obtain⟨rfl,hJs⟩:=hrel
  gi_wp2
  go_end0;exact⟨⟨_,rfl⟩,hJs⟩
def SWi(W:X)(Bs b:Nat)(v:Od)(us:List Ui):Prop:=
 W.cell? Bs=v/\((us=[]/\∃A c,v=y A 0 c)\/∃off cap,v=y (F ⟨b,off,M⟩) us.length cap/\∀i,i<us.length->W.cell? ⟨b,off+i*5,M⟩=F (E .u8 (us[i]?.getD uiz).1.k)/\W.cell? ⟨b,off+i*5+1,M⟩=F (E Oc (us[i]?.getD uiz).1.i)/\W.cell? ⟨b,off+i*5+2,M⟩=F (E Oc (us[i]?.getD uiz).1.o)/\W.cell? ⟨b,off+i*5+3,M⟩=F (E I (us[i]?.getD uiz).1.r)/\W.cell? ⟨b,off+i*5+4,M⟩=F (sv (us[i]?.getD uiz).2))
theorem SWi.keep{Bs b:Nat}{us:List Ui}(h:SWi W Bs b v us)(hk:Qx Bs b W W'):SWi W' Bs b v us:=by
 refine⟨(World.cell?_of_block (w:=W) hk.1).trans h.1,?_⟩;rcases h.2 with h|⟨off,cap,e,hc⟩
 exact .inl h;exact .inr ⟨off,cap,e,λi hi=>⟨(World.cell?_of_block (w:=W) hk.2).trans (hc i hi).1,(World.cell?_of_block (w:=W) hk.2).trans (hc i hi).2.1,(World.cell?_of_block (w:=W) hk.2).trans (hc i hi).2.2.1,(World.cell?_of_block (w:=W) hk.2).trans (hc i hi).2.2.2.1,(World.cell?_of_block (w:=W) hk.2).trans (hc i hi).2.2.2.2⟩⟩
theorem qhd(n:Nat)(hn:1<=n)(Bs b:Nat)(v:Od)(us:List Ui)(hDE:us.length<1099511627776)(w:X)(hBs:Bs<w)(hb:b<w)(hS:SWi w Bs b v us):SeqStopsK Fence.wide n prog 197 #[Q Bs] (λx:Nat=>#[(x:Int),.agg #[E .u8 (us[x]?.getD uiz).1.k,E Oc (us[x]?.getD uiz).1.i,E Oc (us[x]?.getD uiz).1.o,E I (us[x]?.getD uiz).1.r,sv (us[x]?.getD uiz).2]]) (Qx Bs b) (λys=>ys=jf (λj=>us.length-1-j) us.length)
   (λpre=>∃k,k<=us.length/\pre=jf (λj=>us.length-1-j) k) us.length w:=λl J Jx W hW _ _ hY h0=>by
 obtain⟨hc,h⟩:=hS.keep (Qx.below hW hBs hb);rcases h with⟨rfl,A,c,rfl⟩|⟨off,cap,rfl,hcs⟩
 exact(qfK n l Bs c A J W hc h0).mono λe W' ⟨he,hj⟩=>⟨he,.inl ⟨_,rfl,hj⟩⟩
 exact backi_in n hn l Bs b off us.length cap us hDE J Jx hY W hc hcs h0
theorem qdS(A m c)(w:X):Calls prog 172 #[y A m c] w (λe w'=>e=Y (.func (.func 197) #[] #[Q w])/\w'=w.alloc (O #[y A m c] 55)):=by go_enter func172,ntmps172;go_wp2;go_ret;exact⟨rfl,rfl⟩
def Vl(st:List (Nat×Int)):List Od:=st.flatMap λp=>[(p.1:Int),E I p.2]
theorem GU(s r:List (Nat×Int)):Vl (s++r)=Vl s++Vl r:=by unfold Vl;rw[List.flatMap_append]
theorem qfc(x:Nat×Int):Vl [x]=[E I (x.1:Int),E I x.2]:=rfl
theorem qfb:∀st:List (Nat×Int),(Vl st).length=st.length*2
 |[]=>rfl
 |x::r=>by have:=qfb r;have e:Vl (x::r)=[E I (x.1:Int),E I x.2]++Vl r:=rfl;rw[e];simp only[List.length_append,List.length_cons,List.length_nil];omega
theorem Ql.fresh{lo b g:Nat}{C:X}(h:Ql lo b g k w W)(hl:lo<=w)(hx:Below w W C):Ql lo b g k w C:=
 ⟨h.below.trans (Below.mono hx hl),λq hq hn=>(hx.block q hq).trans (h.rows q hq hn)⟩
theorem Jn.bad2{B lo b g:Nat}(x2:Ext w w2)(hl:lo<=w)(h:QD S (-1) S.now a=M)(hB:Ql lo b g k w2 W):∀C,Below w2 W C->Jn D B lo b g k S a w (Y (E I 8)) C:=λC hC=>by have z2:=x2.size;exact Jn.bad h ((Ql.of_ext x2 hl).trans (hB.fresh zO hC) (Zq.refl _ _))
theorem Jn.good2{B lo b g:Nat}{t:List UInt8}(h0:Bch D B lo b g k S0 w)(x2:Ext w w2)(h:QD S (-1) S.now a=t)(hB:Ql lo b g k w2 W)(hb:Bch D B lo b g k (qu S t) W):∀C,Below w2 W C->Jn D B lo b g k S a w (Y (E I 0)) C:=λC hC=>by have z2:=x2.size;have hl:=h0.size.2.2.2.2.2.1;exact Jn.good h ((Ql.of_ext x2 hl).trans (hB.fresh zO hC) (Zq.refl _ _)) ((h0.ext x2).fresh hb hC)
theorem YD{a:Act}(h4:a.tmps[4]?.getD undef=v)(hd:a.defers=Ds.map qcV)(hm:Jk lo Ds W)(hR:∀C,Below lo W C->R v C):bodyPostM Fence.wide n prog Tryz.f121 R .ret a W:=by
 change LeavesInM Fence.wide n prog Tryz.f121 a.tmps R a.defers .returning W;rw[hd];refine GE (lo:=lo) Ds W hm λC h1 h2 h3 h4' h5=>⟨v,?_,hR C ⟨h3,h4',h5,zO,λq hq=>h1 q λhm'=>?_⟩⟩
 ·simp[results,results121,go_sem,h4]
 have:=(hm.at_ q hm').1;omega
theorem Tryz.info_owed:(Tryz.prog.info? 235).map (λi=>(i.zero,i.size,i.bytes))=F (F (.agg #[E I 0,E I 0]),2,16):=zQ
theorem qgo(b base m:Nat)(f:List Nat->List (Nat×Int))(p:Od->Prop):OwnFrom B (λ(pre:List Nat) W=>∃v,W.heap[b]?=F (O #[v] 236)/\W.ownsRow base 235 2 v (m+pre.length) (Vl (f pre))/\p v):=λs A C row ⟨v,h1,h2,h3⟩ hg hr=>
 ⟨v,QL (β:=Unit) _ _ _ _ () A C row h1 hg hr,h2.kept hg (by
  rcases hv:v.ownBlock with _|g
  exact .inl rfl
  ·refine .inr λe=>?_;obtain⟨_,o,ho,hc⟩:=hr g e.symm;rcases GV h2 g hv with⟨c,fz,h3⟩;rw[ho]at h3;cases h3;cases hc),h3⟩
theorem qeg(hB:∀D∈Ds,D<B):OwnFrom B (λ(_:β) W=>Jk lo Ds W):=λ_ A C row h hg hr=>⟨h.nodup,λD hD=>⟨(h.at_ D hD).1,(hg.block D (zG.1 (h.at_ D hD).2).1 λe=>by have:=(hr D e.symm).1;have:=hB D hD;omega).trans (h.at_ D hD).2⟩⟩
theorem refs_rev{us:List Ui}(h:us.map (·.1)=xs)(l:Int):(jf (λj=>us.length-1-j) us.length).map (λj=>((us[j]?.getD uiz).1.r.toNat,l))=((qB xs).map λr=>(r,l)).reverse:=by
 subst h;refine List.ext_getElem (by simp[ZA,qB]) λi h1 h2=>?_;have h3:i<us.length:=by simpa [ZA]using h1
 have e1:(jf (λj=>us.length-1-j) us.length)[i]'(by rw[ZA];exact h3)=us.length-1-i:=by have:=Uj us.length us.length i h3;rw[zL (by rw[ZA];exact h3)]at this;exact Option.some.inj this
 rw[List.getElem_map,e1,List.getElem_reverse,List.getElem_map];have h4:us.length-1-i<us.length:=zO;have h5:us[us.length-1-i]?.getD uiz=us[us.length-1-i]:=by rw[zL h4];rfl
 rw[h5];simp[qB]
theorem qlv:∀t:List UInt8,kG t<=255*t.length
 |[]=>by simp[kG]
 |x::r=>by have:=qlv r;have h:=x.toNat_lt;simp only[kG,List.length_cons];omega
theorem Jk.add{D:Nat}(h:Jk lo Ds W)(hlt:∀D∈Ds,D<n)(hD:n<=D)(hl:lo<=D)(hr:W.heap[D]?=F (.deferred (F []))):Jk lo (D::Ds) W:=by
 refine⟨List.nodup_cons.2 ⟨λhm=>by have:=hlt D hm;omega,h.nodup⟩,λq hq=>?_⟩;rcases List.mem_cons.1 hq with rfl|hq
 exact⟨hl,hr⟩;exact h.at_ q hq
theorem Jk.bkeep{lo lo' b g:Nat}(h:Jk lo Ds w)(hk:Ql lo' b g k w W)(hn:∀q,lo<=q->¬B3 b g k q):Jk lo Ds W:=
 ⟨h.nodup,λD hD=>⟨(h.at_ D hD).1,(hk.rows D (zG.1 (h.at_ D hD).2).1 (hn D (h.at_ D hD).1)).trans (h.at_ D hD).2⟩⟩
structure LvR(D:Nat->Prop)(B lo b g:Nat)(k:Option Nat)(S:Sto)(a:Nat)(w2:X)(n:Nat)(Ds:List Nat)(wr:X):Prop where
 ex:∃st t sv,n=kG t/\LvI S a st t/\Bch D B lo b g k (qu S t) wr/\wr.heap[w2.heap.size+1]?=F (O #[sv] 236)/\wr.ownsRow w2 235 2 sv st.length (Vl st)
 keep:Ql lo b g k w2 wr
 marks:Jk (↑w2+2) Ds wr
def maskL:List Bool:=List.replicate 7 Ob++List.replicate 133 Oa
set_option maxRecDepth 100000 in
theorem YY(D:Nat->Prop)(B lo b g:Nat)(k:Option Nat)(S:Sto)(hS:qk S=Oa)(a:Nat)(ha:8<=a)(ha2:a<256)(w:X)(h:Bch D B lo b g k S w):Calls prog 121 #[Q b,E I (a:Int)] w (Jn D B lo b g k S a w):=by
 obtain⟨hlb,hzb,hlg,hzg,hgb,hlw,hkq⟩:=h.size;obtain⟨hlen,hYT⟩:=h.lens;obtain⟨A1,n1,c1,v2,c3,A4,c4,kr,hkn,hfn⟩:=h.cells;have hAD:w.ownsRow lo 5 1 (y g 256 c3) 256 (S.now.map bv):=by obtain⟨A1',n1',c1',v2',c3',A4',c4',hr',ho',_⟩:=h.ex;have:=(kr 2).symm.trans (qa hr' 2);simp at this;rw[this];exact ho'
 have hby:Bys w w (y g 256 c3) S.now:=Bys.of_own hAD;have HC:=zH (Gg _ S.now zO w hby);have h0:=zH h;have hLI:=zH (LvI.start hS ha ha2);clear hby hAD hkn hfn h hkq;refine(callsIn_wide (n:=3)).1 ?_;refine callsIn_of_wp_marks func121 rfl trivial ?_ rfl;simp only[ntmps121,List.size_toArray,List.length_cons,List.length_nil,Nat.reduceAdd,Nat.reduceSub,Array.replicate_succ,Array.replicate_zero,List.push_toArray,List.append_toArray,List.nil_append,List.cons_append];refine wpIn_wide.2 ?_;go_wp2_with fail;refine HC.mono ?_;clear HC;rintro e w2 ⟨u,rfl,hF,hB⟩;have x2:Ext w w2:=hB;obtain⟨AF,cF,rfl,-,-⟩:=qM hF;obtain⟨bF,oF,rfl,hbF,hFlo,hcF⟩:∃bF oF,AF=F ⟨bF,oF,M⟩/\bF<w2.heap.size/\w.heap.size<=bF/\∀j,j<256->w2.cell? ⟨bF,oF+j,M⟩=F (E .u8 (Zy S j:Int)):=by rw[hlen]at hF;obtain⟨bF,oF,e,h1,h2⟩:=(Rd.of_own hF).2 zO;have hlo:=ZV.of_own hF ⟨bF,oF,M⟩ _ _ (by rw[e]);exact⟨bF,oF,e,h1,hlo,λj hj=>h2 j _ (by rw[List.getElem?_map,zL zO];simp[Zy,zL (show j<S.now.length by omega)])⟩
 have wES:Hid (∀W,Ql lo b g k w2 W->∀j,j<256->W.cell? ⟨bF,oF+j,M⟩=F (E .u8 (qO S.now j:Int))):=zH λW hW j hj=>hW.keepX ⟨bF,oF+j,M⟩ _ (λhx=>by have:=(h0.out.b3 bF hx).2;omega) (hcF j hj);clear hcF;have hb2:=zH (h0.out.ext x2);clear hB hF kr;go_wp2_with fail;generalize hw3:(Z (Z w2 _) _)=w3;have x23:Ext w2 w3:=by rw[<-hw3];exact(zN _ _).trans (zN _ _)
 have rS:w3.heap[w2.heap.size+1]?=F (O #[y w2 1 1] 236 (0,0)):=hw3▸zI _ _ _ zA3;have oS:w3.ownsRow w2 235 2 (y w2 1 1) 1 (Vl [(a,-1)]):=by have h:=World.ownsRow_lit (base:=w2.heap.size) (e:=235) (size:=2) w2 #[E I (a:Int),E I (-1)] 1 (zM _) zA7 rfl;rw[<-hw3];exact h.alloc _
 clear hw3;have hR0:LvR D B lo b g k S a w2 (kG S.now) [] w3:=⟨⟨[(a,-1)],S.now,_,rfl,hLI.out,hb2.out.ext x23,rS,oS⟩,Ql.of_ext x23 (by have:=x2.size;omega),Jk.nil _ _⟩
 replace hR0:=zH hR0;clear rS oS x23 hb2 hLI;refine qgK maskL (kG S.now) (λn _ Ds wr=>LvR D B lo b g k S a w2 n Ds wr) hR0.out zQ ?_;intro nn gg Ds wr K0 hrel hK0;replace hK0:=zH hK0;clear hR0;obtain⟨st,t,sv,hnn,hLI,hbr,rS,oS⟩:=hrel.ex;have hkp:=zH hrel.keep;have hmk:=zH hrel.marks;have xz:=hrel.keep.below.size;clear hrel;replace⟨hnn,hLI,hbr⟩:=zH3 hnn hLI hbr;dsimp only[mixL,maskL,List.replicate,List.cons_append,List.nil_append,List.append_assoc,cond_true,cond_false,List.append_eq,Nat.reduceAdd];generalize gg 7=v7,gg 8=v8,gg 9=v9,gg 10=v10,gg 11=v11,gg 12=v12,gg 13=v13,gg 14=v14,gg 15=v15,gg 16=v16,gg 17=v17,gg 18=v18,gg 19=v19,gg 20=v20,gg 21=v21,gg 22=v22,gg 23=v23,gg 24=v24,gg 25=v25,gg 26=v26,gg 27=v27,gg 28=v28,gg 29=v29,gg 30=v30,gg 31=v31,gg 32=v32,gg 33=v33,gg 34=v34,gg 35=v35,gg 36=v36,gg 37=v37,gg 38=v38,gg 39=v39,gg 40=v40,gg 41=v41,gg 42=v42,gg 43=v43,gg 44=v44,gg 45=v45,gg 46=v46,gg 47=v47,gg 48=v48,gg 49=v49,gg 50=v50,gg 51=v51,gg 52=v52,gg 53=v53,gg 54=v54,gg 55=v55,gg 56=v56,gg 57=v57,gg 58=v58,gg 59=v59,gg 60=v60,gg 61=v61,gg 62=v62,gg 63=v63,gg 64=v64,gg 65=v65,gg 66=v66,gg 67=v67,gg 68=v68,gg 69=v69,gg 70=v70,gg 71=v71,gg 72=v72,gg 73=v73,gg 74=v74,gg 75=v75,gg 76=v76,gg 77=v77,gg 78=v78,gg 79=v79,gg 80=v80,gg 81=v81,gg 82=v82,gg 83=v83,gg 84=v84,gg 85=v85,gg 86=v86,gg 87=v87,gg 88=v88,gg 89=v89,gg 90=v90,gg 91=v91,gg 92=v92,gg 93=v93,gg 94=v94,gg 95=v95,gg 96=v96,gg 97=v97,gg 98=v98,gg 99=v99,gg 100=v100,gg 101=v101,gg 102=v102,gg 103=v103,gg 104=v104,gg 105=v105,gg 106=v106,gg 107=v107,gg 108=v108,gg 109=v109,gg 110=v110,gg 111=v111,gg 112=v112,gg 113=v113,gg 114=v114,gg 115=v115,gg 116=v116,gg 117=v117,gg 118=v118,gg 119=v119,gg 120=v120,gg 121=v121,gg 122=v122,gg 123=v123,gg 124=v124,gg 125=v125,gg 126=v126,gg 127=v127,gg 128=v128,gg 129=v129,gg 130=v130,gg 131=v131,gg 132=v132,gg 133=v133,gg 134=v134,gg 135=v135,gg 136=v136,gg 137=v137,gg 138=v138,gg 139=v139;clear gg;rcases List.eq_nil_or_concat st with rfl|⟨s,x,rfl⟩
 ·obtain⟨As,cs,rfl,-,-⟩:=qM oS;have hBM:=zH (Jn.good2 h0.out x2 hLI.out.done hkp.out hbr.out);have kS:=qa rS;clear oS hK0;go_wp2_with fail;exact YD rfl rfl hmk.out λC hC=>hBM.out C (hC.mono zO)
 rw[List.concat_eq_append]at*;obtain⟨a1,l1⟩:=x;obtain⟨ht8,hPH,htl,htl6⟩:=hLI.out.top;simp only at ht8 hPH htl htl6;obtain⟨m,hm0⟩:∃m,m=s.length:=⟨_,rfl⟩
 rw[List.length_append,List.length_singleton,<-hm0,GU,qfc]at oS;rcases oS.2 with⟨-,h0'⟩|⟨gb,cap,cur,rfl,hgb,hAH,hnc,hcm,hcs,htk⟩
 exfalso;omega;obtain⟨gb',off',e0,hgb',hBZ⟩:=(Rd.of_own oS).2 zO;simp only[Option.some.injEq,Addr.mk.injEq,and_true]at e0;obtain⟨rfl,rfl⟩:=e0;have hls:(Vl s).length=m*2:=by rw[qfb,hm0]
 have kb0:=hBZ (m*2) (E I (a1:Int)) (by rw[List.getElem?_append_right zO,hls];simp);have kb1:=hBZ (m*2+1) (E I l1) (by rw[List.getElem?_append_right zO,hls];simp);rw[Nat.zero_add]at kb0 kb1;clear hBZ;have hns:gb≠w2.heap.size+1:=qP hAH rS zA1;have oS2:=Ge (xs:=Vl s) (news:=[E I (a1:Int),E I l1]) (n:=m) (m:=1) oS hls;have hw22:wrap64 (m:Int)=(m:Int):=IntWalk.wrap64_in _ (by unfold maxLen at hcm;omega);have hmc:m<=cap:=Nat.le_of_succ_le hnc;have hcap:¬cap=0:=λe=>by rw[e]at hnc;exact absurd hnc (Nat.not_succ_le_zero _)
 have kS:=qa rS;have fS:=qd rS;have zS:w2.heap.size+1<wr.heap.size:=(zG.1 rS).1;have zg:gb<wr.heap.size:=(zG.1 hAH).1;replace⟨oS2,hm0,hLI⟩:=zH3 oS2 hm0 hLI.out;clear hAH htk hcs hcm hnc oS hls;go_upto_region 6 with fail;have hB4:Below w2 wr ((wr.setCell (w2,1,0) (y gb m cap)).alloc (O #[E I (a1:Int),E I l1] 235)):=Below.alloc (Below.setCell (Below.refl _ _) (p:=⟨w2.heap.size+1,0,M⟩) zA3 _) (by simpa using xz) _;have rX4:((wr.setCell (w2,1,0) (y gb m cap)).alloc (O #[E I (a1:Int),E I l1] 235)).heap[wr.heap.size]?=F (O #[E I (a1:Int),E I l1] 235 (0,0)):=zI _ _ _ zA3;have rS4:((wr.setCell (w2,1,0) (y gb m cap)).alloc (O #[E I (a1:Int),E I l1] 235)).heap[w2.heap.size+1]?=F (O #[y gb m cap] 236 (0,0)):=(zK _ _ _ (by simpa using zS)).trans (qj rS 0 _);have ko4:∀q,q<wr.heap.size->q≠w2.heap.size+1->((wr.setCell (w2,1,0) (y gb m cap)).alloc (O #[E I (a1:Int),E I l1] 235)).heap[q]?=wr.heap[q]?:=λq hq hne=>(zK _ _ _ (by simpa using hq)).trans (zJ _ _ _ _ hne);have z4:((wr.setCell (w2,1,0) (y gb m cap)).alloc (O #[E I (a1:Int),E I l1] 235)).heap.size=wr.heap.size+1:=zA3;generalize hw4:Z (World.setCell wr _ _) _=w4 at*;clear hw4 kS fS kb0 kb1;have oS4:w4.ownsRow w2 235 2 (y gb m cap) m (Vl s):=Zh oS2.out λq hq=>by cases hq;exact ko4 gb zg hns
 have hb4:=(h0.out.ext x2).fresh hbr.out hB4;have hk4:=zH (hkp.out.fresh (by have:=x2.size;omega) hB4);have hm4:=zH (hmk.out.keep (W:=w4) λq o hq ho=>(ko4 q (zG.1 hq).1 (λe=>by subst e;rw[rS]at hq;cases hq;cases ho)).trans hq);have hle:qO t a1<=qO S.now a1:=hLI.out.le a1;have hPB:=hLI.out.may;clear hns hbr hkp hmk rS ko4 oS2 hB4;obtain⟨A1,n1,c1,v2,c3,A4,c4,hrb,hog,-⟩:=hb4.ex;obtain⟨hkg,hfg0,-,hzg4⟩:=ZT hog;have hkga:=hkg a1 hPH;have g0:∀W,qp.r w4 W->∀i,W.cell? ⟨b,i,M⟩=#[y A1 n1 c1,v2,y g 256 c3,y A4 256 c4][i]?:=λW hW=>qa (qb hrb hW);have g1:∀W,qp.r w4 W->∀i,W.cell? ⟨wr,i,M⟩=#[E I (a1:Int),E I l1][i]?:=λW hW=>qa (qb rX4 hW);have g2:∀W,qp.r w4 W->W.cell? (g,a1)=F (E .u8 (qO t a1:Int)):=λW hW=>Ext.cell hW hkga;have hc2:=KT t a1;have hZD:=zH hog;have hgb2:g≠b:=hb4.size.2.2.2.2.1;have hgS:Hid (∀q,w2.heap.size<=q->q≠g):=zH λq hq e=>by have:=(h0.out.b3 g (.inr (.inl rfl))).2;have:=x2.size;omega
 replace⟨hb4,oS4,hPB,hle⟩:=zH4 hb4 oS4 hPB hle;obtain⟨nv,hnv⟩:∃nv,qO t a1=nv:=⟨_,rfl⟩
 rw[hnv]at g2 hc2 hle;replace hnv:=zH hnv;clear hog hkg hfg0 hkga;refine qw zQ ?_;refine Qb (w:=w4) qp (qV []) (List.replicate 10 Oa) 0 zQ zQ zQ zQ zQ zQ zQ ?st (Rel.drew _ _) ?walk
 case st=>exact ql (λ_ h=>by cases h)
 case walk=>
  intro K hK;dsimp only[qA,List.replicate];refine zB6 ?_
  first
   |(refine qe (Q (F ⟨g,a1,M⟩)) zA0 zA0 (λW hW _=>⟨W,?_,Rel.refl _ W⟩) ?_
     ·go_simp;intro hge;exfalso;omega
     simp only[Act.put,qf,qc,qh,zA,zB,zC])
   |skip
  refine zB6 ?_;refine qF (hK _ _ λW hW hF=>?_);clear hF hK;have hW:Ext w4 W:=hW;refine zB8 ?_;go_wp2;refine Qt ?_;by_cases h0z:nv=0
  ·have hq:=zH (hLI.out.bad0 (by rw[hnv.out];exact h0z));subst h0z;have hBM:=zH (Jn.bad2 (a:=a) (D:=D) (B:=B) x2 hlw hq.out (hk4.out.fresh (by have:=x2.size;omega) (Below.mono hW zO)));have hmW:=zH (hm4.out.keep (W:=W) λq o hq _=>(Below.block hW q (zG.1 hq).1).trans hq);clear g0 g1 g2;go_wp2_with fail;exact YD rfl rfl hmW.out λC hC=>hBM.out C (hC.mono zO)
  have hz1:((nv:Int)==0)=Ob:=by rw[beq_eq_false_iff_ne];omega
  have hz2:decide (nv=0)=Ob:=decide_eq_false h0z;have h0':=zH h0z;by_cases h1:1<nv
  ·have hd1:decide ((1:Int)<(nv:Int))=Oa:=decide_eq_true zO;have hCP:=zH (hLI.out.more (by rw[hnv.out];exact h1));replace h1:=zH h1;clear h0z;go_upto_region 8 with fail;have g0':∀V,qp.r W V->_:=λV hV=>g0 V (hW.trans hV);have g1':∀V,qp.r W V->_:=λV hV=>g1 V (hW.trans hV);have g2':∀V,qp.r W V->_:=λV hV=>g2 V (hW.trans hV);clear g0 g1 g2;refine qw zQ ?_;refine Qb (w:=W) qp (qV []) (List.replicate 10 Oa) 0 zQ zQ zQ zQ zQ zQ zQ ?st (Rel.drew _ _) ?walk
   case st=>exact ql (λ_ h=>by cases h)
   case walk=>
    intro K hK;dsimp only[qA,List.replicate];refine zB6 ?_
    first
     |(refine qe (Q (F ⟨g,a1,M⟩)) zA0 zA0 (λW hW _=>⟨W,?_,Rel.refl _ W⟩) ?_
       ·go_simp;intro hge;exfalso;omega
       simp only[Act.put,qf,qc,qh,zA,zB,zC])
     |skip
    refine zB6 ?_;refine qF (hK _ _ λV hV hF=>?_);clear hF hK;have hV:Ext W V:=hV;refine zB8 ?_;go_wp2;refine Qt ?_;have x4V:Ext w4 V:=Ext.trans hW hV;have g0:∀U,qp.r V U->_:=λU hU=>g0' U (Ext.trans hV hU);have g1:∀U,qp.r V U->_:=λU hU=>g1' U (Ext.trans hV hU);have g2:∀U,qp.r V U->_:=λU hU=>g2' U (Ext.trans hV hU);have hfg:∀U,Ext V U->U.frozen? (g,a1)=Ob:=λU hU=>(ZT (zX hZD.out (Ext.trans x4V hU))).2.1 a1;obtain⟨n',hm⟩:∃n',nv=n'+1:=⟨nv-1,by have:=h1.out;omega⟩
    have hmt:(UInt8.ofNat (nv-1)).toNat=n':=by rw[show nv-1=n' by omega,UInt8.toNat_ofNat'];omega
    have hwv:IntKind.u8.wrap ((nv:Int)-1)=(n':Int):=by rw[qly (n:=nv) zO hc2,hmt]
    have hbm:bv (UInt8.ofNat (nv-1))=E .u8 (n':Int):=by show Value.int .u8 _=_;rw[hmt]
    replace⟨hbm,hm,x4V⟩:=zH3 hbm hm x4V;clear hmt;clear g0' g1' g2' hW hV;go_upto_region 9 with fail;refine qw zQ ?_;refine Qb (w:=V) qp (qV []) (List.replicate 11 Oa) 1 zQ zQ zQ zQ zQ zQ zQ ?st (Rel.drew _ _) ?walk
    case st=>exact ql (λ_ h=>by cases h)
    case walk=>
     intro K hK;dsimp only[qA,List.replicate];refine zB6 ?_
     first
      |(refine qe (Q (F ⟨g,a1,M⟩)) zA0 zA0 (λW hW _=>⟨W,?_,Rel.refl _ W⟩) ?_
        ·go_simp;intro hge;exfalso;omega
        simp only[Act.put,qf,qc,qh,zA,zB,zC])
      |skip
     refine zB6 ?_
     first
      |(refine qe (Q (F ⟨g,a1,M⟩)) zA0 zA0 (λW hW _=>⟨W,?_,Rel.refl _ W⟩) ?_
        ·go_simp;intro hge;exfalso;omega
        simp only[Act.put,qf,qc,qh,zA,zB,zC])
      |skip
     refine zB6 ?_;refine qF (hK _ _ λU hU hF=>?_);clear hF hK;have hU:Ext V U:=hU;refine zB8 ?_;have k2:=g2 U hU;have f2:=hfg U hU;have x4U:=x4V.out.trans hU;have hRG:=(hb4.out.ext x4U).count hPH (UInt8.ofNat (nv-1));rw[hbm.out]at hRG;have hdn:Vi t a1=t.set a1 (UInt8.ofNat (nv-1)):=by unfold Vi;rw[hnv.out]
     have hkB:Ql lo b g k w2 (U.setCell (g,a1) (E .u8 (n':Int))):=(hk4.out.fresh (by have:=x2.size;omega) (Below.mono x4U zO)).trans hRG.2 (Zq.refl _ _);have cB:∀q,q≠g->(U.setCell (g,a1) (E .u8 (n':Int))).heap[q]?=U.heap[q]?:=λq hq=>zJ _ _ _ _ hq;have rSB:=(cB (w2.heap.size+1) (hgS.out _ zO)).trans (qb rS4 x4U);have oSB:(U.setCell (g,a1) (E .u8 (n':Int))).ownsRow w2 235 2 (y gb m cap) m (Vl s):=Zh (zX oS4.out x4U) λq hq=>by cases hq;exact cB gb (hgS.out _ hgb)
     have hmB:Jk (↑w2+2) Ds (U.setCell (g,a1) (E .u8 (n':Int))):=hm4.out.keep λq o hq ho=>(cB q (λe=>by subst e;obtain⟨cur,hgr⟩:=ZH hZD.out (q:=q) rfl;rw[hgr]at hq;cases hq;cases ho)).trans ((Below.block x4U q (zG.1 hq).1).trans hq);have hR:LvR D B lo b g k S a w2 (kG (Vi t a1)) Ds (U.setCell (g,a1) (E .u8 (n':Int))):=⟨⟨s,Vi t a1,_,rfl,hCP.out,by rw[hdn];exact hRG.1,rSB,by rw[<-hm0.out];exact oSB⟩,hkB,hmB⟩
     have hlt:kG (Vi t a1)<nn:=by rw[hnn.out];have:=qcu (t:=t) (a:=a1) (by rw[hnv.out];exact h0'.out);omega
     replace⟨hR,hlt⟩:=zH2 hR hlt;clear g0 g1 g2 hfg hRG hkB cB rSB oSB hmB hdn hU x4U;go_wp2_with fail;refine Qt ?_;go_wp2_with fail;exact qcY hK0.out _ hlt.out Ds rfl zQ hR.out
  obtain rfl:nv=1:=zO;have hone:Hid (qO t a1=1):=hnv;have wGN:qk (qu S t)=Oa:=qE.2 ⟨(qE.1 hS).1,hPB.out,(qE.1 hS).2.2⟩;have hnn2:=zH (Xr (S:=S) (t:=t) (a:=a1) (by rw[hone.out];decide) (by rw[hone.out];exact hle.out));replace wGN:=zH wGN;clear h0z h1;go_upto_region 8 with fail;have g0':∀V,qp.r W V->_:=λV hV=>g0 V (hW.trans hV);have g1':∀V,qp.r W V->_:=λV hV=>g1 V (hW.trans hV);have g2':∀V,qp.r W V->_:=λV hV=>g2 V (hW.trans hV);clear g0 g1 g2;refine qw zQ ?_;refine Qb (w:=W) qp (qV []) (List.replicate 10 Oa) 0 zQ zQ zQ zQ zQ zQ zQ ?st (Rel.drew _ _) ?walk
  case st=>exact ql (λ_ h=>by cases h)
  case walk=>
   intro K hK;dsimp only[qA,List.replicate];refine zB6 ?_
   first
    |(refine qe (Q (F ⟨g,a1,M⟩)) zA0 zA0 (λW hW _=>⟨W,?_,Rel.refl _ W⟩) ?_
      ·go_simp;intro hge;exfalso;omega
      simp only[Act.put,qf,qc,qh,zA,zB,zC])
    |skip
   refine zB6 ?_;refine qF (hK _ _ λV hV hF=>?_);clear hF hK;have hV:Ext W V:=hV;refine zB8 ?_;go_wp2;refine Qt ?_;have x4V:Ext w4 V:=Ext.trans hW hV;have rSV:=qb rS4 x4V;have rXV:=qb rX4 x4V;have kXV:=qa rXV;have hbV:=hb4.out.ext x4V;have hkV:=zH (hk4.out.fresh (by have:=x2.size;omega) (Below.mono x4V zO));have hmV:=zH (hm4.out.keep (W:=V) λq o hq _=>(Below.block x4V q (zG.1 hq).1).trans hq);have oSV:=zH (zX oS4.out x4V);have HN:=(by obtain⟨A1',n1',c1',A2',n2',c2',c3',A4',c4',hr',hJP⟩:=hbV.sto;have H:=Vn lo b A1' n1' c1' A2' n2' c2' _ 256 c3' A4' 256 c4' (qu S t) wGN.out a1 ht8 hPH V ⟨hlb,hr',hJP⟩;rw[hnn2.out]at H;exact H:Calls prog 145 #[Q (F ⟨b,0,M⟩),E I (a1:Int)] V (zv (qcl V.heap.size (qm S a1)) V))
   have zgV:=hbV.size.2.2.2.1;replace hbV:=zH hbV;clear hb4 hk4 hm4 oS4 rS4 rX4;go_wp2_with fail;refine HN.mono ?_;clear HN;rintro e wN ⟨uN,rfl,hN,hBN⟩;have xN:Ext V wN:=hBN;have zNh:=xN.size;have z4V:=x4V.size;have rXN:=qb rXV xN;have kXN:=qa rXN;have rSN:=qb rSV xN;clear hBN kXV;obtain⟨lv,An,nn',cn,er,rfl,hAP⟩:∃lv An nn' cn er,uN=.tuple #[Jc lv An nn' cn,E I er]/\((er≠0/\qm S a1=M)\/(er=0/\∃xs,qm S a1=F (lv,xs)/\nn'=xs.length/\jr V wN (y An nn' cn) xs)):=by
    rcases hnd:qm S a1 with _|⟨l,xs⟩
    rw[hnd]at hN;obtain⟨er,hne,rfl⟩:=hN;exact⟨0,M,0,0,er,rfl,.inl ⟨hne,rfl⟩⟩;rw[hnd]at hN;obtain⟨A9,c9,rfl,hi⟩:=hN;exact⟨l,A9,xs.length,c9,0,rfl,.inr ⟨rfl,xs,rfl,rfl,hi⟩⟩
   replace hAP:=zH hAP;clear hN;go_upto_region 11 with fail;generalize hwM:Z wN _=wM;have xM:Ext wN wM:=hwM▸zN _ _;have rN:wM.heap[wN.heap.size]?=F (O #[E I lv,y An nn' cn] 113 (0,0)):=hwM▸zI _ _ _ rfl;clear hwM;have xVM:Ext V wM:=xN.trans xM;have g0:∀U,qp.r wM U->_:=λU hU=>g0' U (Ext.trans hV (Ext.trans xVM hU));have g1:∀U,qp.r wM U->_:=λU hU=>g1' U (Ext.trans hV (Ext.trans xVM hU));have hfg:∀U,Ext wM U->U.frozen? (g,a1)=Ob:=λU hU=>(ZT (zX hZD.out (Ext.trans x4V (Ext.trans xVM hU)))).2.1 a1;have hcg:∀U,qp.r wM U->_:=λU hU=>g2' U (Ext.trans hV (Ext.trans xVM hU));clear g0' g1' g2' hW hV;refine qw zQ ?_;refine Qb (w:=wM) qp (qV []) (List.replicate 8 Oa) 1 zQ zQ zQ zQ zQ zQ zQ ?st (Rel.drew _ _) ?walk
   case st=>exact ql (λ_ h=>by cases h)
   case walk=>
    intro K hK;dsimp only[qA,List.replicate];refine zB6 ?_
    first
     |(refine qe (Q (F ⟨g,a1,M⟩)) zA0 zA0 (λW hW _=>⟨W,?_,Rel.refl _ W⟩) ?_
       ·go_simp;intro hge;exfalso;omega
       simp only[Act.put,qf,qc,qh,zA,zB,zC])
     |skip
    refine zB6 ?_;refine qF (hK _ _ λU hU hF=>?_);clear hF hK;have hU:Ext wM U:=hU;refine zB8 ?_;have k2:=hcg U hU;have f2:=hfg U hU;have xVU:Ext V U:=xVM.trans hU;have x4U:Ext w4 U:=x4V.trans xVU;have hRG:=(hbV.out.ext xVU).count hPH 0;have hkB:Ql lo b g k w2 (U.setCell (g,a1) (E .u8 0)):=(hkV.out.fresh (by have:=x2.size;omega) (Below.mono xVU zO)).trans hRG.2 (Zq.refl _ _);have cB:∀q,q≠g->(U.setCell (g,a1) (E .u8 0)).heap[q]?=U.heap[q]?:=λq hq=>zJ _ _ _ _ hq;have zB:(U.setCell (g,a1) (E .u8 0)).heap.size=U.heap.size:=zA3;have rSB:=(cB _ (hgS.out _ zO)).trans (qb rSN (xM.trans hU));have rXB:=(cB _ (hgS.out _ zO)).trans (qb rXN (xM.trans hU));have rNB:=(cB wN.heap.size (hgS.out _ zO)).trans (qb rN hU);have oSB:(U.setCell (g,a1) (E .u8 0)).ownsRow w2 235 2 (y gb m cap) m (Vl s):=Zh (zX oSV.out xVU) λq hq=>by cases hq;exact cB gb (hgS.out _ hgb)
    have hmB:Jk (↑w2+2) Ds (U.setCell (g,a1) (E .u8 0)):=hmV.out.keep λq o hq ho=>(cB q (λe=>by subst e;obtain⟨cur,hgr⟩:=ZH (zX hZD.out x4V) (q:=q) rfl;rw[hgr]at hq;cases hq;cases ho)).trans ((Below.block xVU q (zG.1 hq).1).trans hq);have hFB:=wES.out _ hkB a1 hPH;have hUH:∀xs,jr V wN (y An nn' cn) xs->jr V (U.setCell (g,a1) (E .u8 0)) (y An nn' cn) xs:=λxs hi=>(hi.ext (xM.trans hU)).keep (by rw[zB];exact zM _) λp h1 _=>World.cell?_setCell_other _ _ _ _ λe=>by subst e;simp only at h1;omega
    have zU:V.heap.size<=U.heap.size:=xVU.size;have zNU:wN.heap.size<U.heap.size:=Nat.lt_of_lt_of_le (zG.1 rN).1 hU.size;have hb0:Bch D B lo b g k (qu S (t.set a1 0)) (U.setCell (g,a1) (E .u8 0)):=hRG.1;replace⟨hUH,hb0,hkB,oSB,hmB⟩:=zH5 hUH hb0 hkB oSB hmB;clear g0 g1 hfg hcg hRG rSN rXN rN cB rSV rXV hbV hkV hmV oSV hZD x4U;replace hU:=zH hU;go_wp2;refine Qt ?_;generalize World.setCell U _ _=wB at*;have kSB:=qa rSB;have kXB:=qa rXB;have kNB:=qa rNB;clear f2 k2;have zVB:V.heap.size<=wB.heap.size:=zO;have zNB:wN.heap.size<wB.heap.size:=zO;replace zB:=zH zB;rcases hAP.out with⟨hne,hnd⟩|⟨rfl,xs,hnd,rfl,hi⟩
    ·have hq:=zH (hLI.out.none_ hone.out hnd);have hQG:(er != 0)=Oa:=by rw[bne_iff_ne];exact hne
     have hBM:=zH (Jn.bad2 (a:=a) (D:=D) (B:=B) x2 hlw hq.out hkB.out);clear hUH hb0 hFB hAP hnd;go_wp2_with fail;exact YD rfl rfl hmB.out λC hC=>hBM.out C (hC.mono zO)
    have hi2:=hUH.out xs hi;obtain⟨f1,hf1⟩:∃f1,qO S.now a1=f1:=⟨_,rfl⟩
    have hf0:=hle.out;rw[hf1]at hFB hf0;have hz3:((f1:Int)==0)=Ob:=by rw[beq_eq_false_iff_ne];omega
    have hlx:=(Zc hnd).2.2;have hl0:=(Zc hnd).1;replace⟨hf1,hf0⟩:=zH2 hf1 hf0;by_cases hlev:0<=l1/\lv≠l1
    ·have hq:=zH (hLI.out.level hone.out hnd hlev.1 hlev.2);have hBM:=zH (Jn.bad2 (a:=a) (D:=D) (B:=B) x2 hlw hq.out hkB.out);have d1:decide (l1≥0)=Oa:=decide_eq_true hlev.1;have d3:(lv != l1)=Oa:=by rw[bne_iff_ne];exact hlev.2
     replace hlev:=zH hlev;clear hUH hb0 hAP hnd hi hi2 hlx hl0;go_wp2_with fail;exact YD rfl rfl hmB.out λC hC=>hBM.out C (hC.mono zO)
    have hd0:(decide (l1≥0)=Ob/\decide (0<=l1)=Ob)\/(decide (l1≥0)=Oa/\decide (0<=l1)=Oa/\(lv != l1)=Ob/\decide (lv=l1)=Oa):=by by_cases h1:0<=l1;by_cases h2:lv=l1;exact .inr ⟨decide_eq_true h1,decide_eq_true h1,by rw[bne_eq_false_iff_eq];exact h2,decide_eq_true h2⟩;exact absurd ⟨h1,h2⟩ hlev;exact .inl ⟨decide_eq_false h1,decide_eq_false h1⟩
    by_cases hlv:0<lv
    ·have wMA:=zH (hLI.out.push hone.out hnd hlev hlv);have wGI:kG (t.set a1 0)<nn:=by rw[hnn.out];have:=qan hone.out;omega
     have d5:decide (lv>0)=Oa:=decide_eq_true hlv;have hxl:0<xs.length:=by have:=(qJ hnd).1;unfold Qq Jy at this;simp only[Bool.and_eq_true,decide_eq_true_eq]at this;have:=this.1.2.2.2 hlv;omega
     have hrr:=λx hx=>((qJ hnd).2.1 x hx).1.2.2.2.1.1;obtain⟨ps,hps,⟨An',cn',e9,hc9,hm9,hrd⟩,hpi,hfr,-⟩:=id hi2;simp only[Value.slice.injEq,true_and]at e9;obtain⟨rfl,rfl⟩:=e9;obtain⟨b2,o2,rfl,hb2,hVY⟩:=hrd.2 hxl;have hb2lo:V.heap.size<=b2:=hfr _ _ _ rfl;have hpl:ps.length=xs.length:=by rw[<-hps,List.length_map]
     obtain⟨us,hus⟩:∃us:List Ui,us=ps.map λp=>((p.1,kV p.2):Ui):=⟨_,rfl⟩
     have hul:us.length=xs.length:=by rw[hus,List.length_map,hpl]
     have hNI:∀i (hi:i<ps.length),us[i]?.getD uiz=(ps[i].1,kV ps[i].2):=λi hi=>by rw[hus,List.getElem?_map,zL hi];rfl
     have hsv:∀i (hi:i<ps.length),sv (kV ps[i].2)=ps[i].2:=λi hi=>by obtain⟨⟨A,c,e⟩,_⟩:=hpi ps[i] (List.getElem_mem hi);rw[e];rfl
     have wGZ:∀j,0<=(us[j]?.getD uiz).1.r:=λj=>by by_cases hj:j<ps.length;rw[hNI j hj];exact hrr _ (by rw[<-hps];exact List.mem_map_of_mem (f:=λp:It×Od=>p.1) (List.getElem_mem hj));rw[List.getElem?_eq_none (by rw[hul];omega)];exact Int.le_refl 0
     have hZO:=refs_rev (us:=us) (xs:=xs) (by rw[hus,List.map_map];exact hps) (lv-1);have hBZ:∀W,Ext wB W->∀i,i<us.length->W.cell? ⟨b2,o2+i*5,M⟩=F (E .u8 (us[i]?.getD uiz).1.k)/\W.cell? ⟨b2,o2+i*5+1,M⟩=F (E Oc (us[i]?.getD uiz).1.i)/\W.cell? ⟨b2,o2+i*5+2,M⟩=F (E Oc (us[i]?.getD uiz).1.o)/\W.cell? ⟨b2,o2+i*5+3,M⟩=F (E I (us[i]?.getD uiz).1.r)/\W.cell? ⟨b2,o2+i*5+4,M⟩=F (sv (us[i]?.getD uiz).2):=λW hW i hi=>by have hi':i<ps.length:=zO;obtain⟨q0,q1,q2,q3,q4⟩:=Vs ps i hi';rw[hNI i hi'];simp only;rw[hsv i hi'];exact⟨Ext.cell hW (hVY _ _ q0),by rw[Nat.add_assoc];exact Ext.cell hW (hVY _ _ q1),by rw[Nat.add_assoc];exact Ext.cell hW (hVY _ _ q2),by rw[Nat.add_assoc];exact Ext.cell hW (hVY _ _ q3),by rw[Nat.add_assoc];exact Ext.cell hW (hVY _ _ q4)⟩
     replace hus:=zH hus;have wCY:=zH hul;have hYQ:=zH (Zc hnd);have hwl:wrap64 (lv-1)=lv-1:=IntWalk.wrap64_in _ (by have:=hYQ.out;omega);replace⟨hxl,hlev,hlv,hBZ,hZO,wGZ⟩:=zH6 hxl hlev hlv hBZ hZO wGZ;replace hlx:=zH hlx;clear hUH hAP hi hi2 hps hpi hfr hrd hVY hNI hsv hrr hc9 hm9 hl0 hpl hul;rcases hd0 with⟨d1,d2⟩|⟨d1,d2,d3,d4⟩
     all_goals
      go_wp2_with fail;refine(qdS _ xs.length cn wB).mono ?_;rintro e w8 ⟨rfl,rfl⟩;go_wp2_with fail;generalize hwR:Z wB _=wR;have xBR:Ext wB wR:=hwR▸zN _ _;have zR:wB.heap.size+1<=wR.heap.size:=by rw[<-hwR];simp
      have rIR:wR.heap[wB.heap.size]?=F (O #[y (b2,o2) xs.length cn] 55 (0,0)):=hwR▸zI _ _ _ rfl;clear hwR;have hb2R:b2<wR.heap.size:=zO;have hSW:SWi wR wB b2 (y (b2,o2) xs.length cn) us:=⟨by rw[qa rIR];rfl,.inr ⟨o2,cn,by rw[wCY.out],λi hi=>hBZ.out wR xBR i hi⟩⟩
      have rSR:=qb rSB xBR;have rNR:=qb rNB xBR;have oSR:=zX oSB.out xBR;have hmR:Jk (↑w2+2) Ds wR:=hmB.out.keep λq o hq _=>(Below.block xBR q (zG.1 hq).1).trans hq;have hDR:∀D∈Ds,D<wR.heap.size:=λD hD=>(zG.1 (hmR.at_ D hD).2).1;have zV2:w2.heap.size<=V.heap.size:=zO;have hgbV:gb<V.heap.size:=zO;have zwR:w2.heap.size<=wR.heap.size:=zO;have hsR:wB.heap.size<wR.heap.size:=zO;replace⟨hSW,hDR⟩:=zH2 hSW hDR;clear kSB kXB kNB rSB rXB rNB;generalize hJG:({tmps:=_,defers:=_}:Act)=act;refine(wpIn_wide (n:=3)).1 ?_;refine wpIn_rangeFunc_ownH rfl zO (gf:=197) (lb:=#[Q (F ⟨wB.heap.size,0,M⟩)]) (by rw[<-hJG];simp[Act.eval]) trivial (enters_of func197 zQ rfl)
       (qhd (3-1) zO wB.heap.size b2 _ us (by rw[wCY.out];have:=hlx.out;omega) wR hsR hb2R hSW.out) Qx.t (Qx.b hsR hb2R) (Below.refl _ _) (λ_=>rfl)
       (λpre W'=>W'.heap[wN.heap.size]?=F (O #[E I lv,y (F ⟨b2,o2,M⟩) xs.length cn] 113 (0,0))/\(∃sv',W'.heap[w2.heap.size+1]?=F (O #[sv'] 236 (0,0))/\W'.ownsRow w2.heap.size 235 2 sv' (m+pre.length) (Vl (s++pre.map (λj=>((us[j]?.getD uiz).1.r.toNat,lv-1))))/\∀q,sv'.ownBlock=F q->q<V.heap.size\/wR.heap.size<=q)/\Below w2.heap.size wR W'/\Jk (w2.heap.size+2) Ds W')
       (λ_ _ _=>False)
       (OwnFrom.and (QL _ _ _ _) (OwnFrom.and (qgo _ _ _ _ _) (OwnFrom.and (ownFrom_below zwR zwR) (qeg hDR.out))))
       (λ_ _ _ _ _ hs _ _=>hs)
       ⟨rNR,⟨_,rSR,by simpa using oSR,λq hq=>.inl (by cases hq;exact hgbV)⟩,Below.refl _ _,hmR⟩
       (λj a' W'=>∃t11,a'=(((({tmps:=act.tmps,defers:=[]}:Act).put (F 112) (E I (j:Int))).put (F 113) (.agg #[E .u8 (us[j]?.getD uiz).1.k,E Oc (us[j]?.getD uiz).1.i,E Oc (us[j]?.getD uiz).1.o,E I (us[j]?.getD uiz).1.r,sv (us[j]?.getD uiz).2])).put (F 11) (Q (F ⟨t11,0,M⟩)))/\W'.heap[t11]?=F (O #[E .u8 (us[j]?.getD uiz).1.k,E Oc (us[j]?.getD uiz).1.i,E Oc (us[j]?.getD uiz).1.o,E I (us[j]?.getD uiz).1.r,sv (us[j]?.getD uiz).2] 51 (0,0)))
       (λx a' s A C row hs hg hr=>by obtain⟨t11,e,h⟩:=hs;exact⟨t11,e,QL (β:=Unit) _ _ _ _ () A C row h hg hr⟩) ?assign ?body ?done ?stop
      case assign=>
       rintro l' pre j W' K ⟨i1,⟨sv',i2,i3,i4⟩,i5,i6⟩ hK;subst hJG;have z5:=i5.size
       gi_wp2
       exact hK _ _ ((KeepsOthers.alloc _ _).from _) ⟨zK _ _ _ zO,zK _ _ _ zO⟩ ⟨qb i1 (zN _ _),⟨sv',qb i2 (zN _ _),i3.alloc _,i4⟩,Below.alloc i5 zO _,i6.keep λq o hq _=>(zK _ _ _ (zG.1 hq).1).trans hq⟩ ⟨W'.heap.size,rfl,zI _ _ _ rfl⟩
      case body=>
       rintro l' pre j a' W' hll ⟨rr,hlp⟩ ⟨i1,⟨sv',i2,i3,i4⟩,i5,i6⟩ ⟨t11,rfl,wCQ⟩ hpre;subst hJG;simp only[Act.put,zA,zB,zC];have hr0:=wGZ.out j;obtain⟨u9,hu9⟩:∃u9,us[j]?.getD uiz=u9:=⟨_,rfl⟩
       have hWG:Hid ((pre++[j]).map (λj=>((us[j]?.getD uiz).1.r.toNat,lv-1))=pre.map (λj=>((us[j]?.getD uiz).1.r.toNat,lv-1))++[(u9.1.r.toNat,lv-1)]):=zH (by rw[List.map_append,List.map_cons,List.map_nil,hu9]);rw[hu9]at wCQ hr0⊢;obtain⟨rn,hrn⟩:∃rn:Nat,u9.1.r=(rn:Int):=⟨u9.1.r.toNat,zO⟩
       have hrt:Hid (u9.1.r.toNat=rn):=zH zO;rw[hrn]at wCQ⊢;obtain⟨pre',hZH⟩:∃pre',pre.map (λj=>((us[j]?.getD uiz).1.r.toNat,lv-1))=pre':=⟨_,rfl⟩
       rw[hZH]at i3 hWG;have kr:=qa i2;have kN:=qa i1;have kY:=qa wCQ;have zS:=(zG.1 i2).1;have zN':=(zG.1 i1).1;have z5:=i5.size;have hne:sv'.ownBlock≠F (w2.heap.size+1):=λe=>by obtain⟨cur,hg⟩:=ZH i3 e;exact qP hg i2 zA1 rfl
       obtain⟨Av,cv,rfl,-,-⟩:=qM i3;obtain⟨i0,hi,hz0,hz1,hz2⟩:=info_parts Tryz.info_owed;have hRW:m+pre.length<1073741824:=by have h2:=qlv S.now;have h3:=hLI.out.few;have h4:=hlx.out;have h5:=wCY.out;have h6:=hm0.out;simp only[List.length_append,List.length_cons,List.length_nil]at h3;omega
       have i3H:=zH i3;replace⟨hu9,hrn,hZH,hRW⟩:=zH4 hu9 hrn hZH hRW
       gi_wp2_with (gi_at_builtin;refine UH ?_)
       refine Qs.go (UG W' rfl (.tmp 114) (.tmp 121) 236 rfl w2.heap.size 235 i0 _ 2 16 underlying236 hi hz0 hz1 hz2 rfl zA1 (y Av (m+pre.length) cv) (m+pre.length) _ (by first|exact rfl|simp[Act.eval]) i3H.out #[E I (rn:Int),E I (lv-1)] (by first|exact rfl|simp[Act.eval]) rfl zA8 hRW.out zA1 zO ?_);intro v' W3 hIN hg hat;have hg0:∀g,(Value.slice Av (m+pre.length) cv).ownBlock=F g->w2.heap.size<=g:=λg e=>(zl i3H.out _ e).1;have hr3:W3.heap[w2.heap.size+1]?=_:=(hg.block _ zS (λe=>hne e.symm)).trans i2;have hN3:W3.heap[wN.heap.size]?=_:=(hg.block _ zN' (λe=>by have:=i4 _ e.symm;omega)).trans i1;have hb23:W3.heap[b2]?=W'.heap[b2]?:=hg.block _ zO (λe=>by have:=i4 _ e.symm;omega);have hbB3:W3.heap[wB.heap.size]?=W'.heap[wB.heap.size]?:=hg.block _ zO (λe=>by have:=i4 _ e.symm;omega);have kr3:=qa hr3;have fr3:=qd hr3;have hB3:Below w2 W' W3:=qaW hg λg e=>by have:=hg0 g e;omega
       have wGQ:v'.ownBlock≠F (w2.heap.size+1):=λe=>by obtain⟨cur,hgx⟩:=ZH hIN e;exact qP hgx hr3 zA1 rfl
       have hat3:∀q,v'.ownBlock=F q->q<V.heap.size\/wR.heap.size<=q:=λq e=>by
        rcases hat with h|⟨g',h,h'⟩
        exact i4 q (h.symm.trans e);rw[h]at e;cases e;right;omega
       have hm3:Jk (↑w2+2) Ds W3:=i6.keep λq o hq ho=>(hg.block q (zG.1 hq).1 λe=>by obtain⟨cur,hgx⟩:=ZH i3H.out e.symm;rw[hgx]at hq;cases hq;cases ho).trans hq;have hJK:KeepsOthers W' W3:=qbk i3H.out hg;replace⟨hg,hat⟩:=zH2 hg hat;obtain⟨Av',cv',rfl,-,-⟩:=qM hIN;replace hIN:=zH hIN;clear i3 kr kN kY wCQ hr0
       gi_wp2_with fail
       refine⟨(hJK.trans (KeepsOthers.setCell _ _ _)).from _,⟨(zJ _ _ _ _ (by show wB.heap.size≠w2.heap.size+1;omega)).trans hbB3,(zJ _ _ _ _ (by show b2≠w2.heap.size+1;omega)).trans hb23⟩,(zJ _ _ _ _ (by show wN.heap.size≠w2.heap.size+1;omega)).trans hN3,⟨_,qj hr3 0 _,?_,hat3⟩,i5.trans (hB3.setCell (p:=⟨w2.heap.size+1,0,M⟩) zA3 _),hm3.keep λq o hq ho=>(zJ _ _ _ _ λe=>by have e':q=w2.heap.size+1:=e;rw[e',hr3]at hq;cases hq;cases ho).trans hq⟩;rw[hWG.out,List.length_append,List.length_singleton,<-List.append_assoc,GU,qfc,hrt.out];exact Zh hIN.out λq hq=>zJ _ _ _ _ λe=>wGQ (by have e':q=w2.heap.size+1:=e;rw[<-e'];exact hq)
      case done=>
       rintro Dm ys W' hD hys ⟨i1,⟨sv',i2,i3,i4⟩,i5,i6⟩ hK;subst hJG;have hl3:m+ys.length=(s++((qB xs).map λr=>(r,lv-1)).reverse).length:=by rw[hys,ZA,List.length_append,List.length_reverse,List.length_map,wCY.out,<-hm0.out];simp[qB]
       rw[hl3,hys,hZO.out]at i3;have hBW:Below w2 wB W':=(Below.mono xBR zO).trans i5;have hR:LvR D B lo b g k S a w2 (kG (t.set a1 0)) (Dm::Ds) W':=⟨⟨_,t.set a1 0,sv',rfl,wMA.out,(h0.out.ext x2).fresh hb0.out hBW,i2,i3⟩,hkB.out.fresh (by have:=x2.size;omega) hBW,i6.add hDR.out hD zO hK⟩
       replace⟨hR,wGI⟩:=zH2 hR wGI;clear i1 i2 i3 i4 i5 i6 hl3 hBW hK hys;go_wp2_with fail;exact qcY hK0.out _ wGI.out (Dm::Ds) rfl zQ hR.out
      case stop=>rintro Dm c pre W _ _ h _;exact h.elim
    obtain rfl:lv=0:=zO;have wKD:=zH (λer (he:looseL (qB xs) (t.set a1 0)=.error er)=>hLI.out.leafBad hone.out hnd hlev hlv he);have hokL:=zH (λt' (he:looseL (qB xs) (t.set a1 0)=.ok t')=>And.intro (hLI.out.leaf hone.out hnd hlev hlv he) (show kG t'<nn by rw[hnn.out];have:=qan hone.out;have:=(Kg he).1;omega));have hrr:=YJ hnd;have hio:=zH (λx hx=>((qJ hnd).2.1 x hx).1.2.2.2.1.1);have hnB:∀q,w2.heap.size<=q->¬B3 b g k q:=λq hq hx=>by have:=(h0.out.b3 q hx).2;have:=x2.size;omega
    have hx0:∀C,qY (B3 b g k) wB C->Its C C.heap.size (y An xs.length cn) xs:=λC hC=>hi2.keepX hC λq hq=>hnB q zO;replace⟨hrr,hx0⟩:=zH2 hrr hx0;have hA:=(hx0.out wB (qY.refl _ _)).at_.2.2.2;replace⟨hA,hlx,hnB,hlev⟩:=zH4 hA hlx hnB hlev;clear hUH hAP hi hi2 hl0 hlv hnd;rcases hd0 with⟨d1,d2⟩|⟨d1,d2,d3,d4⟩
    all_goals
     generalize hwq:wr=wq at*;clear hwq;go_wp2_with fail;go_loopw [4,126] (λv i wr'=>L0I D B lo b g k S (t.set a1 0) xs wB v i wr') (λ_ i _=>xs.length-(intOf i).toNat)
     case atStart=>exact⟨0,_,rfl,Nat.zero_le _,rfl,rfl,hb0.out,Ql.refl _ _ _ _ _⟩
     case round=>
      obtain⟨j,t9,rfl,hj,rfl,hlo,hbt,hbm⟩:=hrel.ex;clear hrel;have hkA:=zH (hkB.out.trans hbm (Zq.refl _ _));have rNr:=hbm.row rNB (hnB.out _ zO);have rSr:=hbm.row rSB (hnB.out _ zO);have kNr:=qa rNr;have hmr:=zH (hmB.out.bkeep hbm λq hq=>hnB.out q zO);by_cases hlt:j<xs.length
      ·obtain⟨bi,off,rfl,hbi⟩:=hA.out zO;obtain⟨A',c',d0,d1',d2',d3',d4',-⟩:=(hx0.out wr hbm.keepX).item j hlt;have hr8:=hrr.out _ (List.mem_map_of_mem (f:=λx:It=>x.r.toNat) (List.getElem_mem hlt));have hr0:0<=xs[j].r:=hio.out _ (List.getElem_mem hlt);have hEN:=zH (λh0 h1=>qcP hlt hlo h0 h1);have hCP:=zH (λh0 h1=>qbp hlt hlo h0 h1);have hIZ:=zH (λh0=>qbq hlt hlo h0);generalize xs[j]=x at*;have hj1:=zH (IntWalk.wrap64_in ((j:Int)+1) (by have:=hlx.out;omega));obtain⟨r,hra⟩:∃r:Nat,x.r=(r:Int):=⟨x.r.toNat,zO⟩
       have hsa:(x.r).toNat=r:=zO;have ha9:r<256:=by rw[hsa]at hr8;exact hr8.2
       rw[hra]at d3';rw[hsa]at hEN hCP hIZ;have hz:=hbt.size.2.2.2.2.2.1;have HL:=zH (λW (hW:Ext wr W)=>Tc D B lo b g k (qu S t9) r ha9 W (hbt.ext hW));replace⟨hbt,hbm⟩:=zH2 hbt hbm;clear hra hsa hr8 hr0 hlo hbi;rcases Nat.eq_zero_or_pos r with ha0|ha0
       ·subst ha0;have hF:L0I D B lo b g k S (t.set a1 0) xs wB (E I 0) (E I ((j:Int)+1)) (wr.alloc (O #[E .u8 x.k,E Oc x.i,E Oc x.o,E I 0,y A' x.val.length c'] 51)):=⟨j+1,t9,rfl,zO,rfl,hIZ.out rfl,hbt.out.ext (zN _ _),hbm.out.trans (Ql.of_ext (zN _ _) hz) (Zq.refl _ _)⟩
        replace hF:=zH hF;clear hEN hCP hIZ HL;go_wp2_with fail;try rw[hj1.out]
        refine⟨hF.out,?_⟩;simp[intOf];omega
       have hza:((r:Int)==0)=Ob:=by rw[beq_eq_false_iff_ne];omega
       replace ha0:=zH ha0;go_wp2_with fail;generalize hwa:Z wr _=wa;have xa:Ext wr wa:=hwa▸zN _ _;clear hwa d0 d1' d2' d3' d4';refine(HL.out wa xa).mono ?_;clear HL;rintro e wl ⟨hkl,hcl⟩;have wBY:=(Ql.of_ext xa hz).trans hkl (Zq.refl _ _);have hQA:=hbm.out.trans wBY (Zq.refl _ _);rcases hcl with⟨hc0,rfl⟩|⟨hc0,rfl,hbl⟩
       ·have hBM:=zH (Jn.bad2 (a:=a) (D:=D) (B:=B) x2 hlw (wKD.out _ (hEN.out (by have:=ha0.out;omega) hc0)) (hkB.out.trans hQA (Zq.refl _ _)));have hml:=zH (hmr.out.bkeep wBY λq hq=>hnB.out q zO);clear hEN hCP hIZ hkl hQA hc0 hkA wBY;go_wp2_with fail;exact YD rfl rfl hml.out λC hC=>hBM.out C (hC.mono zO)
       have hF:L0I D B lo b g k S (t.set a1 0) xs wB (E I 0) (E I ((j:Int)+1)) wl:=⟨j+1,_,rfl,zO,rfl,hCP.out (by have:=ha0.out;omega) hc0,hbl,hQA⟩
       replace hF:=zH hF;clear hEN hCP hIZ hkl hQA hc0 hbl hkA wBY;go_wp2_with fail;try rw[hj1.out]
       refine⟨hF.out,?_⟩;simp[intOf];omega
      obtain rfl:j=xs.length:=zO;rw[List.take_length]at hlo;obtain⟨hLn,hln⟩:=hokL.out t9 hlo;have oSr:wr.ownsRow w2 235 2 (y gb m cap) m (Vl s):=hbm.own oSB.out λq hq=>hnB.out q (zl oSB.out q hq).1;have hR:LvR D B lo b g k S a w2 (kG t9) Ds wr:=⟨⟨s,t9,_,rfl,hLn,hbt,rSr,by rw[<-hm0.out];exact oSr⟩,hkA.out,hmr.out⟩
      replace⟨hR,hln⟩:=zH2 hR hln;clear hlo hbt hbm hkA hmr hLn oSr;go_wp2_with fail;exact qcY hK0.out _ hln.out Ds rfl zQ hR.out
end Go.Proofs.YtmeadnlmepcmbaaGreat
namespace Go.Proofs.YtmeadnlmepcmbaaGreat
open Go.RowKit
theorem GT(w:X)(g o la ca vg lb cb:Nat)(cur vcur:Array Od)(hg:w.heap[g]?=F (O cur 51))(hv:w.heap[vg]?=F (O vcur 51))(hne:vg≠g)(h0:cur.size≠0)(vo:Nat):(callFunc 167 #[y (vg,vo) lb cb,y (g,o) la ca]).run prog w=.ok (.value (.bool Ob)) w:=by
 rw[run_callFunc_extern func167 zQ zQ zQ (e:=Extern.SlicesOverlaps.overlaps #[55,55] #[4]) zQ,
  Lib.run_overlaps_apart w 55 4 51 underlying55 5 (λw=>sizeOf51 w) ⟨vg,vo,M⟩ ⟨g,o,M⟩ lb cb la ca hne 51 51 vcur.size cur.size (by simp[World.shape?,hv]) (by simp[World.shape?,hg]) h0 (by simp[World.frozen?,hv]) (by simp[World.frozen?,hv])]
 rfl
set_option maxRecDepth 100000 in
theorem qjJ(lo:Nat)(s:Od)(n i:Nat)(xs:List Od)(v:Od)(m lov:Nat)(vs:List Od)(w:X)(ho:w.ownsRow lo 51 5 s n xs)(hv:w.ownsRow lov 51 5 v m vs)(hsv:∀q,v.ownBlock=F q->s.ownBlock≠F q)(hm:0<m)(hnm:n+m<=100)(hi:i<=n)(h1x:∀u∈xs,u.oneCell'=Oa)(h1v:∀u∈vs,u.oneCell'=Oa)(hlo:lo<=w):Calls prog 166 #[s,(i:Int),v] w (Vh lo s (n+m) (xs.take (i*5)++vs++xs.drop (i*5)) w):=by
 obtain⟨i0,hi0,hz0,hz1,hz2⟩:=info_parts Tryz.info_item;have hvl:=hv.1;have hxl:=ho.1;obtain⟨vg,vcap,vcur,rfl,wHI,hvg,hvc,hvm,hvs,hvt⟩:∃g cap cur,v=y (F ⟨g,0,M⟩) m cap/\lov<=g/\w.heap[g]?=F (O cur 51)/\m<=cap/\cap<=maxLen/\cur.size=cap*5/\cur.toList.take (m*5)=vs:=by
  rcases hv.2 with⟨_,h0⟩|h
  omega;exact h
 have hGP:=Gn hv;have hm0:((m:Int)==0)=Ob:=by rw[beq_eq_false_iff_ne];omega
 have hrv:Rd w w 5 vg m vs:=Rd.of_own hv;by_cases hin:i=n
 ·subst hin;have hy:xs.take (i*5)++vs++xs.drop (i*5)=xs++vs:=by rw[List.take_of_length_le zO,List.drop_of_length_le zO,List.append_nil]
  rw[hy];have hd1:decide ((i:Int)=(i:Int))=Oa:=decide_eq_true rfl;have hgo:∀A c,s=y A i c->(A=M\/∃g,A=F ⟨g,0,M⟩)->Calls prog 166 #[s,(i:Int),y vg m vcap] w (Vh lo s (i+m) (xs++vs) w):=λA c hs hA=>by
   have hic:i<=c:=by obtain⟨A',c',e,h1,h2⟩:=qM ho;rw[hs]at e;cases e;exact h1
   subst hs;clear hvg hvs hvt hGP hy;replace hvm:=zH hvm;have hBM:∀(v':Od)(w':X),w'.ownsRow lo 51 5 v' (i+m) (xs++vs)->w.grownBy w' (Value.slice A i c).ownBlock->Below lo w w'->Vh lo (y A i c) (i+m) (xs++vs) w v' w':=λv' w' h1 h2 h3=>⟨v',rfl,h1,h3,λq hq hn=>h2.block q hq λe=>hn e.symm⟩
   replace hBM:=zH hBM;rcases hA with rfl|⟨g,rfl⟩
   ·go_enter func166,ntmps166;go_wp2_with (at_builtin;refine Qa ?_);refine Qs.go (QG _ rfl (.tmp 23) (.tmp 24) 55 rfl lo 51 i0 _ 5 48 underlying55 hi0 hz0 hz1 hz2 rfl zA1 _ i xs rfl ho w.heap.size _ m vcap vs zE hrv h1v zO zA1 hlo ?_);intro v' w' h1 h2 h3 _;go_wp2_with fail;go_ret;exact hBM.out v' w' h1 h2 h3
   go_enter func166,ntmps166;by_cases hci:c=i
   ·subst hci;have wFH:c-c=0:=zO;go_wp2_with (at_builtin;refine Qa ?_);refine Qs.go (QG _ rfl (.tmp 23) (.tmp 24) 55 rfl lo 51 i0 _ 5 48 underlying55 hi0 hz0 hz1 hz2 rfl zA1 _ c xs rfl ho w.heap.size _ m vcap vs zE hrv h1v zO zA1 hlo ?_);intro v' w' h1 h2 h3 _;go_wp2_with fail;go_ret;exact hBM.out v' w' h1 h2 h3
   have wFH:¬(c-i=0):=zO;go_wp2_with (at_builtin;refine Qa ?_);refine Qs.go (QG _ rfl (.tmp 23) (.tmp 24) 55 rfl lo 51 i0 _ 5 48 underlying55 hi0 hz0 hz1 hz2 rfl zA1 _ i xs rfl ho w.heap.size _ m vcap vs zE hrv h1v zO zA1 hlo ?_);intro v' w' h1 h2 h3 _;go_wp2_with fail;go_ret;exact hBM.out v' w' h1 h2 h3
  rcases ho.2 with⟨e,h0⟩|⟨g,cap,cur,e,_⟩
  exact hgo M 0 (by rw[e,h0]) (.inl rfl);exact hgo _ cap e (.inr ⟨g,rfl⟩)
 obtain⟨g,cap,cur,rfl,hFE,hg,hnc,hcm,hcs,hct⟩:∃g cap cur,s=y (F ⟨g,0,M⟩) n cap/\lo<=g/\w.heap[g]?=F (O cur 51)/\n<=cap/\cap<=maxLen/\cur.size=cap*5/\cur.toList.take (n*5)=xs:=by
  rcases ho.2 with⟨_,h0⟩|h
  omega;exact h
 have hlt:i<n:=zO;have hKB:((i:Int)==(n:Int))=Ob:=by rw[beq_eq_false_iff_ne];omega
 have hci:¬(cap=i):=zO;have hWT:vg≠g:=λe=>hsv vg rfl (by rw[e];rfl);have hdl:(xs.drop (i*5)).length=(n-i)*5:=by rw[List.length_drop];omega
 have h1d:∀u∈xs.drop (i*5),u.oneCell'=Oa:=λu hu=>h1x u (List.mem_of_mem_drop hu);have hsz:(Tryz.prog.info? 51).map (·.size)=F 5:=by rw[hi0];simp[hz1]
 have hgd:∀W:X,W.heap[g]?=w.heap[g]?->∀j u,(xs.drop (i*5))[j]?=F u->W.cell? (((g,i*5):Addr).add j)=F u:=λW hW j u hu=>by rw[Addr.add_lit,qa (hW.trans hg),<-Array.getElem?_toList];rw[List.getElem?_drop,<-hct,List.getElem?_take]at hu;split at hu;exact hu;cases hu
 have hvd:∀W:X,W.heap[vg]?=w.heap[vg]?->∀j u,vs[j]?=F u->W.cell? ((vg:Addr).add j)=F u:=λW hW j u hu=>by rw[World.cell?_of_block (w:=w) (by rw[Addr.add_lit];exact hW)];exact hGP j u hu
 have hgl:=(zG.1 hg).1;replace⟨hcm,hvm,h1x,hsv⟩:=zH4 hcm hvm h1x hsv;have hWU:=(zG.1 hvg).1;clear hGP hrv ho hv;by_cases hcap:cap<n+m
 ·obtain⟨k,hk⟩:∃k,k=n+m-i:=⟨_,rfl⟩
  have hki:(n:Int)+(m:Int)-(i:Int)=((k:Nat):Int):=zO;obtain⟨C,hC⟩:∃C,C=grownCap w (i+k) cap 51:=⟨_,rfl⟩
  have hCge:i+k<=C:=by rw[hC];exact grownCap_ge w (i+k) cap _
  have hCm:C<=maxLen:=by rw[hC];exact grownCap_le_maxLen w (i+k) cap _ zA7
  obtain⟨cur0,hJY⟩:∃cur0:Array Od,cur0=(xs.take (i*5)).toArray++Builtin.zeroCells (Value.agg #[E .u8 0,E Oc 0,E Oc 0,E I 0,y M 0 0]).cells k++Builtin.zeroCells (Value.agg #[E .u8 0,E Oc 0,E Oc 0,E I 0,y M 0 0]).cells (C-(i+k)):=⟨_,rfl⟩
  have hCQ:∀ty,(Builtin.append_ #[55,3] ty #[y g i cap,E I ((n:Int)+(m:Int)-(i:Int))]).run prog w=.ok (y w (i+k) C) (w.drew.alloc (O cur0 51)):=λty=>by
   rw[hki,hC,hJY,hC];exact Lib.run_append_grow_zeros (P:=prog) w 55 3 ty 51 i0 _ I I underlying55 underlying3 hi0 hz0 (F ⟨g,0,M⟩) i cap (xs.take (i*5)) (by
    rw[hz1];exact run_firstCells_some w.drew 5 i ⟨g,0,M⟩ i cap (xs.take (i*5)) (by rw[List.length_take];omega) (λj u hu=>by
     rw[Addr.add_lit,Nat.zero_add];show w.cell? _=_;rw[qa hg,<-Array.getElem?_toList];rw[<-hct,List.take_take,List.getElem?_take]at hu;split at hu;exact hu
     ·cases hu)) k zO zO zO zO (by rw[hz2];omega) (by rw[hz2];exact growslice_fits zO zO)
  have hc0:cur0.size=C*5:=by rw[hJY];simp only[Array.size_append,List.size_toArray,size_zeroCells,List.length_take];simp only[Value.cells,List.size_toArray,List.length_cons,List.length_nil];omega
  have hUD:cur0.toList.take (i*5)=xs.take (i*5):=by
   rw[hJY];simp only[Array.toList_append,List.append_assoc];have:i*5=(xs.take (i*5)).length:=by rw[List.length_take];omega
   rw[this];simp
  clear hJY hC;have hsd:(i+k)=n+m:=zO;have hBM:∀W:X,W.heap[w.heap.size]?=F (O (spl (spl cur0 i vs) (i+m) (xs.drop (i*5))) 51 (0,0))->Below lo w W->(∀q,q<w.heap.size->W.heap[q]?=w.heap[q]?)->Vh lo (y g n cap) (n+m) (xs.take (i*5)++vs++xs.drop (i*5)) w (Y (y w (i+k) C)) W:=λW h1 h2 h3=>by rw[hsd];refine⟨_,rfl,RowI.own ⟨_,h1,?_,?_⟩ ?_ hlo zO hCm,h2,λq hq _=>h3 q hq⟩;rw[QK (k:=n-i) hdl (by rw[QK hvl zO];omega),QK hvl zO,hc0];have e1:=Yi hUD hvl zO;have e2:=Yi e1 hdl (by rw[QK hvl zO];omega);rw[<-e2];congr 1;omega;simp only[List.length_append,List.length_take,hdl,hvl];omega
  replace⟨hBM,hUD⟩:=zH2 hBM hUD;clear hki;replace hk:=zH hk;have hiC:¬(C=i):=zO;have himC:¬(C=i+m):=zO;replace hCm:=zH hCm;go_enter func166,ntmps166;go_wp2_with (at_builtin;refine Qa ?_);refine Qs.go (Lib.wpList_append_run _ rfl _ _ _ _ rfl _ _ rfl rfl _ _ (hCQ _) ?_);clear hCQ;generalize hw1:Z _ _=w1;have p1:w1.heap[w.heap.size]?=F (O cur0 51):=hw1▸zI _ _ _ rfl;have k1:∀q,q<w.heap.size->w1.heap[q]?=w.heap[q]?:=λq hq=>by rw[<-hw1];exact zK _ _ _ hq
  have z1:w.heap.size<=w1:=by rw[<-hw1];simp
  have B1:Below lo w w1:=hw1▸Below.mono ((Ext.drew w).trans (zN _ _)) hlo;clear hw1;have hFO:∀ty,(Builtin.copy_ #[55,55] ty #[y (w,i*5) (n+m-i) (C-i),y vg m vcap]).run prog w1=.ok (E I (m:Nat)) (w1.setRow w (spl cur0 i vs)):=λty=>
   Jb (k:=m) (o:=i) p1 hvl zO underlying55 hsz zA9 (hvd w1 (k1 _ hWU)) h1v
  obtain⟨w2,hw2⟩:∃w2,w2=w1.setRow w (spl cur0 i vs):=⟨_,rfl⟩
  rw[<-hw2]at hFO;have p2:w2.heap[w.heap.size]?=F (O (spl cur0 i vs) 51):=by rw[hw2];exact setRow_heap _ _ _ _ _ _ p1
  have k2:∀q,q<w.heap.size->w2.heap[q]?=w.heap[q]?:=λq hq=>by rw[hw2];exact(setRow_other _ _ _ _ zO).trans (k1 q hq)
  have z2:w.heap.size<=w2:=by rw[hw2];simpa using z1
  have B2:Below lo w w2:=by rw[hw2];exact Qv B1 hlo hlo _
  have s2:=QK (cur:=cur0) (o:=i) hvl zO;clear hw2 p1 k1 z1;have hFC:∀W:X,Ext w2 W->∀ty,(Builtin.copy_ #[55,55] ty #[y (w,(i+m)*5) (n+m-(i+m)) (C-(i+m)),y (g,i*5) (n-i) (cap-i)]).run prog W=.ok (E I ((n-i:Nat):Int)) (W.setRow w (spl (spl cur0 i vs) (i+m) (xs.drop (i*5)))):=λW hW ty=>
   Jb (k:=n-i) (o:=i+m) (qb p2 hW) hdl zO underlying55 hsz zA9 (hgd W ((Below.block hW g zO).trans (k2 _ hgl))) h1d
  have hDZ:∀W:X,Ext w2 W->Vh lo (y g n cap) (n+m) (xs.take (i*5)++vs++xs.drop (i*5)) w (Y (y w (n+m) C)) (W.setRow w (spl (spl cur0 i vs) (i+m) (xs.drop (i*5)))):=λW hW=>by have:=hBM.out (W.setRow w.heap.size (spl (spl cur0 i vs) (i+m) (xs.drop (i*5)))) (setRow_heap _ _ _ _ _ _ (qb p2 hW)) (Qv (B2.trans (Below.mono hW zO)) hlo hlo _) (λq hq=>(setRow_other _ _ _ _ zO).trans ((Below.block hW q zO).trans (k2 q hq)));rw[hsd]at this;exact this
  replace⟨hDZ,hFC⟩:=zH2 hDZ hFC;clear hBM;have wHN:=zH (show IntKind.i64.wrap ((i:Int)+(m:Int))=((i+m:Nat):Int)by rw[IntKind.wrap_i64];omega);have him:(0:Int)<=(i:Int)+(m:Int):=zO;have himt:((i:Int)+(m:Int)).toNat=i+m:=zO;go_upto_region 11 with(simp only[hFO])
  refine qw zQ ?_;refine Qb (w:=w2) qp (qV []) (List.replicate 8 Oa) 1 zQ zQ zQ zQ zQ zQ zQ ?st (Rel.drew _ _) ?walk
  case st=>exact ql (λ_ h=>by cases h)
  case walk=>
   intro K hK;dsimp only[qA,List.replicate];refine zB6 ?_;refine qe (y (F ⟨w.heap.size,(i+m)*5,M⟩) (n+m-(i+m)) (C-(i+m))) zA0 zA0 (λW hW _=>⟨W,?_,Rel.refl _ W⟩) ?_
   ·go_simp;rw[wHN.out,Int.toNat_natCast,if_pos zO,if_neg zO]
   refine zB6 ?_;refine qF (hK _ _ λW hW hF=>?_);clear hF hK;have hW:Ext w2 W:=hW;refine zB8 ?_;have hc2:=hFC.out W hW;go_wp2_with (simp only[hc2]);refine Qt ?_;go_wp2_with fail;go_ret;exact hDZ.out W hW
 have hov:∀la ca lb cb,(callFunc 167 #[y vg lb cb,y (g,(i+m)*5) la ca]).run prog w=.ok (.value (.bool Ob)) w:=λla ca lb cb=>GT w g _ la ca vg lb cb cur vcur hg hvg hWT zO 0;go_enter func166,ntmps166;go_upto_region 15 with(simp only[hov])
 have wDR:(n+m)*5<=cur.size:=zO;have hFO:∀W:X,Ext w W->∀ty dc sc,(Builtin.copy_ #[55,55] ty #[y (g,(i+m)*5) (n+m-(i+m)) dc,y (g,i*5) (n+m-i) sc]).run prog W=.ok (E I ((n-i:Nat):Int)) (W.setRow g (spl cur (i+m) (xs.drop (i*5)))):=λW hW ty dc sc=>
  Jb (k:=n-i) (o:=i+m) (qb hg hW) hdl zO underlying55 hsz zA9 (hgd W (Below.block hW g hgl)) h1d
 have s1:=QK (cur:=cur) (o:=i+m) hdl zO;have hFC:∀W:X,Ext w W->∀ty dc,(Builtin.copy_ #[55,55] ty #[y (g,i*5) (n+m-i) dc,y vg m vcap]).run prog (W.setRow g (spl cur (i+m) (xs.drop (i*5))))=.ok (E I (m:Nat)) ((W.setRow g (spl cur (i+m) (xs.drop (i*5)))).setRow g (spl (spl cur (i+m) (xs.drop (i*5))) i vs)):=λW hW ty dc=>
  Jb (k:=m) (o:=i) (setRow_heap _ _ _ _ _ _ (qb hg hW)) hvl zO underlying55 hsz zA9 (hvd _ ((setRow_other _ _ _ _ hWT).trans (Below.block hW vg hWU))) h1v
 have hBM:∀W:X,Ext w W->Vh lo (y g n cap) (n+m) (xs.take (i*5)++vs++xs.drop (i*5)) w (Y (y g (n+m) cap)) ((W.setRow g (spl cur (i+m) (xs.drop (i*5)))).setRow g (spl (spl cur (i+m) (xs.drop (i*5))) i vs)):=λW hW=>by refine⟨_,rfl,RowI.own ⟨_,setRow_heap _ _ _ _ _ _ (setRow_heap _ _ _ _ _ _ (qb hg hW)),?_,?_⟩ ?_ hFE zO hcm.out,Qv (Qv (Below.mono hW hlo) hlo hFE _) hlo hFE _,λq hq hn=>?_⟩;rw[QK hvl zO,s1,hcs];exact qmL hct hxl hvl hi wDR;simp only[List.length_append,List.length_take,hdl,hvl];omega;have:q≠g:=λe=>hn (by rw[e];rfl);exact(setRow_other _ _ _ _ this).trans ((setRow_other _ _ _ _ this).trans (Below.block hW q hq))
 replace⟨hBM,hFC,hFO⟩:=zH3 hBM hFC hFO;have wHN:=zH (show IntKind.i64.wrap ((i:Int)+(m:Int))=((i+m:Nat):Int)by rw[IntKind.wrap_i64];omega);clear hov hgd hvd;refine qw zQ ?_;refine Qb (w:=w) qp (qV []) (List.replicate 8 Oa) 1 zQ zQ zQ zQ zQ zQ zQ ?st (Rel.drew _ _) ?walk
 case st=>exact ql (λ_ h=>by cases h)
 case walk=>
  intro K hK;dsimp only[qA,List.replicate];refine zB6 ?_;refine qe (y (F ⟨g,(i+m)*5,M⟩) (n+m-(i+m)) (cap-(i+m))) zA0 zA0 (λW hW _=>⟨W,?_,Rel.refl _ W⟩) ?_
  ·go_simp;rw[wHN.out,Int.toNat_natCast,if_pos zO,if_neg zO]
  refine zB6 ?_;refine qe (y (F ⟨g,i*5,M⟩) (n+m-i) (cap-i)) zA0 zA0 (λW hW _=>⟨W,?_,Rel.refl _ W⟩) ?_
  ·go_simp;intro hx;exfalso;omega
  refine zB6 ?_;refine qF (hK _ _ λW hW hF=>?_);clear hF hK;have hW:Ext w W:=hW;refine zB8 ?_;have hc1:=hFO.out W hW;have hc2:=hFC.out W hW;have hfn:=zH (hBM.out W hW);generalize World.setRow (World.setRow W _ _) _ _=wf at*;generalize World.setRow W _ _=wm at*;go_wp2_with (simp only[hc1]);refine Qt ?_;go_wp2_with (simp only[hc2]);go_ret;exact hfn.out
end Go.Proofs.YtmeadnlmepcmbaaGreat
