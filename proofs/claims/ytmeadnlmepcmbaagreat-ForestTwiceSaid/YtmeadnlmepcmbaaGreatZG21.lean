/- Lemmas of the proof. -/
import Derived.Test.YtmeadnlmepcmbaaGreatZG20
set_option linter.all false
set_option maxHeartbeats 8000000
open Go.Proofs.Tryz
namespace Go.Proofs.YtmeadnlmepcmbaaGreat
open Go.RowKit
theorem qgR(S:Sto)(xs:List It)(i:Nat):∀y∈ZJ S xs i,QY y:=λy hy=>by
 unfold ZJ at hy;split at hy
 ·cases hy
 ·split at hy
  ·cases hy
  ·rename_i hn;exact((qF hn).2.1 y hy).1
theorem joinX_ok{S:Sto}{xs l:List It}{p:Nat}(hl:∀y∈l,QY y):∀y∈(Zr S xs p l).1,QY y:=λy hy=>by
 unfold Zr at hy;split at hy
 ·split at hy
  ·exact hl y hy
  ·split at hy
   ·exact hl y hy
   ·exact(List.mem_append.1 hy).elim (qgR S xs _ y) (hl y)
 ·split at hy
  ·exact hl y hy
  ·exact(List.mem_append.1 hy).elim (hl y) (qgR S xs _ y)
theorem qkH{S:Sto}{xs l:List It}{p:Nat}(hp:p<xs.length)(h5:l.length<=5):(Zr S xs p l).2.1+(Zr S xs p l).2.2<=xs.length/\((Zr S xs p l).2.2=1\/(Zr S xs p l).2.2=2)/\(Zr S xs p l).1.length<=5/\(l≠[]->(Zr S xs p l).1≠[]):=by
 unfold Zr;split
 ·split
  ·exact⟨hp,.inl rfl,h5,λh=>h⟩
  ·split
   ·exact⟨hp,.inl rfl,h5,λh=>h⟩
   ·exact⟨by simp only;omega,.inr rfl,by simp only[List.length_append];omega,λh e=>h (List.append_eq_nil_iff.1 e).2⟩
 ·split
  ·exact⟨hp,.inl rfl,h5,λh=>h⟩
  ·exact⟨by simp only;omega,.inr rfl,by simp only[List.length_append];omega,λh e=>h (List.append_eq_nil_iff.1 e).1⟩
theorem qhK{S:Sto}{k:K3}:∀(h:Nat){a:Nat}{xs:List It},qk S a=some ((h:Int),xs)->(qz S h xs).isSome=true->∀s∈jl S k h xs,0<s.1->∀y∈s.2.1,8<=y.r/\y.r<256
 |0,a,xs,hn,hs,s,hm,h0=>by
  rw[Ko]at hm;obtain rfl:s=(0,xs,qA xs k):=by simpa using hm
  exact absurd h0 (Nat.lt_irrefl 0)
 |h+1,a,xs,hn,hs,s,hm,h0=>by
  have hx:=Vm (qF hn).1 zO;obtain⟨b,e1,-,-,zs,e4,e5⟩:=QE (QG hs _ (List.getElem_mem (QT (k:=k) hx)));rw[JK (zL (QT hx)) (by rw[e1,Int.toNat_natCast];exact e4)]at hm;rcases List.mem_cons.1 hm with rfl|hm
  ·intro y hy;obtain⟨c,f1,f8,f256,-⟩:=QE (QG hs y hy);omega
  ·exact qhK h e4 e5 s hm h0
theorem qkg{S:Sto}{k:K3}:∀(h:Nat){a:Nat}{xs:List It},qk S a=some ((h:Int),xs)->(qz S h xs).isSome=true->∀j,j<=h->(sAt (jl S k h xs) j).1=h-j
 |0,a,xs,hn,hs,j,hj=>by obtain rfl:j=0:=zO;rfl
 |h+1,a,xs,hn,hs,j,hj=>by
  have hx:=Vm (qF hn).1 zO;obtain⟨b,e1,-,-,zs,e4,e5⟩:=QE (QG hs _ (List.getElem_mem (QT (k:=k) hx)));rw[JK (zL (QT hx)) (by rw[e1,Int.toNat_natCast];exact e4)];rcases j with _|j
  ·rfl
  ·have:=qkg (k:=k) h e4 e5 j zO;unfold sAt at this⊢;rw[List.getElem?_cons_succ,this];omega
theorem qhJ{S:Sto}{k:K3}:∀(h:Nat){a:Nat}{xs:List It},qk S a=some ((h:Int),xs)->(qz S h xs).isSome=true->(Vc S k h xs).isSome=true->∃ys,sAt (jl S k h xs) h=(0,ys,qA ys k)/\qA ys k<ys.length
 |0,a,xs,hn,hs,h1=>by
  refine⟨xs,rfl,?_⟩;have hi:=qjJ (ZN hs).2 h1;rcases Nat.lt_or_ge (qA xs k) xs.length with h2|h2
  ·exact h2
  ·rw[VX zO]at hi;cases hi
 |h+1,a,xs,hn,hs,h1=>by
  have h0:=Vm (qF hn).1 zO;have hlt:=QT (k:=k) h0;obtain⟨b,e1,-,-,zs,e4,e5⟩:=QE (QG hs _ (List.getElem_mem hlt));have hnb:qk S (xs[Qy xs k].r).toNat=some ((h:Int),zs):=by rw[e1,Int.toNat_natCast];exact e4
  have hd:=(Tp (ZN hs).2 h0 (Tj h1)).1;rw[XL hd hnb]at h1;rw[JK (zL hlt) hnb];obtain⟨ys,f1,f2⟩:=qhJ (k:=k) h e4 e5 h1;refine⟨ys,?_,f2⟩;unfold sAt at f1⊢;rw[List.getElem?_cons_succ];exact f1
theorem qie{ps:List Stp}{j:Nat}{l hs:List It}{S:Sto}{e:Int}(h:jz (ps.take j) l hs S=.error e):jz ps l hs S=.error e:=by have:ps=ps.take j++ps.drop j:=(List.take_append_drop _ _).symm;rw[this,vq,h]
theorem qid{ps:List Stp}{s:Stp}{l hs l' hs':List It}{S S':Sto}(h:jz ps l hs S=.ok (l',hs',S')):jz (ps++[s]) l hs S=JQ S' s l' hs':=by rw[vq,h];exact GE _ _ _ _
theorem qlf{l:List Stp}{L:Nat}(h:l.length=L+1):l.reverse=sAt l L::(l.take L).reverse:=by
 have h1:l=l.take L++[sAt l L]:=by
  have h2:=List.take_succ_eq_append_getElem (l:=l) (i:=L) zO;rw[List.take_of_length_le zO]at h2;have h3:sAt l L=l[L]:=by unfold sAt;rw[zL zO];rfl
  rw[h3];exact h2
 conv=>lhs;rw[h1]
 rw[List.reverse_append];rfl
theorem qhn{l:List Stp}{L j:Nat}(h:j<L):sAt (l.take L) j=sAt l j:=by unfold sAt;rw[List.getElem?_take,if_pos h]
theorem qgp{k:K3}{l:List Stp}{L:Nat}(h:l.length=L+1)(S:Sto):qbA k l.reverse S=jz (l.take L).reverse (zY (sAt l L).2.1 (sAt l L).2.2 1 []) [] S:=by rw[qlf h];rfl
def XD(B0 b g LB HB:Nat)(k:Option Nat)(q:Nat):Prop:=q<B0+5\/q=LB\/q=HB\/B3 b g k q
structure DelV(l:List Stp)(l0:List It)(S:Sto)(B0 lo b g LB HB TB SB CB w2:Nat)(w3:World)(sv_:Value)(pre:List Nat)(W:World):Prop where
 ex:∃(ls hs:List It)(S':Sto)(k':Option Nat)(D':Nat->Prop)(Al:OA)(cl:Nat)(lps:List (It×Value)),jz (pre.map (sAt l)) l0 [] S=.ok (ls,hs,S')/\qm S'=true/\ls.length<=5/\lps.map (·.1)=ls/\(∀y∈ls,QY y)/\(hs=[]\/∃y,hs=[y]/\8<=y.r/\y.r<256) /\
  jo (XD B0 b g LB HB k') W (.slice Al ls.length cl) lps/\W.heap[LB]?=some (.cells #[.slice Al ls.length cl] 55 (0,0))/\W.heap[HB]?=some (.cells #[.int .i64 (qgC hs)] 3 (0,0))/\Bch D' B0 lo b g k' S' W
 r2:W.heap[B0+2]?=some (.cells #[.slice none 0 0,.slice none 0 0,.slice none 0 0,.slice none 0 0] 28 (0,0))
 r3:W.heap[B0+3]?=some (.cells #[.int .i64 0] 3 (0,0))
 r4:W.heap[B0+4]?=some (.cells #[.int .i64 0] 37 (0,0))
 rT:W.heap[TB]?=some (.cells #[.pointer (some ⟨b,0,none⟩)] 92 (0,0))
 rC:∃A c,W.heap[CB]?=some (.cells #[.slice A l.length c] 160 (0,0))
 rS:W.heap[SB]?=some (.cells #[sv_] 160 (0,0))
 kx:qT (λq=>q<w2) w3 W
theorem jo.ck{X:Nat->Prop}{w W:World}{v:Value}{ips:List (It×Value)}(h:jo X w v ips)(hk:Qe w W):jo X W v ips:=h.trans (qT.of_ck X hk) λ_ _ h=>h
theorem DelV.ck{l:List Stp}{l0:List It}{S:Sto}{B0 lo b g LB HB TB SB CB w2:Nat}{w3:World}{sv_:Value}{pre:List Nat}{w W:World}(h:DelV l l0 S B0 lo b g LB HB TB SB CB w2 w3 sv_ pre w)(hk:Qe w W):DelV l l0 S B0 lo b g LB HB TB SB CB w2 w3 sv_ pre W:=by obtain⟨ls,hs,S',k',D',Al,cl,lps,h1,h2,h3,h4,h5,h6,h7,h8,h9,h10⟩:=h.ex;obtain⟨A,c,hC⟩:=h.rC;exact⟨⟨ls,hs,S',k',D',Al,cl,lps,h1,h2,h3,h4,h5,h6,h7.ck hk,hk.row h8,hk.row h9,h10.ck hk⟩,hk.row h.r2,hk.row h.r3,hk.row h.r4,hk.row h.rT,⟨A,c,hk.row hC⟩,hk.row h.rS,h.kx.trans (qT.of_ck _ hk) λ_ _ h=>h⟩
theorem jo.of_own{X:Nat->Prop}{w:World}{lo n:Nat}{v:Value}{ps:List (It×Value)}(ho:w.ownsRow lo 51 5 v n (qC ps))(hl:ps.length=n)(hX:∀q,v.ownBlock=some q->¬X q)(hp:∀p∈ps,(∃A c,p.2=.slice A p.1.val.length c)/\∀C,qT X w C->Bys C C.heap.size p.2 p.1.val):jo X w v ps:=by
 obtain⟨A,c,rfl,h1,h2⟩:=qG ho;subst hl;refine⟨⟨A,c,rfl,h1,h2,λC hC=>⟨ho.1,λhn=>?_⟩⟩,hp⟩;rcases ho.2 with⟨_,h0⟩|⟨g,cap,cur,hv,hb,hg,hnc,_,hsz,htk⟩
 ·omega
 ·have hne:¬X g:=hX g (by rw[hv];rfl);cases hv;have hc:∀j u,(qC ps)[j]?=some u->w.cell? ⟨g,0+j,none⟩=some u:=λj u hu=>by
   rw[Nat.zero_add,qa hg,<-Array.getElem?_toList];rw[<-htk,List.getElem?_take]at hu;split at hu
   ·exact hu
   ·cases hu
  have hl0:0<(qC ps).length:=by rw[ho.1];omega
  exact⟨g,0,rfl,World.block_lt_of_cell? C ⟨g,0+0,none⟩ (hC _ _ hne (hc 0 _ (zL hl0))),λj u hu=>hC _ _ hne (hc j u hu)⟩
theorem qdH{l:List Stp}{l0:List It}{S:Sto}{B0 lo b g LB HB TB SB CB w2:Nat}{w3:World}{sv_:Value}{pre:List Nat}{W C:World}{ls hs:List It}{S':Sto}{k':Option Nat}{D':Nat->Prop}{lps:List (It×Value)}{B9 n:Nat}{v x0 y0:Value}(hg:jz (pre.map (sAt l)) l0 [] S=.ok (ls,hs,S'))(hS':qm S'=true)(h5:ls.length<=5)(hm:lps.map (·.1)=ls)(hok:∀y∈ls,QY y)(hhs:hs=[]\/∃y,hs=[y]/\8<=y.r/\y.r<256)(ho:W.ownsRow B9 51 5 v n (qC lps))(hn:n=ls.length)(h9:B0+5<=B9)(hp:∀p∈lps,(∃A c,p.2=.slice A p.1.val.length c)/\∀C,qT (XD B0 b g LB HB k') W C->Bys C C.heap.size p.2 p.1.val)(rL:W.heap[LB]?=some (.cells #[x0] 55 (0,0)))(rH:W.heap[HB]?=some (.cells #[y0] 3 (0,0)))(hbc:Bch D' B0 lo b g k' S' W)(r2:W.heap[B0+2]?=some (.cells #[.slice none 0 0,.slice none 0 0,.slice none 0 0,.slice none 0 0] 28 (0,0)))(r3:W.heap[B0+3]?=some (.cells #[.int .i64 0] 3 (0,0)))(r4:W.heap[B0+4]?=some (.cells #[.int .i64 0] 37 (0,0)))(rT:W.heap[TB]?=some (.cells #[.pointer (some ⟨b,0,none⟩)] 92 (0,0)))(rC:∃A c,W.heap[CB]?=some (.cells #[.slice A l.length c] 160 (0,0)))(rS:W.heap[SB]?=some (.cells #[sv_] 160 (0,0)))(kx:qT (λq=>q<w2) w3 W)(zL:B0+5<=LB)(zH:B0+5<=HB)(zL2:LB<lo)(zH2:HB<lo)(zL3:w3.heap.size<=LB)(zH3:w3.heap.size<=HB)(hC:C=(W.setCell ⟨LB,0,none⟩ v).setCell ⟨HB,0,none⟩ (.int .i64 (qgC hs))):DelV l l0 S B0 lo b g LB HB TB SB CB w2 w3 sv_ pre C/\KeepsOthers W C/\(∀{w0:World},Below B0 w0 W->Below B0 w0 C)/\C.heap[SB]?=W.heap[SB]?/\∀q,q<w3.heap.size->C.heap[q]?=W.heap[q]?:=by
 obtain⟨t1,t2,t3,-,t5,t6⟩:=vD (C:=C) rL rH (qL rL rH zA1) hC;have ho':C.ownsRow B9 51 5 v n (qC lps):=Zb ho λq hq=>by obtain⟨cur,hc⟩:=Zz ho hq;exact t3 q (qL hc rL zA1) (qL hc rH zA1)
 obtain⟨A,c,e,-,-⟩:=qG ho';subst e;subst hn;have k2:qT (λq=>q=LB\/q=HB) W C:=qT.of_heap λq _ hX=>t3 q (λe=>hX (.inl e)) λe=>hX (.inr e);obtain⟨A3,c3,rC⟩:=rC;refine⟨⟨⟨ls,hs,S',k',D',A,c,lps,hg,hS',h5,hm,hok,hhs,?_,t1,t2,hbc.kept (t6 zO zO (Below.refl _ _)) λq h _=>t3 q zO zO⟩,(t3 _ zO zO).trans r2,(t3 _ zO zO).trans r3,(t3 _ zO zO).trans r4,(t3 _ (qL rT rL zA1) (qL rT rH zA1)).trans rT,⟨A3,c3,(t3 _ (qL rC rL zA1) (qL rC rH zA1)).trans rC⟩,(t3 _ (qL rS rL zA1) (qL rS rH zA1)).trans rS,kx.trans k2 λq hq hx=>zO⟩,t5,λh=>t6 zO zO h,t3 _ (qL rS rL zA1) (qL rS rH zA1),λq hq=>t3 q zO zO⟩;refine jo.of_own ho' (by rw[<-hm,List.length_map]) (λq hq hX=>?_) λp h=>⟨(hp p h).1,λD hD=>(hp p h).2 D ((k2.mono λq _ hX=>?_).trans hD λ_ _ h=>h)⟩
 ·obtain⟨cur,hc⟩:=Zz ho hq;have hq6:=(QM ho q hq).1;rcases hX with hX|hX|hX|hX
  ·omega
  ·exact qL hc rL zA1 hX
  ·exact qL hc rH zA1 hX
  ·exact hbc.notB3 hc zA1 zA1 zA1 hX
 ·exact hX.elim (λh=>.inr (.inl h)) λh=>.inr (.inr (.inl h))
theorem Td.split{D:Nat->Prop}{B lo b g:Nat}{k:Option Nat}{S:Sto}{lvl:Int}{its hs:List It}{w W:World}{e:Ending}(hio:∀x∈its,QY x)(h5:its.length<=5)(hhs:hs=[]\/∃y,hs=[y]/\8<=y.r/\y.r<256)(hS:qm S=true)(h:Td D B lo b g k S lvl its hs w e W):Qh lo b g k w W/\((∃er v:Int,Hid (Qs S lvl its hs=.error er)/\er≠0/\e=.returned (.tuple #[.int .i64 v,.int .i64 er])) \/
  (∃(f:Nat)(S':Sto)(k':Option Nat)(D':Nat->Prop),Hid (Qs S lvl its hs=.ok ([jk (jj its) f],S'))/\(8<=f/\f<256)/\qm S'=true/\e=.returned (.tuple #[.int .i64 (f:Int),.int .i64 0])/\Zj w.heap.size k k'/\KL w.heap.size D D'/\Bch D' B lo b g k' S' W)):=by
 obtain⟨h1,h2⟩:=h;refine⟨h1,?_⟩;have hf:=vU (S:=S) (lvl:=lvl) (hs:=hs) h5;rcases hb:Qs S lvl its hs with er|⟨up,S'⟩
 ·rw[hb]at h2;obtain⟨hne,v,e1⟩:=h2;exact .inl ⟨er,v,zH rfl,hne,e1⟩
 ·rw[hb]at h2;obtain⟨e1,k',D',e2,e3,e4⟩:=h2;obtain⟨a1,-,a3⟩:=kV hio (λx hx=>by
   rcases hhs with rfl|⟨y,rfl,h8,h9⟩
   ·cases hx
   ·rw[List.mem_singleton.1 hx];omega) hS hb
  rw[hb]at hf;have:∃f:Nat,up=[jk (jj its) f]:=by
   split at hf
   ·cases hf
   ·split at hf
    ·cases hf
    ·cases hf;exact⟨_,rfl⟩
  obtain⟨f,rfl⟩:=this;obtain⟨-,a4,-⟩:=a3 _ (List.mem_singleton.2 rfl);have a5:8<=f/\f<256:=by unfold jk at a4;simp only at a4;omega
  exact .inr ⟨f,S',k',D',zH rfl,a5,a1,e1,e2,e3,e4⟩
theorem YM:∀{l:List Nat}(t:List UInt8),(∀r∈l,r=0)->looseL l t=.ok t
 |[],t,_=>rfl
 |r::l,t,h=>by rw[h r List.mem_cons_self,jb];exact YM t λr hr=>h r (List.mem_cons_of_mem _ hr)
theorem qjB{S S1 S2:Sto}{h f:Nat}{k:K3}{all l hs:List It}{y:It}(hI:DelI S h k all l hs S1)(e:Qs S1 (if l=[]then 0 else(h:Int)) l hs=.ok ([y],S2))(hy:y.r=(f:Int)):∃(H:Nat)(its:List It),H<=h/\qk S2 f=some ((H:Int),its)/\Xd S2 H its:=by
 by_cases hl:l=[]
 ·subst hl;have hz:∀r∈qB hs,r=0:=λr hr=>Classical.byContradiction λh0=>by have h1:(qB hs).count r<=0:=hI.sub r h0;have h2:=List.count_pos_iff.2 hr;omega
  rw[if_pos rfl,vU zA3]at e;rcases hm:zX S1 0 []with er|⟨f',S'⟩
  ·rw[hm]at e;cases e
  ·rw[hm]at e;simp only[YM _ hz]at e;obtain⟨-,-,-,hn,-⟩:=Yl (h:=0) hI.may zA3 zA0 hm;simp only[Except.ok.injEq,Prod.mk.injEq,List.cons.injEq,and_true]at e;obtain⟨rfl,rfl⟩:=e;obtain rfl:f'=f:=by unfold jk at hy;simp only at hy;omega
   exact⟨0,[],Nat.zero_le _,hn,trivial⟩
 ·rw[if_neg hl]at e;obtain⟨-,-,h3,-⟩:=vV hI.may (λx hx=>(hI.ok x hx).1) hI.held hI.sub hl hI.span e;obtain⟨b,e1,-,-,zs,e4,e5⟩:=QE (QG h3 y zA3);obtain rfl:b=f:=zO;exact⟨h,zs,zM _,e4,qeW h e5⟩
def SzK(lo:Nat)(W W':World):Prop:=∀(q:Nat)(ty:TypeId)(cs:Array Value),lo<=q->W.heap[q]?=some (.cells cs ty (0,0))->∃cs',W'.heap[q]?=some (.cells cs' ty (0,0))/\cs'.size=cs.size
def itz:List Value:=[.int .u8 0,.int .u32 0,.int .u32 0,.int .i64 0,.slice none 0 0]
theorem GD{W:World}{g k c:Nat}{cur:Array Value}(hg:W.heap[g]?=some (.cells cur 51 (0,0)))(hf:k*5+5<=cur.size)(ty:TypeId):(Builtin.clear_ #[55] ty #[.slice (some ⟨g,k*5,none⟩) 1 c]).run prog W=.ok (.tuple #[]) (W.setRow g (spl cur k itz)):=by
 obtain⟨i0,hi,hz0,hz1,hz2⟩:=info_parts Tryz.info_item;have hst:=run_storeCells_at prog g (k*5) 51 itz 0 cur W hg (by simpa [itz]using hf) (by simp[itz,Value.oneCell']);rw[Nat.add_zero]at hst;have hzc:(Builtin.zeroCells (Value.agg #[.int .u8 0,.int .u32 0,.int .u32 0,.int .i64 0,.slice none 0 0]).cells 1).toList=itz:=zQ;have e:∀l:List Value,l=itz->(storeCells ⟨g,k*5,none⟩ l).run prog W=.ok () (W.setRow g (spl cur k itz)):=λl hl=>by rw[hl];exact hst
 simp[Builtin.clear_,run_underlying underlying55,zeroValue,typeInfo,hi,hz0];rw[e _ hzc];rfl
theorem qcL{cur:Array Value}{i m n:Nat}{A vs:List Value}(hA:cur.toList.take (i*5)=A)(hv:vs.length=m*5)(hn:i+m<=n)(hc:n*5+5<=cur.size):(spl (spl cur i vs) n itz).toList.take ((i+m)*5)=A++vs:=by
 have ha:(cur.toList.take (i*5)).length=i*5:=by rw[List.length_take,Array.length_toList];omega
 have e1:(spl cur i vs).toList=A++vs++cur.toList.drop (i*5+vs.length):=by unfold spl;rw[List.toList_toArray,hA]
 have hl:(A++vs).length=(i+m)*5:=by rw[List.length_append,<-hA,ha,hv];omega
 unfold spl at e1⊢;rw[List.toList_toArray,e1,List.append_assoc,List.take_append_of_le_length (by rw[List.length_take,List.length_append,hl];omega),List.take_take,Nat.min_eq_left (Nat.mul_le_mul_right 5 hn),<-hl];exact List.take_left
set_option maxRecDepth 100000 in
theorem qaP(lo:Nat)(s:Value)(n i:Nat)(xs:List Value)(w:World)(ho:w.ownsRow lo 51 5 s n xs)(hin:i<n)(hn:n<=100)(h1d:∀u∈xs.drop ((i+1)*5),u.oneCell'=true)(hlo:lo<=w.heap.size):Calls prog 114 #[s,.int .i64 (i:Int),.int .i64 ((i+1:Nat):Int)] w (λe W=>vL lo s (n-1) (xs.take (i*5)++xs.drop ((i+1)*5)) w e W/\SzK lo w W):=by
 obtain⟨i0,hi0,hz0,hz1,hz2⟩:=info_parts Tryz.info_item;have hxl:=ho.1;obtain⟨g,cap,cur,rfl,hHR,hg,hnc,hcm,hcs,hct⟩:∃g cap cur,s=.slice (some ⟨g,0,none⟩) n cap/\lo<=g/\w.heap[g]?=some (.cells cur 51 (0,0))/\n<=cap/\cap<=maxLen/\cur.size=cap*5/\cur.toList.take (n*5)=xs:=by
  rcases ho.2 with⟨_,h0⟩|h
  ·omega
  ·exact h
 obtain⟨j,hjE⟩:∃j,j=i+1:=⟨_,rfl⟩
 obtain⟨r,hrE⟩:∃r,r=n-j:=⟨_,rfl⟩
 have hir:n-1=i+r:=zO;rw[<-hjE]at h1d;rw[<-hjE,hir];have hdl:(xs.drop (j*5)).length=r*5:=by rw[List.length_drop];omega
 have hA:cur.toList.take (i*5)=xs.take (i*5):=by rw[<-hct,List.take_take,Nat.min_eq_left zO]
 have hgl:=(zG.1 hg).1;have hs1:(spl cur i (xs.drop (j*5))).size=cap*5:=by rw[QA hdl (by rw[hcs];omega),hcs]
 have hXJ:∀W,Ext w W->(∀(ad:Addr)c ty,(0<r->ad=⟨g,j*5,none⟩)->(Builtin.append_ #[55,55] ty #[.slice (some ⟨g,0,none⟩) i cap,.slice (some ad) r c]).run prog W=.ok (.slice (some ⟨g,0,none⟩) (i+r) cap) (W.setRow g (spl cur i (xs.drop (j*5))))) /\
   (∀c ty,(Builtin.clear_ #[55] ty #[.slice (some ⟨g,(i+r)*5,none⟩) 1 c]).run prog (W.setRow g (spl cur i (xs.drop (j*5))))=.ok (.tuple #[]) ((W.setRow g (spl cur i (xs.drop (j*5)))).setRow g (spl (spl cur i (xs.drop (j*5))) (i+r) itz))) /\
   (vL lo (.slice (some ⟨g,0,none⟩) n cap) (i+r) (xs.take (i*5)++xs.drop (j*5)) w (.returned (.slice (some ⟨g,0,none⟩) (i+r) cap)) ((W.setRow g (spl cur i (xs.drop (j*5)))).setRow g (spl (spl cur i (xs.drop (j*5))) (i+r) itz))/\SzK lo w ((W.setRow g (spl cur i (xs.drop (j*5)))).setRow g (spl (spl cur i (xs.drop (j*5))) (i+r) itz))):=λW hW=>by
  have hgW:W.heap[g]?=some (.cells cur 51 (0,0)):=(Below.block hW g hgl).trans hg;have p2:(W.setRow g (spl cur i (xs.drop (j*5)))).heap[g]?=some (.cells (spl cur i (xs.drop (j*5))) 51 (0,0)):=setRow_heap _ _ _ _ _ _ hgW;refine⟨λad c ty had=>?_,λc ty=>GD p2 zO ty,?_⟩
  ·have h0:=run_append_room (P:=prog) W 55 ty 51 i0 underlying55 hi0 g i cap cur hgW ad r c (xs.drop (j*5)) (by rw[hz1];exact hdl) (λq u hu=>by
    have hr0:0<r:=by have:=(List.getElem?_eq_some_iff.1 hu).1;omega
    rw[had hr0,Addr.add_lit,qa hgW,<-Array.getElem?_toList];rw[List.getElem?_drop,<-hct,List.getElem?_take]at hu;split at hu
    ·exact hu
    ·cases hu) h1d zO (by rw[hz1,hdl,hcs];omega)
   rw[hz1]at h0;exact h0
  ·have k2:∀q,q≠g->(W.setRow g (spl cur i (xs.drop (j*5)))).heap[q]?=W.heap[q]?:=λq hq=>setRow_other _ _ _ _ hq;have hlW:lo<=W.heap.size:=Nat.le_trans hlo hW.size;have hs2:(spl (spl cur i (xs.drop (j*5))) (i+r) itz).size=cap*5:=by rw[QA (k:=1) rfl zO,hs1]
   refine⟨?_,λq ty cs hq hc=>?_⟩;rotate_left
   ·by_cases e:q=g
    ·subst e;rw[hg]at hc;cases hc;exact⟨_,setRow_heap _ _ _ _ _ _ p2,hs2.trans hcs.symm⟩
    ·exact⟨cs,(setRow_other _ _ _ _ e).trans ((k2 q e).trans ((Below.block hW q (zG.1 hc).1).trans hc)),rfl⟩
   refine⟨_,rfl,⟨by rw[List.length_append,List.length_take,hdl];omega,.inr ⟨g,cap,_,rfl,hHR,setRow_heap _ _ _ _ _ _ p2,zO,hcm,hs2,qcL hA hdl (zM _) zO⟩⟩,Qt (Qt (Below.mono hW hlo) hlo hHR _) hlo hHR _,λq hq hq2=>(setRow_other _ _ _ _ (λe=>hq2 (by rw[e];rfl))).trans ((k2 q λe=>hq2 (by rw[e];rfl)).trans (Below.block hW q hq))⟩
 replace hXJ:=zH hXJ;have hb1:(i:Int)<=(j:Int):=zO;have hb2:(j:Int)<=(n:Int):=zO;have hb3:(n:Int)<=(cap:Int):=zO;have hb4:(i:Int)<=(cap:Int):=zO;have hb5:((i+r:Nat):Int)<=(n:Int):=zO;have hij:((i:Int)==(j:Int))=false:=by rw[beq_eq_false_iff_ne];omega
 have hij2:decide (i=j)=false:=decide_eq_false zO;have hir2:n-(i+r)=1:=zO;have hnj:n-j=r:=hrE.symm;have hci:¬cap-(i+r)=0:=zO;replace⟨hir,hjE,hrE⟩:=zH3 hir hjE hrE;clear ho h1d hdl hA hct hs1 hxl hcs hz0 hz1 hz2 hi0 hlo;by_cases hcj:cap=j
 ·subst hcj;have hcj2:cap-cap=0:=zO;go_enter func114,ntmps114;go_upto_region 5 with fail;refine qt zQ ?_;refine qX (w:=w) qj (qQ []) (List.replicate 6 true) 2 zQ zQ zQ zQ zQ zQ zQ ?st (Rel.drew _ _) ?walk
  case st=>exact qi (λ_ h=>by cases h)
  case walk=>intro K hK;dsimp only[qw,List.replicate];refine zB7 ?_;refine qD (hK _ _ λW hW hF=>?_);clear hF hK;obtain⟨h1,h2,h3⟩:=hXJ.out W hW;have h1:=λc ty=>h1 ⟨g,0,none⟩ c ty (λh=>absurd h (by have:=hrE.out;omega));replace h3:=zH h3;clear hXJ hW;refine zC4 ?_;go_wp2_with (at_builtin;refine qY ?_);refine Qm.go (Lib.wpList_append_run _ rfl _ _ _ _ rfl _ _ zE zE _ _ (h1 _ _) ?_);clear h1;generalize hW2:W.setRow g _=W2 at*;generalize hW3:W2.setRow g _=W3 at*;clear hW2 hW3;go_wp2_with fail;refine Qn ?_;go_wp2_with (simp only[h2]);go_ret;exact h3.out
 ·have hcj2:¬cap-j=0:=zO;go_enter func114,ntmps114;go_upto_region 5 with fail;refine qt zQ ?_;refine qX (w:=w) qj (qQ []) (List.replicate 6 true) 2 zQ zQ zQ zQ zQ zQ zQ ?st (Rel.drew _ _) ?walk
  case st=>exact qi (λ_ h=>by cases h)
  case walk=>intro K hK;dsimp only[qw,List.replicate];refine zB7 ?_;refine qD (hK _ _ λW hW hF=>?_);clear hF hK;obtain⟨h1,h2,h3⟩:=hXJ.out W hW;have h1:=λc ty=>h1 ⟨g,j*5,none⟩ c ty (λ_=>rfl);replace h3:=zH h3;clear hXJ hW;refine zC4 ?_;go_wp2_with (at_builtin;refine qY ?_);refine Qm.go (Lib.wpList_append_run _ rfl _ _ _ _ rfl _ _ zE zE _ _ (h1 _ _) ?_);clear h1;generalize hW2:W.setRow g _=W2 at*;generalize hW3:W2.setRow g _=W3 at*;clear hW2 hW3;go_wp2_with fail;refine Qn ?_;go_wp2_with (simp only[h2]);go_ret;exact h3.out
set_option maxRecDepth 100000 in
theorem qfr(lo:Nat)(s:Value)(n i:Nat)(xs:List Value)(v:Value)(lov:Nat)(vs:List Value)(w:World)(ho:w.ownsRow lo 51 5 s n xs)(hv:w.ownsRow lov 51 5 v 1 vs)(hsv:∀q,v.ownBlock=some q->s.ownBlock≠some q)(hn:n<=100)(hj:i+2<=n)(h1x:∀u∈xs,u.oneCell'=true)(h1v:∀u∈vs,u.oneCell'=true)(hlo:lo<=w.heap.size):Calls prog 119 #[s,.int .i64 (i:Int),.int .i64 ((i+2:Nat):Int),v] w (vL lo s (n-2+1) (xs.take (i*5)++vs++xs.drop ((i+2)*5)) w):=by
 obtain⟨i0,hi0,hz0,hz1,hz2⟩:=info_parts Tryz.info_item;have hvl:=hv.1;have hxl:=ho.1;obtain⟨vg,vcap,vcur,rfl,wSO,hvg,hvc,hvm,hvs,hvt⟩:∃g cap cur,v=.slice (some ⟨g,0,none⟩) 1 cap/\lov<=g/\w.heap[g]?=some (.cells cur 51 (0,0))/\1<=cap/\cap<=maxLen/\cur.size=cap*5/\cur.toList.take (1*5)=vs:=by
  rcases hv.2 with⟨_,h0⟩|h
  ·omega
  ·exact h
 obtain⟨g,cap,cur,rfl,hHR,hg,hnc,hcm,hcs,hct⟩:∃g cap cur,s=.slice (some ⟨g,0,none⟩) n cap/\lo<=g/\w.heap[g]?=some (.cells cur 51 (0,0))/\n<=cap/\cap<=maxLen/\cur.size=cap*5/\cur.toList.take (n*5)=xs:=by
  rcases ho.2 with⟨_,h0⟩|h
  ·omega
  ·exact h
 have hKR:=Ux hv;have wIA:vg≠g:=λe=>hsv vg rfl (by rw[e];rfl);have hgl:=(zG.1 hg).1;have wIB:=(zG.1 hvg).1;obtain⟨j,hjE⟩:∃j,j=i+2:=⟨_,rfl⟩
 obtain⟨r,hrE⟩:∃r,r=n-j:=⟨_,rfl⟩
 rw[<-hjE];have wEC:n-2+1=i+1+r:=zO;rw[wEC];have hdl:(xs.drop (j*5)).length=r*5:=by rw[List.length_drop];omega
 have h1d:∀u∈xs.drop (j*5),u.oneCell'=true:=λu hu=>h1x u (List.mem_of_mem_drop hu);have hA:cur.toList.take (i*5)=xs.take (i*5):=by rw[<-hct,List.take_take,Nat.min_eq_left zO]
 have hsz:(Tryz.prog.info? 51).map (·.size)=some 5:=by rw[hi0];simp[hz1]
 have s1:(spl cur i vs).size=cap*5:=by rw[QA hvl (by rw[hcs];omega),hcs]
 have s2:(spl (spl cur i vs) (i+1) (xs.drop (j*5))).size=cap*5:=by rw[QA hdl (by rw[s1];omega),s1]
 have a2:(spl cur i vs).toList.take ((i+1)*5)=xs.take (i*5)++vs:=KI hA hvl (by rw[hcs];omega);have hyl:(xs.take (i*5)++vs++xs.drop (j*5)).length=(i+1+r)*5:=by simp only[List.length_append,List.length_take,hvl,hdl];omega
 have hvd:∀W:World,W.heap[vg]?=w.heap[vg]?->∀q u,vs[q]?=some u->W.cell? ((⟨vg,0,none⟩:Addr).add q)=some u:=λW hW q u hu=>by rw[World.cell?_of_block (w:=w) (by rw[Addr.add_lit];exact hW)];exact hKR q u hu
 have hgd:∀W:World,W.heap[g]?=some (.cells (spl cur i vs) 51 (0,0))->∀q u,(xs.drop (j*5))[q]?=some u->W.cell? ((⟨g,j*5,none⟩:Addr).add q)=some u:=λW hW q u hu=>by
  rw[Addr.add_lit,qa hW,<-Array.getElem?_toList];have e:(spl cur i vs).toList=(cur.toList.take (i*5)++vs)++cur.toList.drop (i*5+vs.length):=by unfold spl;rw[List.toList_toArray]
  have hl:(cur.toList.take (i*5)++vs).length=(i+1)*5:=by rw[List.length_append,List.length_take,Array.length_toList];omega
  rw[List.getElem?_drop,<-hct,List.getElem?_take]at hu;split at hu
  ·rw[e,List.getElem?_append_right (by rw[hl];omega),hl,List.getElem?_drop,<-hu];congr 1;omega
  ·cases hu
 have wAU:∀(V:World)(cur':Array Value),V.heap[g]?=some (.cells cur' 51 (0,0))->cur'.size=cap*5->cur'.toList.take ((i+1+r)*5)=xs.take (i*5)++vs++xs.drop (j*5)->Below lo w V->(∀q,q<w.heap.size->q≠g->V.heap[q]?=w.heap[q]?)->vL lo (.slice (some ⟨g,0,none⟩) n cap) (i+1+r) (xs.take (i*5)++vs++xs.drop (j*5)) w (.returned (.slice (some ⟨g,0,none⟩) (i+1+r) cap)) V:=λV cur' h1 h2 h3 h4 h5=>
  ⟨_,rfl,RowI.own ⟨_,h1,h2,h3⟩ hyl hHR zO hcm,h4,λq hq hn=>h5 q hq λe=>hn (by rw[e];rfl)⟩
 have hij:((i:Int)==(j:Int))=false:=by rw[beq_eq_false_iff_ne];omega
 have hij2:decide (i=j)=false:=decide_eq_false zO;have hb1:(i:Int)<=(j:Int):=zO;have hb2:(j:Int)<=(cap:Int):=zO;have hb3:(0:Int)<=(i:Int):=zO;have hb4:i<=cap:=zO;have hci:¬(cap=i):=zO;have hji:j-i=2:=zO;replace⟨hcm,hvm,wAU⟩:=zH3 hcm hvm wAU;have hJ:=hjE;replace hjE:=zH hjE;by_cases hr0:r=0
 ·subst hr0;have hjn:j=n:=zO;have hd0:xs.drop (j*5)=[]:=List.eq_nil_of_length_eq_zero zO;rw[hd0]at wAU;rw[hd0];have e1:((j:Int)==(n:Int))=true:=by rw[beq_iff_eq];omega
  have e2:decide (j=n)=true:=decide_eq_true hjn;have e3:decide ((i:Int)+1<(n:Int))=true:=decide_eq_true zO;have e4:decide (i+1<n)=true:=decide_eq_true zO;have e5:i+1<n:=zO;have e6:n-(i+1)=1:=zO;have e7:(i:Int)+1<=(n:Int):=zO;have e8:¬(cap=i+1):=zO;have e9:(n:Int)<=(cap:Int):=zO;have hEQ:∀ty,(Builtin.append_ #[55,55] ty #[.slice (some ⟨g,0,none⟩) i cap,.slice (some ⟨vg,0,none⟩) 1 vcap]).run prog w=.ok (.slice (some ⟨g,0,none⟩) (i+1) cap) (w.setRow g (spl cur i vs)):=λty=>by have h0:=run_append_room (P:=prog) w 55 ty 51 i0 underlying55 hi0 g i cap cur hg ⟨vg,0,none⟩ 1 vcap vs (by rw[hz1];exact hvl) (hvd w rfl) h1v zO (by rw[hz1,hvl,hcs];omega);rw[hz1]at h0;exact h0
  have p2:(w.setRow g (spl cur i vs)).heap[g]?=some (.cells (spl cur i vs) 51 (0,0)):=setRow_heap _ _ _ _ _ _ hg;have hXW:=λc ty=>GD (k:=i+1) (c:=c) p2 (by rw[s1];omega) ty;have hF:=zH (wAU.out _ (spl (spl cur i vs) (i+1) itz) (setRow_heap _ _ _ _ _ _ p2) (by rw[QA (k:=1) rfl (by rw[s1];omega),s1]) (by rw[List.append_nil];exact qcL hA hvl (zM _) (by rw[hcs];omega)) (Qt (Qt (Below.refl _ _) hlo hHR _) hlo hHR _) λq hq hne=>(setRow_other _ _ _ _ hne).trans (setRow_other _ _ _ _ hne));replace hJ:=trivial;replace hjn:=zH hjn;clear hgd hvd hg hvg hct hvt hKR hcs hvs hvl hxl hnc hvc hsv ho hv h1x wAU hd0 p2 s1 s2 a2 hA h1d hdl hyl wEC hrE;go_enter func119,ntmps119;go_upto_region 2 with fail;clear hb1 hb2 hci hji;go_wp2_with (at_builtin;refine qY ?_);refine Qm.go (Lib.wpList_append_run _ rfl _ _ _ _ rfl _ _ zE zE _ _ (hEQ _) ?_);clear hEQ;generalize hW2:w.setRow g _=W2 at*;generalize hW3:W2.setRow g _=W3 at*;clear hW2 hW3;go_wp2_with (simp only[hXW]);go_ret;exact hF.out
 ·have hjl:j<n:=zO;obtain⟨tot,hQP⟩:∃tot,tot=i+1+r:=⟨_,rfl⟩
  rw[<-hQP]at wAU hyl⊢;have f1:((j:Int)==(n:Int))=false:=by rw[beq_eq_false_iff_ne];omega
  have f2:decide (j=n)=false:=decide_eq_false zO;have hJN:∀W,Ext w W->∀ty,(Builtin.copy_ #[55,55] ty #[.slice (some ⟨g,i*5,none⟩) (tot-i) (cap-i),.slice (some ⟨vg,0,none⟩) 1 vcap]).run prog W=.ok (.int .i64 (1:Nat)) (W.setRow g (spl cur i vs)):=λW hW ty=>
   jI (k:=1) (o:=i) ((Below.block hW g hgl).trans hg) hvl (by rw[hcs];omega) underlying55 hsz zA9 (hvd W (Below.block hW vg wIB)) h1v
  have p2:∀W,Ext w W->(W.setRow g (spl cur i vs)).heap[g]?=some (.cells (spl cur i vs) 51 (0,0)):=λW hW=>setRow_heap _ _ _ _ _ _ ((Below.block hW g hgl).trans hg);have hHH:∀V:World,V.heap[g]?=some (.cells (spl cur i vs) 51 (0,0))->∀ty,(Builtin.copy_ #[55,55] ty #[.slice (some ⟨g,(i+1)*5,none⟩) (tot-(i+1)) (cap-(i+1)),.slice (some ⟨g,j*5,none⟩) r (cap-j)]).run prog V=.ok (.int .i64 ((r:Nat):Int)) (V.setRow g (spl (spl cur i vs) (i+1) (xs.drop (j*5)))):=λV hV ty=>
   jI (k:=r) (o:=i+1) hV hdl (by rw[s1];omega) underlying55 hsz zA9 (hgd V hV) h1d
  have p3:∀V:World,V.heap[g]?=some (.cells (spl cur i vs) 51 (0,0))->(V.setRow g (spl (spl cur i vs) (i+1) (xs.drop (j*5)))).heap[g]?=some (.cells (spl (spl cur i vs) (i+1) (xs.drop (j*5))) 51 (0,0)):=λV hV=>setRow_heap _ _ _ _ _ _ hV;have hXW:∀V:World,V.heap[g]?=some (.cells (spl cur i vs) 51 (0,0))->∀c ty,(Builtin.clear_ #[55] ty #[.slice (some ⟨g,tot*5,none⟩) 1 c]).run prog (V.setRow g (spl (spl cur i vs) (i+1) (xs.drop (j*5))))=.ok (.tuple #[]) ((V.setRow g (spl (spl cur i vs) (i+1) (xs.drop (j*5)))).setRow g (spl (spl (spl cur i vs) (i+1) (xs.drop (j*5))) tot itz)):=λV hV c ty=>GD (p3 V hV) (by rw[s2];omega) ty;have hBY:∀V W:World,Ext w W->Ext (W.setRow g (spl cur i vs)) V->vL lo (.slice (some ⟨g,0,none⟩) n cap) tot (xs.take (i*5)++vs++xs.drop (j*5)) w (.returned (.slice (some ⟨g,0,none⟩) tot cap)) ((V.setRow g (spl (spl cur i vs) (i+1) (xs.drop (j*5)))).setRow g (spl (spl (spl cur i vs) (i+1) (xs.drop (j*5))) tot itz)):=λV W hW hV=>by
   have hVg:=qb (p2 W hW) hV;have hlV:lo<=V.heap.size:=by have:=hW.size;have:=hV.size;simp at this;omega
   refine wAU.out _ (spl (spl (spl cur i vs) (i+1) (xs.drop (j*5))) tot itz) (setRow_heap _ _ _ _ _ _ (p3 V hVg)) (by rw[QA (k:=1) rfl (by rw[s2];omega),s2]) (by rw[hQP];exact qcL a2 hdl (zM _) (by rw[s1];omega)) (Qt (Qt ((Qt (Below.mono hW hlo) hlo hHR _).trans (Below.mono hV (by simpa using Nat.le_trans hlo hW.size))) hlo hHR _) hlo hHR _) λq hq hne=>(setRow_other _ _ _ _ hne).trans ((setRow_other _ _ _ _ hne).trans ((Below.block hV q (by have:=hW.size;simp;omega)).trans ((setRow_other _ _ _ _ hne).trans (Below.block hW q hq))))
  have hw1:=zH (show IntKind.i64.wrap ((i:Int)+1)=((i+1:Nat):Int)by rw[IntKind.wrap_i64];omega);have hw2:=zH (show IntKind.i64.wrap (((i+1:Nat):Int)+(r:Int))=((tot:Nat):Int)by rw[IntKind.wrap_i64];omega);have hnt:tot<=cap:=zO;have hct2:¬(cap<tot):=zO;have hti:i<=tot:=zO;have hle:decide ((i:Int)+1<=(j:Int))=true:=decide_eq_true zO;have hYZ:i+1<=j:=zO;have hle3:(i:Int)+1<=(j:Int):=zO;have hcim:¬(cap=i+1):=zO;have wPJ:¬(cap=tot):=zO;have wSA:n-tot=1:=zO;have htn:tot<=n:=zO;have htl:i+1<tot:=zO;have hrj:n-j=r:=hrE.symm;have hcj:¬(cap=j):=zO;replace⟨wSA,hQP,hrE⟩:=zH3 wSA hQP hrE;replace hJ:=trivial;replace wEC:=trivial;replace⟨hJN,hHH,hXW,hBY,p2⟩:=zH5 hJN hHH hXW hBY p2;clear hgd hvd hg hvg hct hvt hKR hcs hvs hvl hxl hvc hsv ho hv h1x wAU p3 s1 s2 a2 hA h1d hdl hyl;go_enter func119,ntmps119;go_upto_region 2 with fail;go_upto_region 9 with fail;refine qt zQ ?_;refine qX (w:=w) qj (qQ []) (List.replicate 13 true) 0 zQ zQ zQ zQ zQ zQ zQ ?st (Rel.drew _ _) ?walk
  case st=>exact qi (λ_ h=>by cases h)
  case walk=>
   intro K hK;dsimp only[qw,List.replicate];refine zB7 ?_;refine qd (.slice (some ⟨g,j*5,none⟩) r (cap-j)) zA0 zA0 (λW hW _=>⟨W,?_,Rel.refl _ W⟩) ?_
   ·go_simp;exact λh=>absurd h zO
   refine zB7 ?_;refine qD (hK _ _ λW hW hF=>?_);clear hF hK;have hW:Ext w W:=hW;refine zC4 ?_;go_wp2;refine Qn ?_;rw[hw1.out,hw2.out];replace hrj:=zH hrj;have hc1:=hJN.out W hW;have hp2:=zH (p2.out W hW);have hFX:=zH (λV hV=>hBY.out V W hW hV);clear hJN hBY p2 hb2;generalize hMU:W.setRow g _=w2 at*;clear hMU hW;go_upto_region 18 with(simp only[hc1])
   refine qt zQ ?_;refine qX (w:=w2) qj (qQ []) (List.replicate 9 true) 1 zQ zQ zQ zQ zQ zQ zQ ?st (Rel.drew _ _) ?walk
   case st=>exact qi (λ_ h=>by cases h)
   case walk=>
    intro K hK;dsimp only[qw,List.replicate];refine zB7 ?_;refine qd (.slice (some ⟨g,(i+1)*5,none⟩) (tot-(i+1)) (cap-(i+1))) zA0 zA0 (λW hW _=>⟨W,?_,Rel.refl _ W⟩) ?_
    ·go_simp;rw[hw1.out,Int.toNat_natCast,if_pos zO,if_neg zO]
    refine zB7 ?_;refine qd (.slice (some ⟨g,j*5,none⟩) r (cap-j)) zA0 zA0 (λW hW _=>⟨W,?_,Rel.refl _ W⟩) ?_
    ·go_simp
     first|exact λh=>absurd h zO|rw[hrj.out,if_pos zO]
    refine zB7 ?_;refine qD (hK _ _ λV hV hF=>?_);clear hF hK;have hV:Ext w2 V:=hV;refine zC4 ?_;have hVg:=qb hp2.out hV;have hc2:=hHH.out V hVg;have hc3:=hXW.out V hVg;have hfn:=zH (hFX.out V hV);clear hHH hFX hXW hVg;generalize World.setRow (World.setRow V _ _) _ _=wf at*;generalize World.setRow V _ _=wm at*;go_wp2_with (simp only[hc2]);refine Qn ?_;have hnt3:=wSA.out;go_wp2_with (simp only[hc3]);go_ret;exact hfn.out
set_option maxRecDepth 100000 in
theorem qfq(lo:Nat)(s:Value)(xs:List Value)(v:Value)(lov:Nat)(vs:List Value)(w:World)(ho:w.ownsRow lo 51 5 s 1 xs)(hv:w.ownsRow lov 51 5 v 1 vs)(h1v:∀u∈vs,u.oneCell'=true)(hlo:lo<=w.heap.size):Calls prog 119 #[s,.int .i64 0,.int .i64 1,v] w (vL lo s 1 vs w):=by
 obtain⟨i0,hi0,hz0,hz1,hz2⟩:=info_parts Tryz.info_item;have hvl:=hv.1;obtain⟨vg,vcap,vcur,rfl,wSO,hvg,hvc,hvm,hvs,hvt⟩:∃g cap cur,v=.slice (some ⟨g,0,none⟩) 1 cap/\lov<=g/\w.heap[g]?=some (.cells cur 51 (0,0))/\1<=cap/\cap<=maxLen/\cur.size=cap*5/\cur.toList.take (1*5)=vs:=by
  rcases hv.2 with⟨_,h0⟩|h
  ·omega
  ·exact h
 obtain⟨g,cap,cur,rfl,hHR,hg,hnc,hcm,hcs,hct⟩:∃g cap cur,s=.slice (some ⟨g,0,none⟩) 1 cap/\lo<=g/\w.heap[g]?=some (.cells cur 51 (0,0))/\1<=cap/\cap<=maxLen/\cur.size=cap*5/\cur.toList.take (1*5)=xs:=by
  rcases ho.2 with⟨_,h0⟩|h
  ·omega
  ·exact h
 have hKR:=Ux hv;have hgl:=(zG.1 hg).1;have hEQ:∀ty,(Builtin.append_ #[55,55] ty #[.slice (some ⟨g,0,none⟩) 0 cap,.slice (some ⟨vg,0,none⟩) 1 vcap]).run prog w=.ok (.slice (some ⟨g,0,none⟩) 1 cap) (w.setRow g (spl cur 0 vs)):=λty=>by have h0:=run_append_room (P:=prog) w 55 ty 51 i0 underlying55 hi0 g 0 cap cur hg ⟨vg,0,none⟩ 1 vcap vs (by rw[hz1];exact hvl) hKR h1v zO (by rw[hz1,hvl,hcs];omega);rw[hz1]at h0;exact h0
 have hF:vL lo (.slice (some ⟨g,0,none⟩) 1 cap) 1 vs w (.returned (.slice (some ⟨g,0,none⟩) 1 cap)) (w.setRow g (spl cur 0 vs)):=by
  refine⟨_,rfl,RowI.own ⟨_,setRow_heap _ _ _ _ _ _ hg,?_,?_⟩ (by rw[hvl]) hHR hnc hcm,Qt (Below.refl _ _) hlo hHR _,λq hq hn=>setRow_other _ _ _ _ λe=>hn (by rw[e];rfl)⟩
  ·rw[QA (k:=1) hvl zO,hcs]
  ·have:=KI (o:=0) (A:=[]) (cur:=cur) zA3 hvl zO;simpa using this
 replace⟨hF,hcm,hvm⟩:=zH3 hF hcm hvm;have hb2:(1:Int)<=(cap:Int):=zO;have hc0:¬cap=0:=zO;have hc1:1<=cap:=hnc;clear hg hvg hct hvt hKR hcs hvs hvl hnc hvc ho hv;go_enter func119,ntmps119;go_wp2_with (at_builtin;refine qY ?_);refine Qm.go (Lib.wpList_append_run _ rfl _ _ _ _ rfl _ _ zE zE _ _ (hEQ _) ?_);clear hEQ;generalize hW2:w.setRow g _=W2 at*;clear hW2;go_wp2_with fail;go_ret;exact hF.out
theorem qfs(lo:Nat)(s:Value)(n i many:Nat)(xs:List Value)(p:Nat)(cs:Array Value)(w:World)(ho:w.ownsRow lo 51 5 s n xs)(hp:w.heap[p]?=some (.cells cs 51 (0,0)))(hcs:cs.size=5)(hm:many=1\/many=2)(hn:n<=99)(hj:i+many<=n)(h1x:∀u∈xs,u.oneCell'=true)(h1v:∀u∈cs.toList,u.oneCell'=true)(hlo:lo<=w.heap.size):Calls prog 119 #[s,.int .i64 (i:Int),.int .i64 ((i+many:Nat):Int),.slice (some ⟨p,0,none⟩) 1 1] w (vL lo s (n-many+1) (xs.take (i*5)++cs.toList++xs.drop ((i+many)*5)) w):=by
 have hv:w.ownsRow 0 51 5 (.slice (some ⟨p,0,none⟩) 1 1) 1 cs.toList:=⟨by rw[Array.length_toList];omega,.inr ⟨p,1,cs,rfl,Nat.zero_le _,hp,zM _,zA7,zO,List.take_of_length_le (by rw[Array.length_toList];omega)⟩⟩
 rcases Nat.lt_or_ge n 2 with h2|h2
 ·obtain rfl:many=1:=zO;obtain rfl:n=1:=zO;obtain rfl:i=0:=zO;have h0:xs.drop ((0+1)*5)=[]:=List.drop_eq_nil_of_le (by rw[ho.1];omega);rw[h0,Nat.zero_mul,List.take_zero,List.nil_append,List.append_nil];exact qfq lo s xs _ 0 cs.toList w ho hv h1v hlo
 ·have hsv:∀q,(Value.slice (some ⟨p,0,none⟩) 1 1).ownBlock=some q->s.ownBlock≠some q:=λq hq hs=>by
   obtain rfl:p=q:=by cases hq;rfl
   rcases ho.2 with⟨_,h0⟩|⟨g,cap,cur,rfl,-,hg,hc,-,hz,-⟩
   ·omega
   ·obtain rfl:g=p:=by cases hs;rfl
    rw[hg]at hp;simp only[Option.some.injEq,Obj.cells.injEq]at hp;rw[<-hp.1]at hcs;omega
  rcases hm with rfl|rfl
  ·exact qaN lo s n i 1 xs _ 1 0 cs.toList w ho hv hsv zO zO (.inr rfl) hj h1x h1v hlo
  ·exact qfr lo s n i xs _ 0 cs.toList w ho hv hsv zO hj h1x h1v hlo
section
variable {P:Program} {ops:Array Oper} {n l:Nat}
theorem qcS(HN:YO ops=true){Q:Exit->Act->World->Prop}{i:Nat}{a:Act}{w:World}{K K':Act->World->Prop}(hK:∀a w,K a w->K' a w)(h:wpOp P ops (QN Q) i K a w):wpOpIn (Fence.wide.inRound l) n P ops Q i K' a w:=by
 unfold wpOp at h;unfold wpOpIn;split
 ·exact hK _ _ (by simpa [*]using h)
 ·rename_i o ho;simp only[ho]at h;split
  ·rename_i hw;simp only[hw,if_true]at h;rcases h with h|⟨_,h⟩
   ·refine⟨λf _=>trivial,?_⟩;unfold Oper.wp at h;rw[Oper.semAt_eq _ _ _ (YP HN ho)];generalize(execOp a.eval o).run P w=r at*;cases r with
    |ok m w'=>
     cases m<;>simp only[Oper.upon]at h<;>simp only[Oper.uponIn]
     case value=>exact hK _ _ h
     case skip=>exact hK _ _ h
     case defer=>exact hK _ _ h
     case enter=>exact⟨λh=>(by cases h),CallsIn.inRound l (callsIn_wide.2 (Calls.mono h (λe w'' he=>by cases e<;>first|exact hK _ _ he|exact absurd he Jg|exact False.elim he)))⟩
     case row=>exact⟨λh=>(by cases h),λc cs _=>let ⟨v,w',r,s⟩:=h c cs;⟨v,w',hK _ _ r,stepsIn_wide.2 s⟩⟩
    |halt x w'=>cases x<;>simp only[Oper.upon]at h<;>exact False.elim h
   ·exact absurd h Jg
  ·rename_i hw;simp only[hw]at h;exact⟨λf _=>trivial,hK _ _ h⟩
theorem Yw(HN:YO ops=true){Q:Exit->Act->World->Prop}:∀(fuel:Nat)(listed:Array Bool)(a:Act)(w:World),wpAny P .any ops (QN Q) fuel listed a w->wpAnyIn (Fence.wide.inRound l) n P .any ops Q fuel listed a w
 |0,_,_,_,h=>⟨h.1,h.2⟩
 |fuel+1,listed,a,w,h=>⟨h.1,λi hi=>qcS HN (λa w h=>Yw HN fuel _ a w h) (h.2 i hi)⟩
end
theorem qhl{P:Program}{id n r:Nat}{l:List Oper}{Q:Exit->Act->World->Prop}{a:Act}{w:World}(hm:P.follows .mixedOrders=true)(HN:YO l.toArray=true)(h:wpAny P .any l.toArray (QN Q) l.length (Array.replicate l.length false) a w.drew):(Code.region id l.toArray true).wpIn (Fence.wide.inRound r) n P Q a w:=
 wpIn_region_any hm (Yw HN _ _ _ _ (by simpa using h))
set_option maxRecDepth 100000 in
theorem dway_any(A1 n1 c1 A2 n2 c2 A3 n3 c3 A4 n4 c4)(S:Sto)(hS:qm S=true)(a lvl:Nat)(xs:List It)(ha:8<=a)(ha2:a<256)(hn:qk S a=some ((lvl:Int),xs))(hsp:(qz S lvl xs).isSome=true)(k i o:Int)(h1t:(Vc S (k,i,o) lvl xs).isSome=true)(w:World)(hst:Qq w w.heap.size (.slice A1 n1 c1) (.slice A2 n2 c2) (.slice A3 n3 c3) (.slice A4 n4 c4) S):Calls prog 113 #[Qp A1 n1 c1 A2 n2 c2 A3 n3 c3 A4 n4 c4,.int .i64 (a:Int),UK k i o] w (zm (λu W=>Xp w.heap.size W u (jl S (k,i,o) lvl xs)) w):=by
 obtain⟨i0,hi,hz0,hz1,hz2⟩:=info_parts Tryz.info_dstep;obtain⟨full,hGH⟩:∃full,jl S (k,i,o) lvl xs=full:=⟨_,rfl⟩
 rw[hGH];have hl6:lvl<6:=by have:=zy hn;omega
 have HI0:=zH (λW=>(⟨⟨lvl,a,xs,[],none,0,rfl,rfl,ha,ha2,hn,hsp,hGH.symm,by simpa using hl6,jr.nil _ _ _,Below.refl _ _,h1t⟩⟩:WyI 163 (λh ys=>(Vc S (k,i,o) h ys).isSome=true) S (k,i,o) full W.heap.size W (.slice none 0 0) (.int .i64 (a:Int)) W));have HN:=zH (λ(r:Nat) W (hx:Ext w W)=>qen A1 n1 c1 A2 n2 c2 A3 n3 c3 A4 n4 c4 S (r:Int) W (hst.ext hx));replace⟨hS,hi⟩:=zH2 hS hi;clear hst hn hsp hGH ha ha2 hl6 h1t;go_enter func113,ntmps113;go_wp2_with fail;generalize hw1:(World.alloc (World.alloc w _) _)=w1;have x1:Ext w w1:=by rw[<-hw1];exact(zN _ _).trans (zN _ _)
 have rs1:w1.heap[w.heap.size]?=some (.cells #[.slice A1 n1 c1,.slice A2 n2 c2,.slice A3 n3 c3,.slice A4 n4 c4] 28 (0,0)):=by rw[<-hw1];exact(zK _ _ _ zA3).trans (zI _ _ _ rfl)
 have rk1:w1.heap[w.heap.size+1]?=some (.cells #[.int .u8 k,.int .u32 i,.int .u32 o] 49 (0,0)):=by rw[<-hw1];exact zI _ _ _ zA3
 have z1:w.heap.size<=w1.heap.size:=by rw[<-hw1];simp;omega
 clear hw1;have I0:=zH (HI0.out w1);clear HI0;go_wp2_with fail;go_loopw [6,7] (λv j wr=>WyI 163 (λh ys=>(Vc S (k,i,o) h ys).isSome=true) S (k,i,o) full w1.heap.size w1 v j wr) (λ_ j _=>vc S j)
 case atStart=>exact I0.out
 case round=>
  obtain⟨h,r,ys,pre,Av,cv,rfl,rfl,h8,h256,hn,hsp,hGH,hlen,hso,xr,h1t⟩:=hrel.ex;clear I0 hrel;have hlv:=VA hn;obtain⟨hm1,hm2,-⟩:=qF hn;have hyl:ys.length<=5:=by unfold Qj ZZ at hm1;simp at hm1;omega
  have hGA:0<h->0<ys.length:=λh0=>Vm hm1 h0;have xr1:Ext w1 wr:=xr;have HNr:=HN.out r wr (x1.trans xr1);rw[show Tu S (r:Int)=0 by rw[qeB hS.out h8 h256,if_neg (show ¬Jh S r=0 from λe=>by unfold qk at hn;rw[if_pos (show(S.now[r]?.getD 0).toNat=0 from e)]at hn;cases hn)],if_pos rfl,Int.toNat_natCast,hn]at HNr;have rsr:=qb rs1 xr1;have rkr:=qb rk1 xr1;have ksr:=qa rsr;replace⟨hsp,hn,hm2,hGH,hso,hlv⟩:=zH6 hsp hn hm2 hGH hso hlv;replace⟨hGA,h1t⟩:=zH2 hGA h1t;clear hm1;go_wp2_with fail;refine HNr.mono ?_;clear HNr;rintro e w4 ⟨u,rfl,⟨A9,c9,rfl,hBC⟩,hB⟩;have hB:Ext wr w4:=hB;have xx4:Ext w1 w4:=xr1.trans hB;have rk4:=qb rkr hB;have so4:=zH (hso.out.ext hB);have z4:w.heap.size+1<w4.heap.size:=(zG.1 rk4).1;have kk4:=qa rk4;have zwr:w1.heap.size<=wr.heap.size:=xr.size;have z4r:wr.heap.size<=w4.heap.size:=hB.size;replace hBC:=zH hBC;have wHV:Hid (∀q,(Value.slice Av pre.length cv).ownBlock=some q->q<wr.heap.size):=zH λq hq=>by obtain⟨ps,-,ho,-⟩:=hso.out;exact(QM ho q hq).2
  clear hB rsr rkr ksr hso xr xr1;go_wp2_with fail;generalize hw5:(World.alloc w4 _)=w5;have x45:Ext w4 w5:=by rw[<-hw5];exact zN _ _
  have rn5:w5.heap[w4.heap.size]?=some (.cells #[.int .i64 h,.slice A9 ys.length c9] 113 (0,0)):=by rw[<-hw5];exact zI _ _ _ rfl
  clear hw5;have rk5:=qb rk4 x45;have kn5:=qa rn5;have kk5:=qa rk5;clear kk4;go_wp2_with fail;refine(GR (h:Int) A9 c9 ys k i o _ w5 hyl (hBC.out.ext x45)).mono ?_;rintro e w6 ⟨rfl,hB⟩;have x56:Ext w4 w6:=x45.trans hB;have rn6:=qb rn5 hB;have kn6:=qa rn6;have hKN:=zH (hBC.out.ext x56);have xx6:Ext w1 w6:=xx4.trans x56;have so6:=zH (so4.out.ext x56);have z46:=x56.size;have z4':=xx4.size;clear rn5 x45 hB x56 rk4 rk5 kk5 kn5 xx4 hBC so4;obtain⟨ips,hIL,hsx⟩:=hKN.out.toE (X:=OwnL w1.heap.size (.slice Av pre.length cv)) (λq hq hx=>hx.elim (λh1=>by have:=wHV.out q h1;omega) λh1=>zO);replace⟨hsx,hIL⟩:=zH2 hsx hIL;have hA:=hKN.out.its.at_.2.2.2;clear hKN;obtain⟨ie,hie⟩:∃ie,VN ys (k,i,o)=ie:=⟨_,rfl⟩
  obtain⟨p,hp⟩:∃p,qA ys (k,i,o)=p:=⟨_,rfl⟩
  have hUZ:=Jm ys (k,i,o);rw[hie,hp];rw[hp]at hUZ;obtain⟨ps,e0,ho,hpp⟩:=so6.out;have hgr:∀W':World,w6.grownBy W' (Value.slice Av pre.length cv).ownBlock->qT (OwnL w1.heap.size (.slice Av pre.length cv)) w6 W':=λW' hg=>qT.of_heap λq hq hX=>hg.block q hq λe=>hX (.inl e.symm);replace hpp:=zH hpp;have hrn:Hid (∀W':World,w6.grownBy W' (Value.slice Av pre.length cv).ownBlock->W'.heap[w4.heap.size]?=some (.cells #[.int .i64 (h:Int),.slice A9 ys.length c9] 113 (0,0))):=zH λW' hg=>(hg.block _ (zG.1 rn6).1 λe=>by have:=wHV.out _ e.symm;omega).trans rn6;replace hgr:=zH hgr;clear so6;rcases Nat.eq_zero_or_pos h with h0|h0
  ·have hh1:((h:Int)==0)=true:=by rw[beq_iff_eq];omega
   have hh2:decide (h=0)=true:=decide_eq_true h0;have hf2:full=pre++[(0,ys,p)]:=by rw[hGH.out,h0,Ko,hp]
   subst h0;replace hf2:=zH hf2;clear hA hGA hie hp;go_wp2_with (at_builtin;refine qY ?_);refine Qm.go (zZ w6 rfl (.tmp 34) (.tmp 38) 160 rfl w1.heap.size 163 i0 _ 3 40 underlying160 hi.out hz0 hz1 hz2 rfl zA1 (.slice Av pre.length cv) pre.length (ZI ps) zE ho #[.int .i64 0,.slice A9 ys.length c9,.int .i64 (p:Int)] zE rfl zA8 zO zA1 xx6.size ?_);intro v' W' hCN hg hB hat;have hF:jr 163 w1.heap.size W' v' (pre++[(0,ys,p)]):=jr.push (s:=(0,ys,p)) xx6.size e0 hpp.out hIL.out hsx.out hCN hg hat;have hBW:Ext w W':=x1.trans (Below.trans xx6 hB);have knW:=qa (hrn.out W' hg);replace⟨hF,hBW⟩:=zH2 hF hBW;clear hCN hg hat hB;go_wp2_with fail;go_ret;exact⟨_,rfl,by rw[hf2.out];exact hF.out.toE.mono z1,hBW.out⟩
  ·have hh1:((h:Int)==0)=false:=by rw[beq_eq_false_iff_ne];omega
   have hh2:decide (h=0)=false:=decide_eq_false zO;obtain⟨h',hh⟩:∃h',h=h'+1:=⟨h-1,zO⟩
   obtain⟨j,hj⟩:∃j,Qy ys (k,i,o)=j:=⟨_,rfl⟩
   have hjl:j<ys.length:=by rw[<-hj];exact QT (hGA.out h0)
   obtain⟨b',e1,f8,f256,zs,e4,e5⟩:=QE (h:=h') (by rw[<-hh];exact QG hsp.out _ (List.getElem_mem hjl));have hfl:full=(pre++[(h,ys,j)])++jl S (k,i,o) h' zs:=by rw[hGH.out,hh,JK (by rw[hj];exact zL hjl) (by rw[e1,Int.toNat_natCast];exact e4),hj,List.append_assoc];rfl
   have hsd:=Tp (k:=(k,i,o)) (ZN hsp.out).2 (hGA.out h0) (by have:=h1t.out;rw[hh]at this;exact Tj this);have h1z:(Vc S (k,i,o) h' zs).isSome=true:=by
    have h1:=h1t.out;rw[hh]at h1
    rwa [XL hsd.1 (by simp only[hj,e1,Int.toNat_natCast];exact e4)]at h1
   have hip:=hsd.2;rw[hie,hp]at hip;clear hsd;have hms:vc S (.int .i64 (b':Int))<vc S (.int .i64 (r:Int)):=by rw[VA e4,hlv.out];omega
   obtain⟨b9,off,rfl,hb9⟩:=hA zO;have hBY:∀(v':Value)(W':World),w6.ownsRow w1.heap.size 163 3 (.slice Av pre.length cv) pre.length (ZI ps)->W'.ownsRow w1.heap.size 163 3 v' (pre.length+1) (ZI ps++[.int .i64 (h:Int),.slice (some ⟨b9,off,none⟩) ys.length c9,.int .i64 (j:Int)])->w6.grownBy W' (Value.slice Av pre.length cv).ownBlock->(v'.ownBlock=(Value.slice Av pre.length cv).ownBlock\/∃g,v'.ownBlock=some g/\w6.heap.size<=g)->Below w1.heap.size w6 W' ->
     WyI 163 (λh ys=>(Vc S (k,i,o) h ys).isSome=true) S (k,i,o) full w1.heap.size w1 v' (.int .i64 (b':Int)) W'/\vc S (.int .i64 (b':Int))<vc S (.int .i64 (r:Int)):=λv' W' _ hCN hg hat hB=>by
    obtain⟨A7,c7,rfl,-,-⟩:=qG hCN;have hF:jr 163 w1.heap.size W' (.slice A7 (pre.length+1) c7) (pre++[(h,ys,j)]):=jr.push (s:=(h,ys,j)) xx6.size e0 hpp.out hIL.out hsx.out hCN hg hat;exact⟨⟨h',b',zs,_,A7,c7,zA3,rfl,f8,f256,e4,e5,hfl,zA2,hF,Below.trans xx6 hB,h1z⟩,hms⟩
   have hit:∀W':World,w6.grownBy W' (Value.slice Av pre.length cv).ownBlock->W'.cell? ⟨b9,off+j*5+3,none⟩=some (.int .i64 (b':Int))/\W'.heap[w4.heap.size]?=some (.cells #[.int .i64 (h:Int),.slice (some ⟨b9,off,none⟩) ys.length c9] 113 (0,0)):=λW' hg=>by obtain⟨A',c',-,-,-,d3,-,-⟩:=(show Its W' W'.heap.size (.slice (some ⟨b9,off,none⟩) ys.length c9) ys by have:=hsx.out.its (hgr.out W' hg);rw[hIL.out]at this;exact this).item j hjl;rw[e1]at d3;refine⟨d3,(hg.block _ (zG.1 rn6).1 λe=>?_).trans rn6⟩;have:=wHV.out _ e.symm;omega
   replace⟨hBY,hit,hGA,hh⟩:=zH4 hBY hit hGA hh;clear hA hfl hms e4 e5 hsp hn hGH hlv hpp hgr h1z h1t;have hBU:(ie=true/\p=j)\/(ie=false/\(p:Int)-1=(j:Int)):=by
    unfold Qy at hj;rw[hie,hp]at hj;cases ie
    ·right;refine⟨rfl,?_⟩;simp only[Bool.false_eq_true,if_false]at hj;rcases hip with h|h
     ·cases h
     ·omega
    ·left;exact⟨rfl,by simpa using hj⟩
   clear hie hp hj hip;rcases hBU with⟨rfl,rfl⟩|⟨rfl,hmax⟩
   ·go_wp2_with (at_builtin;refine qY ?_);refine Qm.go (zZ w6 rfl (.tmp 34) (.tmp 38) 160 rfl w1.heap.size 163 i0 _ 3 40 underlying160 hi.out hz0 hz1 hz2 rfl zA1 (.slice Av pre.length cv) pre.length (ZI ps) zE ho #[.int .i64 (h:Int),.slice (some ⟨b9,off,none⟩) ys.length c9,.int .i64 (p:Int)] zE rfl zA8 zO zA1 xx6.size ?_);intro v' W' hCN hg hB hat;obtain⟨d3,rnW⟩:=hit.out W' hg;have knW:=qa rnW;have hF:=zH (hBY.out v' W' ho hCN hg hat hB);clear hBY hit hCN hg hat hB ho;go_wp2_with fail;exact hF.out
   ·go_wp2_with (at_builtin;refine qY ?_);refine Qm.go (zZ w6 rfl (.tmp 34) (.tmp 38) 160 rfl w1.heap.size 163 i0 _ 3 40 underlying160 hi.out hz0 hz1 hz2 rfl zA1 (.slice Av pre.length cv) pre.length (ZI ps) zE ho #[.int .i64 (h:Int),.slice (some ⟨b9,off,none⟩) ys.length c9,.int .i64 (j:Int)] zE rfl zA8 zO zA1 xx6.size ?_);intro v' W' hCN hg hB hat;obtain⟨d3,rnW⟩:=hit.out W' hg;have knW:=qa rnW;have hF:=zH (hBY.out v' W' ho hCN hg hat hB);clear hBY hit hCN hg hat hB ho;go_wp2_with fail;exact hF.out
set_option maxRecDepth 100000 in
theorem qkF(n:Nat)(hn:n<1024)(w:World):Calls prog 194 #[.slice none 0 0,.int .i64 (n:Int)] w (zm (λv w'=>w'.ownsRow w.heap.size 51 5 v 0 []) w):=by
 obtain⟨i0,hi,hz0,hz1,hz2⟩:=info_parts Tryz.info_item;by_cases h0:n=0
 ·subst h0;go_enter func194,ntmps194;go_wp2;go_ret;exact⟨_,rfl,World.ownsRow_nil _ _ _ _,Below.refl _ _⟩
 ·have hG:=grownCap_ge w n 0 51;have hGm:=grownCap_le_maxLen w n 0 51 zA7;have hrz:∀ty,(Builtin.append_ #[55,3] ty #[.slice none 0 0,.int .i64 (n:Int)]).run prog w =
    .ok (.slice (some ⟨w.heap.size,0,none⟩) n (grownCap w n 0 51)) (w.drew.alloc (.cells (([]:List Value).toArray++Builtin.zeroCells (Value.agg #[.int .u8 0,.int .u32 0,.int .u32 0,.int .i64 0,.slice none 0 0]).cells n++Builtin.zeroCells (Value.agg #[.int .u8 0,.int .u32 0,.int .u32 0,.int .i64 0,.slice none 0 0]).cells (grownCap w n 0 51-n)) 51)):=λty=>by
   have h:=Lib.run_append_grow_zeros (P:=prog) w 55 3 ty 51 i0 (.agg #[.int .u8 0,.int .u32 0,.int .u32 0,.int .i64 0,.slice none 0 0]) .i64 .i64 underlying55 underlying3 hi hz0 none 0 0 [] (run_firstCells_none w.drew i0.size 0 0 0) n zO zO zO zO (by rw[hz2];omega) (growslice_fits zO (by rw[hz2];omega));simpa using h
  obtain⟨G,hGe⟩:∃G,grownCap w n 0 51=G:=⟨_,rfl⟩
  rw[hGe]at hG hGm hrz;have hlen:∀q,(Builtin.zeroCells #[.int .u8 0,.int .u32 0,.int .u32 0,.int .i64 0,.slice none 0 0] q).size=q*5:=λq=>by rw[size_zeroCells];rfl
  unfold maxLen at hGm;have hGA:0<n:=zO;replace hlen:=zH hlen;clear hGe;go_enter func194,ntmps194;go_wp2_with (at_builtin;refine Lib.wpList_append_run _ rfl _ _ _ _ rfl _ _ rfl rfl _ _ (hrz _) ?_);go_ret;refine⟨_,rfl,?_,zA5⟩;refine(World.ownsRow_made w _ G (zM _) zA7 ?_).drew;rw[Array.size_append,hlen.out,hlen.out];omega
def GC(ls:List (List (It×Value)))(k:Nat):List (It×Value):=(ls.take k).flatten
set_option maxRecDepth 100000 in
theorem qgn(A c m)(vs:List Value)(ls:List (List (It×Value)))(hv:vs.length=m)(hl:ls.length=m)(w:World)(hr:Rd w w.heap.size 1 A m vs)(hb:∀(i:Nat)(v:Value)(l:List (It×Value)),vs[i]?=some v->ls[i]?=some l->∃A c,v=.slice A l.length c/\Rd w w.heap.size 5 A l.length (qC l))(ho:∀l∈ls,∀p∈l,∃A c,p.2=.slice A p.1.val.length c)(hn:m<1024)(hs:ls.flatten.length<1024):Calls prog 164 #[.slice A m c] w (zm (λv w'=>w'.ownsRow w.heap.size 51 5 v ls.flatten.length (qC ls.flatten)) w):=by
 obtain⟨i0,hi,hz0,hz1,hz2⟩:=info_parts Tryz.info_item;have hER:∀k,k<m->∃A c l,vs[k]?=some (.slice A l.length c)/\ls[k]?=some l/\Rd w w.heap.size 5 A l.length (qC l)/\∀u∈qC l,u.oneCell'=true:=λk hk=>by
  obtain⟨v,hv⟩:∃v,vs[k]?=some v:=⟨_,zL zO⟩
  obtain⟨l,hl'⟩:∃l,ls[k]?=some l:=⟨_,zL zO⟩
  obtain⟨A,c,rfl,h⟩:=hb k v l hv hl';exact⟨A,c,l,hv,hl',h,kX l λp hp=>by obtain⟨A,c,e⟩:=ho l (List.mem_of_getElem? hl') p hp;rw[e];rfl⟩
 have hQN:∀k,(GC ls k).length<=ls.flatten.length:=λk=>by
  unfold GC;conv=>rhs;rw[<-List.take_append_drop k ls]
  rw[List.flatten_append,List.length_append];omega
 have htk:∀(k:Nat)(l:List (It×Value)),ls[k]?=some l->GC ls (k+1)=GC ls k++l:=λk l h=>by unfold GC;rw[List.take_add_one,h];simp
 have HT:=zH htk;clear htk;have hCV:ls.flatten=GC ls m:=by unfold GC;rw[List.take_of_length_le zO]
 have h00:Hid ([]=GC ls 0):=by unfold GC;exact rfl
 rw[hCV]at hs hQN⊢;clear hCV hl hv hb ho;go_enter func164,ntmps164;go_wp2;go_loop [3,11] (λt i=>∃k:Nat,k<=m/\i=.int .i64 (k:Int)/\t=.int .i64 ((GC ls k).length:Int))
  (λ_ i=>m-(intOf i).toNat)
 case atStart=>exact⟨0,Nat.zero_le _,rfl,by rw[<-h00.out];rfl⟩
 case round=>
  obtain⟨k,hk,rfl,rfl⟩:=hrel;have h1:=hQN k;by_cases hlt:k<m
  ·obtain⟨A',c',l,hv,hl,hrl,-⟩:=hER k hlt;obtain⟨b,off,rfl,hbl,hc⟩:=hr.2 zO;have hAL:=hc k _ hv;have h2:=hQN (k+1);rw[HT.out k l hl,List.length_append]at h2;go_wp2;go_round
   case rel=>exact⟨k+1,zO,by go_num,by rw[HT.out k l hl,List.length_append];go_num⟩
   case measure=>simp[intOf];omega
  ·obtain rfl:k=m:=zO;clear h1;go_wp2_with fail;refine(qkF (GC ls k).length zO _).mono ?_;rintro e w1 ⟨v,rfl,hAE,hB⟩;go_wp2;go_loopw [6,27] (λv i wr=>∃j:Nat,j<=k/\i=.int .i64 (j:Int)/\wr.ownsRow w.heap.size 51 5 v (GC ls j).length (qC (GC ls j))/\Below w.heap.size w wr)
    (λ_ i _=>k-(intOf i).toNat)
   case atStart=>exact⟨0,Nat.zero_le _,rfl,by rw[<-h00.out];exact hAE,hB⟩
   case round=>
    clear hAE hB;obtain⟨j,hj,rfl,hAE,hB⟩:=hrel;by_cases hlt:j<k
    ·obtain⟨A',c',l,hv,hl,hrl,h1c⟩:=hER j hlt;obtain⟨b,off,rfl,hbl,hc⟩:=hr.2 zO;have hAL:=(hB.cell (p:=⟨b,off+j,none⟩) hbl).trans (hc j _ hv);have h1:=hQN j;have h2:=hQN (j+1);rw[HT.out j l hl,List.length_append]at h2;have HE:=zH (HT.out j l hl);go_wp2_with (at_builtin;refine qY ?_);refine Qm.go (Qw _ rfl (.tmp 31) (.tmp 32) 55 rfl w.heap.size 51 i0 (.agg #[.int .u8 0,.int .u32 0,.int .u32 0,.int .i64 0,.slice none 0 0]) 5 48 underlying55 hi hz0 hz1 hz2 rfl zA1 _ _ _ rfl hAE w.heap.size A' l.length c' (qC l) rfl (hrl.below hB) h1c zO zA1 hB.size ?_);intro v' w2 wKI _ hb1 _;go_wp2;go_roundw
     case rel=>exact⟨j+1,zO,by go_num,by rw[HE.out,List.length_append,Zk];exact wKI,hB.trans hb1⟩
     case measure=>simp[intOf];omega
    ·obtain rfl:j=k:=zO;go_wp2;go_ret;exact⟨_,rfl,hAE,hB⟩
end Go.Proofs.YtmeadnlmepcmbaaGreat
