/- Lemmas of the proof. -/
import Derived.Test.YtmeadnlmepcmbaaGreatZT20
set_option linter.all false
set_option maxHeartbeats 8000000
open Go.Proofs.Tryz
open Go.Value renaming slice→E,int→F,tuple→Ob
open Option renaming some→I,none→O
open Go.Obj renaming cells→J
open Go.IntKind renaming i64→M
open Go renaming Value→U,World→Jx
open Bool renaming true→Y,false→Oa
open Go.World renaming alloc→Z
open Go.Ending renaming returned→Oc
namespace Go.Proofs.YtmeadnlmepcmbaaGreat
open Go.RowKit
variable {l0 ls hs:List It}{S S':Sto}{w3 W C w:World}{sv_ v y0 x y1:Value}{pre:List Nat}{k':Option Nat}{D' X:Nat->Prop}{lps p1 p2 ps:List (It×Value)}{B9 n h f:Nat}{k:K3}{y:It}{cur:Array Value}{A vs:List Value}{P:Program}{l:List Oper}{Q:Exit->Act->World->Prop}{a:Act}{R:Ending->World->Prop}{ty:TypeId}
theorem qeC{l:List Stp}{B0 lo b g LB HB TB SB CB w2:Nat}{x0:U}(hg:jM (pre.map (sAt l)) l0 [] S=.ok (ls,hs,S'))(fO:qj S'=Y)(h5:ls.length<=5)(hm:lps.map (·.1)=ls)(hok:∀y∈ls,Zb y)(yE:hs=[]\/∃y,hs=[y]/\8<=y.r/\y.r<256)(ho:W.ownsRow B9 51 5 v n (qD lps))(hn:n=ls.length)(h9:B0+5<=B9)(hp:∀p∈lps,(∃A c,p.2=E A p.1.val.length c)/\∀C,qU (XD B0 b g LB HB k') W C->Bys C C.heap.size p.2 p.1.val)(rL:W.heap[LB]?=I (J #[x0] 55))(rH:W.heap[HB]?=I (J #[y0] 3))(bn:Bch D' B0 lo b g k' S' W)(r2:W.heap[B0+2]?=I (J #[E O 0 0,E O 0 0,E O 0 0,E O 0 0] 28))(r3:W.heap[B0+3]?=I (J #[F M 0] 3))(r4:W.heap[B0+4]?=I (J #[F M 0] 37))(rT:W.heap[TB]?=I (J #[.pointer b] 92))(rC:∃A c,W.heap[CB]?=I (J #[E A l.length c] 160))(rS:W.heap[SB]?=I (J #[sv_] 160))(kx:qU (λq=>q<w2) w3 W)(zL:B0+5<=LB)(zH:B0+5<=HB)(zL2:LB<lo)(zH2:HB<lo)(zL3:w3.heap.size<=LB)(zH3:w3.heap.size<=HB)(hC:C=(W.setCell LB v).setCell HB (F M (qhJ hs))):DelV l l0 S B0 lo b g LB HB TB SB CB w2 w3 sv_ pre C/\KeepsOthers W C/\(∀{w0:Jx},Below B0 w0 W->Below B0 w0 C)/\C.heap[SB]?=W.heap[SB]?/\∀q,q<w3.heap.size->C.heap[q]?=W.heap[q]?:=by
 obtain⟨t1,t2,t3,-,t5,t6⟩:=vR (C:=C) rL rH (qM rL rH zA1) hC;have rE:C.ownsRow B9 51 5 v n (qD lps):=QQ ho λq hq=>by obtain⟨cur,hc⟩:=ZD ho hq;exact t3 q (qM hc rL zA1) (qM hc rH zA1)
 obtain⟨A,c,e,-,-⟩:=qC rE;subst e;subst hn;have k2:qU (λq=>q=LB\/q=HB) W C:=qU.of_heap λq _ hX=>t3 q (λe=>hX (.inl e)) λe=>hX (.inr e);obtain⟨A3,c3,rC⟩:=rC;refine⟨⟨⟨ls,hs,S',k',D',A,c,lps,hg,fO,h5,hm,hok,yE,?_,t1,t2,bn.kept (t6 zO zO (Below.refl _ _)) λq h _=>t3 q zO zO⟩,(t3 _ zO zO).trans r2,(t3 _ zO zO).trans r3,(t3 _ zO zO).trans r4,(t3 _ (qM rT rL zA1) (qM rT rH zA1)).trans rT,⟨A3,c3,(t3 _ (qM rC rL zA1) (qM rC rH zA1)).trans rC⟩,(t3 _ (qM rS rL zA1) (qM rS rH zA1)).trans rS,kx.trans k2 λq hq hx=>zO⟩,t5,λh=>t6 zO zO h,t3 _ (qM rS rL zA1) (qM rS rH zA1),λq hq=>t3 q zO zO⟩;refine jD.of_own rE (by rw[<-hm,List.length_map]) (λq hq hX=>?_) λp h=>⟨(hp p h).1,λD hD=>(hp p h).2 D ((k2.mono λq _ hX=>?_).trans hD λ_ _ h=>h)⟩
 obtain⟨cur,hc⟩:=ZD ho hq;have hq6:=(Qn ho q hq).1;rcases hX with hX|hX|hX|hX
 omega;exact qM hc rL zA1 hX;exact qM hc rH zA1 hX;exact bn.notB3 hc zA1 zA1 zA1 hX;exact hX.elim (λh=>.inr (.inl h)) λh=>.inr (.inr (.inl h))
theorem TJ.split{D:Nat->Prop}{B lo b g:Nat}{k:Option Nat}{S:Sto}{lvl:Int}{its hs:List It}{w W:Jx}{e:Ending}(gu:∀x∈its,Zb x)(h5:its.length<=5)(yE:hs=[]\/∃y,hs=[y]/\8<=y.r/\y.r<256)(hS:qj S=Y)(h:TJ D B lo b g k S lvl its hs w e W):Qi lo b g k w W/\((∃er v:Int,Hid (Qy S lvl its hs=.error er)/\er≠0/\e=Oc (Ob #[v,er])) \/
  (∃(f:Nat)(S':Sto)(k':Option Nat)(D':Nat->Prop),Hid (Qy S lvl its hs=.ok ([jz (jy its) f],S'))/\(8<=f/\f<256)/\qj S'=Y/\e=Oc (Ob #[(f:Int),F M 0])/\Zs w k k'/\Yd w D D'/\Bch D' B lo b g k' S' W)):=by
 obtain⟨h1,h2⟩:=h;refine⟨h1,?_⟩;have hf:=Vg (S:=S) (lvl:=lvl) (hs:=hs) h5;rcases hb:Qy S lvl its hs with er|⟨up,S'⟩
 rw[hb]at h2;obtain⟨aH,v,e1⟩:=h2;exact .inl ⟨er,v,zH rfl,aH,e1⟩;rw[hb]at h2;obtain⟨e1,k',D',e2,e3,e4⟩:=h2;obtain⟨a1,-,a3⟩:=Kl gu (λx hx=>by
  rcases yE with rfl|⟨y,rfl,h8,h9⟩
  cases hx
  ·rw[List.mem_singleton.1 hx];omega) hS hb
 rw[hb]at hf;have:∃f:Nat,up=[jz (jy its) f]:=by split at hf;cases hf;split at hf;cases hf;cases hf;exact⟨_,rfl⟩
 obtain⟨f,rfl⟩:=this;obtain⟨-,a4,-⟩:=a3 _ (List.mem_singleton.2 rfl);have a5:8<=f/\f<256:=by unfold jz at a4;simp only at a4;omega
 exact .inr ⟨f,S',k',D',zH rfl,a5,a1,e1,e2,e3,e4⟩
theorem Xj:∀{l:List Nat}(t:List UInt8),(∀r∈l,r=0)->looseL l t=.ok t
 |[],t,_=>rfl
 |r::l,t,h=>by rw[h r List.mem_cons_self,jk];exact Xj t λr hr=>h r (List.mem_cons_of_mem _ hr)
theorem qkN{S1 S2:Sto}{all l:List It}(hI:DelI S h k all l hs S1)(e:Qy S1 (if l=[]then 0 else(h:Int)) l hs=.ok ([y],S2))(hy:y.r=(f:Int)):∃(H:Nat)(its:List It),H<=h/\qo S2 f=I ((H:Int),its)/\XG S2 H its:=by
 by_cases hl:l=[]
 subst hl;have hz:∀r∈qA hs,r=0:=λr hr=>Classical.byContradiction λh0=>by have h1:(qA hs).count r<=0:=hI.sub r h0;have h2:=List.count_pos_iff.2 hr;omega
 rw[if_pos rfl,Vg zA3]at e;rcases hm:Zg S1 0 []with er|⟨f',S'⟩
 rw[hm]at e;cases e;rw[hm]at e;simp only[Xj _ hz]at e;obtain⟨-,-,-,hn,-⟩:=YE (h:=0) hI.may zA3 zA0 hm;simp only[Except.ok.injEq,Prod.mk.injEq,List.cons.injEq,and_true]at e;obtain⟨rfl,rfl⟩:=e;obtain rfl:f'=f:=by unfold jz at hy;simp only at hy;omega
 exact⟨0,[],Nat.zero_le _,hn,trivial⟩;rw[if_neg hl]at e;obtain⟨-,-,h3,-⟩:=UH hI.may (λx hx=>(hI.ok x hx).1) hI.held hI.sub hl hI.span e;obtain⟨b,e1,-,-,zs,e4,e5⟩:=Qz (Qt h3 y zA3);obtain rfl:b=f:=zO;exact⟨h,zs,zM _,e4,qfW h e5⟩
def SzK(lo:Nat)(W W':Jx):Prop:=∀(q:Nat)(ty:TypeId)(cs:Array U),lo<=q->W.heap[q]?=I (J cs ty)->∃cs',W'.heap[q]?=I (J cs' ty)/\cs'.size=cs.size
def itz:List U:=[F .u8 0,F .u32 0,F .u32 0,F M 0,E O 0 0]
theorem qar{g k c:Nat}(hg:W.heap[g]?=I (J cur 51))(hf:k*5+5<=cur.size)(ty:TypeId):(Builtin.clear_ #[55] ty #[E (g,k*5) 1 c]).run prog W=.ok (Ob #[]) (W.setRow g (spl cur k itz)):=by
 obtain⟨i0,hi,aZ,aT,aX⟩:=info_parts Tryz.info_item;have aJ:=run_storeCells_at prog g (k*5) 51 itz 0 cur W hg (by simpa [itz]using hf) (by simp[itz,Value.oneCell']);rw[Nat.add_zero]at aJ;have hzc:(Builtin.zeroCells (Value.agg #[F .u8 0,F .u32 0,F .u32 0,F M 0,E O 0 0]).cells 1).toList=itz:=zQ;have e:∀l:List U,l=itz->(storeCells (g,k*5) l).run prog W=.ok () (W.setRow g (spl cur k itz)):=λl hl=>by rw[hl];exact aJ
 simp[Builtin.clear_,run_underlying underlying55,zeroValue,typeInfo,hi,aZ];rw[e _ hzc];rfl
theorem qdy{i m:Nat}(hA:cur.toList.take (i*5)=A)(hv:vs.length=m*5)(hn:i+m<=n)(hc:n*5+5<=cur.size):(spl (spl cur i vs) n itz).toList.take ((i+m)*5)=A++vs:=by
 have ha:(cur.toList.take (i*5)).length=i*5:=by rw[List.length_take,Array.length_toList];omega
 have e1:(spl cur i vs).toList=A++vs++cur.toList.drop (i*5+vs.length):=by unfold spl;rw[List.toList_toArray,hA]
 have hl:(A++vs).length=(i+m)*5:=by rw[List.length_append,<-hA,ha,hv];omega
 unfold spl at e1⊢;rw[List.toList_toArray,e1,List.append_assoc,List.take_append_of_le_length (by rw[List.length_take,List.length_append,hl];omega),List.take_take,Nat.min_eq_left (Nat.mul_le_mul_right 5 hn),<-hl];exact List.take_left
set_option maxRecDepth 100000 in
theorem qbB(lo:Nat)(s:U)(n i:Nat)(xs:List U)(w:Jx)(ho:w.ownsRow lo 51 5 s n xs)(hin:i<n)(hn:n<=100)(yY:∀u∈xs.drop ((i+1)*5),u.oneCell'=Y)(aQ:lo<=w):Calls prog 114 #[s,(i:Int),F M ((i+1:Nat):Int)] w (λe W=>vY lo s (n-1) (xs.take (i*5)++xs.drop ((i+1)*5)) w e W/\SzK lo w W):=by
 obtain⟨i0,lh,aZ,aT,aX⟩:=info_parts Tryz.info_item;have iG:=ho.1;obtain⟨g,cap,cur,rfl,dQ,hg,fQ,eP,ay,rQ⟩:∃g cap cur,s=E (I ⟨g,0,O⟩) n cap/\lo<=g/\w.heap[g]?=I (J cur 51)/\n<=cap/\cap<=maxLen/\cur.size=cap*5/\cur.toList.take (n*5)=xs:=by
  rcases ho.2 with⟨_,h0⟩|h
  omega;exact h
 obtain⟨j,fP⟩:∃j,j=i+1:=⟨_,rfl⟩
 obtain⟨r,hrE⟩:∃r,r=n-j:=⟨_,rfl⟩
 have hir:n-1=i+r:=zO;rw[<-fP]at yY;rw[<-fP,hir];have dV:(xs.drop (j*5)).length=r*5:=by rw[List.length_drop];omega
 have hA:cur.toList.take (i*5)=xs.take (i*5):=by rw[<-rQ,List.take_take,Nat.min_eq_left zO]
 have hgl:=(zG.1 hg).1;have uG:(spl cur i (xs.drop (j*5))).size=cap*5:=by rw[QE dV (by rw[ay];omega),ay]
 have sD:∀W,Ext w W->(∀(ad:Addr)c ty,(0<r->ad=⟨g,j*5,O⟩)->(Builtin.append_ #[55,55] ty #[E (I ⟨g,0,O⟩) i cap,E (I ad) r c]).run prog W=.ok (E (I ⟨g,0,O⟩) (i+r) cap) (W.setRow g (spl cur i (xs.drop (j*5))))) /\
   (∀c ty,(Builtin.clear_ #[55] ty #[E (I ⟨g,(i+r)*5,O⟩) 1 c]).run prog (W.setRow g (spl cur i (xs.drop (j*5))))=.ok (Ob #[]) ((W.setRow g (spl cur i (xs.drop (j*5)))).setRow g (spl (spl cur i (xs.drop (j*5))) (i+r) itz))) /\
   (vY lo (E (I ⟨g,0,O⟩) n cap) (i+r) (xs.take (i*5)++xs.drop (j*5)) w (Oc (E (I ⟨g,0,O⟩) (i+r) cap)) ((W.setRow g (spl cur i (xs.drop (j*5)))).setRow g (spl (spl cur i (xs.drop (j*5))) (i+r) itz))/\SzK lo w ((W.setRow g (spl cur i (xs.drop (j*5)))).setRow g (spl (spl cur i (xs.drop (j*5))) (i+r) itz))):=λW hW=>by
  have hgW:W.heap[g]?=I (J cur 51):=(Below.block hW g hgl).trans hg;have p2:(W.setRow g (spl cur i (xs.drop (j*5)))).heap[g]?=I (J (spl cur i (xs.drop (j*5))) 51 (0,0)):=setRow_heap _ _ _ _ _ _ hgW;refine⟨λad c ty had=>?_,λc ty=>qar p2 zO ty,?_⟩;have h0:=run_append_room (P:=prog) W 55 ty 51 i0 underlying55 lh g i cap cur hgW ad r c (xs.drop (j*5)) (by rw[aT];exact dV) (λq u hu=>by
   have hr0:0<r:=by have:=(List.getElem?_eq_some_iff.1 hu).1;omega
   rw[had hr0,Addr.add_lit,qa hgW,<-Array.getElem?_toList];rw[List.getElem?_drop,<-rQ,List.getElem?_take]at hu;split at hu;exact hu
   ·cases hu) yY zO (by rw[aT,dV,ay];omega)
  rw[aT]at h0;exact h0;have k2:∀q,q≠g->(W.setRow g (spl cur i (xs.drop (j*5)))).heap[q]?=W.heap[q]?:=λq hq=>setRow_other _ _ _ _ hq;have hlW:lo<=W:=Nat.le_trans aQ hW.size;have hs2:(spl (spl cur i (xs.drop (j*5))) (i+r) itz).size=cap*5:=by rw[QE (k:=1) rfl zO,uG]
  refine⟨?_,λq ty cs hq hc=>?_⟩;rotate_left;by_cases e:q=g;subst e;rw[hg]at hc;cases hc;exact⟨_,setRow_heap _ _ _ _ _ _ p2,hs2.trans ay.symm⟩;exact⟨cs,(setRow_other _ _ _ _ e).trans ((k2 q e).trans ((Below.block hW q (zG.1 hc).1).trans hc)),rfl⟩;refine⟨_,rfl,⟨by rw[List.length_append,List.length_take,dV];omega,.inr ⟨g,cap,_,rfl,dQ,setRow_heap _ _ _ _ _ _ p2,zO,eP,hs2,qdy hA dV (zM _) zO⟩⟩,Qv (Qv (Below.mono hW aQ) aQ dQ _) aQ dQ _,λq hq hq2=>(setRow_other _ _ _ _ (λe=>hq2 (by rw[e];rfl))).trans ((k2 q λe=>hq2 (by rw[e];rfl)).trans (Below.block hW q hq))⟩
 replace sD:=zH sD;have bg:(i:Int)<=(j:Int):=zO;have bP:(j:Int)<=(n:Int):=zO;have dC:(n:Int)<=(cap:Int):=zO;have lW:(i:Int)<=(cap:Int):=zO;have hb5:((i+r:Nat):Int)<=(n:Int):=zO;have hij:((i:Int)==(j:Int))=Oa:=by rw[beq_eq_false_iff_ne];omega
 have hij2:decide (i=j)=Oa:=decide_eq_false zO;have hir2:n-(i+r)=1:=zO;have hnj:n-j=r:=hrE.symm;have hci:¬cap-(i+r)=0:=zO;replace⟨hir,fP,hrE⟩:=zH3 hir fP hrE;clear ho yY dV hA rQ uG iG ay aZ aT aX lh aQ;by_cases hcj:cap=j
 ·subst hcj;have hcj2:cap-cap=0:=zO;go_enter func114,ntmps114;go_upto_region 5 with fail;refine qt zQ ?_;refine qY (w:=w) qm (qP []) (List.replicate 6 Y) 2 zQ zQ zQ zQ zQ zQ zQ ?st (Rel.drew _ _) ?walk
  case st=>exact qk (λ_ h=>by cases h)
  case walk=>intro K hK;dsimp only[qv,List.replicate];refine zB7 ?_;refine qB (hK _ _ λW hW hF=>?_);clear hF hK;obtain⟨h1,h2,h3⟩:=sD.out W hW;have h1:=λc ty=>h1 ⟨g,0,O⟩ c ty (λh=>absurd h (by have:=hrE.out;omega));replace h3:=zH h3;clear sD hW;refine zC4 ?_;go_wp2_with (at_builtin;refine qV ?_);refine Qm.go (Lib.wpList_append_run _ rfl _ _ _ _ rfl _ _ zE zE _ _ (h1 _ _) ?_);clear h1;generalize hW2:W.setRow g _=W2 at*;generalize hW3:W2.setRow g _=W3 at*;clear hW2 hW3;go_wp2_with fail;refine Qq ?_;go_wp2_with (simp only[h2]);go_ret;exact h3.out
 have hcj2:¬cap-j=0:=zO;go_enter func114,ntmps114;go_upto_region 5 with fail;refine qt zQ ?_;refine qY (w:=w) qm (qP []) (List.replicate 6 Y) 2 zQ zQ zQ zQ zQ zQ zQ ?st (Rel.drew _ _) ?walk
 case st=>exact qk (λ_ h=>by cases h)
 case walk=>intro K hK;dsimp only[qv,List.replicate];refine zB7 ?_;refine qB (hK _ _ λW hW hF=>?_);clear hF hK;obtain⟨h1,h2,h3⟩:=sD.out W hW;have h1:=λc ty=>h1 ⟨g,j*5,O⟩ c ty (λ_=>rfl);replace h3:=zH h3;clear sD hW;refine zC4 ?_;go_wp2_with (at_builtin;refine qV ?_);refine Qm.go (Lib.wpList_append_run _ rfl _ _ _ _ rfl _ _ zE zE _ _ (h1 _ _) ?_);clear h1;generalize hW2:W.setRow g _=W2 at*;generalize hW3:W2.setRow g _=W3 at*;clear hW2 hW3;go_wp2_with fail;refine Qq ?_;go_wp2_with (simp only[h2]);go_ret;exact h3.out
set_option maxRecDepth 100000 in
theorem qgt(lo:Nat)(s:U)(n i:Nat)(xs:List U)(v:U)(lov:Nat)(vs:List U)(w:Jx)(ho:w.ownsRow lo 51 5 s n xs)(hv:w.ownsRow lov 51 5 v 1 vs)(mJ:∀q,v.ownBlock=I q->s.ownBlock≠I q)(hn:n<=100)(hj:i+2<=n)(uY:∀u∈xs,u.oneCell'=Y)(og:∀u∈vs,u.oneCell'=Y)(aQ:lo<=w):Calls prog 119 #[s,(i:Int),F M ((i+2:Nat):Int),v] w (vY lo s (n-2+1) (xs.take (i*5)++vs++xs.drop ((i+2)*5)) w):=by
 obtain⟨i0,lh,aZ,aT,aX⟩:=info_parts Tryz.info_item;have ax:=hv.1;have iG:=ho.1;obtain⟨vg,vcap,vcur,rfl,hNV,hvg,hvc,yX,hvs,hvt⟩:∃g cap cur,v=E (I ⟨g,0,O⟩) 1 cap/\lov<=g/\w.heap[g]?=I (J cur 51)/\1<=cap/\cap<=maxLen/\cur.size=cap*5/\cur.toList.take (1*5)=vs:=by
  rcases hv.2 with⟨_,h0⟩|h
  omega;exact h
 obtain⟨g,cap,cur,rfl,dQ,hg,fQ,eP,ay,rQ⟩:∃g cap cur,s=E (I ⟨g,0,O⟩) n cap/\lo<=g/\w.heap[g]?=I (J cur 51)/\n<=cap/\cap<=maxLen/\cur.size=cap*5/\cur.toList.take (n*5)=xs:=by
  rcases ho.2 with⟨_,h0⟩|h
  omega;exact h
 have fC:=Gg hv;have hBX:vg≠g:=λe=>mJ vg rfl (by rw[e];rfl);have hgl:=(zG.1 hg).1;have hBY:=(zG.1 hvg).1;obtain⟨j,fP⟩:∃j,j=i+2:=⟨_,rfl⟩
 obtain⟨r,hrE⟩:∃r,r=n-j:=⟨_,rfl⟩
 rw[<-fP];have yT:n-2+1=i+1+r:=zO;rw[yT];have dV:(xs.drop (j*5)).length=r*5:=by rw[List.length_drop];omega
 have yY:∀u∈xs.drop (j*5),u.oneCell'=Y:=λu hu=>uY u (List.mem_of_mem_drop hu);have hA:cur.toList.take (i*5)=xs.take (i*5):=by rw[<-rQ,List.take_take,Nat.min_eq_left zO]
 have hsz:(Tryz.prog.info? 51).map (·.size)=I 5:=by rw[lh];simp[aT]
 have s1:(spl cur i vs).size=cap*5:=by rw[QE ax (by rw[ay];omega),ay]
 have s2:(spl (spl cur i vs) (i+1) (xs.drop (j*5))).size=cap*5:=by rw[QE dV (by rw[s1];omega),s1]
 have a2:(spl cur i vs).toList.take ((i+1)*5)=xs.take (i*5)++vs:=KY hA ax (by rw[ay];omega);have ni:(xs.take (i*5)++vs++xs.drop (j*5)).length=(i+1+r)*5:=by simp only[List.length_append,List.length_take,ax,dV];omega
 have lU:∀W:Jx,W.heap[vg]?=w.heap[vg]?->∀q u,vs[q]?=I u->W.cell? ((vg:Addr).add q)=I u:=λW hW q u hu=>by rw[World.cell?_of_block (w:=w) (by rw[Addr.add_lit];exact hW)];exact fC q u hu
 have fV:∀W:Jx,W.heap[g]?=I (J (spl cur i vs) 51)->∀q u,(xs.drop (j*5))[q]?=I u->W.cell? (((g,j*5):Addr).add q)=I u:=λW hW q u hu=>by
  rw[Addr.add_lit,qa hW,<-Array.getElem?_toList];have e:(spl cur i vs).toList=(cur.toList.take (i*5)++vs)++cur.toList.drop (i*5+vs.length):=by unfold spl;rw[List.toList_toArray]
  have hl:(cur.toList.take (i*5)++vs).length=(i+1)*5:=by rw[List.length_append,List.length_take,Array.length_toList];omega
  rw[List.getElem?_drop,<-rQ,List.getElem?_take]at hu;split at hu;rw[e,List.getElem?_append_right (by rw[hl];omega),hl,List.getElem?_drop,<-hu];congr 1;omega;cases hu
 have uu:∀(V:Jx)(cur':Array U),V.heap[g]?=I (J cur' 51)->cur'.size=cap*5->cur'.toList.take ((i+1+r)*5)=xs.take (i*5)++vs++xs.drop (j*5)->Below lo w V->(∀q,q<w.heap.size->q≠g->V.heap[q]?=w.heap[q]?)->vY lo (E g n cap) (i+1+r) (xs.take (i*5)++vs++xs.drop (j*5)) w (Oc (E g (i+1+r) cap)) V:=λV cur' h1 h2 h3 h4 h5=>
  ⟨_,rfl,RowI.own ⟨_,h1,h2,h3⟩ ni dQ zO eP,h4,λq hq hn=>h5 q hq λe=>hn (by rw[e];rfl)⟩
 have hij:((i:Int)==(j:Int))=Oa:=by rw[beq_eq_false_iff_ne];omega
 have hij2:decide (i=j)=Oa:=decide_eq_false zO;have bg:(i:Int)<=(j:Int):=zO;have bP:(j:Int)<=(cap:Int):=zO;have dC:(0:Int)<=(i:Int):=zO;have lW:i<=cap:=zO;have hci:¬(cap=i):=zO;have hji:j-i=2:=zO;replace⟨eP,yX,uu⟩:=zH3 eP yX uu;have hJ:=fP;replace fP:=zH fP;by_cases hr0:r=0
 ·subst hr0;have hjn:j=n:=zO;have hd0:xs.drop (j*5)=[]:=List.eq_nil_of_length_eq_zero zO;rw[hd0]at uu;rw[hd0];have e1:((j:Int)==(n:Int))=Y:=by rw[beq_iff_eq];omega
  have e2:decide (j=n)=Y:=decide_eq_true hjn;have e3:decide ((i:Int)+1<(n:Int))=Y:=decide_eq_true zO;have e4:decide (i+1<n)=Y:=decide_eq_true zO;have e5:i+1<n:=zO;have e6:n-(i+1)=1:=zO;have e7:(i:Int)+1<=(n:Int):=zO;have e8:¬(cap=i+1):=zO;have e9:(n:Int)<=(cap:Int):=zO;have bH:∀ty,(Builtin.append_ #[55,55] ty #[E g i cap,E vg 1 vcap]).run prog w=.ok (E g (i+1) cap) (w.setRow g (spl cur i vs)):=λty=>by have h0:=run_append_room (P:=prog) w 55 ty 51 i0 underlying55 lh g i cap cur hg ⟨vg,0,O⟩ 1 vcap vs (by rw[aT];exact ax) (lU w rfl) og zO (by rw[aT,ax,ay];omega);rw[aT]at h0;exact h0
  have p2:(w.setRow g (spl cur i vs)).heap[g]?=I (J (spl cur i vs) 51):=setRow_heap _ _ _ _ _ _ hg;have tC:=λc ty=>qar (k:=i+1) (c:=c) p2 (by rw[s1];omega) ty;have hF:=zH (uu.out _ (spl (spl cur i vs) (i+1) itz) (setRow_heap _ _ _ _ _ _ p2) (by rw[QE (k:=1) rfl (by rw[s1];omega),s1]) (by rw[List.append_nil];exact qdy hA ax (zM _) (by rw[ay];omega)) (Qv (Qv (Below.refl _ _) aQ dQ _) aQ dQ _) λq hq aH=>(setRow_other _ _ _ _ aH).trans (setRow_other _ _ _ _ aH));replace hJ:=trivial;replace hjn:=zH hjn;clear fV lU hg hvg rQ hvt fC ay hvs ax iG fQ hvc mJ ho hv uY uu hd0 p2 s1 s2 a2 hA yY dV ni yT hrE;go_enter func119,ntmps119;go_upto_region 2 with fail;clear bg bP hci hji;go_wp2_with (at_builtin;refine qV ?_);refine Qm.go (Lib.wpList_append_run _ rfl _ _ _ _ rfl _ _ zE zE _ _ (bH _) ?_);clear bH;generalize hW2:w.setRow g _=W2 at*;generalize hW3:W2.setRow g _=W3 at*;clear hW2 hW3;go_wp2_with (simp only[tC]);go_ret;exact hF.out
 have mW:j<n:=zO;obtain⟨tot,lS⟩:∃tot,tot=i+1+r:=⟨_,rfl⟩
 rw[<-lS]at uu ni⊢;have f1:((j:Int)==(n:Int))=Oa:=by rw[beq_eq_false_iff_ne];omega
 have f2:decide (j=n)=Oa:=decide_eq_false zO;have dm:∀W,Ext w W->∀ty,(Builtin.copy_ #[55,55] ty #[E (g,i*5) (tot-i) (cap-i),E vg 1 vcap]).run prog W=.ok (F M (1:Nat)) (W.setRow g (spl cur i vs)):=λW hW ty=>
  jV (k:=1) (o:=i) ((Below.block hW g hgl).trans hg) ax (by rw[ay];omega) underlying55 hsz zA9 (lU W (Below.block hW vg hBY)) og
 have p2:∀W,Ext w W->(W.setRow g (spl cur i vs)).heap[g]?=I (J (spl cur i vs) 51):=λW hW=>setRow_heap _ _ _ _ _ _ ((Below.block hW g hgl).trans hg);have dJ:∀V:Jx,V.heap[g]?=I (J (spl cur i vs) 51)->∀ty,(Builtin.copy_ #[55,55] ty #[E (g,(i+1)*5) (tot-(i+1)) (cap-(i+1)),E (g,j*5) r (cap-j)]).run prog V=.ok (F M ((r:Nat):Int)) (V.setRow g (spl (spl cur i vs) (i+1) (xs.drop (j*5)))):=λV hV ty=>
  jV (k:=r) (o:=i+1) hV dV (by rw[s1];omega) underlying55 hsz zA9 (fV V hV) yY
 have p3:∀V:Jx,V.heap[g]?=I (J (spl cur i vs) 51)->(V.setRow g (spl (spl cur i vs) (i+1) (xs.drop (j*5)))).heap[g]?=I (J (spl (spl cur i vs) (i+1) (xs.drop (j*5))) 51 (0,0)):=λV hV=>setRow_heap _ _ _ _ _ _ hV;have tC:∀V:Jx,V.heap[g]?=I (J (spl cur i vs) 51)->∀c ty,(Builtin.clear_ #[55] ty #[E (g,tot*5) 1 c]).run prog (V.setRow g (spl (spl cur i vs) (i+1) (xs.drop (j*5))))=.ok (Ob #[]) ((V.setRow g (spl (spl cur i vs) (i+1) (xs.drop (j*5)))).setRow g (spl (spl (spl cur i vs) (i+1) (xs.drop (j*5))) tot itz)):=λV hV c ty=>qar (p3 V hV) (by rw[s2];omega) ty;have aN:∀V W:Jx,Ext w W->Ext (W.setRow g (spl cur i vs)) V->vY lo (E g n cap) tot (xs.take (i*5)++vs++xs.drop (j*5)) w (Oc (E g tot cap)) ((V.setRow g (spl (spl cur i vs) (i+1) (xs.drop (j*5)))).setRow g (spl (spl (spl cur i vs) (i+1) (xs.drop (j*5))) tot itz)):=λV W hW hV=>by
  have hVg:=qb (p2 W hW) hV;have hlV:lo<=V:=by have:=hW.size;have:=hV.size;simp at this;omega
  refine uu.out _ (spl (spl (spl cur i vs) (i+1) (xs.drop (j*5))) tot itz) (setRow_heap _ _ _ _ _ _ (p3 V hVg)) (by rw[QE (k:=1) rfl (by rw[s2];omega),s2]) (by rw[lS];exact qdy a2 dV (zM _) (by rw[s1];omega)) (Qv (Qv ((Qv (Below.mono hW aQ) aQ dQ _).trans (Below.mono hV (by simpa using Nat.le_trans aQ hW.size))) aQ dQ _) aQ dQ _) λq hq aH=>(setRow_other _ _ _ _ aH).trans ((setRow_other _ _ _ _ aH).trans ((Below.block hV q (by have:=hW.size;simp;omega)).trans ((setRow_other _ _ _ _ aH).trans (Below.block hW q hq))))
 have aA:=zH (show IntKind.i64.wrap ((i:Int)+1)=((i+1:Nat):Int)by rw[IntKind.wrap_i64];omega);have cO:=zH (show IntKind.i64.wrap (((i+1:Nat):Int)+(r:Int))=((tot:Nat):Int)by rw[IntKind.wrap_i64];omega);have hnt:tot<=cap:=zO;have hct2:¬(cap<tot):=zO;have hti:i<=tot:=zO;have hle:decide ((i:Int)+1<=(j:Int))=Y:=decide_eq_true zO;have pY:i+1<=j:=zO;have hle3:(i:Int)+1<=(j:Int):=zO;have hcim:¬(cap=i+1):=zO;have hJX:¬(cap=tot):=zO;have hNG:n-tot=1:=zO;have htn:tot<=n:=zO;have mO:i+1<tot:=zO;have hrj:n-j=r:=hrE.symm;have hcj:¬(cap=j):=zO;replace⟨hNG,lS,hrE⟩:=zH3 hNG lS hrE;replace hJ:=trivial;replace yT:=trivial;replace⟨dm,dJ,tC,aN,p2⟩:=zH5 dm dJ tC aN p2;clear fV lU hg hvg rQ hvt fC ay hvs ax iG hvc mJ ho hv uY uu p3 s1 s2 a2 hA yY dV ni;go_enter func119,ntmps119;go_upto_region 2 with fail;go_upto_region 9 with fail;refine qt zQ ?_;refine qY (w:=w) qm (qP []) (List.replicate 13 Y) 0 zQ zQ zQ zQ zQ zQ zQ ?st (Rel.drew _ _) ?walk
 case st=>exact qk (λ_ h=>by cases h)
 case walk=>
  intro K hK;dsimp only[qv,List.replicate];refine zB7 ?_;refine qd (E (I ⟨g,j*5,O⟩) r (cap-j)) zA0 zA0 (λW hW _=>⟨W,?_,Rel.refl _ W⟩) ?_
  ·go_simp;exact λh=>absurd h zO
  refine zB7 ?_;refine qB (hK _ _ λW hW hF=>?_);clear hF hK;have hW:Ext w W:=hW;refine zC4 ?_;go_wp2;refine Qq ?_;rw[aA.out,cO.out];replace hrj:=zH hrj;have dP:=dm.out W hW;have fG:=zH (p2.out W hW);have ak:=zH (λV hV=>aN.out V W hW hV);clear dm aN p2 bP;generalize iF:W.setRow g _=w2 at*;clear iF hW;go_upto_region 18 with(simp only[dP])
  refine qt zQ ?_;refine qY (w:=w2) qm (qP []) (List.replicate 9 Y) 1 zQ zQ zQ zQ zQ zQ zQ ?st (Rel.drew _ _) ?walk
  case st=>exact qk (λ_ h=>by cases h)
  case walk=>
   intro K hK;dsimp only[qv,List.replicate];refine zB7 ?_;refine qd (E (I ⟨g,(i+1)*5,O⟩) (tot-(i+1)) (cap-(i+1))) zA0 zA0 (λW hW _=>⟨W,?_,Rel.refl _ W⟩) ?_
   ·go_simp;rw[aA.out,Int.toNat_natCast,if_pos zO,if_neg zO]
   refine zB7 ?_;refine qd (E (I ⟨g,j*5,O⟩) r (cap-j)) zA0 zA0 (λW hW _=>⟨W,?_,Rel.refl _ W⟩) ?_
   ·go_simp
    first|exact λh=>absurd h zO|rw[hrj.out,if_pos zO]
   refine zB7 ?_;refine qB (hK _ _ λV hV hF=>?_);clear hF hK;have hV:Ext w2 V:=hV;refine zC4 ?_;have hVg:=qb fG.out hV;have au:=dJ.out V hVg;have su:=tC.out V hVg;have tN:=zH (ak.out V hV);clear dJ ak tC hVg;generalize World.setRow (World.setRow V _ _) _ _=wf at*;generalize World.setRow V _ _=wm at*;go_wp2_with (simp only[au]);refine Qq ?_;have hnt3:=hNG.out;go_wp2_with (simp only[su]);go_ret;exact tN.out
set_option maxRecDepth 100000 in
theorem qgs(lo:Nat)(s:U)(xs:List U)(v:U)(lov:Nat)(vs:List U)(w:Jx)(ho:w.ownsRow lo 51 5 s 1 xs)(hv:w.ownsRow lov 51 5 v 1 vs)(og:∀u∈vs,u.oneCell'=Y)(aQ:lo<=w):Calls prog 119 #[s,F M 0,F M 1,v] w (vY lo s 1 vs w):=by
 obtain⟨i0,lh,aZ,aT,aX⟩:=info_parts Tryz.info_item;have ax:=hv.1;obtain⟨vg,vcap,vcur,rfl,hNV,hvg,hvc,yX,hvs,hvt⟩:∃g cap cur,v=E (I ⟨g,0,O⟩) 1 cap/\lov<=g/\w.heap[g]?=I (J cur 51)/\1<=cap/\cap<=maxLen/\cur.size=cap*5/\cur.toList.take (1*5)=vs:=by
  rcases hv.2 with⟨_,h0⟩|h
  omega;exact h
 obtain⟨g,cap,cur,rfl,dQ,hg,fQ,eP,ay,rQ⟩:∃g cap cur,s=E (I ⟨g,0,O⟩) 1 cap/\lo<=g/\w.heap[g]?=I (J cur 51)/\1<=cap/\cap<=maxLen/\cur.size=cap*5/\cur.toList.take (1*5)=xs:=by
  rcases ho.2 with⟨_,h0⟩|h
  omega;exact h
 have fC:=Gg hv;have hgl:=(zG.1 hg).1;have bH:∀ty,(Builtin.append_ #[55,55] ty #[E g 0 cap,E vg 1 vcap]).run prog w=.ok (E g 1 cap) (w.setRow g (spl cur 0 vs)):=λty=>by have h0:=run_append_room (P:=prog) w 55 ty 51 i0 underlying55 lh g 0 cap cur hg ⟨vg,0,O⟩ 1 vcap vs (by rw[aT];exact ax) fC og zO (by rw[aT,ax,ay];omega);rw[aT]at h0;exact h0
 have hF:vY lo (E g 1 cap) 1 vs w (Oc (E g 1 cap)) (w.setRow g (spl cur 0 vs)):=by refine⟨_,rfl,RowI.own ⟨_,setRow_heap _ _ _ _ _ _ hg,?_,?_⟩ (by rw[ax]) dQ fQ eP,Qv (Below.refl _ _) aQ dQ _,λq hq hn=>setRow_other _ _ _ _ λe=>hn (by rw[e];rfl)⟩;rw[QE (k:=1) ax zO,ay];have:=KY (o:=0) (A:=[]) (cur:=cur) zA3 ax zO;simpa using this
 replace⟨hF,eP,yX⟩:=zH3 hF eP yX;have bP:(1:Int)<=(cap:Int):=zO;have dX:¬cap=0:=zO;have dP:1<=cap:=fQ;clear hg hvg rQ hvt fC ay hvs ax fQ hvc ho hv;go_enter func119,ntmps119;go_wp2_with (at_builtin;refine qV ?_);refine Qm.go (Lib.wpList_append_run _ rfl _ _ _ _ rfl _ _ zE zE _ _ (bH _) ?_);clear bH;generalize hW2:w.setRow g _=W2 at*;clear hW2;go_wp2_with fail;go_ret;exact hF.out
theorem qgu(lo:Nat)(s:U)(n i many:Nat)(xs:List U)(p:Nat)(cs:Array U)(w:Jx)(ho:w.ownsRow lo 51 5 s n xs)(hp:w.heap[p]?=I (J cs 51))(ay:cs.size=5)(hm:many=1\/many=2)(hn:n<=99)(hj:i+many<=n)(uY:∀u∈xs,u.oneCell'=Y)(og:∀u∈cs.toList,u.oneCell'=Y)(aQ:lo<=w):Calls prog 119 #[s,(i:Int),F M ((i+many:Nat):Int),E p 1 1] w (vY lo s (n-many+1) (xs.take (i*5)++cs.toList++xs.drop ((i+many)*5)) w):=by
 have hv:w.ownsRow 0 51 5 (E p 1 1) 1 cs.toList:=⟨by rw[Array.length_toList];omega,.inr ⟨p,1,cs,rfl,Nat.zero_le _,hp,zM _,zA7,zO,List.take_of_length_le (by rw[Array.length_toList];omega)⟩⟩
 rcases Nat.lt_or_ge n 2 with h2|h2
 obtain rfl:many=1:=zO;obtain rfl:n=1:=zO;obtain rfl:i=0:=zO;have h0:xs.drop ((0+1)*5)=[]:=List.drop_eq_nil_of_le (by rw[ho.1];omega);rw[h0,Nat.zero_mul,List.take_zero,List.nil_append,List.append_nil];exact qgs lo s xs _ 0 cs.toList w ho hv og aQ;have mJ:∀q,(Value.slice p 1 1).ownBlock=I q->s.ownBlock≠I q:=λq hq hs=>by
  obtain rfl:p=q:=by cases hq;rfl
  rcases ho.2 with⟨_,h0⟩|⟨g,cap,cur,rfl,-,hg,hc,-,hz,-⟩
  omega;obtain rfl:g=p:=by cases hs;rfl
  rw[hg]at hp;simp only[Option.some.injEq,Obj.cells.injEq]at hp;rw[<-hp.1]at ay;omega
 rcases hm with rfl|rfl
 exact qbz lo s n i 1 xs _ 1 0 cs.toList w ho hv mJ zO zO (.inr rfl) hj uY og aQ;exact qgt lo s n i xs _ 0 cs.toList w ho hv mJ zO hj uY og aQ
section
variable {P:Program} {ops:Array Oper} {n l:Nat}
theorem qdI(HN:Xm ops=Y){Q:Exit->Act->Jx->Prop}{i:Nat}{a:Act}{w:Jx}{K K':Act->Jx->Prop}(hK:∀a w,K a w->K' a w)(h:wpOp P ops (QN Q) i K a w):wpOpIn (Fence.wide.inRound l) n P ops Q i K' a w:=by
 unfold wpOp at h;unfold wpOpIn;split;exact hK _ _ (by simpa [*]using h);rename_i o ho;simp only[ho]at h;split
 ·rename_i hw;simp only[hw,if_true]at h;rcases h with h|⟨_,h⟩
  ·refine⟨λf _=>trivial,?_⟩;unfold Oper.wp at h;rw[Oper.semAt_eq _ _ _ (Xn HN ho)];generalize(execOp a.eval o).run P w=r at*;cases r with
   |ok m w'=>
    cases m<;>simp only[Oper.upon]at h<;>simp only[Oper.uponIn]
    case value=>exact hK _ _ h
    case skip=>exact hK _ _ h
    case defer=>exact hK _ _ h
    case enter=>exact⟨λh=>(by cases h),CallsIn.inRound l (callsIn_wide.2 (Calls.mono h (λe w'' he=>by cases e<;>first|exact hK _ _ he|exact absurd he Js|exact False.elim he)))⟩
    case row=>exact⟨λh=>(by cases h),λc cs _=>let ⟨v,w',r,s⟩:=h c cs;⟨v,w',hK _ _ r,stepsIn_wide.2 s⟩⟩
   |halt x w'=>cases x<;>simp only[Oper.upon]at h<;>exact False.elim h
  exact absurd h Js
 rename_i hw;simp only[hw]at h;exact⟨λf _=>trivial,hK _ _ h⟩
theorem YT(HN:Xm ops=Y){Q:Exit->Act->Jx->Prop}:∀(fuel:Nat)(listed:Array Bool)(a:Act)(w:Jx),wpAny P .any ops (QN Q) fuel listed a w->wpAnyIn (Fence.wide.inRound l) n P .any ops Q fuel listed a w
 |0,_,_,_,h=>⟨h.1,h.2⟩
 |fuel+1,listed,a,w,h=>⟨h.1,λi hi=>qdI HN (λa w h=>YT HN fuel _ a w h) (h.2 i hi)⟩
end
theorem qit{id n r:Nat}(hm:P.follows .mixedOrders=Y)(HN:Xm l.toArray=Y)(h:wpAny P .any l.toArray (QN Q) l.length (Array.replicate l.length Oa) a w.drew):(Code.region id l.toArray Y).wpIn (Fence.wide.inRound r) n P Q a w:=
 wpIn_region_any hm (YT HN _ _ _ _ (by simpa using h))
set_option maxRecDepth 100000 in
theorem dway_any(A1 n1 c1 A2 n2 c2 A3 n3 c3 A4 n4 c4)(S:Sto)(hS:qj S=Y)(a lvl:Nat)(xs:List It)(ha:8<=a)(bC:a<256)(hn:qo S a=I ((lvl:Int),xs))(aK:(qz S lvl xs).isSome=Y)(k i o:Int)(h1t:(Vm S (k,i,o) lvl xs).isSome=Y)(w:Jx)(aJ:Qh w w (E A1 n1 c1) (E A2 n2 c2) (E A3 n3 c3) (E A4 n4 c4) S):Calls prog 113 #[Qo A1 n1 c1 A2 n2 c2 A3 n3 c3 A4 n4 c4,(a:Int),Uh k i o] w (zZ (λu W=>XQ w W u (jJ S (k,i,o) lvl xs)) w):=by
 obtain⟨i0,hi,aZ,aT,aX⟩:=info_parts Tryz.info_dstep;obtain⟨full,dE⟩:∃full,jJ S (k,i,o) lvl xs=full:=⟨_,rfl⟩
 rw[dE];have hl6:lvl<6:=by have:=zY hn;omega
 have HI0:=zH (λW=>(⟨⟨lvl,a,xs,[],O,0,rfl,rfl,ha,bC,hn,aK,dE.symm,by simpa using hl6,jE.nil _ _ _,Below.refl _ _,h1t⟩⟩:WyI 163 (λh ys=>(Vm S (k,i,o) h ys).isSome=Y) S (k,i,o) full W.heap.size W (E O 0 0) (F M (a:Int)) W));have HN:=zH (λ(r:Nat) W (hx:Ext w W)=>TV A1 n1 c1 A2 n2 c2 A3 n3 c3 A4 n4 c4 S (r:Int) W (aJ.ext hx));replace⟨hS,hi⟩:=zH2 hS hi;clear aJ hn aK dE ha bC hl6 h1t;go_enter func113,ntmps113;go_wp2_with fail;generalize aA:(Z (Z w _) _)=w1;have x1:Ext w w1:=by rw[<-aA];exact(zN _ _).trans (zN _ _)
 have rs1:w1.heap[w.heap.size]?=I (J #[E A1 n1 c1,E A2 n2 c2,E A3 n3 c3,E A4 n4 c4] 28):=by rw[<-aA];exact(zK _ _ _ zA3).trans (zI _ _ _ rfl)
 have rk1:w1.heap[w.heap.size+1]?=I (J #[F .u8 k,F .u32 i,F .u32 o] 49):=aA▸zI _ _ _ zA3;have z1:w.heap.size<=w1:=by rw[<-aA];simp;omega
 clear aA;have I0:=zH (HI0.out w1);clear HI0;go_wp2_with fail;go_loopw [6,7] (λv j wr=>WyI 163 (λh ys=>(Vm S (k,i,o) h ys).isSome=Y) S (k,i,o) full w1.heap.size w1 v j wr) (λ_ j _=>vx S j)
 case atStart=>exact I0.out
 case round=>
  obtain⟨h,r,ys,pre,Av,cv,rfl,rfl,h8,h256,hn,aK,dE,hlen,hso,xr,h1t⟩:=hrel.ex;clear I0 hrel;have hlv:=VO hn;obtain⟨hm1,iR,-⟩:=qI hn;have ni:ys.length<=5:=by unfold Qj ZV at hm1;simp at hm1;omega
  have dA:0<h->0<ys.length:=λh0=>kF hm1 h0;have xr1:Ext w1 wr:=xr;have HNr:=HN.out r wr (x1.trans xr1);rw[show Jj S (r:Int)=0 by rw[TK hS.out h8 h256,if_neg (show ¬js S r=0 from λe=>by unfold qo at hn;rw[if_pos (show(S.now[r]?.getD 0).toNat=0 from e)]at hn;cases hn)],if_pos rfl,Int.toNat_natCast,hn]at HNr;have rsr:=qb rs1 xr1;have rkr:=qb rk1 xr1;have ksr:=qa rsr;replace⟨aK,hn,iR,dE,hso,hlv⟩:=zH6 aK hn iR dE hso hlv;replace⟨dA,h1t⟩:=zH2 dA h1t;clear hm1;go_wp2_with fail;refine HNr.mono ?_;clear HNr;rintro e w4 ⟨u,rfl,⟨A9,c9,rfl,aG⟩,hB⟩;have hB:Ext wr w4:=hB;have xx4:Ext w1 w4:=xr1.trans hB;have rk4:=qb rkr hB;have so4:=zH (hso.out.ext hB);have z4:w.heap.size+1<w4:=(zG.1 rk4).1;have kk4:=qa rk4;have zwr:w1.heap.size<=wr:=xr.size;have z4r:wr.heap.size<=w4:=hB.size;replace aG:=zH aG;have hBR:Hid (∀q,(Value.slice Av pre.length cv).ownBlock=I q->q<wr.heap.size):=zH λq hq=>by obtain⟨ps,-,ho,-⟩:=hso.out;exact(Qn ho q hq).2
  clear hB rsr rkr ksr hso xr xr1;go_wp2_with fail;generalize aS:(Z w4 _)=w5;have x45:Ext w4 w5:=aS▸zN _ _;have rn5:w5.heap[w4.heap.size]?=I (J #[h,E A9 ys.length c9] 113):=aS▸zI _ _ _ rfl;clear aS;have rk5:=qb rk4 x45;have kn5:=qa rn5;have kk5:=qa rk5;clear kk4;go_wp2_with fail;refine(qaH (h:Int) A9 c9 ys k i o _ w5 ni (aG.out.ext x45)).mono ?_;rintro e w6 ⟨rfl,hB⟩;have x56:Ext w4 w6:=x45.trans hB;have rn6:=qb rn5 hB;have kn6:=qa rn6;have fA:=zH (aG.out.ext x56);have xx6:Ext w1 w6:=xx4.trans x56;have so6:=zH (so4.out.ext x56);have z46:=x56.size;have z4':=xx4.size;clear rn5 x45 hB x56 rk4 rk5 kk5 kn5 xx4 aG so4;obtain⟨ips,dY,hsx⟩:=fA.out.toE (X:=OwnL w1.heap.size (E Av pre.length cv)) (λq hq hx=>hx.elim (λh1=>by have:=hBR.out q h1;omega) λh1=>zO);replace⟨hsx,dY⟩:=zH2 hsx dY;have hA:=fA.out.its.at_.2.2.2;clear fA;obtain⟨ie,dn⟩:∃ie,km ys (k,i,o)=ie:=⟨_,rfl⟩
  obtain⟨p,hp⟩:∃p,qF ys (k,i,o)=p:=⟨_,rfl⟩
  have oN:=JR ys (k,i,o);rw[dn,hp];rw[hp]at oN;obtain⟨ps,e0,ho,iH⟩:=so6.out;have bU:∀W':Jx,w6.grownBy W' (Value.slice Av pre.length cv).ownBlock->qU (OwnL w1 (E Av pre.length cv)) w6 W':=λW' hg=>qU.of_heap λq hq hX=>hg.block q hq λe=>hX (.inl e.symm);replace iH:=zH iH;have hrn:Hid (∀W':Jx,w6.grownBy W' (Value.slice Av pre.length cv).ownBlock->W'.heap[w4.heap.size]?=I (J #[(h:Int),E A9 ys.length c9] 113)):=zH λW' hg=>(hg.block _ (zG.1 rn6).1 λe=>by have:=hBR.out _ e.symm;omega).trans rn6;replace bU:=zH bU;clear so6;rcases Nat.eq_zero_or_pos h with h0|h0
  ·have hh1:((h:Int)==0)=Y:=by rw[beq_iff_eq];omega
   have hh2:decide (h=0)=Y:=decide_eq_true h0;have yD:full=pre++[(0,ys,p)]:=by rw[dE.out,h0,YR,hp]
   subst h0;replace yD:=zH yD;clear hA dA dn hp;go_wp2_with (at_builtin;refine qV ?_);refine Qm.go (Zh w6 rfl (.tmp 34) (.tmp 38) 160 rfl w1.heap.size 163 i0 _ 3 40 underlying160 hi.out aZ aT aX rfl zA1 (E Av pre.length cv) pre.length (ZU ps) zE ho #[F M 0,E A9 ys.length c9,F M (p:Int)] zE rfl zA8 zO zA1 xx6.size ?_);intro v' W' aU hg hB dO;have hF:jE 163 w1 W' v' (pre++[(0,ys,p)]):=jE.push (s:=(0,ys,p)) xx6.size e0 iH.out dY.out hsx.out aU hg dO;have xg:Ext w W':=x1.trans (Below.trans xx6 hB);have knW:=qa (hrn.out W' hg);replace⟨hF,xg⟩:=zH2 hF xg;clear aU hg dO hB;go_wp2_with fail;go_ret;exact⟨_,rfl,by rw[yD.out];exact hF.out.toE.mono z1,xg.out⟩
  have hh1:((h:Int)==0)=Oa:=by rw[beq_eq_false_iff_ne];omega
  have hh2:decide (h=0)=Oa:=decide_eq_false zO;obtain⟨h',hh⟩:∃h',h=h'+1:=⟨h-1,zO⟩
  obtain⟨j,hj⟩:∃j,QG ys (k,i,o)=j:=⟨_,rfl⟩
  have mW:j<ys.length:=hj▸zy (dA.out h0);obtain⟨b',e1,f8,f256,zs,e4,e5⟩:=Qz (h:=h') (by rw[<-hh];exact Qt aK.out _ (List.getElem_mem mW));have hfl:full=(pre++[(h,ys,j)])++jJ S (k,i,o) h' zs:=by rw[dE.out,hh,vX (by rw[hj];exact zL mW) (by rw[e1,Int.toNat_natCast];exact e4),hj,List.append_assoc];rfl
  have hsd:=Ua (k:=(k,i,o)) (jI aK.out).2 (dA.out h0) (by have:=h1t.out;rw[hh]at this;exact TQ this);have h1z:(Vm S (k,i,o) h' zs).isSome=Y:=by
   have h1:=h1t.out;rw[hh]at h1
   rwa [Tl hsd.1 (by simp only[hj,e1,Int.toNat_natCast];exact e4)]at h1
  have hip:=hsd.2;rw[dn,hp]at hip;clear hsd;have hms:vx S (b':Int)<vx S (r:Int):=by rw[VO e4,hlv.out];omega
  obtain⟨b9,off,rfl,hb9⟩:=hA zO;have aN:∀(v':U)(W':Jx),w6.ownsRow w1.heap.size 163 3 (E Av pre.length cv) pre.length (ZU ps)->W'.ownsRow w1.heap.size 163 3 v' (pre.length+1) (ZU ps++[F M (h:Int),E (I ⟨b9,off,O⟩) ys.length c9,F M (j:Int)])->w6.grownBy W' (Value.slice Av pre.length cv).ownBlock->(v'.ownBlock=(Value.slice Av pre.length cv).ownBlock\/∃g,v'.ownBlock=I g/\w6.heap.size<=g)->Below w1.heap.size w6 W' ->
    WyI 163 (λh ys=>(Vm S (k,i,o) h ys).isSome=Y) S (k,i,o) full w1.heap.size w1 v' (F M (b':Int)) W'/\vx S (F M (b':Int))<vx S (F M (r:Int)):=λv' W' _ aU hg dO hB=>by
   obtain⟨A7,c7,rfl,-,-⟩:=qC aU;have hF:jE 163 w1 W' (E A7 (pre.length+1) c7) (pre++[(h,ys,j)]):=jE.push (s:=(h,ys,j)) xx6.size e0 iH.out dY.out hsx.out aU hg dO;exact⟨⟨h',b',zs,_,A7,c7,zA3,rfl,f8,f256,e4,e5,hfl,zA2,hF,Below.trans xx6 hB,h1z⟩,hms⟩
  have hit:∀W':Jx,w6.grownBy W' (Value.slice Av pre.length cv).ownBlock->W'.cell? (b9,off+j*5+3)=I (F M (b':Int))/\W'.heap[w4.heap.size]?=I (J #[(h:Int),E (b9,off) ys.length c9] 113):=λW' hg=>by obtain⟨A',c',-,-,-,d3,-,-⟩:=(show Its W' W'.heap.size (E (I ⟨b9,off,O⟩) ys.length c9) ys by have:=hsx.out.its (bU.out W' hg);rw[dY.out]at this;exact this).item j mW;rw[e1]at d3;refine⟨d3,(hg.block _ (zG.1 rn6).1 λe=>?_).trans rn6⟩;have:=hBR.out _ e.symm;omega
  replace⟨aN,hit,dA,hh⟩:=zH4 aN hit dA hh;clear hA hfl hms e4 e5 aK hn dE hlv iH bU h1z h1t;have aI:(ie=Y/\p=j)\/(ie=Oa/\(p:Int)-1=(j:Int)):=by
   unfold QG at hj;rw[dn,hp]at hj;cases ie;right;refine⟨rfl,?_⟩;simp only[Bool.false_eq_true,if_false]at hj;rcases hip with h|h
   cases h;omega;left;exact⟨rfl,by simpa using hj⟩
  clear dn hp hj hip;rcases aI with⟨rfl,rfl⟩|⟨rfl,hmax⟩
  ·go_wp2_with (at_builtin;refine qV ?_);refine Qm.go (Zh w6 rfl (.tmp 34) (.tmp 38) 160 rfl w1.heap.size 163 i0 _ 3 40 underlying160 hi.out aZ aT aX rfl zA1 (E Av pre.length cv) pre.length (ZU ps) zE ho #[F M (h:Int),E (I ⟨b9,off,O⟩) ys.length c9,F M (p:Int)] zE rfl zA8 zO zA1 xx6.size ?_);intro v' W' aU hg hB dO;obtain⟨d3,rnW⟩:=hit.out W' hg;have knW:=qa rnW;have hF:=zH (aN.out v' W' ho aU hg dO hB);clear aN hit aU hg dO hB ho;go_wp2_with fail;exact hF.out
  go_wp2_with (at_builtin;refine qV ?_);refine Qm.go (Zh w6 rfl (.tmp 34) (.tmp 38) 160 rfl w1.heap.size 163 i0 _ 3 40 underlying160 hi.out aZ aT aX rfl zA1 (E Av pre.length cv) pre.length (ZU ps) zE ho #[F M (h:Int),E (I ⟨b9,off,O⟩) ys.length c9,F M (j:Int)] zE rfl zA8 zO zA1 xx6.size ?_);intro v' W' aU hg hB dO;obtain⟨d3,rnW⟩:=hit.out W' hg;have knW:=qa rnW;have hF:=zH (aN.out v' W' ho aU hg dO hB);clear aN hit aU hg dO hB ho;go_wp2_with fail;exact hF.out
set_option maxRecDepth 100000 in
theorem qlY(n:Nat)(hn:n<1024)(w:Jx):Calls prog 194 #[E O 0 0,(n:Int)] w (zZ (λv w'=>w'.ownsRow w 51 5 v 0 []) w):=by
 obtain⟨i0,hi,aZ,aT,aX⟩:=info_parts Tryz.info_item;by_cases h0:n=0
 ·subst h0;go_enter func194,ntmps194;go_wp2;go_ret;exact⟨_,rfl,World.ownsRow_nil _ _ _ _,Below.refl _ _⟩
 have hG:=grownCap_ge w n 0 51;have hGm:=grownCap_le_maxLen w n 0 51 zA7;have hrz:∀ty,(Builtin.append_ #[55,3] ty #[E O 0 0,F M (n:Int)]).run prog w =
   .ok (E (I ⟨w.heap.size,0,O⟩) n (grownCap w n 0 51)) (w.drew.alloc (J (([]:List U).toArray++Builtin.zeroCells (Value.agg #[F .u8 0,F .u32 0,F .u32 0,F M 0,E O 0 0]).cells n++Builtin.zeroCells (Value.agg #[F .u8 0,F .u32 0,F .u32 0,F M 0,E O 0 0]).cells (grownCap w n 0 51-n)) 51)):=λty=>by
  have h:=Lib.run_append_grow_zeros (P:=prog) w 55 3 ty 51 i0 (.agg #[F .u8 0,F .u32 0,F .u32 0,F M 0,E O 0 0]) M M underlying55 underlying3 hi aZ O 0 0 [] (run_firstCells_none w.drew i0.size 0 0 0) n zO zO zO zO (by rw[aX];omega) (growslice_fits zO (by rw[aX];omega));simpa using h
 obtain⟨G,hGe⟩:∃G,grownCap w n 0 51=G:=⟨_,rfl⟩
 rw[hGe]at hG hGm hrz;have hlen:∀q,(Builtin.zeroCells #[F .u8 0,F .u32 0,F .u32 0,F M 0,E O 0 0] q).size=q*5:=λq=>by rw[size_zeroCells];rfl
 unfold maxLen at hGm;have dA:0<n:=zO;replace hlen:=zH hlen;clear hGe;go_enter func194,ntmps194;go_wp2_with (at_builtin;refine Lib.wpList_append_run _ rfl _ _ _ _ rfl _ _ rfl rfl _ _ (hrz _) ?_);go_ret;refine⟨_,rfl,?_,zA5⟩;refine(World.ownsRow_made w _ G (zM _) zA7 ?_).drew;rw[Array.size_append,hlen.out,hlen.out];omega
def qaq(ls:List (List (It×U)))(k:Nat):List (It×U):=(ls.take k).flatten
set_option maxRecDepth 100000 in
theorem qhs(A c m)(vs:List U)(ls:List (List (It×U)))(hv:vs.length=m)(hl:ls.length=m)(w:Jx)(hr:Rd w w 1 A m vs)(hb:∀(i:Nat)(v:U)(l:List (It×U)),vs[i]?=v->ls[i]?=l->∃A c,v=E A l.length c/\Rd w w 5 A l.length (qD l))(ho:∀l∈ls,∀p∈l,∃A c,p.2=E A p.1.val.length c)(hn:m<1024)(hs:ls.flatten.length<1024):Calls prog 164 #[E A m c] w (zZ (λv w'=>w'.ownsRow w 51 5 v ls.flatten.length (qD ls.flatten)) w):=by
 obtain⟨i0,hi,aZ,aT,aX⟩:=info_parts Tryz.info_item;have bI:∀k,k<m->∃A c l,vs[k]?=I (E A l.length c)/\ls[k]?=I l/\Rd w w 5 A l.length (qD l)/\∀u∈qD l,u.oneCell'=Y:=λk hk=>by
  obtain⟨v,hv⟩:∃v,vs[k]?=I v:=⟨_,zL zO⟩
  obtain⟨l,xJ⟩:∃l,ls[k]?=I l:=⟨_,zL zO⟩
  obtain⟨A,c,rfl,h⟩:=hb k v l hv xJ;exact⟨A,c,l,hv,xJ,h,Kn l λp hp=>by obtain⟨A,c,e⟩:=ho l (List.mem_of_getElem? xJ) p hp;rw[e];rfl⟩
 have lQ:∀k,(qaq ls k).length<=ls.flatten.length:=λk=>by
  unfold qaq;conv=>rhs;rw[<-List.take_append_drop k ls]
  rw[List.flatten_append,List.length_append];omega
 have mM:∀(k:Nat)(l:List (It×U)),ls[k]?=l->qaq ls (k+1)=qaq ls k++l:=λk l h=>by unfold qaq;rw[List.take_add_one,h];simp
 have HT:=zH mM;clear mM;have aW:ls.flatten=qaq ls m:=by unfold qaq;rw[List.take_of_length_le zO]
 have h00:Hid ([]=qaq ls 0):=by unfold qaq;exact rfl
 rw[aW]at hs lQ⊢;clear aW hl hv hb ho;go_enter func164,ntmps164;go_wp2;go_loop [3,11] (λt i=>∃k:Nat,k<=m/\i=F M (k:Int)/\t=F M ((qaq ls k).length:Int))
  (λ_ i=>m-(intOf i).toNat)
 case atStart=>exact⟨0,Nat.zero_le _,rfl,by rw[<-h00.out];rfl⟩
 case round=>
  obtain⟨k,hk,rfl,rfl⟩:=hrel;have h1:=lQ k;by_cases hlt:k<m
  ·obtain⟨A',c',l,hv,hl,hrl,-⟩:=bI k hlt;obtain⟨b,off,rfl,cZ,hc⟩:=hr.2 zO;have aF:=hc k _ hv;have h2:=lQ (k+1);rw[HT.out k l hl,List.length_append]at h2;go_wp2;go_round
   case rel=>exact⟨k+1,zO,by go_num,by rw[HT.out k l hl,List.length_append];go_num⟩
   case measure=>simp[intOf];omega
  obtain rfl:k=m:=zO;clear h1;go_wp2_with fail;refine(qlY (qaq ls k).length zO _).mono ?_;rintro e w1 ⟨v,rfl,aB,hB⟩;go_wp2;go_loopw [6,27] (λv i wr=>∃j:Nat,j<=k/\i=F M (j:Int)/\wr.ownsRow w.heap.size 51 5 v (qaq ls j).length (qD (qaq ls j))/\Below w.heap.size w wr)
   (λ_ i _=>k-(intOf i).toNat)
  case atStart=>exact⟨0,Nat.zero_le _,rfl,by rw[<-h00.out];exact aB,hB⟩
  case round=>
   clear aB hB;obtain⟨j,hj,rfl,aB,hB⟩:=hrel;by_cases hlt:j<k
   ·obtain⟨A',c',l,hv,hl,hrl,h1c⟩:=bI j hlt;obtain⟨b,off,rfl,cZ,hc⟩:=hr.2 zO;have aF:=(hB.cell (p:=⟨b,off+j,O⟩) cZ).trans (hc j _ hv);have h1:=lQ j;have h2:=lQ (j+1);rw[HT.out j l hl,List.length_append]at h2;have HE:=zH (HT.out j l hl);go_wp2_with (at_builtin;refine qV ?_);refine Qm.go (QB _ rfl (.tmp 31) (.tmp 32) 55 rfl w.heap.size 51 i0 (.agg #[F .u8 0,F .u32 0,F .u32 0,F M 0,E O 0 0]) 5 48 underlying55 hi aZ aT aX rfl zA1 _ _ _ rfl aB w.heap.size A' l.length c' (qD l) rfl (hrl.below hB) h1c zO zA1 hB.size ?_);intro v' w2 hEV _ bg _;go_wp2;go_roundw
    case rel=>exact⟨j+1,zO,by go_num,by rw[HE.out,List.length_append,Zt];exact hEV,hB.trans bg⟩
    case measure=>simp[intOf];omega
   obtain rfl:j=k:=zO;go_wp2;go_ret;exact⟨_,rfl,aB,hB⟩
theorem TM{b:Nat}{y:U}(h6:a.tmps[6]?.getD undef=v)(h7:a.tmps[7]?.getD undef=.pointer b)(hd:a.defers=[])(aC:W.heap[b]?=I (J #[x,y] 170))(hR:R (Oc (Ob #[v,.agg #[x,y]])) W):bodyPost prog Tryz.f117 R .ret a W:=by refine bodyPost_ret (v:=Ob #[v,.agg #[x,y]]) ?_ hd hR;have k:=qa aC;simp[results,results117,go_sem,h6,h7,k]
theorem qmk(S:Sto)(xs:List It)(i:Nat):(ZW S xs i).length<=5:=by unfold ZW;split;exact Nat.zero_le _;split;exact Nat.zero_le _;rename_i h;exact(zY h).2.2
def qgM(X:Nat->Prop)(j:List It×Nat×Nat)(u:U)(W:Jx):Prop:=∃v jps,u=Ob #[v,.agg #[(j.2.1:Int),(j.2.2:Int)]]/\jD X W v jps/\jps.map (·.1)=j.1
theorem jD.two{v1 v2:U}(hB:Ext w W)(hX:∀q,X q->q<w.heap.size)(h1:jD X w v1 p1)(h2:jD X w v2 p2)(hn:n=(p1++p2).length)(ho:W.ownsRow w 51 5 v n (qD (p1++p2))):jD X W v (p1++p2):=by
 obtain⟨A,c,rfl,e1,e2⟩:=qC ho;subst hn;have hf:=ZK.of_own ho;refine⟨⟨A,c,rfl,e1,e2,λC hC=>(Rd.of_own ho).keepFrom zO (λa ha=>hf a _ _ (by rw[ha])) hC λq hq hx=>by have:=hX q hx;omega⟩,λp hp=>?_⟩;have hk:∀C,qU X W C->qU X w C:=λC hC=>(qU.of_ext (X:=X) hB).trans hC λ_ _ h=>h;rcases List.mem_append.1 hp with hp|hp
 exact⟨(h1.2 p hp).1,λC hC=>(h1.2 p hp).2 C (hk C hC)⟩;exact⟨(h2.2 p hp).1,λC hC=>(h2.2 p hp).2 C (hk C hC)⟩
theorem qbb(A1 n1 c1 A2 n2 c2)(p1 p2:List (It×U))(b:Nat)(h5:(p1++p2).length<1024)(w:Jx)(hr:w.heap[b]?=I (J #[E A1 n1 c1,E A2 n2 c2] 55))(h1:jD X w (E A1 n1 c1) p1)(h2:jD X w (E A2 n2 c2) p2):Calls prog 164 #[E b 2 2] w (zZ (λv w'=>w'.ownsRow w 51 5 v (p1++p2).length (qD (p1++p2))) w):=by
 have e:[p1,p2].flatten=p1++p2:=zA3;have H:=qhs (I ⟨b,0,O⟩) 2 2 [E A1 n1 c1,E A2 n2 c2] [p1,p2] rfl rfl w (Rd.row hr 2 rfl) (λi v l hv hl=>by
  rcases i with _|_|i
  simp at hv hl;subst hv;subst hl;obtain⟨⟨A,c,e,-,-,h⟩,-⟩:=h1;cases e;exact⟨_,_,rfl,h w (qU.refl _ _)⟩;simp at hv hl;subst hv;subst hl;obtain⟨⟨A,c,e,-,-,h⟩,-⟩:=h2;cases e;exact⟨_,_,rfl,h w (qU.refl _ _)⟩;simp at hv) (λl hl p hp=>by
  simp only[List.mem_cons,List.not_mem_nil,or_false]at hl;rcases hl with rfl|rfl
  exact(h1.2 p hp).1
  ·exact(h2.2 p hp).1) zA1 (by rw[e];exact h5)
 rwa [e]at H
def XU(X:Nat->Prop)(b q:Nat):Prop:=X q\/q=b
theorem Gr(hx:Ext w W)(r1:W.heap[w.heap.size+1]?=I (J #[y0,y1] ty))(x0 x1:U):(((W.setCell (w,1,0) x0).setCell (w,1,1) x1).heap[w.heap.size+1]?=I (J #[x0,x1] ty)/\Ext w ((W.setCell (w,1,0) x0).setCell (w,1,1) x1)):=
 ⟨qi (qi r1 0 x0) 1 x1,Below.setCell (Below.setCell hx (p:=⟨w.heap.size+1,0,O⟩) zA3 _) (p:=⟨w.heap.size+1,1,O⟩) zA3 _⟩
theorem qeN(W:Jx)(b:Nat)(x0 x1:U):qU (XU X b) W ((W.setCell b x0).setCell (b,1) x1):=
 (qU.set (X:=XU X b) (p:=⟨b,0,O⟩) (.inr rfl) x0).trans (qU.set (X:=XU X b) (p:=⟨b,1,O⟩) (.inr rfl) x1) λ_ _ h=>h
theorem jD.less{b:Nat}(h:jD (XU X b) w v ps):jD X w v ps:=h.trans (qU.refl _ _) λ_ _ h=>.inl h
theorem jD.more{b:Nat}(h:jD X w v ps)(hx:Ext w W)(hb:w.heap.size<=b):jD (XU X b) W v ps:=h.trans (qU.of_ext hx) λk hk hX=>by
 rcases hX with hX|rfl
 exact hX;omega
set_option maxRecDepth 100000 in
theorem qlL(D:Nat->Prop)(B lo b g:Nat)(k:Option Nat)(S:Sto)(hS:qj S=Y)(X:Nat->Prop)(lv:Int)(xs:List It)(p:Nat)(hp:p<xs.length)(hx5:xs.length<=5)(h8:∀y∈xs,8<=y.r/\y.r<256)(A9 c9)(l:List It)(hl5:l.length<=5)(Al:OA)(cl:Nat)(lps:List (It×U))(xK:lps.map (·.1)=l)(w:Jx)(h:Bch D B lo b g k S w)(hX:∀q,X q->q<w.heap.size)(ng:Its w w (E A9 xs.length c9) xs)(hl:jD X w (E Al l.length cl) lps):Calls prog 117 #[.pointer b,.agg #[F M lv,E A9 xs.length c9,F M (p:Int)],E Al l.length cl] w (zZ (qgM X (ZC S xs p l)) w):=by
 obtain⟨n,hn⟩:∃n,xs.length=n:=⟨_,rfl⟩
 obtain⟨m,hm⟩:∃m,l.length=m:=⟨_,rfl⟩
 have aI:(p+1=n/\p=0/\ZC S xs p l=(l,p,1))\/∃i,i<n/\(ZC S xs p l=if 5<(ZW S xs i).length+m then(l,p,1)else if i<p then(ZW S xs i++l,i,2) else(l++ZW S xs i,p,2))/\((p=i+1/\p+1=n)\/(i=p+1/\p+1≠n)):=by unfold ZC;rw[hn,hm];by_cases hc:p+1=n;rw[if_pos hc];by_cases h0:p=0;rw[if_pos h0];exact .inl ⟨hc,h0,rfl⟩;rw[if_neg h0];refine .inr ⟨p-1,zO,?_,.inl ⟨zO,hc⟩⟩;rw[if_pos (show p-1<p by omega)];rw[if_neg hc];refine .inr ⟨p+1,zO,?_,.inr ⟨rfl,hc⟩⟩;rw[if_neg (show ¬p+1<p by omega)]
 have hA:=ng.at_.2.2.2;have HN:Hid (∀W i (hi:i<xs.length),Ext w W->w.heap.size+1<W.heap.size->Calls prog 145 #[.pointer b,F M ((xs[i]'hi).r)] W (zZ (λu W'=>∃lv' A' c' yps e',u=Ob #[jW lv' A' (ZW S xs i).length c',F M e']/\jD (XU X (↑w+1)) W' (E A' (ZW S xs i).length c') yps/\yps.map (·.1)=ZW S xs i) W)):=zH λW i hi hW hWs=>by
  have hb:=h.ext hW;obtain⟨A1',n1',c1',A2',n2',c2',c3',A4',c4',iq,eQ⟩:=hb.sto;have hy:=h8 _ (List.getElem_mem hi);obtain⟨r,hr⟩:=Int.eq_ofNat_of_zero_le (show 0<=(xs[i]'hi).r by omega);have HB:=Ve lo b A1' n1' c1' A2' n2' c2' _ 256 c3' A4' 256 c4' S hS r zO zO W ⟨hb.size.1,iq,eQ⟩;rw[hr];refine HB.mono λe W' hq=>?_;obtain⟨u,rfl,hu,hB⟩:=hq;refine⟨u,rfl,?_,hB⟩;have hI:ZW S xs i=match qo S r with
   |none=>[]
   |some (_,ys)=>ys:=by
   unfold ZW;rw[zL zO];simp only[hr,Int.toNat_natCast];rfl
  rw[hI];rcases hq:qo S r with _|⟨l2,ys⟩
  rw[hq]at hu;obtain⟨e,-,rfl⟩:=hu;exact⟨0,O,0,[],e,rfl,⟨⟨O,0,rfl,zM _,zA7,λC _=>Rd.none_⟩,λp hp=>by cases hp⟩,rfl⟩;rw[hq]at hu;obtain⟨A',c',rfl,aG⟩:=hu;obtain⟨ips,e1,hE⟩:=aG.toE (X:=XU X (w.heap.size+1)) (λq hq hx=>by rcases hx with hx|hx;(have:=hX q hx;have:=hW.size;omega);omega);exact⟨l2,A',c',ips,0,rfl,hE,e1⟩
 have hlH:=zH hl;have hxH:=zH ng;have yM:=zH xK;have hXH:=zH hX;have hnH:=zH hn;have hmH:=zH hm;have hm5:m<=5:=zO;have hn5:n<=5:=zO;have hpn:p<n:=zO;obtain⟨j,hj⟩:∃j,ZC S xs p l=j:=⟨_,rfl⟩
 rw[hj]at aI;rw[hj,hn,hm];replace hj:=zH hj;clear h hl ng xK hX h8 hn hm hl5 hx5 hp hS;rcases aI with⟨hc,hp0,yI⟩|⟨i,hi,yI,aI⟩
 ·subst hp0;obtain rfl:n=1:=zO;have hQ:Hid (∀W,Ext w W->qgM X j (Ob #[E Al m cl,.agg #[F M ((0:Nat):Int),F M ((1:Nat):Int)]]) W):=zH λW hW=>⟨_,lps,by rw[yI],by rw[<-hmH.out];exact hlH.out.trans (qU.of_ext hW) λ_ _ h=>h,by rw[yI,yM.out]⟩
  clear HN hc yI;go_enter func117,ntmps117;go_wp2_with fail;generalize aP:Z (Z (Z w _) _) _=w3;have x3:Ext w w3:=by rw[<-aP];exact((zN _ _).trans (zN _ _)).trans (zN _ _)
  have r1:w3.heap[w.heap.size+1]?=I (J #[F M 0,F M 0] 170 (0,0)):=by rw[<-aP];exact(zK _ _ _ zA3).trans (zI _ _ _ zA3)
  have r2:w3.heap[w.heap.size+1+1]?=I (J #[F M 0,F M 1] 170 (0,0)):=aP▸zI _ _ _ zA3;have k1:=qa r1;have k2:=qa r2;have f1:=qe r1;have z1:=(zG.1 r1).1;have z2:=(zG.1 r2).1;clear aP;go_region;all_goals go_wp2_with fail
  obtain⟨r4,x4⟩:=Gr x3 r1 (F M 0) (F M 1);refine TM (b:=w.heap.size+1) rfl rfl rfl ?_ ⟨_,rfl,hQ.out _ (Below.drew x4),Below.drew x4⟩;exact r4
 have hw0:IntKind.i64.wrap (p:Int)=(p:Int):=by rw[IntKind.wrap_i64];omega
 have hilt:(i:Int)<(n:Int):=zO;have hineg:decide ((i:Int)<0)=Oa:=decide_eq_false zO;have hix:i<xs.length:=by rw[hnH.out];exact hi
 obtain⟨b9,off,rfl,hb9⟩:=hA zO;obtain⟨A',c',-,-,-,d3,-,-⟩:=hxH.out.item i hix;obtain⟨q0,hq0⟩:∃q0,ZW S xs i=q0:=⟨_,rfl⟩
 have HNi:=zH (λW (hW:Ext w W) hWs=>HN.out W i hix hW hWs);rw[hq0]at HNi yI;obtain⟨ri,hri⟩:∃ri,(xs[i]'hix).r=ri:=⟨_,rfl⟩
 rw[hri]at HNi d3;clear HN hri;have hq5:5<q0.length+m\/q0.length+m<=5:=zO;have hqm:q0.length<=5:=hq0▸qmk S xs i;replace yI:=zH yI;have d3W:∀W,Ext w W->W.cell? (b9,off+i*5+3)=I (F M ri):=λW hW=>Ext.cell hW d3;rcases aI with⟨eF,hc⟩|⟨eF,hc⟩
 case' inl=>
  have hpi1:(p:Int)-1=(i:Int):=zO;have hE1:((p:Int)+1==(n:Int))=Y:=by rw[beq_iff_eq];omega
  have hE3:(p:Int)+1=(n:Int):=zO
 case' inr=>
  have hpi1:(p:Int)+1=(i:Int):=zO;have hE1:((i:Int)==(n:Int))=Oa:=by rw[beq_eq_false_iff_ne];omega
  have mr:((p:Int)+1==(n:Int))=Oa:=by rw[beq_eq_false_iff_ne];omega
 all_goals
  replace⟨eF,hc⟩:=zH2 eF hc;go_enter func117,ntmps117;go_upto_region 7 with fail;generalize aP:Z (Z (Z w _) _) _=w3;have x3:Ext w w3:=by rw[<-aP];exact((zN _ _).trans (zN _ _)).trans (zN _ _)
  have r0:w3.heap[w.heap.size]?=I (J #[F M lv,E (b9,off) n c9,F M (p:Int)] 163 (0,0)):=by rw[<-aP];exact(zK _ _ _ zA2).trans ((zK _ _ _ zA3).trans (zI _ _ _ rfl))
  have r1:w3.heap[w.heap.size+1]?=I (J #[F M 0,F M 0] 170 (0,0)):=by rw[<-aP];exact(zK _ _ _ zA3).trans (zI _ _ _ zA3)
  have r2:w3.heap[w.heap.size+1+1]?=I (J #[F M (p:Int),F M 1] 170 (0,0)):=aP▸zI _ _ _ zA3;have k0:=qa r0;have dd3:=d3W w3 x3;clear aP;go_wp2_with fail;refine(HNi.out w3 x3 (by have:=(zG.1 r2).1;omega)).mono ?_;clear HNi;rintro e w4 ⟨u,rfl,⟨lv',A2,c2,yps,e2,rfl,hyE,ni⟩,hB⟩;have x34:Ext w3 w4:=hB;have x4:Ext w w4:=x3.trans x34;have r04:=qb r0 x34;have r14:=qb r1 x34;have r24:=qb r2 x34;replace hyE:=zH hyE;clear hB k0 r0 r1 r2 dd3 x34;have k04:=qa r04;rcases hq5 with h5|h5
  ·have hG1:decide ((q0.length:Int)+(m:Int)>5)=Y:=decide_eq_true zO;have hG2:decide ((5:Int)<(q0.length:Int)+(m:Int))=Y:=decide_eq_true zO;have hG3:(5:Int)<(q0.length:Int)+(m:Int):=zO;have hG4:decide (5<q0.length+m)=Y:=decide_eq_true h5;have fP:=yI.out;rw[if_pos h5]at fP;have hQ:Hid (∀W,Ext w W->qgM X j (Ob #[E Al m cl,.agg #[F M (p:Int),F M ((1:Nat):Int)]]) W):=zH λW hW=>⟨_,lps,by rw[fP],by rw[<-hmH.out];exact hlH.out.trans (qU.of_ext hW) λ_ _ h=>h,by rw[fP,yM.out]⟩
   replace⟨fP,h5⟩:=zH2 fP h5;clear hlH yI hyE;go_upto_region 9 with fail;generalize aS:Z w4 _=w5;have x45:Ext w4 w5:=aS▸zN _ _;have x5:Ext w w5:=x4.trans x45;have r15:=qb r14 x45;have r25:=qb r24 x45;have k1:=qa r15;have k2:=qa r25;have f1:=qe r15;have z1:=(zG.1 r15).1;have z2:=(zG.1 r25).1;clear aS k04 r04 r14 r24;go_region;all_goals go_wp2_with fail
   all_goals
    obtain⟨r6,x6⟩:=Gr x5 r15 (F M (p:Int)) (F M 1);refine TM (b:=w.heap.size+1) rfl rfl rfl ?_ ⟨_,rfl,hQ.out _ (Below.drew x6),Below.drew x6⟩;exact r6
  have hG1:decide ((q0.length:Int)+(m:Int)>5)=Oa:=decide_eq_false zO;have hG2:decide ((5:Int)<(q0.length:Int)+(m:Int))=Oa:=decide_eq_false zO;have hG3:¬(5:Int)<(q0.length:Int)+(m:Int):=zO;have hG4:decide (5<q0.length+m)=Oa:=decide_eq_false zO;have yI:=zH (yI.out.trans (if_neg (show ¬5<q0.length+m by omega)));replace h5:=zH h5;go_upto_region 10 with fail;generalize aS:Z w4 _=w5;have x45:Ext w4 w5:=aS▸zN _ _;have x5:Ext w w5:=x4.trans x45;have r05:=qb r04 x45;have r15:=qb r14 x45;have rn5:w5.heap[w4.heap.size]?=I (J #[F M lv',E A2 q0.length c2] 113 (0,0)):=aS▸zI _ _ _ rfl;have hlE:Hid (∀W,Ext w5 W->jD (XU X (↑w+1)) W (E Al m cl) lps):=zH λW hW=>by rw[<-hmH.out];exact hlH.out.more (x5.trans hW) zO
  have hFU:Hid (∀W,Ext w5 W->jD (XU X (↑w+1)) W (E A2 q0.length c2) yps):=zH λW hW=>hyE.out.trans (qU.of_ext (x45.trans hW)) λ_ _ h=>h;have hyl5:=zH ni;have xO:Hid (yps.length=q0.length/\lps.length=m):=zH ⟨by rw[<-ni,List.length_map],by rw[<-hmH.out,<-yM.out,List.length_map]⟩;have hX5:Hid (∀q,XU X (↑w+1) q->q<w5.heap.size):=zH λq hq=>by
   have h9:=(zG.1 r15).1;have h8:=x5.size;rcases hq with hq|rfl
   have:=hXH.out q hq;omega;omega
  clear aS r04 r14 r24 k04 hyE hlH ni x45
 rotate_left
 ·have hip:i<p:=by have:=eF.out;omega
  have lq:decide ((i:Int)<(p:Int))=Y:=decide_eq_true zO;have pX:decide (i<p)=Y:=decide_eq_true zO;have lu:(i:Int)<(p:Int):=zO;have fP:=zH (yI.out.trans (if_pos hip));have k05:=qa r05;have kn5:=qa rn5;replace hip:=zH hip;clear yI;go_wp2_with fail;generalize mg:Z w5 _=w6;have x56:Ext w5 w6:=mg▸zN _ _;have rl6:w6.heap[w5.heap.size]?=I (J #[E A2 q0.length c2,E Al m cl] 55 (0,0)):=mg▸zI _ _ _ rfl;have h1:=hFU.out w6 x56;have h2:=hlE.out w6 x56;have r06:=qb r05 x56;have r16:=qb r15 x56;have x6:Ext w w6:=x5.trans x56;have xP:(yps++lps).length=q0.length+m:=by rw[List.length_append,xO.out.1,xO.out.2]
  have hX6:∀q,XU X (↑w+1) q->q<w6.heap.size:=λq hq=>Nat.lt_of_lt_of_le (hX5.out q hq) x56.size;have HC:=zH (qbb A2 q0.length c2 Al m cl yps lps w5.heap.size (by have:=h5.out;omega) w6 rl6 h1 h2);replace⟨h1,h2,xP,hX6⟩:=zH4 h1 h2 xP hX6;clear mg hFU hlE x56 rl6 k05 kn5 rn5 r05 r15;refine HC.out.mono ?_;clear HC;rintro e w7 ⟨v,rfl,ho,hB⟩;have hE:=zH (jD.two hB hX6.out h1.out h2.out rfl ho);have x7:Ext w w7:=x6.trans hB;have r07:=qb r06 hB;have r17:=qb r16 hB;have k1:=qa r17;have f1:=qe r17;have z1:=(zG.1 r17).1;clear ho hB h1 h2 r06 r16;go_wp2_with fail;obtain⟨r8,x8⟩:=Gr x7 r17 (F M (i:Int)) (F M 2);have hQ:qgM X j (Ob #[v,.agg #[F M (i:Int),F M ((2:Nat):Int)]]) ((w7.setCell (w,1,0) (F M (i:Int))).setCell (w,1,1) (F M 2)):=⟨v,yps++lps,by rw[fP.out],(hE.out.trans (qeN _ _ _ _) λ_ _ h=>h).less,by rw[fP.out,List.map_append,hyl5.out,yM.out]⟩
  refine TM (b:=w.heap.size+1) rfl rfl rfl r8 ⟨_,rfl,hQ,x8⟩
 have hip:¬i<p:=by have:=eF.out;omega
 have lq:decide ((i:Int)<(p:Int))=Oa:=decide_eq_false zO;have pX:decide (i<p)=Oa:=decide_eq_false zO;have lu:¬(i:Int)<(p:Int):=zO;have fP:=zH (yI.out.trans (if_neg hip));have k05:=qa r05;replace hip:=zH hip;clear yI;go_upto_region 12 with fail;have g0:∀W,qm.r w5 W->∀i,W.cell? ⟨w,i,O⟩=#[F M lv,E (b9,off) n c9,F M (p:Int)][i]?:=λW h=>qa (qb r05 h);have gn:∀W,qm.r w5 W->∀i,W.cell? ⟨w4,i,O⟩=#[F M lv',E A2 q0.length c2][i]?:=λW h=>qa (qb rn5 h);have xP:(lps++yps).length=m+q0.length:=by rw[List.length_append,xO.out.1,xO.out.2]
 have hHC:Hid (∀W (b:Nat),Ext w5 W->W.heap[b]?=I (J #[E Al m cl,E A2 q0.length c2] 55 (0,0))->Calls prog 164 #[E b 2 2] W (zZ (λv w'=>w'.ownsRow W 51 5 v (m+q0.length) (qD (lps++yps))) W)):=zH λW b hW hr=>by
  have:=qbb Al m cl A2 q0.length c2 lps yps b (by have:=h5.out;omega) W hr (hlE.out W hW) (hFU.out W hW)
  rwa [xP]at this
 replace xP:=zH xP;have hl5:=zH (hlE.out w5 (Ext.refl _));have xU:=zH (hFU.out w5 (Ext.refl _));clear k05 hlE hFU rn5;refine qt zQ ?_;refine qY (w:=w5) qm (qP [(3,ju w5.heap.size 2 55 #[E Al m cl,E A2 q0.length c2]),(4,jB w5.heap.size (m+q0.length) (qD (lps++yps)))]) (List.replicate 9 Y) 1 zQ zQ zQ zQ zQ zQ zQ ?st (Rel.drew _ _) ?walk
 case st=>exact qk (by simp only[List.forall_mem_cons];exact⟨λp=>Qr (Jd _ _ _ _ p),ZX _ _ _,λ_ h=>by cases h⟩)
 case walk=>
  intro K hK;dsimp only[qv,List.replicate];refine zC8 ?_;refine qH (ju w5.heap.size 2 55 #[E Al m cl,E A2 q0.length c2]) zA0 zA0 (λW hW _=>?_) (λ(p3:Nat)=>?_)
  ·have hW:Ext w5 W:=hW;unfold Qs;go_simp;exact⟨W.heap.size,rfl,⟨zI _ _ _ rfl,hW.size⟩,zN _ _⟩
  refine zC8 ?_;refine qH (jB w5.heap.size (m+q0.length) (qD (lps++yps))) zA0 zA0 (λW hW hp=>?_) (λp4=>?_)
  ·have hW:Ext w5 W:=hW;obtain⟨f3,_⟩:W.heap[p3]?=I (J #[E Al m cl,E A2 q0.length c2] 55 (0,0))/\w5.heap.size<=p3:=(hp 3 zA1).1;refine Qk ?_ ((hHC.out W p3 hW f3).mono λe w' h=>?_)
   ·go_simp
   obtain⟨u,rfl,hu,hB⟩:=h;obtain⟨Ac,cc,rfl,_,_⟩:=qC hu;exact⟨(Ac,cc),rfl,QC hu hW.size,hB⟩
  obtain⟨Ac,cc⟩:=p4;refine zC8 ?_;refine qB (hK _ _ λW hW hF=>?_);have ho:W.ownsRow w5 51 5 (E Ac (m+q0.length) cc) (m+q0.length) (qD (lps++yps)):=(hF 4).1;clear hF hK g0 gn hHC;have hW:Ext w5 W:=hW;have hE:=zH (jD.two hW hX5.out hl5.out xU.out xP.out.symm ho);have x7:Ext w W:=x5.trans hW;have r17:=qb r15 hW;have k1:=qa r17;have f1:=qe r17;have z1:=(zG.1 r17).1;clear ho;refine zC4 ?_;go_wp2;refine Qq ?_;go_wp2_with fail;obtain⟨r8,x8⟩:=Gr x7 r17 (F M (p:Int)) (F M 2);have hQ:qgM X j (Ob #[E Ac (m+q0.length) cc,.agg #[F M (p:Int),F M ((2:Nat):Int)]]) ((W.setCell (w,1,0) (F M (p:Int))).setCell (w,1,1) (F M 2)):=⟨_,lps++yps,by rw[fP.out],(hE.out.trans (qeN _ _ _ _) λ_ _ h=>h).less,by rw[fP.out,List.map_append,hyl5.out,yM.out]⟩
  refine TM (b:=w.heap.size+1) rfl rfl rfl r8 ⟨_,rfl,hQ,x8⟩
end Go.Proofs.YtmeadnlmepcmbaaGreat
