/- Lemmas of the proof. -/
import Derived.Maps.Keyed
import Derived.Maps.OwnOps
import Derived.Test.YtmeadnlmepcmbaaGreatZT04
set_option linter.all false
set_option maxHeartbeats 8000000
open Go.Proofs.Tryz
open Option renaming some→E,none→I
open Go.Value renaming slice→F,pointer→O,int→X
open Bool renaming true→J,false→Ob
open Go renaming Value→U,World→Oa
open Go.IntKind renaming i64→Y
open Go.Obj renaming cells→Z
open Go.World renaming alloc→Jx
namespace Go.Proofs.YtmeadnlmepcmbaaGreat
open Go.RowKit Go.Shelf
attribute [local go_sem] Oper.semAt_some
variable {ws:List (Int×List UInt8)}{a:Int}{ps:List ((Int×List UInt8)×Value)}{k:Nat}{pre:List (Nat×W2)}{x:Nat×W2}{β:Type}
def kK:U->Sl
 |.slice A n c=>(A,n,c)
 |_=>(I,0,0)
theorem qbn:∀(d m:Nat),m+d=ws.length->(∀i,m<=i->(h:i<ws.length)->ws[i].1≠a)->jQ ws a=jQ (ws.take m) a:=by
 intro d;induction d with
 |zero=>intro m hm _;rw[show m=ws.length by omega,List.take_length]
 |succ d ih=>
  intro m hm h;rw[ih (m+1) zO (λi hi hl=>h i zO hl),KS zO,if_neg (h m (zM _) zO)]
theorem UD(us:List W2)(k j:Nat)(h:j<k):(UC us k)[j]?=E (us.length-1-j,us[us.length-1-j]?.getD w2z):=by unfold UC jb;rw[List.getElem?_map,List.getElem?_range h];rfl
theorem qlE(hk:k<=ps.length)(he:pre++[x]=UC (ps.map λp=>(p.1.1,kK p.2)) k)(hx:x.2.1=a)(hp:∀y∈pre,y.2.1≠a):∃p∈ps,x.2.2=kK p.2/\jQ (ps.map (·.1)) a=E p.1.2:=by
 have hl:pre.length+1=k:=by have:=congrArg List.length he;simpa [UC,jb]using this
 have hlen:(ps.map λp=>((p.1.1,kK p.2):W2)).length=ps.length:=zA3;have hxk:E x=E (ps.length-1-pre.length,(ps.map λp=>((p.1.1,kK p.2):W2))[ps.length-1-pre.length]?.getD w2z):=by rw[<-hlen,<-UD _ k pre.length zO,<-he];simp
 have hi:ps.length-1-pre.length<ps.length:=zO;simp only[Option.some.injEq]at hxk;rw[List.getElem?_map,zL hi]at hxk;refine⟨ps[ps.length-1-pre.length],List.getElem_mem _,by rw[hxk];rfl,?_⟩;have hSA:=qbn (ws:=ps.map (·.1)) (a:=a) pre.length (ps.length-1-pre.length+1) zA2 (λi h1 h2=>by
  have h2':i<ps.length:=by simpa using h2
  have hj:ps.length-1-i<pre.length:=zO;have hy:pre[ps.length-1-i]?=E (i,(ps.map λp=>((p.1.1,kK p.2):W2))[i]?.getD w2z):=by have h3:=UD (ps.map λp=>((p.1.1,kK p.2):W2)) k (ps.length-1-i) zO;rw[<-he,List.getElem?_append_left hj,hlen,show ps.length-1-(ps.length-1-i)=i by omega]at h3;exact h3
  have:=hp _ (List.mem_of_getElem? hy);rw[List.getElem?_map,zL h2']at this;simpa using this)
 rw[hSA,KS zA2];have wu:ps[ps.length-1-pre.length].1.1=a:=by rw[<-hx,hxk];rfl
 simp[wu]
theorem qlD(hp:∀y∈UC (ps.map λp=>((p.1.1,kK p.2):W2)) ps.length,y.2.1≠a):jQ (ps.map (·.1)) a=I:=by
 have hlen:(ps.map λp=>((p.1.1,kK p.2):W2)).length=ps.length:=zA3;rw[qbn (ws:=ps.map (·.1)) (a:=a) ps.length 0 zA3 (λi _ h2=>by
  have h2':i<ps.length:=by simpa using h2
  have h3:=UD (ps.map λp=>((p.1.1,kK p.2):W2)) ps.length (ps.length-1-i) zO;rw[hlen,show ps.length-1-(ps.length-1-i)=i by omega]at h3;have:=hp _ (List.mem_of_getElem? h3);rw[List.getElem?_map,zL h2']at this;simpa using this)]
 rfl
theorem QF(B b:Nat)(cs:Array U)(ty:TypeId):OwnFrom B (λ(_:β) W=>W.heap[b]?=E (Z cs ty)):=λ_ A _ row hs hg hr=>
 (hg.block b (zG.1 hs).1 (λe=>by obtain⟨_,o,ho,hc⟩:=hr b e.symm;rw[hs]at ho;cases ho;cases hc)).trans hs
theorem Xs(B:Nat)(p:β->Prop):OwnFrom B (λs _=>p s):=λ_ _ _ _ hs _ _=>hs
set_option maxRecDepth 100000 in
theorem qci(lo bb:Nat)(A1 n1 c1 A2 n2 c2 A3 n3 c3 A4 n4 c4)(S:Sto)(hS:qj S=J)(a:Nat)(ha:8<=a)(bC:a<256)(w:Oa)(h:OnB lo bb (F A1 n1 c1) (F A2 n2 c2) (F A3 n3 c3) (F A4 n4 c4) S w):Calls prog 145 #[O bb,(a:Int)] w (zZ (qaV w (qo S a)) w):=by
 obtain⟨lq,pX,lu,hl4⟩:=qZ hS;obtain⟨_,aC,aJ⟩:=h;obtain⟨wK,su,nU,hA3⟩:=aJ.now.at_;obtain⟨b3,o3,rfl,dC⟩:=hA3 zO;have aF:w.cell? (b3,o3+a)=E (X .u8 ((S.now[a]?.getD 0).toNat:Int)):=by obtain⟨A',c',e,_,_,hr⟩:=aJ.now;cases e;obtain⟨b',off',e,_,hc⟩:=hr.2 zO;cases e;exact hc a _ (by rw[List.getElem?_map,zL zO];rfl)
 obtain⟨eY,dP,hm1,hA1⟩:=aJ.bs.at_;obtain⟨b1,o1,rfl,bg⟩:=hA1 zO;obtain⟨A0,c0,xI,hAS⟩:=aJ.bs.get a zO;have hN:qo S a=if(S.now[a]?.getD 0).toNat=0 then I else QL (Ji S a):=rfl
 rw[hN];have HR:=zH (λv W (hv:Bys W W.heap.size v (Ji S a))=>qcX v (Ji S a) W hv);have iC:Ji S a=match jQ S.ws a with|some l=>l|none=>S.bs[a]:=by unfold Ji;rw[zL zO];rfl
 have hn3':n3=256:=by rw[wK,lu]
 have hNB:n1=256:=by rw[eY,lq]
 have cZ:bb<w:=(zG.1 aC).1;generalize S.bs[a]=l0 at*;generalize Ji S a=l at*;generalize(S.now[a]?.getD 0).toNat=nw at*;replace iC:=zH iC;obtain⟨ps,bM,⟨A2',c2',e2,aA,cO,aP⟩,hw4⟩:=aJ.ws;rw[<-bM]at iC e2 aA aP pX;clear hN wK eY hS aJ lq lu hl4 hA3 hA1 bM;subst hn3';subst hNB;simp only[Value.slice.injEq]at e2;obtain⟨rfl,aS,rfl⟩:=e2;rw[<-aS]at aA aP pX;replace aS:=zH aS;by_cases h0:nw=0
 ·rw[if_pos h0];refine(callsIn_wide (n:=3)).1 ?_;refine callsIn_of_wp_marks func145 rfl trivial ?_ rfl;simp only[ntmps145,List.size_toArray,List.length_cons,List.length_nil,Nat.reduceAdd,Nat.reduceSub,Array.replicate_succ,Array.replicate_zero,List.push_toArray,List.append_toArray,List.nil_append,List.cons_append];refine wpIn_wide.2 ?_;go_wp2;generalize aA:(Jx (Jx _ _) _)=w1;have x1:Ext w w1:=by rw[<-aA];exact(zN _ _).trans (zN _ _)
  have r1:w1.heap[w.heap.size]?=E (Z #[(a:Int)] 3):=by rw[<-aA];exact(zK _ _ _ zA3).trans (zI _ _ _ rfl)
  have q1:w1.heap[w.heap.size+1]?=E (Z #[X Y 0,F I 0 0] 113):=aA▸zI _ _ _ zA3;clear aA;have sK:=qb aC x1;have gB:∀W,qm.r w1 W->∀i,W.cell? ⟨bb,i,I⟩=#[F (b1,o1) 256 c1,F A2 n2 c2,F (b3,o3) 256 c3,F A4 n4 c4][i]?:=λW h=>qa (qb sK h);have gA:∀W,qm.r w1 W->W.cell? w=E (X Y (a:Int)):=λW h=>by rw[qa (qb r1 h)];rfl
  have gN:∀W,qm.r w1 W->W.cell? (b3,o3+a)=E (X .u8 (nw:Int)):=λW h=>Ext.cell (x1.trans h) aF;have ia:(a:Int)<256:=zO;refine qt zQ ?_;refine ji (w:=w1) qm (qP []) [J,J,J,J,J,J,J,J,J] 0 zQ zQ zQ zQ zQ zQ ?st (Rel.drew _ _) ?walk
  case st=>exact qk (λ_ h=>by cases h)
  case walk=>
   intro K hK;dsimp only[qv];refine zB7 ?_
   first
    |(refine qd (O (E ⟨b3,o3+a,I⟩)) zA0 zA0 (λW hW _=>⟨W,?_,Rel.refl _ W⟩) ?_
      ·go_simp;rw[IntWalk.i64_in (a:Int) zO,if_pos zO];simp
      simp only[Act.put,ql,qf,qc,qg,zA,zB,zC])
    |skip
   refine zB7 ?_;refine qB (hK _ _ λW hW hF=>?_);clear hF hK gB gA gN;have bZ:Ext w1 W:=hW;have x2:Ext w W:=x1.trans bZ;have q2:=qb q1 bZ;refine zB6 ?_;clear hW bZ x1 r1 q1 sK;have k2:=qa q2;have f2:=qe q2;go_wp2;refine Qq ?_;go_wp2;generalize ah:(World.setCell (World.setCell _ _ _) _ _)=wf;have rf:wf.heap[w.heap.size+1]?=E (Z #[X Y 0,F I 0 0] 113):=ah▸qi (qi q2 0 _) 1 _;have bf:Below w w wf:=ah▸Below.setCell (Below.setCell x2 (p:=⟨w.heap.size+1,0,I⟩) zA3 _) (p:=⟨w.heap.size+1,1,I⟩) zA3 _;have kf:=qa rf;refine⟨kE 8,?_,⟨_,rfl,⟨8,zA1,rfl⟩,bf⟩⟩;simp[results,results145,go_sem,kf]
 rw[if_neg h0];have hnw:((nw:Int)==0)=Ob:=by rw[beq_eq_false_iff_ne];omega
 refine(callsIn_wide (n:=3)).1 ?_;refine callsIn_of_wp_marks func145 rfl trivial ?_ rfl;simp only[ntmps145,List.size_toArray,List.length_cons,List.length_nil,Nat.reduceAdd,Nat.reduceSub,Array.replicate_succ,Array.replicate_zero,List.push_toArray,List.append_toArray,List.nil_append,List.cons_append];refine wpIn_wide.2 ?_;go_wp2;generalize aA:(Jx (Jx _ _) _)=w1;have x1:Ext w w1:=by rw[<-aA];exact(zN _ _).trans (zN _ _)
 have r1:w1.heap[w.heap.size]?=E (Z #[(a:Int)] 3):=by rw[<-aA];exact(zK _ _ _ zA3).trans (zI _ _ _ rfl)
 have q1:w1.heap[w.heap.size+1]?=E (Z #[X Y 0,F I 0 0] 113):=aA▸zI _ _ _ zA3;clear aA;have sK:=qb aC x1;have gB:∀W,qm.r w1 W->∀i,W.cell? ⟨bb,i,I⟩=#[F (b1,o1) 256 c1,F A2 n2 c2,F (b3,o3) 256 c3,F A4 n4 c4][i]?:=λW h=>qa (qb sK h);have gA:∀W,qm.r w1 W->W.cell? w=E (X Y (a:Int)):=λW h=>by rw[qa (qb r1 h)];rfl
 have gN:∀W,qm.r w1 W->W.cell? (b3,o3+a)=E (X .u8 (nw:Int)):=λW h=>Ext.cell (x1.trans h) aF;have ia:(a:Int)<256:=zO;refine qt zQ ?_;refine ji (w:=w1) qm (qP []) [J,J,J,J,J,J,J,J,J] 0 zQ zQ zQ zQ zQ zQ ?st (Rel.drew _ _) ?walk
 case st=>exact qk (λ_ h=>by cases h)
 case walk=>
  intro K hK;dsimp only[qv];refine zB7 ?_
  first
   |(refine qd (O (E ⟨b3,o3+a,I⟩)) zA0 zA0 (λW hW _=>⟨W,?_,Rel.refl _ W⟩) ?_
     ·go_simp;rw[IntWalk.i64_in (a:Int) zO,if_pos zO];simp
     simp only[Act.put,ql,qf,qc,qg,zA,zB,zC])
   |skip
  refine zB7 ?_;refine qB (hK _ _ λW hW hF=>?_);clear hF hK gB gA gN;have bZ:Ext w1 W:=hW;have x2:Ext w W:=x1.trans bZ;have r2:=qb r1 bZ;have q2:=qb q1 bZ;have hFI:=qb sK bZ;have s2:w.heap.size+1<W:=(zG.1 q2).1;refine zB6 ?_;clear hW bZ x1 r1 q1 sK;go_wp2;refine Qq ?_;go_wp2;have gB:∀W',qm.r W W'->∀i,W'.cell? ⟨bb,i,I⟩=#[F (b1,o1) 256 c1,F A2 n2 c2,F (b3,o3) 256 c3,F A4 n4 c4][i]?:=λW' h=>qa (qb hFI h);have gA:∀W',qm.r W W'->W'.cell? w=E (X Y (a:Int)):=λW' h=>by rw[qa (qb r2 h)];rfl
  have gN:∀W',qm.r W W'->W'.cell? (b1,o1+a)=E (F A0 l0.length c0):=λW' h=>Ext.cell (x2.trans h) xI;refine qt zQ ?_;refine ji (w:=W) qm (qP [(9,Ju W.heap.size 26 #[F I 0 0])]) [J,J,J,J,J,J,J,J,J,J] 1 zQ zQ zQ zQ zQ zQ ?st (Rel.drew _ _) ?walk
  case st=>exact qk (by simp only[List.forall_mem_cons];exact⟨λp=>Qr (jv _ _ _ p),λ_ h=>by cases h⟩)
  case walk=>
   intro K hK;dsimp only[qv];refine zB7 ?_
   first
    |(refine qd (O (E ⟨b1,o1+a,I⟩)) zA0 zA0 (λW hW _=>⟨W,?_,Rel.refl _ W⟩) ?_
      ·go_simp;rw[IntWalk.i64_in (a:Int) zO,if_pos zO];simp
      simp only[Act.put,ql,qf,qc,qg,zA,zB,zC])
    |skip
   refine zB7 ?_;refine qH (Ju W.heap.size 26 #[F I 0 0]) zA0 zA0 (λW' hW _=>?_) (λ(p9:Nat)=>?_)
   ·refine Jq ?_ (Below.size hW);go_simp
   simp only[Act.put,qf,qc,qg,zA,zB,zC];refine qB (hK _ _ λW3 hW hF=>?_);obtain⟨f9,aQ⟩:W3.heap[p9]?=E (Z #[F I 0 0] 26)/\W.heap.size<=p9:=(hF 9).1;clear hF hK gB gA gN;have bZ:Ext W W3:=hW;have r3:=qb r2 bZ;have q3:=qb q2 bZ;have hUO:=qb hFI bZ;have x3:Ext w W3:=x2.trans bZ;have k9:=qa f9;have h9:=qe f9;refine zB6 ?_;go_wp2;refine Qq ?_;have x4:Ext W (W3.setCell p9 (F A0 l0.length c0)):=Below.setCell bZ (p:=⟨p9,0,I⟩) aQ _;have f4:=qi f9 0 (F A0 l0.length c0);generalize hw4:(World.setCell W3 _ _)=w4 at*;have r4:=qb r2 x4;have q4:=qb q2 x4;have hFJ:=qb hFI x4;have xw4:Ext w w4:=x2.trans x4;have k4:=qa hFJ;clear hw4 k9 h9 f9 hW bZ r3 q3 hUO x3;go_wp2_with fail;refine(Um A2 n2 c2 w4).mono ?_;rintro e w5 ⟨rfl,rfl⟩;go_wp2;have hsz4:w.heap.size+1<w4:=(zG.1 q4).1;have hp4:p9<w4:=(zG.1 f4).1;have x5:Ext w4 (w4.alloc (Z #[F A2 n2 c2] 23)):=zN _ _;have iT:(ps.map λp=>((p.1.1,kK p.2):W2)).length=n2:=by rw[aS.out];simp
   have bz:ps.length=n2:=by rw[aS.out];simp
   obtain⟨b2,bP,hSW⟩:∃b2,b2<w.heap.size/\SW (w4.alloc (Z #[F A2 n2 c2] 23)) w4 b2 (F A2 n2 c2) (ps.map λp=>((p.1.1,kK p.2):W2)):=by
    have hDK:(w4.alloc (Z #[F A2 n2 c2] 23)).cell? w4=E (F A2 n2 c2):=by rw[qa (zI _ _ _ rfl)];rfl
    rcases Nat.eq_zero_or_pos n2 with hz|hz
    have:ps=[]:=List.eq_nil_of_length_eq_zero zO;exact⟨bb,cZ,hDK,.inl ⟨by rw[this];rfl,A2,c2,by rw[hz]⟩⟩;obtain⟨b2,o2,rfl,hlt,hc⟩:=aP.2 hz;refine⟨b2,hlt,hDK,.inr ⟨o2,c2,by rw[iT],λi hi=>?_⟩⟩;have fF:i<ps.length:=by simpa using hi
    obtain⟨g0,g1⟩:=Yt ps i fF;have hx:=xw4.trans x5;refine⟨?_,?_⟩;rw[Ext.cell hx (hc _ _ g0),List.getElem?_map,zL fF];rfl;obtain⟨⟨A',c',e'⟩,_⟩:=hw4 ps[i] (List.getElem_mem fF);rw[Nat.add_assoc,Ext.cell hx (hc _ _ g1),List.getElem?_map,zL fF];simp only[Option.map_some,Option.getD_some];rw[e'];rfl
   refine(wpIn_wide (n:=3)).1 ?_;refine wpIn_rangeFunc_ownH rfl zO (gf:=189) (lb:=#[O (E ⟨w4.heap.size,0,I⟩)]) rfl trivial (enters_of func189 zQ rfl)
    (qhb (3-1) zO w4.heap.size b2 _ _ (by rw[iT];omega) _ zA3 zA2 hSW) Qw.t (Qw.b zA3 zA2) (Below.refl _ _) (λ_=>rfl)
    (λpre W'=>((W'.heap[w.heap.size]?=E (Z #[X Y (a:Int)] 3 (0,0))/\W'.heap[w.heap.size+1]?=E (Z #[X Y 0,F I 0 0] 113 (0,0)))/\(W'.heap[p9]?=E (Z #[F A0 l0.length c0] 26 (0,0))/\W'.heap[w4.heap.size]?=E (Z #[F A2 n2 c2] 23 (0,0))))/\(Below w.heap.size w W'/\∀y∈pre,y.2.1≠(a:Int)))
    (λc pre W'=>((W'.heap[w.heap.size+1]?=E (Z #[X Y 0,F I 0 0] 113 (0,0)))/\∃pre' x,W'.heap[p9]?=E (Z #[sv x.2.2] 26 (0,0))/\c=.exit 0/\pre=pre'++[x]/\x.2.1=(a:Int)/\∀y∈pre',y.2.1≠(a:Int))/\Below w.heap.size w W')
    (OwnFrom.and (OwnFrom.and (OwnFrom.and (QF _ _ _ _) (QF _ _ _ _)) (OwnFrom.and (QF _ _ _ _) (QF _ _ _ _))) (OwnFrom.and (ownFrom_below (zM _) zA2) (Xs _ _)))
    (λc=>OwnFrom.and (OwnFrom.and (QF _ _ _ _) (λs A C row hs hg hr=>by obtain⟨pre',x,h1,h2⟩:=hs;exact⟨pre',x,QF (β:=Unit) _ _ _ _ () A C row h1 hg hr,h2⟩)) (ownFrom_below (zM _) zA2))
    ⟨⟨⟨qb r4 x5,qb q4 x5⟩,qb f4 x5,zI _ _ _ rfl⟩,xw4.trans x5,λy hy=>by cases hy⟩
    (λx a' W'=>∃t8,a'={tmps:=#[O (E ⟨bb,0,I⟩),X Y (a:Int),undef,O (E ⟨w.heap.size,0,I⟩),O (E ⟨w.heap.size+1,0,I⟩),X Y 0,O (E ⟨p9,0,I⟩),undef,O (E ⟨t8,0,I⟩),undef,undef,
      O (E ⟨bb,0,I⟩),O (E ⟨bb,0,I⟩),O (E ⟨bb,0,I⟩),O (E ⟨bb,2,I⟩),F (E ⟨b3,o3,I⟩) 256 c3,X Y (a:Int),O (E ⟨b3,o3+a,I⟩),X .u8 (nw:Int),.bool Ob,undef,
      O (E ⟨bb,0,I⟩),O (E ⟨bb,0,I⟩),O (E ⟨bb,0,I⟩),O (E ⟨bb,0,I⟩),O (E ⟨bb,0,I⟩),F (E ⟨b1,o1,I⟩) 256 c1,X Y (a:Int),O (E ⟨b1,o1+a,I⟩),F A0 l0.length c0,
      O (E ⟨bb,0,I⟩),O (E ⟨bb,0,I⟩),O (E ⟨bb,0,I⟩),O (E ⟨bb,0,I⟩),O (E ⟨bb,1,I⟩),F A2 n2 c2,.func (.func 189) #[] #[O (E ⟨w4.heap.size,0,I⟩)],
      X Y (x.1:Int),.agg #[X Y x.2.1,sv x.2.2],undef,undef,undef,undef,undef,undef,undef,undef,undef,undef,undef,undef,undef,undef,undef],defers:=[]}/\W'.heap[t8]?=E (Z #[X Y x.2.1,sv x.2.2] 142 (0,0)))
    (λx a' s A C row hs hg hr=>by obtain⟨t8,e,h⟩:=hs;exact⟨t8,e,QF (β:=Unit) _ _ _ _ () A C row h hg hr⟩) ?assign ?body ?done ?stop
   case assign=>
    rintro l' pre x W' K ⟨⟨⟨i1,i2⟩,i3,i6⟩,i4,i5⟩ hK
    gi_wp2
    have z1:=(zG.1 i1).1;have z2:=(zG.1 i2).1;have z3:=(zG.1 i3).1;have z6:=(zG.1 i6).1;have z4:=i4.size;refine hK _ _ ((KeepsOthers.alloc _ _).from _) ⟨zK _ _ _ z6,zK _ _ _ zO⟩ ⟨⟨⟨(zK _ _ _ z1).trans i1,(zK _ _ _ z2).trans i2⟩,(zK _ _ _ z3).trans i3,(zK _ _ _ z6).trans i6⟩,Below.alloc i4 z4 _,i5⟩ ⟨W'.heap.size,rfl,zI _ _ _ rfl⟩
   case body=>
    rintro l' pre x a' W' hl ⟨rr,hlp⟩ ⟨⟨⟨i1,i2⟩,i3,i6⟩,i4,i5⟩ ⟨t8,rfl,iw⟩ _;have k8:=qa iw;have k1:=qa i1;by_cases hq:x.2.1=(a:Int)
    ·have lK:(x.2.1==(a:Int))=J:=by rw[beq_iff_eq];exact hq
     have k9:=qa i3;have f9:=qe i3
     gi_wp2
     refine⟨(KeepsOthers.setCell _ _ _).from _,⟨(zJ _ _ _ _ zA2).trans i2,pre,x,qi i3 0 _,rfl,rfl,hq,i5⟩,Below.setCell i4 (p:=⟨p9,0,I⟩) zA2 _⟩
    have lK:(x.2.1==(a:Int))=Ob:=by rw[beq_eq_false_iff_ne];exact hq
    gi_wp2
    refine⟨KeepsFrom.refl _ _,Qw.refl _ _ _,⟨⟨i1,i2⟩,i3,i6⟩,i4,λy hy=>?_⟩;rcases List.mem_append.1 hy with h|h
    exact i5 y h;obtain rfl:y=x:=by simpa using h
    exact hq
   case done=>
    rintro D ys W' hD rfl ⟨⟨⟨i1,it4⟩,ip,_⟩,i4,i5⟩ hK;have hll:l=l0:=by rw[iC.out,qlD (by rw[List.length_map]at i5;exact i5)]
    have af:Bys W' W' (F A0 l0.length c0) l:=by rw[hll];exact(hAS.below i4).more i4.size
    clear hll;have x6:Below w w W':=i4;have hNR:=x6.size;have hD6:D<W':=(zG.1 hK).1;have hDw:w.heap.size+1<D:=by simp at hD;omega
    have kp:=qa ip;go_wp2_with fail;refine(HR.out _ _ af).mono ?_;rintro e w7 ⟨u7,rfl,hu7,hB⟩;have q7:=qb it4 hB;have d7:w7.heap[D]?=E (.deferred (E [])):=(hB.block D hD6).trans hK;have x7:Below w w w7:=Below.trans x6 (Below.mono hB hNR);have s7:w.heap.size+1<w7:=(zG.1 q7).1;have sD7:D<w7:=(zG.1 d7).1;have k7:=qa q7;have f7:=qe q7;clear kp HR af hB;rcases hQ:QL l with _|⟨lvl,xs⟩
    ·rw[hQ]at hu7;obtain⟨er,uA,rfl⟩:=hu7;have hNC:(er != 0)=J:=by rw[bne_iff_ne];exact uA
     go_wp2;generalize ah:(Jx _ _)=wf;have rf:wf.heap[w.heap.size+1]?=E (Z #[X Y 0,F I 0 0] 113):=by rw[<-ah];exact(zK _ _ _ (by simpa using s7)).trans (qi (qi q7 0 _) 1 _)
     have df:wf.heap[D]?=E (.deferred (E [])):=by rw[<-ah];exact(zK _ _ _ (by simpa using sD7)).trans ((zJ _ _ _ _ zA2).trans ((zJ _ _ _ _ zA2).trans d7))
     have bf:Below w w wf:=ah▸Below.alloc (Below.setCell (Below.setCell x7 (p:=⟨w.heap.size+1,0,I⟩) zA3 _) (p:=⟨w.heap.size+1,1,I⟩) zA3 _) zA2 _;have rf2:(wf.putObj D (.deferred I)).heap[w.heap.size+1]?=_:=(World.putObj_heap_other zO).trans rf;have bf2:Below w w (wf.putObj D (.deferred I)):=bf.trans (belowK_b (w:=w) (zM _) wf D _ _ zO df rfl rfl);have kf:=qa rf2;refine⟨zA3,.inl ⟨_,_,rfl,run_takeDeferred df,kE 8,?_,_,rfl,(show qaV _ (QL l) _ _ by rw[hQ];exact⟨8,zA1,rfl⟩),bf2⟩⟩;simp[results,results145,go_sem,kf]
    rw[hQ]at hu7;obtain⟨A,c,rfl,hi,hz⟩:=hu7;replace hz:=zH hz;go_wp2;generalize ah:(Jx _ _)=wf;have rf:wf.heap[w.heap.size+1]?=E (Z #[lvl,F A xs.length c] 113):=by rw[<-ah];exact(zK _ _ _ (by simpa using s7)).trans (qi (qi q7 0 _) 1 _)
    have df:wf.heap[D]?=E (.deferred (E [])):=by rw[<-ah];exact(zK _ _ _ (by simpa using sD7)).trans ((zJ _ _ _ _ zA2).trans ((zJ _ _ _ _ zA2).trans d7))
    have bf:Below w w wf:=ah▸Below.alloc (Below.setCell (Below.setCell x7 (p:=⟨w.heap.size+1,0,I⟩) zA3 _) (p:=⟨w.heap.size+1,1,I⟩) zA3 _) zA2 _;have rf2:(wf.putObj D (.deferred I)).heap[w.heap.size+1]?=_:=(World.putObj_heap_other zO).trans rf;have bf2:Below w w (wf.putObj D (.deferred I)):=bf.trans (belowK_b (w:=w) (zM _) wf D _ _ zO df rfl rfl);have kf:=qa rf2;have hfi:ZO W' (wf.putObj D (.deferred I)) (F A xs.length c) xs:=by refine hi.keep (by have:=bf2.size;rw[<-ah];simp[World.putObj]) (λp h1 h2=>?_);by_cases hpD:p.block=D;exfalso;omega;rw[World.cell?_of_block (World.putObj_heap_other zO),<-ah,World.cell?_alloc_lt _ _ _ (by simpa using h2),World.cell?_setCell_other _ _ _ _ (λe=>by subst e;simp at h1;omega),World.cell?_setCell_other _ _ _ _ (λe=>by subst e;simp at h1;omega)]
    have hzf:NzI (wf.putObj D (.deferred I)) (F A xs.length c):=by
     have dI:∀b off n c',Value.slice A xs.length c=F (E ⟨b,off,I⟩) n c'->0<n->W'.heap.size<=b/\b<w7.heap.size:=λb off n c' e hn=>by obtain⟨-,-,-,h4⟩:=hi.its.at_;have h5:W'.heap.size<=(b:Addr).block:=Tg hi b off n c' 0 e hn;simp only[Value.slice.injEq]at e;obtain⟨b6,o6,e6,e7⟩:=h4 zO;rw[e.1]at e6;simp only[Option.some.injEq,Addr.mk.injEq]at e6;simp only at h5;omega
     refine hz.out.keep (λb off n c' e hn j=>?_) (λu hu=>Nz.put ?_ df (λcs ty e=>by cases e));obtain⟨h1,h2⟩:=dI b off n c' e hn;rw[World.cell?_of_block (World.putObj_heap_other zA2),<-ah,World.cell?_alloc_lt _ _ _ (by simpa using h2),World.cell?_setCell_other _ _ _ _ (λe=>by simp only[Addr.mk.injEq]at e;omega),World.cell?_setCell_other _ _ _ _ (λe=>by simp only[Addr.mk.injEq]at e;omega)];rw[<-ah];exact((hu.setCell _ _).setCell _ _).ext (zN _ _)
    refine⟨zA3,.inl ⟨_,_,rfl,run_takeDeferred df,.tuple #[jW lvl A xs.length c,X Y 0],?_,_,rfl,(show qaV _ (QL l) _ _ by rw[hQ];exact⟨A,c,rfl,hfi.mono zO,hzf⟩),bf2⟩⟩;simp[results,results145,go_sem,kf]
   case stop=>
    rintro D c pre W' hD ⟨k,hk,hpre⟩ ⟨⟨it4,pre',x,ip,rfl,rfl,hx,iH⟩,i4⟩ hK;rw[iT,<-bz]at hk;obtain⟨xi,xa,A9,n9,c9⟩:=x;obtain⟨p,ag,oM,fG⟩:=qlE hk hpre hx iH;have hll:l=p.1.2:=by rw[iC.out,fG]
    have af:Bys W' W' (F A9 n9 c9) l:=by
     obtain⟨⟨A',c',e'⟩,hb'⟩:=hw4 p ag;have h9:Value.slice A9 n9 c9=p.2:=by have e9:(A9,n9,c9)=kK p.2:=oM;rw[e']at e9⊢;simp only[kK,Prod.mk.injEq]at e9;rw[e9.1,e9.2.1,e9.2.2]
     rw[h9,hll];exact(hb'.below i4).more i4.size
    clear hll oM fG ag hx iH;replace ip:W'.heap[p9]?=E (Z #[F A9 n9 c9] 26 (0,0)):=ip;have x6:Below w w W':=i4;have hNR:=x6.size;have hD6:D<W':=(zG.1 hK).1;have hDw:w.heap.size+1<D:=by simp at hD;omega
    have kp:=qa ip
    gi_wp2
    go_wp2_with fail;refine(HR.out _ _ af).mono ?_;rintro e w7 ⟨u7,rfl,hu7,hB⟩;have q7:=qb it4 hB;have d7:w7.heap[D]?=E (.deferred (E [])):=(hB.block D hD6).trans hK;have x7:Below w w w7:=Below.trans x6 (Below.mono hB hNR);have s7:w.heap.size+1<w7:=(zG.1 q7).1;have sD7:D<w7:=(zG.1 d7).1;have k7:=qa q7;have f7:=qe q7;clear kp HR af hB;rcases hQ:QL l with _|⟨lvl,xs⟩
    ·rw[hQ]at hu7;obtain⟨er,uA,rfl⟩:=hu7;have hNC:(er != 0)=J:=by rw[bne_iff_ne];exact uA
     go_wp2;generalize ah:(Jx _ _)=wf;have rf:wf.heap[w.heap.size+1]?=E (Z #[X Y 0,F I 0 0] 113):=by rw[<-ah];exact(zK _ _ _ (by simpa using s7)).trans (qi (qi q7 0 _) 1 _)
     have df:wf.heap[D]?=E (.deferred (E [])):=by rw[<-ah];exact(zK _ _ _ (by simpa using sD7)).trans ((zJ _ _ _ _ zA2).trans ((zJ _ _ _ _ zA2).trans d7))
     have bf:Below w w wf:=ah▸Below.alloc (Below.setCell (Below.setCell x7 (p:=⟨w.heap.size+1,0,I⟩) zA3 _) (p:=⟨w.heap.size+1,1,I⟩) zA3 _) zA2 _;have rf2:(wf.putObj D (.deferred I)).heap[w.heap.size+1]?=_:=(World.putObj_heap_other zO).trans rf;have bf2:Below w w (wf.putObj D (.deferred I)):=bf.trans (belowK_b (w:=w) (zM _) wf D _ _ zO df rfl rfl);have kf:=qa rf2;refine⟨zA3,.inl ⟨_,_,rfl,run_takeDeferred df,kE 8,?_,_,rfl,(show qaV _ (QL l) _ _ by rw[hQ];exact⟨8,zA1,rfl⟩),bf2⟩⟩;simp[results,results145,go_sem,kf]
    rw[hQ]at hu7;obtain⟨A,c,rfl,hi,hz⟩:=hu7;replace hz:=zH hz;go_wp2;generalize ah:(Jx _ _)=wf;have rf:wf.heap[w.heap.size+1]?=E (Z #[lvl,F A xs.length c] 113):=by rw[<-ah];exact(zK _ _ _ (by simpa using s7)).trans (qi (qi q7 0 _) 1 _)
    have df:wf.heap[D]?=E (.deferred (E [])):=by rw[<-ah];exact(zK _ _ _ (by simpa using sD7)).trans ((zJ _ _ _ _ zA2).trans ((zJ _ _ _ _ zA2).trans d7))
    have bf:Below w w wf:=ah▸Below.alloc (Below.setCell (Below.setCell x7 (p:=⟨w.heap.size+1,0,I⟩) zA3 _) (p:=⟨w.heap.size+1,1,I⟩) zA3 _) zA2 _;have rf2:(wf.putObj D (.deferred I)).heap[w.heap.size+1]?=_:=(World.putObj_heap_other zO).trans rf;have bf2:Below w w (wf.putObj D (.deferred I)):=bf.trans (belowK_b (w:=w) (zM _) wf D _ _ zO df rfl rfl);have kf:=qa rf2;have hfi:ZO W' (wf.putObj D (.deferred I)) (F A xs.length c) xs:=by refine hi.keep (by have:=bf2.size;rw[<-ah];simp[World.putObj]) (λp h1 h2=>?_);by_cases hpD:p.block=D;exfalso;omega;rw[World.cell?_of_block (World.putObj_heap_other zO),<-ah,World.cell?_alloc_lt _ _ _ (by simpa using h2),World.cell?_setCell_other _ _ _ _ (λe=>by subst e;simp at h1;omega),World.cell?_setCell_other _ _ _ _ (λe=>by subst e;simp at h1;omega)]
    have hzf:NzI (wf.putObj D (.deferred I)) (F A xs.length c):=by
     have dI:∀b off n c',Value.slice A xs.length c=F (E ⟨b,off,I⟩) n c'->0<n->W'.heap.size<=b/\b<w7.heap.size:=λb off n c' e hn=>by obtain⟨-,-,-,h4⟩:=hi.its.at_;have h5:W'.heap.size<=(b:Addr).block:=Tg hi b off n c' 0 e hn;simp only[Value.slice.injEq]at e;obtain⟨b6,o6,e6,e7⟩:=h4 zO;rw[e.1]at e6;simp only[Option.some.injEq,Addr.mk.injEq]at e6;simp only at h5;omega
     refine hz.out.keep (λb off n c' e hn j=>?_) (λu hu=>Nz.put ?_ df (λcs ty e=>by cases e));obtain⟨h1,h2⟩:=dI b off n c' e hn;rw[World.cell?_of_block (World.putObj_heap_other zA2),<-ah,World.cell?_alloc_lt _ _ _ (by simpa using h2),World.cell?_setCell_other _ _ _ _ (λe=>by simp only[Addr.mk.injEq]at e;omega),World.cell?_setCell_other _ _ _ _ (λe=>by simp only[Addr.mk.injEq]at e;omega)];rw[<-ah];exact((hu.setCell _ _).setCell _ _).ext (zN _ _)
    refine⟨zA3,.inl ⟨_,_,rfl,run_takeDeferred df,.tuple #[jW lvl A xs.length c,X Y 0],?_,_,rfl,(show qaV _ (QL l) _ _ by rw[hQ];exact⟨A,c,rfl,hfi.mono zO,hzf⟩),bf2⟩⟩;simp[results,results145,go_sem,kf]
theorem Ve(lo bb:Nat)(A1 n1 c1 A2 n2 c2 A3 n3 c3 A4 n4 c4)(S:Sto)(hS:qj S=J)(a:Nat)(ha:8<=a)(bC:a<256)(w:Oa)(h:OnB lo bb (F A1 n1 c1) (F A2 n2 c2) (F A3 n3 c3) (F A4 n4 c4) S w):Calls prog 145 #[O bb,(a:Int)] w (zZ (qce w (qo S a)) w):=
 (qci lo bb A1 n1 c1 A2 n2 c2 A3 n3 c3 A4 n4 c4 S hS a ha bC w h).mono λ_ _ ⟨u,he,hu,hB⟩=>⟨u,he,hu.nodeP,hB⟩
end Go.Proofs.YtmeadnlmepcmbaaGreat
namespace Go.Proofs.YtmeadnlmepcmbaaGreat
open Go.RowKit Go.ChangeMaps
variable {w w':World}{mb:Nat}{f:Int->Option Value}
def qbO(a:Int)(e:MapEntry):Bool:=match e.key with | X _ b=>b==a|_=>Ob
def qkA(es:List MapEntry):Prop:=∀e∈es,∃b,e.key=X Y b
def XF(es:List MapEntry)(a:Int):Option U:=(es.find? (qbO a)).map (·.val)
theorem KL(a:Int):∀(l:List MapEntry)(i:Nat),qkA l -> (Instr.findNow (.int Y) (X Y a) l i=E I/\l.find? (qbO a)=I)\/∃k e,l[k]?=E e/\Instr.findNow (.int Y) (X Y a) l i=E (E (i+k,e.val))/\l.find? (qbO a)=E e/\e.key=X Y a/\∀v b,XF (l.modify k λe=>{e with key:=X Y a,val:=v}) b=if b=a then E v else XF l b
 |[],i,_=>.inl ⟨rfl,rfl⟩
 |e::l,i,h=>by
  obtain⟨c,hc⟩:=h e zA3;have hk:qbO a e=(c==a):=by unfold qbO;rw[hc]
  by_cases hca:c=a;subst hca;refine .inr ⟨0,e,rfl,?_,?_,hc,λv b=>?_⟩;simp[Instr.findNow,Instr.sameNow,hc];simp[hk];by_cases hb:b=c;subst hb;simp[XF,List.modify_zero_cons,qbO];have bn:(c==b)=Ob:=by simpa using λh=>hb h.symm
  rw[if_neg hb];simp[XF,List.modify_zero_cons,qbO,hc,bn];have hca':(c==a)=Ob:=by simpa using hca
  have hac:(a==c)=Ob:=by simpa using λh=>hca h.symm
  rcases KL a l (i+1) (λe he=>h e (by simp[he])) with⟨h1,h2⟩|⟨k,e2,h1,h2,h3,h4,h5⟩
  exact .inl ⟨by simp[Instr.findNow,Instr.sameNow,hc,hac,h1],by simp[hk,hca',h2]⟩;refine .inr ⟨k+1,e2,by simpa using h1,by simp[Instr.findNow,Instr.sameNow,hc,hac,h2];omega,by simp[hk,hca',h3],h4,λv b=>?_⟩;have:=h5 v b;by_cases hb:b=c;subst hb;rw[if_neg hca];simp[XF,List.modify_succ_cons,qbO,hc];have bn:(c==b)=Ob:=by simpa using λh=>hb h.symm
  have e1:qbO b e=Ob:=by unfold qbO;rw[hc];exact bn
  unfold XF at this⊢;rw[List.modify_succ_cons,List.find?_cons,e1,List.find?_cons,e1];exact this
def QR(w:Oa)(mb:Nat)(f:Int->Option U):Prop:=∃es clock,w.heap[mb]?=E (.map es clock)/\qkA es.toList/\∀a,XF es.toList a=f a
theorem QR.of_heap(h:QR w mb f)(he:w'.heap[mb]?=w.heap[mb]?):QR w' mb f:=by obtain⟨es,clock,h1,h2⟩:=h;exact⟨es,clock,he.trans h1,h2⟩
section
variable {P:Program} {w:World} {mb:Nat} {f:Int->Option Value}
theorem JT{k:TypeId}(hk:P.underlying k=E (.int Y))(e:Bool)(a:Int):(Instr.checkKey e 10000 k a).run P w=.ok () w:=by show(Instr.checkKey e (9999+1) k (X Y a)).run P w=_;rw[Instr.checkKey];simp[run_underlying hk]
theorem vQ{k:TypeId}(hk:P.underlying k=E (.int Y)){a:Int}{l:List MapEntry}{r:Option (Nat×U)}(h:Instr.findNow (.int Y) (X Y a) l 0=E r):(Instr.findKey k (X Y a) l).run P w=.ok r w:=by simp[Instr.findKey,run_underlying hk,h,Result.andThen]
theorem qej(a:Int):(Instr.keyThatStays a (X Y a)).run P w=.ok a w:=by
 have:Instr.sameBits 10000 a (X Y a)=J:=by show Instr.sameBits (9999+1) _ _=J;simp[Instr.sameBits]
 simp[Instr.keyThatStays,this]
theorem qeh(h:QR w mb f)(t k e:TypeId)(z:U)(ht:P.underlying t=E (.map k e))(hk:P.underlying k=E (.int Y))(hz:(zeroValue e).run P w=.ok z w)(a:Int):(Instr.lookup t (.map (E mb)) (X Y a) J).run P w=.ok (.tuple #[(f a).getD z,.bool (f a).isSome]) w:=by
 obtain⟨es,clock,hb,yJ,hf⟩:=h;rw[<-hf a];rcases KL a es.toList 0 yJ with⟨h1,h2⟩|⟨j,e2,h1,h2,h3,h4,_⟩
 simp[Instr.lookup,run_underlying ht,MapKept.run_getObj_map hb,JT hk,vQ hk h1,XF,h2,hz,Result.andThen];simp[Instr.lookup,run_underlying ht,MapKept.run_getObj_map hb,JT hk,vQ hk h2,XF,h3,Result.andThen]
theorem qaN(h:QR w mb f)(t k e:TypeId)(ht:P.underlying t=E (.map k e))(hk:P.underlying k=E (.int Y))(a:Int)(v:U):∃w',(Instr.mapUpdate t (.map (E mb)) (X Y a) v).run P w=.ok () w'/\QR w' mb (λb=>if b=a then E v else f b)/\w.grownBy w' (E mb):=by
 obtain⟨es,clock,hb,yJ,hf⟩:=h;have hg:∀o,w.grownBy (setBlock w mb o) (E mb):=λo=>by refine⟨rfl,rfl,rfl,by simp[setBlock],λj _ hj=>?_⟩;have aH:¬mb=j:=λe=>hj (by rw[e]);simp[setBlock,aH]
 have hs:∀o,(setBlock w mb o).heap[mb]?=E o:=λo=>by have:=(zG.1 hb).1;simp[setBlock,this]
 rcases KL a es.toList 0 yJ with⟨h1,h2⟩|⟨j,e2,h1,h2,h3,h4,h5⟩
 refine⟨_,by simp[Instr.mapUpdate,run_underlying ht,MapKept.run_getObj_map hb,JT hk,vQ hk h1,MapKept.run_setObj_map _ hb,Result.andThen];rfl,⟨_,_,hs _,?_,λb=>?_⟩,hg _⟩;intro e he;simp only[Array.toList_push,List.mem_append,List.mem_singleton]at he;rcases he with he|rfl
 exact yJ e he;exact⟨a,rfl⟩;have hb':=hf b;unfold XF at hb'⊢;rw[Array.toList_push,List.find?_append];show _=if b=a then E v else f b
 by_cases hba:b=a;subst hba;rw[if_pos rfl,h2];simp[qbO];rw[if_neg hba,<-hb'];have:(a==b)=Ob:=by simpa using λh=>hba h.symm
 simp[qbO,this];have hj:(es[j]?)=E e2:=by simpa using h1
 refine⟨_,by simp[Instr.mapUpdate,run_underlying ht,MapKept.run_getObj_map hb,JT hk,vQ hk h2,hj,h4,qej,MapKept.run_setObj_map _ hb,Result.andThen];rfl,⟨_,_,hs _,?_,λb=>?_⟩,hg _⟩;intro e he;rw[Array.toList_modify]at he;obtain⟨i,hi⟩:=List.getElem?_of_mem he;rw[List.getElem?_modify]at hi;split at hi;simp only[Option.map_eq_map,Option.map_eq_some_iff]at hi;obtain⟨e0,_,rfl⟩:=hi;exact⟨a,rfl⟩;simp only[Option.map_eq_map,Option.map_id',Option.map_id]at hi;exact yJ e (List.mem_of_getElem? hi);show _=if b=a then E v else f b
 rw[Array.toList_modify,h5 v b,hf b]
end
end Go.Proofs.YtmeadnlmepcmbaaGreat
namespace Go.Proofs.YtmeadnlmepcmbaaGreat
open Go.RowKit
variable {S:Sto}{h k lo lo' B mb a lvl c:Nat}{xs:List It}{w w':World}{f g:Int->Option Value}{v u:Value}{bs:List (List UInt8)}{ws:List (Int×List UInt8)}{φ:Value->(Int->Option Value)->Prop}{A:OA}
abbrev K3:Type:=Int×Int×Int
def qw(x:It):K3:=(x.k,x.i,x.o)
def Qg(a b:K3):Bool:=vJ a.1 a.2.1 a.2.2 b.1 b.2.1 b.2.2
def jP(one:It->Option (K3×K3))(acc:Option (Option (K3×K3)))(y:It):Option (Option (K3×K3)):=
 match acc with
 |none=>I
 |some a=>match one y with
  |none=>I
  |some (f,l)=>if f=qw y then(match a with
    |none=>E (E (f,l))
    |some (f0,l0)=>if Qg l0 f=J then E (E (f0,l))else I)else I
def jA(S:Sto):Nat->It->Option (K3×K3)
 |0,y=>if y.r=0\/0<(S.now[y.r.toNat]?.getD 0).toNat then E (qw y,qw y)else I
 |h+1,y=>if 8<=y.r/\y.r<256 then
   match qo S y.r.toNat with
   |none=>I
   |some (lvl,xs)=>if lvl=(h:Int) then(xs.foldl (jP (jA S h)) (E I)).getD I else I
  else I
def qz(S:Sto)(h:Nat)(xs:List It):Option (Option (K3×K3)):=xs.foldl (jP (jA S h)) (E I)
def vI(S:Sto)(h:Nat)(r:Int):Option (K3×K3):=if 8<=r/\r<256 then
   match qo S r.toNat with
   |none=>I
   |some (lvl,xs)=>if lvl=(h:Int) then(qz S h xs).getD I else I
  else I
theorem Jc(S:Sto)(h:Nat)(y:It):jA S (h+1) y=vI S h y.r:=rfl
theorem Jz(hk:k<xs.length):qz S h (xs.take (k+1))=jP (jA S h) (qz S h (xs.take k)) xs[k]:=by unfold qz;rw[List.take_succ_eq_append_getElem hk,List.foldl_append];rfl
theorem qjo(one:It->Option (K3×K3))(xs:List It):xs.foldl (jP one) I=I:=by
 induction xs with
 |nil=>rfl
 |cons x r ih=>exact ih
theorem qfm(hb:qz S h (xs.take k)=I):qz S h xs=I:=by unfold qz at*;rw[<-List.take_append_drop k xs,List.foldl_append,hb,qjo]
theorem qkp:∀{xs:List It},(∃p,qz S h xs=E (E p))->xs≠[]:=by rintro xs ⟨p,hp⟩ rfl;cases hp
theorem Zx(hk:0<k)(hl:k<=xs.length):qz S h (xs.take k)≠E I:=by
 obtain⟨j,rfl⟩:∃j,k=j+1:=⟨k-1,zO⟩
 rw[Jz zO];unfold jP;intro h;split at h;cases h;split at h;cases h;split at h;split at h;cases h;split at h<;>cases h;cases h
abbrev JL(lvl:Int)(A:OA)(n c:Nat)(f l:K3)(b:Bool):Array U:=#[lvl,F A n c,X .u8 f.1,X .u32 f.2.1,X .u32 f.2.2,X .u8 l.1,X .u32 l.2.1,X .u32 l.2.2,.bool b]
abbrev jY(lvl:Int)(A:OA)(n c:Nat)(f l:K3)(b:Bool):U:=.agg (JL lvl A n c f l b)
def kh(S:Sto)(h:Nat)(xs:List It)(f l:K3)(b:Bool):Prop:=b=(qz S h xs).isSome/\∀p,qz S h xs=E (E p)->(f,l)=p
def Ux(S:Sto)(lo:Nat)(w:Oa)(f:Int->Option U)(a:Int)(v:U):Prop:=
 ∃(n:Nat)(lvl:Nat)(xs:List It)(A:OA)(c:Nat)(fk lk:K3)(b:Bool),a=(n:Int)/\8<=n/\n<256/\qo S n=E ((lvl:Int),xs)/\v=jY lvl A xs.length c fk lk b /\
  ZO lo w (F A xs.length c) xs/\kh S lvl xs fk lk b/\(b=J->0<lvl->∀y∈xs,(f y.r).isSome=J)
def qes(S:Sto)(lo:Nat)(w:Oa)(f:Int->Option U):Prop:=∀a v,f a=E v->Ux S lo w f a v
theorem Ux.keep{a:Int}(h:Ux S lo w f a v)(hl:lo'<=lo)(hs:w.heap.size<=w')(hk:∀q:Addr,lo<=q.block->q.block<w->w'.cell? q=w.cell? q)(hf:∀r,(f r).isSome=J->(g r).isSome=J):Ux S lo' w' g a v:=by obtain⟨n,lvl,xs,A,c,fk,lk,b,h1,h2,h3,h4,h5,h6,h7,h8⟩:=h;exact⟨n,lvl,xs,A,c,fk,lk,b,h1,h2,h3,h4,h5,(h6.keep hs hk).mono hl,h7,λx y z t=>hf _ (h8 x y z t)⟩
def vZ(f g:Int->Option U):Prop:=∀a v,f a=E v->g a=E v
theorem vZ.refl(f:Int->Option U):vZ f f:=λ_ _ h=>h
theorem vZ.trans{h:Int->Option U}(x:vZ f g)(y:vZ g h):vZ f h:=λa v e=>y a v (x a v e)
structure CP where
 S:Sto
 sb:Nat
 lo:Nat
 cb:Nat
 bb:Nat
 mb:Nat
 ca:Array U
 v1:U
 v2:U
 v3:U
 v4:U
 u1:U
 u2:U
 u3:U
 u4:U
structure Cen(p:CP)(w:Oa)(f:Int->Option U):Prop where
 row:w.heap[p.cb]?=E (Z p.ca 96)
 c0:p.ca[0]?=E p.v1
 c1:p.ca[1]?=E p.v2
 c2:p.ca[2]?=E p.v3
 c3:p.ca[3]?=E p.v4
 c4:p.ca[4]?=E (O p.bb)
 c5:p.ca[5]?=E (.map (E p.mb))
 map:QR w p.mb f
 known:qes p.S p.lo w f
 sto:Qh w p.sb p.v1 p.v2 p.v3 p.v4 p.S
 on:w.heap[p.bb]?=E (Z #[p.u1,p.u2,p.u3,p.u4] 223)
 onb:Bls w p.sb p.u1 p.S.bs
 onw:Wrs w p.sb p.u2 p.S.ws
 onl:Bys w p.sb p.u4 p.S.last
 onn:Bys w w p.u3 p.S.now
 onf:∀A n c,p.u3=F (E A) n c->A.block≠p.cb
 low:p.cb<p.lo/\p.bb<p.lo/\p.mb<p.lo/\p.cb≠p.mb/\p.bb≠p.mb/\p.lo<=w/\p.sb<=p.cb/\p.sb<=p.bb/\p.sb<=p.mb/\p.cb≠p.bb
 may:qj p.S=J
theorem Cen.onB{p:CP}(h:Cen p w f):OnB 0 p.bb p.u1 p.u2 p.u3 p.u4 p.S w:=by have hl:=h.low;exact⟨Nat.zero_le _,h.on,h.onb.more zO,h.onw.more zO,h.onn,h.onl.more zO⟩
theorem Bls.keep(h:Bls w B v bs)(hk:∀q:Addr,q.block<B->w'.cell? q=w.cell? q):Bls w' B v bs:=by obtain⟨vs,A,c,e,h1,h2,h3,h4⟩:=h;exact⟨vs,A,c,e,h1,h2,h3.keep hk,λi u l hu hl=>(h4 i u l hu hl).keep hk⟩
theorem Wrs.keep(h:Wrs w B v ws)(hk:∀q:Addr,q.block<B->w'.cell? q=w.cell? q):Wrs w' B v ws:=by obtain⟨ps,e,⟨A,c,e1,e2,e3,hr⟩,hp⟩:=h;exact⟨ps,e,⟨A,c,e1,e2,e3,hr.keep hk⟩,λp h=>⟨(hp p h).1,(hp p h).2.keep hk⟩⟩
theorem Qh.keep{v1 v2 v3 v4:U}(h:Qh w B v1 v2 v3 v4 S)(hk:∀q:Addr,q.block<B->w'.cell? q=w.cell? q):Qh w' B v1 v2 v3 v4 S:=⟨h.bs.keep hk,h.ws.keep hk,h.now.keep hk,h.last.keep hk⟩
theorem JC(h:QR w mb f)(h':QR w' mb g)(hg:w.grownBy w' (E mb)):∀q:Addr,q.block<w->w'.cell? q=w.cell? q:=by intro q hq;by_cases hm:q.block=mb;obtain⟨es,c,e1,_⟩:=h;obtain⟨es',c',e2,_⟩:=h';simp[World.cell?,hm,e1,e2];exact World.cell?_of_block (hg.block q.block hq (λe=>hm (by simpa using e)))
theorem qes.keep(h:qes S lo w f)(hs:w.heap.size<=w')(hk:∀q:Addr,q.block<w->w'.cell? q=w.cell? q):qes S lo w' f:=
 λa v hv=>(h a v hv).keep (zM _) hs (λq _ hq=>hk q hq) (λ_ h=>h)
theorem vZ.some_(h:vZ f g)(r:Int)(hr:(f r).isSome=J):(g r).isSome=J:=by obtain⟨v,hv⟩:=Option.isSome_iff_exists.1 hr;rw[h r v hv];rfl
theorem Cen.ext{p:CP}(h:Cen p w f)(hx:Ext w w'):Cen p w' f where
 row:=qb h.row hx
 c0:=h.c0
 c1:=h.c1
 c2:=h.c2
 c3:=h.c3
 c4:=h.c4
 c5:=h.c5
 map:=h.map.of_heap (hx.block _ (by have:=h.low;omega))
 known:=h.known.keep hx.size λq hq=>Below.cell hx hq
 sto:=h.sto.keep λq hq=>Below.cell hx (by have:=h.low;omega)
 on:=qb h.on hx
 onb:=h.onb.keep λq hq=>Below.cell hx (by have:=h.low;omega)
 onw:=h.onw.keep λq hq=>Below.cell hx (by have:=h.low;omega)
 onl:=h.onl.keep λq hq=>Below.cell hx (by have:=h.low;omega)
 onn:=(h.onn.below hx).more hx.size
 onf:=h.onf
 low:=by have:=h.low;have:=hx.size;omega
 may:=h.may
def News(S:Sto)(w:Oa)(f g:Int->Option U)(w':Oa):Prop:=∀a v,g a=E v->f a=I->Ux S w w' g a v
theorem Cen.after{p:CP}(h:Cen p w f)(bU:vZ f g)(hm:QR w' p.mb g)(hg:w.grownBy w' (E p.mb))(hn:News p.S w f g w'):Cen p w' g where
 row:=(hg.block _ (by have:=h.low;omega) (λe=>by have:=h.low;simp at e;omega)).trans h.row
 c0:=h.c0
 c1:=h.c1
 c2:=h.c2
 c3:=h.c3
 c4:=h.c4
 c5:=h.c5
 map:=hm
 known:=by
  intro a v hv;rcases hf:f a with _|u
  exact(hn a v hv hf).keep (by have:=h.low;omega) (zM _) (λ_ _ _=>rfl) (λ_ h=>h);have:=bU a u hf;rw[hv]at this;cases this;exact(h.known a v hf).keep (zM _) hg.size (λq _ hq=>JC h.map hm hg q hq) bU.some_
 sto:=h.sto.keep λq hq=>JC h.map hm hg q (by have:=h.low;omega)
 on:=(hg.block _ (by have:=h.low;omega) (λe=>by have:=h.low;simp at e;omega)).trans h.on
 onb:=h.onb.keep λq hq=>JC h.map hm hg q (by have:=h.low;omega)
 onw:=h.onw.keep λq hq=>JC h.map hm hg q (by have:=h.low;omega)
 onl:=h.onl.keep λq hq=>JC h.map hm hg q (by have:=h.low;omega)
 onn:=(h.onn.keep (JC h.map hm hg)).more hg.size
 onf:=h.onf
 low:=by have:=h.low;have:=hg.size;omega
 may:=h.may
def okL(S:Sto)(L r:Int):Bool:=
 if 8<=r/\r<256 then
  match qo S r.toNat with
  |none=>Ob
  |some (lvl,xs)=>(qz S lvl.toNat xs).isSome&&(decide (L<0)||(decide (lvl=L)&&decide (xs.length≠0)))
 else Ob
def qcd(p:CP)(L r:Int)(v:U)(f:Int->Option U):Prop:=∃(lvl:Int)(A:OA)(n c:Nat)(fk lk:K3),v=jY lvl A n c fk lk (okL p.S L r)/\(okL p.S L r=J->f r=v)
def qgO(p:CP)(h:Nat)(A:OA)(c:Nat)(xs:List It)(v:U)(f:Int->Option U):Prop:=∃(fk lk:K3)(b:Bool),v=jY h A xs.length c fk lk b/\kh p.S h xs fk lk b/\(b=J->0<h->∀y∈xs,(f y.r).isSome=J)
def Uz(p:CP)(f:Int->Option U)(φ:U->(Int->Option U)->Prop)(w:Oa)(e:Ending)(w':Oa):Prop:=∃v g,e=.returned v/\φ v g/\vZ f g/\QR w' p.mb g/\w.grownBy w' (E p.mb)/\News p.S w f g w'
def ReadC(p:CP)(h:Nat):Prop:=∀(xs:List It)(A:OA)(c:Nat)(w:Oa)(f:Int->Option U),Qj h xs=J->(∀x∈xs,Zb x/\itB x.r x.val.length=J)->ZO p.lo w (F A xs.length c) xs->Cen p w f ->
 Calls prog 161 #[O p.cb,jW h A xs.length c] w (Uz p f (qgO p h A c xs) w)
def qiT(p:CP)(L:Int):Prop:=∀(r:Int)(w:Oa)(f:Int->Option U),Cen p w f ->
 Calls prog 110 #[O p.cb,r,L] w (Uz p f (qcd p L r) w)
section
variable {P:Program} (w:World) {ops:Array Oper} {rest:List Oper} {o:Oper} {a:Act} {Q:Exit->Act->World->Prop}
theorem Yc(hg:o.guard=I)(m x:Operand)(t:TypeId)(dw:o.op=Op.lookup t m x J){k e:TypeId}{z:U}(ht:P.underlying t=E (.map k e))(hk:P.underlying k=E (.int Y))(hz:(zeroValue e).run P w=.ok z w){mb:Nat}{f:Int->Option U}{r:Int}(hm:a.eval m=.map (E mb))(hx:a.eval x=X Y r)(h:QR w mb f)(hK:wpList P ops Q rest (a.put o.dst (.tuple #[(f r).getD z,.bool (f r).isSome])) w):wpList P ops Q (o::rest) a w:=by refine wpList_plain hg λK' hK'=>?_;unfold Oper.wp;simp[execOp,dw,hm,hx,qeh h t k e z ht hk hz r,Result.andThen];exact hK' _ _ hK
theorem jr(hg:o.guard=I)(m x y:Operand)(t:TypeId)(dw:o.op=Op.mapUpdate t m x y){k e:TypeId}(ht:P.underlying t=E (.map k e))(hk:P.underlying k=E (.int Y)){mb:Nat}{f:Int->Option U}{r:Int}{v:U}(hm:a.eval m=.map (E mb))(hx:a.eval x=X Y r)(hy:a.eval y=v)(h:QR w mb f)(hK:∀w',QR w' mb (λb=>if b=r then E v else f b)->w.grownBy w' (E mb)->wpList P ops Q rest (a.put o.dst undef) w'):wpList P ops Q (o::rest) a w:=by refine wpList_plain hg λK' hK'=>?_;obtain⟨w',bH,h1,h2⟩:=qaN h t k e ht hk r v;unfold Oper.wp;simp[execOp,dw,hm,hx,hy,bH,Result.andThen];exact hK' _ _ (hK w' h1 h2)
end
theorem News.refl(S:Sto)(w:Oa)(f:Int->Option U)(w':Oa):News S w f f w':=λa v h1 h2=>by rw[h1]at h2;cases h2
theorem Uz.same{p:CP}(h:Cen p w f)(hx:Ext w w')(hφ:φ v f):Uz p f φ w v w':=
 ⟨v,f,rfl,hφ,vZ.refl _,(h.ext hx).map,QP hx _,News.refl _ _ _ _⟩
theorem qmd{p:CP}{w5 w6 W:Oa}{fk lk:K3}{b:Bool}(hfa:f a=I)(h5:Ext w w5)(hlt:w.heap.size<w5)(bU:vZ f g)(hg6:w5.grownBy w6 (E p.mb))(hn:News p.S w5 f g w6)(hm:QR W p.mb (λr=>if r=(a:Int)then E (jY lvl A xs.length c fk lk b)else g r))(hgW:w.grownBy W (E p.mb))(hsW:w6.heap.size<=W)(hk:∀q:Addr,w.heap.size<q.block->q.block<w6->W.cell? q=w6.cell? q)(ha:8<=a)(bC:a<256)(hnode:qo p.S a=E ((lvl:Int),xs))(aG:ZO (↑w+1) w6 (F A xs.length c) xs)(aK:kh p.S lvl xs fk lk b)(az:b=J->0<lvl->∀y∈xs,(g y.r).isSome=J)(hφ:φ u (λr=>if r=(a:Int)then E (jY lvl A xs.length c fk lk b)else g r)):Uz p f φ w u W:=by
 have hs:∀r:Int,(g r).isSome=J->((λr=>if r=(a:Int)then E (jY lvl A xs.length c fk lk b)else g r) r).isSome=J:=by intro r hr;show(if r=(a:Int)then E (jY lvl A xs.length c fk lk b)else g r).isSome=J;split;rfl;exact hr
 refine⟨u,_,rfl,hφ,λr v hr=>?_,hm,hgW,λr v hv hr=>?_⟩;show(if r=(a:Int)then E (jY lvl A xs.length c fk lk b)else g r)=E v;rw[if_neg (λe=>by rw[e,hfa]at hr;cases hr)];exact bU r v hr;have wZ:(if r=(a:Int)then E (jY lvl A xs.length c fk lk b)else g r)=v:=hv;by_cases hra:r=(a:Int)
 rw[if_pos hra]at wZ;cases wZ;exact⟨a,lvl,xs,A,c,fk,lk,b,hra,ha,bC,hnode,rfl,(aG.keep hsW (λq h1 h2=>hk q zO h2)).mono zO,aK,λx y z t=>hs _ (az x y z t)⟩;rw[if_neg hra]at wZ;exact(hn r v wZ hr).keep (Nat.le_of_lt hlt) hsW (λq h1 h2=>hk q zO h2) hs
theorem qI{lvl:Int}(h:qo S a=E (lvl,xs)):Qj lvl xs=J/\(∀x∈xs,Zb x/\itB x.r x.val.length=J)/\0<=lvl:=by unfold qo at h;split at h;cases h;unfold QL at h;split at h;split at h;cases h;rename_i xs' r hr;split at h;rename_i hm;simp only[Option.some.injEq,Prod.mk.injEq]at h;obtain⟨rfl,rfl⟩:=h;exact⟨hm.1,(Gp hr).2,zO⟩;cases h;cases h
end Go.Proofs.YtmeadnlmepcmbaaGreat
namespace Go.Proofs.YtmeadnlmepcmbaaGreat
variable {ks rs:Nat->List Nat}{R':Nat->Prop}{a:Nat}{M M':Nat->Bool}{refs refs':Nat->Nat}{R s:List Nat}

inductive Rch(ks:Nat->List Nat)(R:Nat->Prop):Nat->Prop
 |base {a:Nat}:R a->Rch ks R a
 |step {a b:Nat}:Rch ks R a->b∈ks a->Rch ks R b
theorem Rch.mono{R:Nat->Prop}(h:∀a,R a->R' a)(x:Rch ks R a):Rch ks R' a:=by
 induction x with
 |base r=>exact .base (h _ r)
 |step _ hb ih=>exact .step ih hb
theorem Rch.closed{R M:Nat->Prop}(h:∀a,R a->M a)(hc:∀a,M a->∀b∈ks a,M b)(x:Rch ks R a):M a:=by
 induction x with
 |base r=>exact h _ r
 |step _ hb ih=>exact hc _ ih _ hb
def vM(M:Nat->Bool)(a:Nat):Nat->Bool:=λb=>if b=a then J else M b
def JE(rs:Nat->List Nat)(M:Nat->Bool)(b:Nat):Nat->Nat
 |0=>0
 |n+1=>JE rs M b n+if M n=J then(rs n).count b else 0
def vU(M:Nat->Bool):Nat->Nat
 |0=>0
 |n+1=>vU M n+if M n=J then 0 else 1
theorem qbF{M M':Nat->Bool}:∀n,(∀a,a<n->M a=M' a)->vU M n=vU M' n
 |0,_=>rfl
 |n+1,h=>by unfold vU;rw[qbF n λa ha=>h a zO,h n zO]
theorem TY{rs:Nat->List Nat}{M:Nat->Bool}{a b:Nat}(h:M a=Ob):∀n,JE rs (vM M a) b n=JE rs M b n+if a<n then(rs a).count b else 0
 |0=>rfl
 |n+1=>by unfold JE;rw[TY h n];by_cases hn:n=a;subst hn;simp[vM,h];simp only[vM,if_neg hn];by_cases ha:a<n;rw[if_pos ha,if_pos (show a<n+1 by omega)];omega;rw[if_neg ha,if_neg (show ¬a<n+1 by omega)];omega
theorem Ga{M:Nat->Bool}{a:Nat}(h:M a=Ob):∀n,vU (vM M a) n+(if a<n then 1 else 0)=vU M n
 |0=>rfl
 |n+1=>by
  have hi:=Ga h n;show vU (vM M a) n+(if(if n=a then J else M n)=J then 0 else 1)+(if a<n+1 then 1 else 0)=vU M n+if M n=J then 0 else 1
  by_cases hn:n=a;rw[<-hn]at h hi⊢;rw[if_neg (Nat.lt_irrefl _)]at hi;rw[if_pos rfl,if_pos rfl,if_pos (Nat.lt_succ_self n),h,if_neg zA1];omega;rw[if_neg hn];by_cases ha:a<n;rw[if_pos ha]at hi;rw[if_pos (show a<n+1 by omega)];omega;rw[if_neg ha]at hi;rw[if_neg (show ¬a<n+1 by omega)];omega
theorem qlk{rs:Nat->List Nat}{M:Nat->Bool}{b k:Nat}:∀n,(∀a,a<n->M a=J->(rs a).length<=k)->JE rs M b n+k*vU M n<=k*n
 |0,_=>by simp[JE,vU]
 |n+1,h=>by unfold JE vU;have:=qlk (b:=b) n λa ha=>h a zO;rw[Nat.mul_add,Nat.mul_add];split;rename_i hm;have h1:=h n zO hm;have h2:=List.count_le_length (a:=b) (l:=rs n);omega;omega
theorem qdz(M:Nat->Bool):∀n,vU M n<=n
 |0=>zM _
 |n+1=>by unfold vU;have:=qdz M n;split<;>omega
structure VF(ks rs:Nat->List Nat)(R:List Nat)(M:Nat->Bool)(refs:Nat->Nat)(stack:List Nat):Prop where
 reach:∀a,M a=J->Rch ks (· ∈ R) a
 stk:∀a∈stack,Rch ks (· ∈ R) a
 root:∀a∈R,M a=J\/a∈stack
 kids:∀a,M a=J->∀b∈ks a,M b=J\/b∈stack
 sum:∀b,refs b=R.count b+JE rs M b 256
theorem VF.nil(hM:∀a,M a=Ob)(hr:∀b,refs b=0):VF ks rs [] M refs []:=by
 have h0:∀b n,JE rs M b n=0:=λb n=>by
  induction n with
  |zero=>rfl
  |succ n ih=>unfold JE;rw[ih,hM];rfl
 have aj:∀a,M a=J->False:=λa h=>by have:=hM a;rw[h]at this;cases this
 exact {reach:=λa h=>(aj a h).elim,stk:=λa h=>(List.not_mem_nil h).elim,root:=λa h=>(List.not_mem_nil h).elim,kids:=λa h=>(aj a h).elim,sum:=λb=>by rw[hr,h0];rfl}
theorem VF.add(h:VF ks rs R M refs [])(r:Nat)(hr:∀b,refs' b=refs b+if b=r then 1 else 0):VF ks rs (R++[r]) M refs' [r]:=by
 refine⟨λa ha=>(h.reach a ha).mono λ_ x=>List.mem_append_left _ x,λa ha=>.base (List.mem_append_right _ ha),λa ha=>?_,λa ha b hb=>.inl ((h.kids a ha b hb).elim id λx=>(List.not_mem_nil x).elim),λb=>?_⟩;rcases List.mem_append.1 ha with ha|ha
 exact .inl ((h.root a ha).elim id λx=>(List.not_mem_nil x).elim);exact .inr ha;rw[hr,h.sum,List.count_append];have:[r].count b=if b=r then 1 else 0:=by rw[List.count_singleton];by_cases hb:b=r;subst hb;simp;rw[if_neg hb,if_neg zA2]
 omega
theorem VF.again(h:VF ks rs R M refs (s++[a]))(ha:M a=J):VF ks rs R M refs s:=by
 have key:∀b,M b=J\/b∈s++[a]->M b=J\/b∈s:=by
  rintro b (hb|hb);exact .inl hb;rcases List.mem_append.1 hb with hb|hb
  exact .inr hb;rw[List.mem_singleton.1 hb];exact .inl ha
 exact⟨h.reach,λb hb=>h.stk b (List.mem_append_left _ hb),λb hb=>key b (h.root b hb),λc hc b hb=>key b (h.kids c hc b hb),h.sum⟩
theorem VF.new(h:VF ks rs R M refs (s++[a]))(ha:M a=Ob)(hl:a<256)(hr:∀b,refs' b=refs b+(rs a).count b):VF ks rs R (vM M a) refs' (s++ks a):=by
 have hm:∀b,M b=J->vM M a b=J:=by intro b hb;unfold vM;split;rfl;exact hb
 have hma:vM M a a=J:=by simp[vM]
 have hra:=h.stk a (List.mem_append_right _ (List.mem_singleton.2 rfl));have key:∀b,M b=J\/b∈s++[a]->vM M a b=J\/b∈s++ks a:=by
  rintro b (hb|hb);exact .inl (hm b hb);rcases List.mem_append.1 hb with hb|hb
  exact .inr (List.mem_append_left _ hb);rw[List.mem_singleton.1 hb];exact .inl hma
 refine⟨λb hb=>?_,λb hb=>?_,λb hb=>key b (h.root b hb),λc hc b hb=>?_,λb=>?_⟩;unfold vM at hb;split at hb;rename_i e;rw[e];exact hra;exact h.reach b hb;rcases List.mem_append.1 hb with hb|hb
 exact h.stk b (List.mem_append_left _ hb);exact .step hra hb;unfold vM at hc;split at hc;rename_i e;rw[e]at hb;exact .inr (List.mem_append_right _ hb);exact key b (h.kids c hc b hb);rw[hr,h.sum,TY ha,if_pos hl];omega
theorem VF.done(h:VF ks rs R M refs [])(a:Nat):M a=J↔Rch ks (· ∈ R) a:=
 ⟨h.reach a,λx=>x.closed (λa ha=>(h.root a ha).elim id λx=>(List.not_mem_nil x).elim) λa ha b hb=>(h.kids a ha b hb).elim id λx=>(List.not_mem_nil x).elim⟩
structure JI(ks rs:Nat->List Nat)(R:List Nat)(M:Nat->Bool)(refs:Nat->Nat):Prop where
 reach:∀a,M a=J->Rch ks (· ∈ R) a
 root:∀a∈R,M a=J
 kids:∀a,M a=J->∀b∈ks a,M b=J
 sum:∀b,refs b=R.count b+JE rs M b 256
theorem JI.walk:JI ks rs R M refs↔VF ks rs R M refs []:=
 ⟨λh=>⟨h.reach,λ_ ha=>(List.not_mem_nil ha).elim,λa ha=>.inl (h.root a ha),λa ha b hb=>.inl (h.kids a ha b hb),h.sum⟩,
  λh=>⟨h.reach,λa ha=>(h.root a ha).elim id λx=>(List.not_mem_nil x).elim,λa ha b hb=>(h.kids a ha b hb).elim id λx=>(List.not_mem_nil x).elim,h.sum⟩⟩
theorem JI.same{r r':Nat->Nat}(h:JI ks rs R M r)(h':JI ks rs R M' r'):M=M'/\r=r':=by
 have e:M=M':=by funext a;have h1:=(JI.walk.1 h).done a;have h2:=(JI.walk.1 h').done a;exact Bool.eq_iff_iff.2 (h1.trans h2.symm)
 refine⟨e,?_⟩;funext b;rw[h.sum,h'.sum,e]
end Go.Proofs.YtmeadnlmepcmbaaGreat
namespace Go.Proofs.YtmeadnlmepcmbaaGreat
open Go.RowKit
variable {S:Sto}{h a lo B cb:Nat}{xs:List It}{y:It}{R:Nat->Prop}{w w':World}{f:Int->Option Value}{v:Value}{l:List UInt8}{q p:Addr}{ca:Array Value}
def QV(S:Sto)(a:Nat):List Nat:=match qo S a with
 |none=>[]
 |some (_,xs)=>(xs.map λy=>y.r.toNat).filter λr=>r != 0
def Zr(S:Sto)(a:Nat):List Nat:=match qo S a with
 |none=>[]
 |some (lvl,_)=>if 0<lvl then QV S a else []
def ZN(S:Sto)(a:Nat):Prop:=8<=a/\a<256/\∃(lvl:Nat)(xs:List It),qo S a=E ((lvl:Int),xs)/\(qz S lvl xs).isSome=J
theorem Zl{r:Int}(h:okL S (-1) r=J):∃a:Nat,r=(a:Int)/\ZN S a:=by
 unfold okL at h;split at h;rename_i hr;obtain⟨a,rfl⟩:=Int.eq_ofNat_of_zero_le (show 0<=r by omega);refine⟨a,rfl,zO,zO,?_⟩;rw[Int.toNat_natCast]at h;rcases hn:qo S a with _|⟨lvl,xs⟩
 rw[hn]at h;cases h;rw[hn]at h;obtain⟨-,-,h0⟩:=qI hn;obtain⟨l,rfl⟩:=Int.eq_ofNat_of_zero_le h0;simp only[Int.toNat_natCast,Bool.and_eq_true]at h;exact⟨l,xs,rfl,h.1⟩;cases h
theorem qaw(one:It->Option (K3×K3)):∀(xs:List It)(a:Option (Option (K3×K3))),(xs.foldl (jP one) a).isSome=J->a.isSome=J/\∀y∈xs,(one y).isSome=J
 |[],a,h=>⟨h,λ_ hy=>(List.not_mem_nil hy).elim⟩
 |x::r,a,h=>by
  obtain⟨h1,h2⟩:=qaw one r _ h;unfold jP at h1;rcases a with _|a
  cases h1;rcases hx:one x with _|q
  rw[hx]at h1;cases h1;refine⟨rfl,λy hy=>?_⟩;rcases List.mem_cons.1 hy with rfl|hy
  rw[hx];rfl;exact h2 y hy
theorem Qt(hs:(qz S h xs).isSome=J):∀y∈xs,(jA S h y).isSome=J:=(qaw _ xs _ hs).2
theorem Qz(hy:(jA S (h+1) y).isSome=J):∃b:Nat,y.r=(b:Int)/\8<=b/\b<256/\∃xs,qo S b=E ((h:Int),xs)/\(qz S h xs).isSome=J:=by
 rw[Jc]at hy;unfold vI at hy;split at hy;rename_i hr;obtain⟨b,hb⟩:=Int.eq_ofNat_of_zero_le (show 0<=y.r by omega);rw[hb,Int.toNat_natCast]at hy;refine⟨b,hb,zO,zO,?_⟩;rcases hn:qo S b with _|⟨lvl,xs⟩
 rw[hn]at hy;cases hy;rw[hn]at hy;simp only at hy;split at hy;rename_i hl;refine⟨xs,by rw[hl],?_⟩;rcases hs:qz S h xs with _|q
 rw[hs]at hy;cases hy;rfl;cases hy;cases hy
theorem qcD{a b lvl:Nat}(hn:qo S a=E ((lvl:Int),xs))(hb:b∈Zr S a):0<lvl/\∃y∈xs,b=y.r.toNat/\b≠0:=by unfold Zr at hb;rw[hn]at hb;simp only at hb;split at hb;unfold QV at hb;rw[hn]at hb;simp only[List.mem_filter,List.mem_map,bne_iff_ne,ne_eq]at hb;obtain⟨⟨y,hy,rfl⟩,h0⟩:=hb;exact⟨zO,y,hy,rfl,h0⟩;cases hb
theorem qeO{a b:Nat}(h:ZN S a)(hb:b∈Zr S a):ZN S b:=by
 obtain⟨h1,h2,lvl,xs,h3,h4⟩:=h;obtain⟨h5,y,hy,rfl,-⟩:=qcD h3 hb;obtain⟨l,rfl⟩:∃l,lvl=l+1:=⟨lvl-1,zO⟩
 obtain⟨b,e,h6,h7,ys,h8,h9⟩:=Qz (Qt h4 y hy);rw[e,Int.toNat_natCast];exact⟨h6,h7,l,ys,h8,h9⟩
theorem qkd(hR:∀a,R a->ZN S a)(h:Rch (Zr S) R a):ZN S a:=h.closed hR λ_ hc _ hb=>qeO hc hb
theorem qip:(QV S a).length<=5:=by
 unfold QV;rcases hn:qo S a with _|⟨lvl,xs⟩
 simp;have h:=(qI hn).1;unfold Qj ZV at h;simp at h;simp only;refine Nat.le_trans (List.length_filter_le _ _) ?_;rw[List.length_map];omega
theorem qmc(hk:qes S lo w f){a b:Nat}(h:ZN S a)(hf:(f (a:Int)).isSome=J)(hb:b∈Zr S a):(f (b:Int)).isSome=J:=by
 obtain⟨h1,h2,lvl,xs,h3,h4⟩:=h;obtain⟨v,hv⟩:=Option.isSome_iff_exists.1 hf;obtain⟨n,lvl',xs',A,c,fk,lk,b',e,-,-,h5,-,-,h6,h7⟩:=hk _ _ hv;obtain rfl:a=n:=zO;rw[h3,Option.some.injEq,Prod.mk.injEq]at h5;obtain⟨e1,rfl⟩:=h5;obtain rfl:lvl=lvl':=zO;obtain⟨h0,y,hy,rfl,hz⟩:=qcD h3 hb;have:=h7 (by rw[h6.1,h4]) h0 y hy
 rwa [show((y.r.toNat:Nat):Int)=y.r by omega]
theorem Bys.keepF(h:Bys w B v l)(hk:∀q:Addr,q.block<B->(∃A n c,v=F (E A) n c/\q.block=A.block)->w'.cell? q=w.cell? q):Bys w' B v l:=by obtain⟨A,c,e,hc,hm,hr⟩:=h;refine⟨A,c,e,hc,hm,hr.1,λhn=>?_⟩;obtain⟨b,off,hA,hb,aF⟩:=hr.2 hn;exact⟨b,off,hA,hb,λj u hu=>(hk ⟨b,off+j,I⟩ hb ⟨⟨b,off,I⟩,_,c,by rw[e,hA],rfl⟩).trans (aF j u hu)⟩
structure Off(B cb:Nat)(w w':Oa):Prop where
 os:w'.os=w.os
 tape:w'.tape=w.tape
 output:w'.output=w.output
 size:B<=w'
 block:∀k,k<B->k≠cb->w'.heap[k]?=w.heap[k]?
theorem Off.refl(h:B<=w):Off B cb w w:=⟨rfl,rfl,rfl,h,λ_ _ _=>rfl⟩
theorem Off.cell(h:Off B cb w w')(hq:q.block<B)(hc:q.block≠cb):w'.cell? q=w.cell? q:=World.cell?_of_block (h.block _ hq hc)
theorem Off.setCell(h:Off B cb w w')(hp:p.block=cb\/B<=p.block)(u:U):Off B cb w (w'.setCell p u):=
 ⟨h.os,h.tape,h.output,by simpa using h.size,λk hk hc=>(zJ _ _ _ _ (λe=>zO)).trans (h.block k hk hc)⟩
theorem Off.grown{w'':Oa}{row:Option Nat}(h:Off B cb w w')(hg:w'.grownBy w'' row)(hr:∀g,row=E g->g=cb\/B<=g):Off B cb w w'':=
 ⟨hg.os.trans h.os,hg.tape.trans h.tape,hg.output.trans h.output,Nat.le_trans h.size hg.size,λk hk hc=>(hg.block k (Nat.lt_of_lt_of_le hk h.size) (λe=>by rcases hr k e.symm with e|e<;>omega)).trans (h.block k hk hc)⟩
abbrev CP.put(p:CP)(ca:Array U):CP:={p with ca:=ca}
theorem Cen.put{p:CP}(h:Cen p w f)(hB:w.heap.size=B)(hO:Off B p.cb w w')(hr:w'.heap[p.cb]?=E (Z ca 96))(hc:∀i,i<6->ca[i]?=p.ca[i]?):Cen (p.put ca) w' f:=by
 subst hB;have hl:=h.low;have hk:∀q:Addr,q.block<p.sb->w'.cell? q=w.cell? q:=λq hq=>hO.cell zO zO;exact {
  row:=hr
  c0:=(hc 0 zO).trans h.c0
  c1:=(hc 1 zO).trans h.c1
  c2:=(hc 2 zO).trans h.c2
  c3:=(hc 3 zO).trans h.c3
  c4:=(hc 4 zO).trans h.c4
  c5:=(hc 5 zO).trans h.c5
  map:=h.map.of_heap (hO.block p.mb zO zO)
  known:=λa v hv=>(h.known a v hv).keep (zM _) hO.size (λq h1 h2=>hO.cell h2 (show q.block≠p.cb by omega)) (λ_ h=>h)
  sto:=h.sto.keep hk
  on:=(hO.block p.bb zO zO).trans h.on
  onb:=h.onb.keep hk
  onw:=h.onw.keep hk
  onl:=h.onl.keep hk
  onn:=(h.onn.keepF λq hq ⟨A,n,c,e,e'⟩=>hO.cell hq (by rw[e'];exact h.onf A n c e)).more hO.size
  onf:=h.onf
  low:=⟨hl.1,hl.2.1,hl.2.2.1,hl.2.2.2.1,hl.2.2.2.2.1,Nat.le_trans hl.2.2.2.2.2.1 hO.size,hl.2.2.2.2.2.2⟩
  may:=h.may}
end Go.Proofs.YtmeadnlmepcmbaaGreat
