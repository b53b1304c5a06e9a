/- Texts Tree, CenB, TakeW, NewP, NewF, joined. -/
import Derived.Test.YtpbniokljofedaaGreatZG04
import Derived.Test.YtpbniokljofedaaGreatZG05
import Derived.Test.YtpbniokljofedaaGreatZG07
import Derived.Test.YtpbniokljofedaaGreatZG10
import Derived.Test.YtpbniokljofedaaGreatZG13
import Derived.Test.YtpbniokljofedaaGreatZG14
set_option linter.unusedSimpArgs false
set_option linter.unusedVariables false
set_option maxHeartbeats 8000000
open Go.Proofs.Tryz
namespace Go.Proofs.YtpbniokljofedaaGreat
open Go.RowKit
def TreeQ (p:CP) (R:List Nat) (r:Int) (vv:Value) (w:World) (f:Int->Option Value) (e:Ending) (w':World):Prop:=
 e=.returned (.int .i64 (if okL p.S (-1) r=true then 0 else 8))/\w'.os=w.os/\w'.tape=w.tape/\w'.output=w.output/\w.heap.size<=w'.heap.size/\(∀ k,k<w.heap.size->k≠p.cb->k≠p.mb->w'.heap[k]?=w.heap[k]?) /\
  (okL p.S (-1) r=true->∃ ca g refs nodes,Cen (p.put ca) w' g/\JY f g/\Ar ca refs nodes vv/\qX p.S (R++[r.toNat]) refs nodes/\UP p.S g (R++[r.toNat]))
theorem Tryz.info_int:(Tryz.prog.info? 3).map (fun i=>(i.zero,i.size,i.bytes))=some (some (.int .i64 0),1,8):=zQ
structure TRel (p:CP) (w1:World) (vv:Value) (R:List Nat) (v:Value) (wr:World):Prop where
 ex:∃ (s:List Nat) (rf nd:Nat->Nat) (ca:Array Value),lenV v=s.length/\wr.ownsRow w1.heap.size 3 1 v s.length (Ja s)/\TrI p w1.heap.size w1 wr vv ca rf nd/\Wk p.S R rf nd s
structure IRel (p:CP) (w1:World) (vv:Value) (s':List Nat) (iq:Nat) (xs:List It) (rf nd':Nat->Nat) (nb:Nat) (A9:Option Addr) (c9:Nat) (v i:Value) (wq:World):Prop where
 ex:∃ (k:Nat) (rG:Nat->Nat) (ca':Array Value),k<=xs.length/\i=.int .i64 (k:Int)/\(∀ x,rG x=rf x+(Kg xs k).count x)/\lenV v=(s'++ZF iq xs k).length /\
  wq.ownsRow w1.heap.size 3 1 v (s'++ZF iq xs k).length (Ja (s'++ZF iq xs k))/\(∀ q,v.ownBlock=some q->q≠nb)/\TrI p w1.heap.size w1 wq vv ca' rG nd' /\
  wq.heap[nb]?=some (.cells #[.int .i64 iq,.slice A9 xs.length c9] 49 (0,0))
set_option maxRecDepth 100000 in
theorem tree_any (p:CP) (R:List Nat) (hRl:R.length<=100) (r:Int) (w:World) (f:Int->Option Value) (refs nodes:Nat->Nat) (vv:Value) (hC:Cen p w f) (hA:Ar p.ca refs nodes vv) (hN:qX p.S R refs nodes) (hR:UP p.S f R):Calls prog 86 #[.pointer (some ⟨p.cb,0,none⟩),.int .i64 r] w (TreeQ p R r vv w f):=by
 replace hC:=zH hC;replace hA:=zH hA;replace hN:=zH hN;replace hR:=zH hR;have hfi:=field_is;have uJ:=qiK;go_enter func86,ntmps86;go_wp2_with fail;refine(qbc p r w f hC.out).mono ?_;rintro e w1 ⟨v,g,rfl,⟨lvl,A,n,c,fk,lk,rfl,bn⟩,bM,hm,hg,hn⟩;have C1:=hC.out.after bM hm hg hn;rcases hok:okL p.S (-1) r with _|_
 ·have HQ:TreeQ p R r vv w f (.returned (.int .i64 8)) w1:=⟨by rw[hok];rfl,hg.os,hg.tape,hg.output,hg.size,fun k h1 _ h2=>hg.block k h1 zA1,fun h=>by rw[hok] at h;cases h⟩
  replace HQ:=zH HQ;replace C1:=zH C1;clear bn bM hm hg hn;go_wp2;go_ret;exact HQ.out
 ·obtain⟨a,rfl,dW⟩:=ZY hok;have hga:=bn hok;have aj:a<256:=dW.2.1;have kc:=qa C1.row;have fc:=qe C1.row;have kr:=hA.out.ref a aj;replace C1:=zH C1;replace dW:=zH dW;replace hga:=zH hga;clear bn;have aA:wrap64 ((refs a:Int)+1)=(refs a:Int)+1:=IntWalk.wrap64_in _ (by have:=qgf (jI.walk.1 hN.out.mkd) a;omega);have T1:TrI p w1.heap.size w1 w1 vv p.ca refs nodes:=⟨Off.refl (zM _),C1.out.row,hA.out,fun _ _=>rfl,(zG.1 C1.out.row).1⟩
  have Rk:UP p.S g (R++[a]):=fun b hb=>by
   rcases List.mem_append.1 hb with hb|hb
   ·exact⟨(hR.out b hb).1,bM.some_ _ (hR.out b hb).2⟩
   ·rw[List.mem_singleton.1 hb];exact⟨dW.out,by rw[hga.out];rfl⟩
  replace Rk:=zH Rk;go_wp2_with fail;have gR:∀ W,qj.r w1 W->W.cell? ⟨p.cb,6+a,none⟩=some (.int .i64 (refs a:Int)):=fun W h=>by rw[qa (qb C1.out.row h)];exact kr
  refine qp zQ ?_;refine zF 0 10 (.pointer (some ⟨p.cb,0,none⟩)) zQ (by simp only[List.getElem?_toArray,List.getElem?_cons_zero];exact rfl) zQ zQ zQ zA0 (fun W=>?_) ?_
  ·go_simp
  simp only[Act.put,qg,qc,qf,qc,zA,zB,zC];refine zF 7 9 (.pointer (some ⟨p.cb,0,none⟩)) zQ zA5 zQ zQ zQ zA0 (fun W=>?_) ?_
  ·go_simp
  simp only[Act.put,qg,qc,qf,qc,zA,zB,zC];refine zF 8 8 (.pointer (some ⟨p.cb,6,none⟩)) zQ zA5 zQ zQ zQ zA0 (fun W=>?_) ?_
  ·go_simp
  simp only[Act.put,qg,qc,qf,qc,zA,zB,zC];refine ZH (w:=w1) qj (qH []) [false,true,true,true,true,true,true,false,false,true] 1 zQ zQ zQ zQ zQ zQ ?st (Rel.drew _ _) ?walk
  case st=>exact qk (fun _ h=>by cases h)
  case walk =>
   intro K hK;dsimp only[qt];repeat ((first|(refine qd ?_ zA0 zA0 (fun W hW _=>⟨W,?_,Rel.refl _ W⟩) ?_;rotate_left;(go_simp<;>with_reducible rfl))|(refine qh zA0 ?_));try simp only[Act.put,ql,qg,qc,qf,qc,zA,zB,zC])
   first
    |(refine qd (.pointer (some ⟨p.cb,6+a,none⟩)) zA0 zA0 (fun W hW _=>⟨W,?_,Rel.refl _ W⟩) ?_
      ·go_simp;intro lG;exfalso;omega
      simp only[Act.put,qg,qc,qf,qc,zA,zB,zC])
    |skip
   repeat ((first|(refine qd ?_ zA0 zA0 (fun W hW _=>⟨W,?_,Rel.refl _ W⟩) ?_;rotate_left;(go_simp<;>with_reducible rfl))|(refine qh zA0 ?_));try simp only[Act.put,ql,qg,qc,qf,qc,zA,zB,zC])
   first
    |(refine qd (.pointer (some ⟨p.cb,6+a,none⟩)) zA0 zA0 (fun W hW _=>⟨W,?_,Rel.refl _ W⟩) ?_
      ·go_simp;intro lG;exfalso;omega
      simp only[Act.put,qg,qc,qf,qc,zA,zB,zC])
    |skip
   repeat ((first|(refine qd ?_ zA0 zA0 (fun W hW _=>⟨W,?_,Rel.refl _ W⟩) ?_;rotate_left;(go_simp<;>with_reducible rfl))|(refine qh zA0 ?_));try simp only[Act.put,ql,qg,qc,qf,qc,zA,zB,zC])
   refine qv (hK _ _ fun W hW hF=>?_);have ak:Ext w1 W:=hW;clear hF hK gR kc fc kr;refine zB5 ?_;have T2:=(T1.ext ak).addRef aj;have rc:=qb C1.out.row ak;have kc:=qa rc;have fc:=qe rc;have kr:=hA.out.ref a aj;go_wp2;refine Qo ?_;go_wp2_with fail;generalize aO:World.alloc _ _=w3;have T3:TrI p w1.heap.size w1 w3 vv _ (vd refs a) nodes:=T2.ext (by rw[<-aO];exact zN _ _);have o3:w3.ownsRow w1.heap.size 3 1 (.slice (some ⟨W.heap.size,0,none⟩) 1 1) 1 (Ja [a]):=by have h:=World.ownsRow_lit (base:=w1.heap.size) (e:=3) (size:=1) (W.setCell ⟨p.cb,6+a,none⟩ (.int .i64 ((refs a:Int)+1))) #[.int .i64 (a:Int)] 1 (by simpa using ak.size) zA6 rfl;rw[<-aO];have hz:(W.setCell ⟨p.cb,6+a,none⟩ (.int .i64 ((refs a:Int)+1))).heap.size=W.heap.size:=zA2;rw[hz] at h;exact h
   have K3:=hN.out.start a;generalize (p.ca.setIfInBounds (6+a) _)=ca3 at T3;clear aO kc fc kr rc T2 ak T1 hN hA aA;generalize W.heap.size=g3 at *;replace T3:=zH T3;replace o3:=zH o3;replace K3:=zH K3;go_loopw [5] (fun v wr=>TRel p w1 vv (R++[a]) v wr) (fun v wr=>6*leftW wr p.cb+lenV v)
   case atStart=>exact⟨[a],_,_,_,rfl,o3.out,T3.out,K3.out⟩
   case round =>
    obtain⟨s,rf,nd,ca,hsl,aB,T,K⟩:=hrel.ex;clear T3 o3 K3;rcases List.eq_nil_or_concat s with rfl|⟨s',b,rfl⟩
    ·obtain⟨A,c',rfl,-,-⟩:=qz aB;have hd:qX p.S (R++[a]) rf nd:=K.done;have HQ:TreeQ p R (a:Int) vv w f (.returned (.int .i64 0)) wr:=by
      refine⟨by rw[hok];rfl,?_,?_,?_,?_,?_,fun _=>⟨ca,g,rf,nd,T.cen C1.out,bM,T.ar,?_,?_⟩⟩
      ·exact T.off.os.trans hg.os
      ·exact T.off.tape.trans hg.tape
      ·exact T.off.output.trans hg.output
      ·exact Nat.le_trans hg.size T.off.size
      ·intro k h1 h2 h3;exact(T.off.block k (Nat.lt_of_lt_of_le h1 hg.size) h2).trans (hg.block k h1 zA1)
      ·simpa using hd
      ·simpa using Rk.out
     replace HQ:=zH HQ;replace T:=zH T;replace K:=zH K;replace hd:=zH hd;clear aB hsl bM hm hg hn;go_wp2;go_ret;exact HQ.out
    ·rw[List.concat_eq_append] at *;obtain⟨m,hm0⟩:∃ m,m=s'.length:=⟨_,rfl⟩
     rw[List.length_append,List.length_singleton,<-hm0] at aB;rw[KV] at aB;rcases aB.2 with ⟨h0,-⟩|⟨gb,cap,cur,rfl,hgb,aF,iI,fH,dD,oI⟩
     ·exfalso;have:=aB.1;simp[Xs] at this;rw[h0] at hsl;simp[lenV] at hsl
     ·obtain⟨gb',off',e0,hgb',aS⟩:=(Rd.of_own aB).2 zO;simp only[Option.some.injEq,Addr.mk.injEq,and_true] at e0;obtain⟨rfl,rfl⟩:=e0;have kb:=aS m (.int .i64 (b:Int)) (by rw[List.getElem?_append_right (by rw[Xs];omega),Xs,<-hm0];simp);rw[Nat.zero_add] at kb;clear aS;have hDQ:=Tv (xs:=Ja s') (news:=[.int .i64 (b:Int)]) (n:=m) (m:=1) aB (by rw[Xs,hm0];omega);obtain⟨rP,lT⟩:=Rk.out.reach C1.out.known (K.wk.stk b (List.mem_append_right _ (List.mem_singleton.2 rfl)));have bZ:=rP.2.1;have bT:wrap64 ((m:Int)+1-1)=(m:Int):=by rw[IntWalk.wrap64_in _ (by unfold maxLen at fH;omega)];omega
      have hw22:wrap64 (m:Int)=(m:Int):=IntWalk.wrap64_in _ (by unfold maxLen at fH;omega);replace aB:=zH aB;replace hDQ:=zH hDQ;replace T:=zH T;replace K:=zH K;replace rP:=zH rP;replace lT:=zH lT;replace hm0:=zH hm0;replace hsl:=zH hsl;have hmc:m<=cap:=Nat.le_of_succ_le iI;have hcap:¬cap=0:=fun e=>by rw[e] at iI;exact absurd iI (Nat.not_succ_le_zero _)
      clear aF;clear oI dD bM hm hg hn hgb fH iI;have kn0:=T.out.ar.node b bZ;have aO:wrap64 ((nd b:Int)+1)=(nd b:Int)+1:=IntWalk.wrap64_in _ (by have:=K.out.few b;simp at this;omega);go_wp2_with fail;have gN:∀ W,qj.r wr W->W.cell? ⟨p.cb,262+b,none⟩=some (.int .i64 (nd b:Int)):=fun W h=>by rw[qa (qb T.out.row h)];exact kn0
      refine qp zQ ?_;refine zF 0 10 (.pointer (some ⟨p.cb,0,none⟩)) zQ (by simp only[List.getElem?_toArray,List.getElem?_cons_zero];exact rfl) zQ zQ zQ zA0 (fun W=>?_) ?_
      ·go_simp
      simp only[Act.put,qg,qc,qf,qc,zA,zB,zC];refine zF 2 9 (.pointer (some ⟨p.cb,0,none⟩)) zQ zA5 zQ zQ zQ zA0 (fun W=>?_) ?_
      ·go_simp
      simp only[Act.put,qg,qc,qf,qc,zA,zB,zC];refine zF 7 8 (.pointer (some ⟨p.cb,0,none⟩)) zQ zA5 zQ zQ zQ zA0 (fun W=>?_) ?_
      ·go_simp
      simp only[Act.put,qg,qc,qf,qc,zA,zB,zC];refine zF 8 7 (.pointer (some ⟨p.cb,262,none⟩)) zQ zA5 zQ zQ zQ zA0 (fun W=>?_) ?_
      ·go_simp
      simp only[Act.put,qg,qc,qf,qc,zA,zB,zC];refine ZH (w:=wr) qj (qH []) [false,true,false,true,true,true,true,false,false,true] 1 zQ zQ zQ zQ zQ zQ ?st (Rel.drew _ _) ?walk
      case st=>exact qk (fun _ h=>by cases h)
      case walk =>
       intro K' hK';dsimp only[qt];repeat ((first|(refine qd ?_ zA0 zA0 (fun W hW _=>⟨W,?_,Rel.refl _ W⟩) ?_;rotate_left;(go_simp<;>with_reducible rfl))|(refine qh zA0 ?_));try simp only[Act.put,ql,qg,qc,qf,qc,zA,zB,zC])
       first
        |(refine qd (.pointer (some ⟨p.cb,262+b,none⟩)) zA0 zA0 (fun W hW _=>⟨W,?_,Rel.refl _ W⟩) ?_
          ·go_simp;intro lG;exfalso;omega
          simp only[Act.put,qg,qc,qf,qc,zA,zB,zC])
        |skip
       repeat ((first|(refine qd ?_ zA0 zA0 (fun W hW _=>⟨W,?_,Rel.refl _ W⟩) ?_;rotate_left;(go_simp<;>with_reducible rfl))|(refine qh zA0 ?_));try simp only[Act.put,ql,qg,qc,qf,qc,zA,zB,zC])
       first
        |(refine qd (.pointer (some ⟨p.cb,262+b,none⟩)) zA0 zA0 (fun W hW _=>⟨W,?_,Rel.refl _ W⟩) ?_
          ·go_simp;intro lG;exfalso;omega
          simp only[Act.put,qg,qc,qf,qc,zA,zB,zC])
        |skip
       repeat ((first|(refine qd ?_ zA0 zA0 (fun W hW _=>⟨W,?_,Rel.refl _ W⟩) ?_;rotate_left;(go_simp<;>with_reducible rfl))|(refine qh zA0 ?_));try simp only[Act.put,ql,qg,qc,qf,qc,zA,zB,zC])
       refine qv (hK' _ _ fun W hW hF=>?_);have lC:Ext wr W:=hW;clear hF hK' gN;refine zB5 ?_;have T2:=(T.out.ext lC).addNode bZ;have rc:=qb T.out.row lC;have kc:=qa rc;have fc:=qe rc;have o2:(W.setCell ⟨p.cb,262+b,none⟩ (.int .i64 ((nd b:Int)+1))).ownsRow w1.heap.size 3 1 (.slice (some ⟨gb,0,none⟩) m cap) m (Ja s'):=vP (za hDQ.out lC) (p:=⟨p.cb,262+b,none⟩) T.out.lt _;generalize (ca.setIfInBounds (262+b) _)=ca4 at T2;replace rc:=zH rc;go_wp2;refine Qo ?_;rw[aO];generalize hw4:W.setCell ⟨p.cb,262+b,none⟩ (.int .i64 ((nd b:Int)+1))=w4 at *;clear hw4 kc fc rc lC;replace T2:=zH T2;replace o2:=zH o2;have kc:=qa T2.out.row;have kn2:=T2.out.ar.node b bZ;have hbb:vd nd b b=nd b+1:=by unfold vd;rw[if_pos rfl]
       rw[hbb] at kn2;have kq:w4.cell? ⟨p.cb,262+b,none⟩=some (.int .i64 ((nd b:Int)+1)):=(kc _).trans kn2;have kq5:w4.cell? ⟨p.cb,5,none⟩=some (.map (some p.mb)):=(kc _).trans ((T2.out.low 5 zO).trans C1.out.c5);clear kc kn2;rcases Nat.eq_zero_or_pos (nd b) with hz|hz
       ·have dV:decide (((nd b+1:Nat):Int)>1)=false:=decide_eq_false zO;have bP:decide ((nd b:Int)+1>1)=false:=decide_eq_false zO;replace hz:=zH hz;go_wp2_with (at_lookup;refine Qf ?_);obtain⟨v9,hv9⟩:=Option.isSome_iff_exists.1 lT.out;obtain⟨n9,iq,xs,A9,c9,f9,l9,b9,e9,-,-,hnode,rfl,aJ,-,-⟩:=C1.out.known _ _ hv9;obtain rfl:b=n9:=zO;have hMap:=(T2.out.cen C1.out).map;refine QC.go (UK _ rfl (.tmp 61) (.tmp 62) 81 rfl underlying81 underlying3 rfl rfl hMap hv9 ?_);have hmay:=(qN hnode).1;have tN:=(qN hnode).2.1;have hlen:xs.length<=5:=by unfold Qb ZR at hmay;simp at hmay;omega
        clear hMap hv9 hmay kq kq5;replace hnode:=zH hnode;replace aJ:=zH aJ;replace tN:=zH tN;go_wp2_with fail;generalize aV:World.alloc w4 _=w5;have T5:=T2.out.ext (by rw[<-aV];exact zN _ _:Ext w4 w5);have o5:=za o2.out (by rw[<-aV];exact zN _ _:Ext w4 w5);have n5:w5.heap[w4.heap.size]?=some (.cells #[.int .i64 iq,.slice A9 xs.length c9] 49 (0,0)):=by rw[<-aV];exact zI _ _ _ rfl
        have z5:gb<w4.heap.size:=(QM o2.out gb rfl).2;clear aV;have hlt9:=T2.out.lt;have bV:=T2.out.off.size;generalize w4.heap.size=nb at *;have I0:IRel p w1 vv s' iq xs rf (vd nd b) nb A9 c9 (.slice (some ⟨gb,0,none⟩) m cap) (.int .i64 0) w5:=by
         refine⟨0,rf,ca4,Nat.zero_le _,rfl,fun x=>by rw[qky];rfl,?_,?_,fun q hq=>?_,T5,n5⟩
         ·rw[GW,List.append_nil];exact hm0.out
         ·rw[GW,List.append_nil,<-hm0.out];exact o5
         ·simp[Value.ownBlock] at hq;omega
        replace I0:=zH I0;clear o5 T5 n5;go_loopw [5,68] (fun v i wq=>IRel p w1 vv s' iq xs rf (vd nd b) nb A9 c9 v i wq) (fun _ i _=>xs.length-(intOf i).toNat)
        case atStart=>exact I0.out
        case round =>
         obtain⟨k,rG,ca',hk,rfl,hrf,az,ah,lL,TI,nI⟩:=hrel.ex;clear I0;by_cases hlt:k<xs.length
         ·have aH:=hlt;obtain⟨b9',hIL,rfl,hb9⟩:=aJ.out.its.at_.2.2.2 zO;obtain⟨A',c',d0,d1,d2,d3,d4,-⟩:=(TI.its C1.out aJ.out).its.item k aH;obtain⟨⟨-,-,-,⟨oH,hr2⟩,-⟩,-⟩:=tN.out xs[k] (List.getElem_mem aH);have HSK:=zH (fun h=>qga (lvl:=iq) aH h);have HPU:=zH (fun h h'=>qfZ (lvl:=iq) aH h h');have HRS:=zH (fun h=>qkx aH h hrf);have HRB:=zH (fun h=>qkw aH h hrf);generalize xs[k]=x at *;obtain⟨r,hr⟩:=Int.eq_ofNat_of_zero_le oH;rw[hr] at d3 hr2;have tJ:r<256:=zO;rw[hr,Int.toNat_natCast] at HSK HPU HRS HRB;clear oH hr2;replace hr:=zH hr;replace hrf:=zH hrf;replace TI:=zH TI;replace ah:=zH ah;replace az:=zH az;replace lL:=zH lL;rcases Nat.eq_zero_or_pos r with hr0|hr0
          ·have yx:((r:Int) == 0)=true:=by rw[beq_iff_eq];omega
           have ug:=HRS.out hr0;have xK:=HSK.out (.inl hr0);replace hr0:=zH hr0;replace ug:=zH ug;replace xK:=zH xK;go_wp2_with fail;refine⟨⟨k+1,rG,ca',aH,rfl,ug.out,?_,?_,lL.out,TI.out.ext (zN _ _),qb nI (zN _ _)⟩,by simp[intOf];omega⟩
           ·rw[xK.out];exact az.out
           ·rw[xK.out];exact za ah.out (zN _ _)
          ·have yx:((r:Int) == 0)=false:=by rw[beq_eq_false_iff_ne];omega
           have hHP:¬r=0:=zO;have ug:=HRB.out hHP;replace ug:=zH ug;replace hHP:=zH hHP;clear hr0;go_wp2_with fail;generalize ik:World.alloc wr _=w6;have x6:Ext wr w6:=by rw[<-ik];exact zN _ _
           have r6:w6.heap[wr.heap.size]?=some (.cells #[.int .u8 x.k,.int .u32 x.i,.int .u32 x.o,.int .i64 r,.slice A' x.val.length c'] 68 (0,0)):=by rw[<-ik];exact zI _ _ _ rfl
           clear ik d0 d1 d2 d3 d4;have T6:=TI.out.ext x6;have o6:=za ah.out x6;have n6:=qb nI x6;have kr0:=T6.ar.ref r tJ;have ik:wrap64 ((rG r:Int)+1)=(rG r:Int)+1:=IntWalk.wrap64_in _ (by have h1:=hrf.out r;have h2:=List.count_le_length (a:=r) (l:=Kg xs k);have h3:=qbA (xs:=xs) (k:=k);have h4:=qgf K.out.wk r;simp at h4;omega);have gR:∀ W,qj.r w6 W->W.cell? ⟨p.cb,6+r,none⟩=some (.int .i64 (rG r:Int)):=fun W h=>by rw[qa (qb T6.row h)];exact kr0
           have gI:∀ W,qj.r w6 W->∀ i,W.cell? ⟨wr.heap.size,i,none⟩=#[.int .u8 x.k,.int .u32 x.i,.int .u32 x.o,.int .i64 r,.slice A' x.val.length c'][i]?:=fun W h=>qa (qb r6 h);refine qp zQ ?_;refine zF 0 11 (.pointer (some ⟨p.cb,0,none⟩)) zQ (by simp only[List.getElem?_toArray,List.getElem?_cons_zero];exact rfl) zQ zQ zQ zA0 (fun W=>?_) ?_
           ·go_simp
           simp only[Act.put,qg,qc,qf,qc,zA,zB,zC];refine zF 3 10 (.pointer (some ⟨p.cb,0,none⟩)) zQ zA5 zQ zQ zQ zA0 (fun W=>?_) ?_
           ·go_simp
           simp only[Act.put,qg,qc,qf,qc,zA,zB,zC];refine zF 8 9 (.pointer (some ⟨p.cb,0,none⟩)) zQ zA5 zQ zQ zQ zA0 (fun W=>?_) ?_
           ·go_simp
           simp only[Act.put,qg,qc,qf,qc,zA,zB,zC];refine zF 9 8 (.pointer (some ⟨p.cb,6,none⟩)) zQ zA5 zQ zQ zQ zA0 (fun W=>?_) ?_
           ·go_simp
           simp only[Act.put,qg,qc,qf,qc,zA,zB,zC];refine ZH (w:=w6) qj (qH []) [false,true,true,false,true,true,true,true,false,false,true] 1 zQ zQ zQ zQ zQ zQ ?st (Rel.drew _ _) ?walk
           case st=>exact qk (fun _ h=>by cases h)
           case walk =>
            intro K2 hK2;dsimp only[qt];repeat ((first|(refine qd ?_ zA0 zA0 (fun W hW _=>⟨W,?_,Rel.refl _ W⟩) ?_;rotate_left;(go_simp<;>with_reducible rfl))|(refine qh zA0 ?_));try simp only[Act.put,ql,qg,qc,qf,qc,zA,zB,zC])
            first
             |(refine qd (.pointer (some ⟨p.cb,6+r,none⟩)) zA0 zA0 (fun W hW _=>⟨W,?_,Rel.refl _ W⟩) ?_
               ·go_simp;intro lG;exfalso;omega
               simp only[Act.put,qg,qc,qf,qc,zA,zB,zC])
             |skip
            repeat ((first|(refine qd ?_ zA0 zA0 (fun W hW _=>⟨W,?_,Rel.refl _ W⟩) ?_;rotate_left;(go_simp<;>with_reducible rfl))|(refine qh zA0 ?_));try simp only[Act.put,ql,qg,qc,qf,qc,zA,zB,zC])
            first
             |(refine qd (.pointer (some ⟨p.cb,6+r,none⟩)) zA0 zA0 (fun W hW _=>⟨W,?_,Rel.refl _ W⟩) ?_
               ·go_simp;intro lG;exfalso;omega
               simp only[Act.put,qg,qc,qf,qc,zA,zB,zC])
             |skip
            repeat ((first|(refine qd ?_ zA0 zA0 (fun W hW _=>⟨W,?_,Rel.refl _ W⟩) ?_;rotate_left;(go_simp<;>with_reducible rfl))|(refine qh zA0 ?_));try simp only[Act.put,ql,qg,qc,qf,qc,zA,zB,zC])
            refine qv (hK2 _ _ fun W hW hF=>?_);have lC:Ext w6 W:=hW;clear hF hK2 gR gI;refine zB5 ?_;have T7:=(T6.ext lC).addRef tJ;have rc:=qb T6.row lC;have kc:=qa rc;have fc:=qe rc;have hlp:=T6.lt;have o7:(W.setCell ⟨p.cb,6+r,none⟩ (.int .i64 ((rG r:Int)+1))).ownsRow w1.heap.size 3 1 _ _ _:=vP (za o6 lC) (p:=⟨p.cb,6+r,none⟩) hlp _;have n7:(W.setCell ⟨p.cb,6+r,none⟩ (.int .i64 ((rG r:Int)+1))).heap[nb]?=_:=(zJ _ _ _ _ (by show nb≠p.cb;omega)).trans (qb n6 lC);have r7:(W.setCell ⟨p.cb,6+r,none⟩ (.int .i64 ((rG r:Int)+1))).heap[wr.heap.size]?=_:=(zJ _ _ _ _ (by show wr.heap.size≠p.cb;have:=TI.out.off.size;omega)).trans (qb r6 lC);generalize (ca'.setIfInBounds (6+r) _)=ca7 at T7;replace rc:=zH rc;go_wp2;refine Qo ?_;rw[ik];generalize gp:W.setCell ⟨p.cb,6+r,none⟩ (.int .i64 ((rG r:Int)+1))=w7 at *;clear gp kc fc rc lC T6 o6 n6 x6 r6 kr0 ik;have kn7:=qa n7;have kr7:=qa r7;replace T7:=zH T7;replace o7:=zH o7;rcases Nat.eq_zero_or_pos iq with hv0|hv0
            ·have oG:decide ((iq:Int)>0)=false:=decide_eq_false zO;have hq4:decide (0<iq)=false:=decide_eq_false zO;have xK:=HSK.out (.inr hv0);replace xK:=zH xK;replace hv0:=zH hv0;go_wp2_with fail;refine⟨⟨k+1,vd rG r,ca7,aH,rfl,ug.out,?_,?_,lL.out,T7.out,n7⟩,by simp[intOf];omega⟩
             ·rw[xK.out];exact az.out
             ·rw[xK.out];exact o7.out
            ·have oG:decide ((iq:Int)>0)=true:=decide_eq_true zO;have hq4:decide (0<iq)=true:=decide_eq_true hv0;have xK:=HPU.out hHP.out hv0;replace xK:=zH xK;replace hv0:=zH hv0;have hlv7:=az.out;have hHJ:=lL.out;have hz7:nb<w7.heap.size:=(zG.1 n7).1;have uI:(s'++ZF iq xs k).length<1073741824:=by
              have h1:=K.out.few b;have h2:(ZF iq xs k).length<=k:=by
               unfold ZF;split
               ·exact qbA
               ·simp
              simp at h1;rw[List.length_append];omega
             replace hlv7:=zH hlv7;replace hHJ:=zH hHJ;replace uI:=zH uI;obtain⟨i0,hi,ag,aU,aW⟩:=info_parts Tryz.info_int;go_wp2_with (at_builtin;refine Qf ?_);refine QC.go (jh _ rfl (.tmp 89) (.tmp 92) 30 rfl w1.heap.size 3 i0 (.int .i64 0) 1 8 underlying30 hi ag aU aW rfl zD _ _ _ rfl o7.out #[.int .i64 (r:Int)] rfl rfl zA7 uI.out zD T7.out.off.size ?_);intro v8 w8 lh g8 _ hJS;have T8:=T7.out.grown g8 fun q hq=>(QM o7.out q hq).1;have n8:=(g8.block nb hz7 (fun e=>hHJ.out nb e.symm rfl)).trans n7;have hnb8:∀ q,v8.ownBlock=some q->q≠nb:=by
              intro q hq;rcases hJS with e|⟨q',e,e2⟩
              ·exact hHJ.out q (e.symm.trans hq)
              ·rw[e] at hq;cases hq;omega
             obtain⟨A8,c8,hv8,-,-⟩:=qz lh;have hJH:lenV v8=(s'++ZF iq xs (k+1)).length:=by rw[hv8,xK.out];simp only[lenV,List.length_append,List.length_cons,List.length_nil];omega
             have own9:w8.ownsRow w1.heap.size 3 1 v8 (s'++ZF iq xs (k+1)).length (Ja (s'++ZF iq xs (k+1))):=by
              have hcat:(s'++ZF iq xs (k+1)).length=(s'++ZF iq xs k).length+1:=by rw[xK.out,<-List.append_assoc,List.length_append,List.length_singleton]
              rw[hcat,xK.out,<-List.append_assoc,KV];exact lh
             have IR:IRel p w1 vv s' iq xs rf (vd nd b) nb (some ⟨b9',hIL,none⟩) c9 v8 (.int .i64 ((k:Int)+1)) w8:=⟨k+1,vd rG r,ca7,aH,rfl,ug.out,hJH,own9,hnb8,T8,n8⟩
             replace IR:=zH IR;clear lh g8 hJS hv8 hJH own9 hnb8 T8 n8 hi ag aU aW;go_wp2_with fail;refine⟨IR.out,?_⟩;simp[intOf];omega
         ·have mD:k=xs.length:=zO;subst mD;have KN:=K.out.new hz.out bZ hnode.out hrf;have e1:=Ub T.out.row T.out.ar;have e2:=Ub TI.row TI.ar;have e3:=TC (M:=VF nd) (a:=b) (decide_eq_false (by have:=hz.out;omega)) 256;rw[<-Kb,if_pos bZ] at e3;have bQ:(ZF iq xs xs.length).length<=5:=by
           unfold ZF;split
           ·exact Nat.le_trans qbA hlen
           ·simp
          replace e3:=zH e3;clear bT hw22 aO;go_wp2_with fail;go_roundw
          case rel =>exact⟨s'++ZF iq xs xs.length,rG,vd nd b,ca',az,ah,TI,KN⟩
          case measure =>rw[e1,e2,az,List.length_append,<-hm0.out];have e3':=e3.out;simp only[lenV];omega
       ·have dV:decide (((nd b+1:Nat):Int)>1)=true:=decide_eq_true zO;have bP:decide ((nd b:Int)+1>1)=true:=decide_eq_true zO;replace hz:=zH hz;go_wp2_with fail;go_roundw
        case rel =>exact⟨s',rf,vd nd b,ca4,hm0.out,by rw[<-hm0.out];exact o2.out,T2.out,K.out.again hz.out⟩
        case measure =>have e1:=Ub T.out.row T.out.ar;have e2:=Ub T2.out.row T2.out.ar;rw[Kc hz.out] at e2;rw[e1,e2];simp[lenV]
def ca0 (s1 s2 s3 s4:Value) (bb mb:Nat):Array Value:=(#[s1,s2,s3,s4,.pointer (some ⟨bb,0,none⟩),.map (some mb)]++Array.replicate 512 (.int .i64 0))++#[.slice none 0 0]
theorem ca_eq (s1 s2 s3 s4:Value) (bb mb:Nat):(((((Tryz.zeroCells84.setIfInBounds 0 s1).setIfInBounds 1 s2).setIfInBounds 2 s3).setIfInBounds 3 s4).setIfInBounds 4 (.pointer (some ⟨bb,0,none⟩))).setIfInBounds 5 (.map (some mb))=ca0 s1 s2 s3 s4 bb mb:=zQ
theorem qgA (p:CP) (w1:World) (f:Int->Option Value) (refs nodes:Nat->Nat) (s1 s2 s3 s4:Value) (gen root next:Int) (dead:Value) (hC:Cen p w1 f):∀ h:Nat,VolsC p w1 f refs nodes s1 s2 s3 s4 gen root next dead h
 |0=>qgB p w1 f refs nodes s1 s2 s3 s4 gen root next dead hC 0 fun _ e=>zO
 |h+1=>qgB p w1 f refs nodes s1 s2 s3 s4 gen root next dead hC (h+1) fun h' e=>by obtain rfl:h=h':=zO;exact qgA p w1 f refs nodes s1 s2 s3 s4 gen root next dead hC h
theorem ca0_ar (s1 s2 s3 s4:Value) (bb mb:Nat):Ar (ca0 s1 s2 s3 s4 bb mb) (fun _=>0) (fun _=>0) (.slice none 0 0):=by
 unfold ca0;refine⟨zA2,fun a ha=>?_,fun a ha=>?_,?_⟩
 ·rw[Array.getElem?_append_left zA1,Array.getElem?_append_right zA2];simp[Array.getElem?_replicate];omega
 ·rw[Array.getElem?_append_left zA1,Array.getElem?_append_right zA1];simp[Array.getElem?_replicate];omega
 ·rw[Array.getElem?_append_right zA2];simp
theorem ca0_low (s1 s2 s3 s4:Value) (bb mb:Nat) {i:Nat} (hi:i<6):(ca0 s1 s2 s3 s4 bb mb)[i]?=(#[s1,s2,s3,s4,.pointer (some ⟨bb,0,none⟩),.map (some mb)]:Array Value)[i]?:=by unfold ca0;rw[Array.getElem?_append_left zA1,Array.getElem?_append_left zA1]
theorem Ze.empty (w:World):Ze (w.alloc (.map #[] 0)) w.heap.size fun _=>none:=⟨#[],0,zI _ _ _ rfl,fun _ h=>absurd h (List.not_mem_nil),fun _=>rfl⟩
def vt (S:Sto) (root next:Int):Option (List Vol):=match qu S root.toNat with
 |none=>none
 |some (lvl,xs)=>Zs next [] (qC S lvl.toNat xs)
def Zl (root:Int) (dead:List Int) (vs:List Vol):List Int:=(root :: dead)++vs.map (·.root)
structure Qg (S:Sto) (root next:Int) (dead:List Int) (vs:List Vol):Prop where
 may:qm S=true
 few:dead.length<=40
 top:okL S (-1) root=true
 vols:vt S root next=some vs
 ok:∀ r∈Zl root dead vs,okL S (-1) r=true
def QF (S:Sto) (refs:Nat->Nat):Prop:=∀ a,a<256->refs a<=(S.now[a]?.getD 0).toNat
def Zw (w:World) (B:Nat) (v:Value) (l:List Int):Prop:=∃ A c,v=.slice A l.length c/\l.length<=c/\c<=maxLen/\Rd w B 1 A l.length (l.map fun (a:Int)=>Value.int .i64 a)
def Qs (root:Int) (dead:List Int) (vs:List Vol):List Nat:=(Zl root dead vs).map Int.toNat
structure Taken (S:Sto) (root next:Int) (dead:List Int) (vs:List Vol) (refs nodes:Nat->Nat) (lo cb:Nat) (ca:Array Value) (vv:Value) (w:World):Prop where
 pool:Qg S root next dead vs
 cnt:qX S (Qs root dead vs) refs nodes
 enough:QF S refs
 low:lo<=cb
 row:w.heap[cb]?=some (.cells ca 84 (0,0))
 ar:Ar ca refs nodes vv
 own:w.ownsRow lo 40 4 vv vs.length (ZU vs)
def XK (S:Sto) (root next:Int) (dead:List Int) (w:World) (e:Ending) (w':World):Prop:=Below w.heap.size w w' /\
 ((e=.returned (.tuple #[.pointer none,.int .i64 8])/\∀ vs,Qg S root next dead vs->∃ refs nodes,qX S (Qs root dead vs) refs nodes/\¬QF S refs) \/
  ∃ vs refs nodes cb ca vv,e=.returned (.tuple #[.pointer (some ⟨cb,0,none⟩),.int .i64 0])/\Taken S root next dead vs refs nodes w.heap.size cb ca vv w')
theorem XK.bad {S:Sto} {root next:Int} {dead:List Int} {w w':World} (hB:Below w.heap.size w w') (h:∀ vs,¬Qg S root next dead vs):XK S root next dead w (.returned (.tuple #[.pointer none,.int .i64 8])) w':=
 ⟨hB,.inl ⟨rfl,fun vs hp=>absurd hp (h vs)⟩⟩
def Gj (l:List Int):List Value:=l.map fun (a:Int)=>Value.int .i64 a
theorem qkv (l:List Int) (a:Int):Gj (l++[a])=Gj l++[Value.int .i64 a]:=by simp[Gj]
theorem rowI_get (l:List Int) (k:Nat) (h:k<l.length):(Gj l)[k]?=some (.int .i64 l[k]):=by unfold Gj;rw[List.getElem?_map,zL h];rfl
def vy (root:Int) (dead:List Int) (vs:List Vol) (k:Nat):List Int:=(root :: dead)++(vs.take k).map (·.root)
theorem qgl (root:Int) (dead:List Int) (vs:List Vol) {k:Nat} (h:k<=vs.length):(vy root dead vs k).length=1+dead.length+k:=by unfold vy;simp;omega
theorem qen (root:Int) (dead:List Int) (vs:List Vol) {k:Nat} (h:k<vs.length):vy root dead vs (k+1)=vy root dead vs k++[vs[k].root]:=by unfold vy;rw[List.take_succ_eq_append_getElem h,List.map_append,<-List.append_assoc];rfl
theorem GY (root:Int) (dead:List Int) (vs:List Vol):vy root dead vs vs.length=Zl root dead vs:=by unfold vy Zl;rw[List.take_length]
theorem Kq (vs:List Vol):∀ k (h:k<vs.length),(ZU vs)[k*4]?=some (.int .u32 vs[k].id)/\(ZU vs)[k*4+1]?=some (.int .i64 vs[k].root)/\(ZU vs)[k*4+2]?=some (.bool vs[k].fz)/\(ZU vs)[k*4+3]?=some (.int .u32 vs[k].frm):=by
 induction vs with
 |nil=>intro k h;exact absurd h (Nat.not_lt_zero _)
 |cons v r ih =>
  intro k h;cases k with
  |zero=>exact⟨rfl,rfl,rfl,rfl⟩
  |succ k =>
   have:=ih k (by simpa using h);have e:ZU (v :: r)=[.int .u32 v.id,.int .i64 v.root,.bool v.fz,.int .u32 v.frm]++ZU r:=rfl;rw[e];have hg:∀ j,([.int .u32 v.id,.int .i64 v.root,.bool v.fz,.int .u32 v.frm]++ZU r:List Value)[(k+1)*4+j]?=(ZU r)[k*4+j]?:=fun j=>by rw[List.getElem?_append_right (by simp only[List.length_cons,List.length_nil];omega)];congr 1;simp only[List.length_cons,List.length_nil];omega
   exact⟨(hg 0).trans this.1,(hg 1).trans this.2.1,(hg 2).trans this.2.2.1,(hg 3).trans this.2.2.2⟩
theorem qX.zero (S:Sto):qX S [] (fun _=>0) (fun _=>0):=
 ⟨jI.walk.2 (vE.nil (fun _=>rfl) fun _=>rfl),fun a=>by have:=qbO (VF fun _=>0) 256;simp only[List.length_nil];omega⟩
structure qaj (cb mb:Nat) (w w':World):Prop where
 os:w'.os=w.os
 tape:w'.tape=w.tape
 output:w'.output=w.output
 size:w.heap.size<=w'.heap.size
 block:∀ k,k<w.heap.size->k≠cb->k≠mb->w'.heap[k]?=w.heap[k]?
theorem qaj.refl (cb mb:Nat) (w:World):qaj cb mb w w:=⟨rfl,rfl,rfl,zM _,fun _ _ _ _=>rfl⟩
theorem qaj.trans {cb mb:Nat} {w w' w'':World} (h:qaj cb mb w w') (h':qaj cb mb w' w''):qaj cb mb w w'':=
 ⟨h'.os.trans h.os,h'.tape.trans h.tape,h'.output.trans h.output,Nat.le_trans h.size h'.size,fun k h1 h2 h3=>(h'.block k (Nat.lt_of_lt_of_le h1 h.size) h2 h3).trans (h.block k h1 h2 h3)⟩
theorem qaj.below {cb mb B:Nat} {w0 w w':World} (h:qaj cb mb w w') (hb:Below B w0 w) (hB:B<=w.heap.size) (h1:B<=cb) (h2:B<=mb):Below B w0 w':=
 ⟨h.os.trans hb.os,h.tape.trans hb.tape,h.output.trans hb.output,Nat.le_trans hb.size h.size,fun k hk=>(h.block k zO zO zO).trans (hb.block k hk)⟩
structure R2 (p:CP) (w8:World) (vv:Value) (roots:List Int) (i:Value) (wr:World):Prop where
 ex:∃ (k:Nat) (g:Int->Option Value) (ca:Array Value) (refs nodes:Nat->Nat),k<=roots.length/\i=.int .i64 (k:Int)/\Cen (p.put ca) wr g/\Ar ca refs nodes vv/\qX p.S ((roots.take k).map Int.toNat) refs nodes/\UP p.S g ((roots.take k).map Int.toNat) /\
  (∀ r∈roots.take k,okL p.S (-1) r=true)/\qaj p.cb p.mb w8 wr
section
variable {P:Program} {ops:Array Oper} {rest:List Oper} {o:Oper} {a:Act} {w:World} {Q:Exit->Act->World->Prop}
theorem qcq (g off:Nat) (ty:TypeId) (cs:List Value) (d:TypeDesc) (hc:∀ j v,cs[j]?=some v->w.cell? ⟨g,off+j,none⟩=some v) (hu:P.underlying ty=some d) (hd:(match d with | .struct _ | .array _ _=>true|_=>false)=true) (hi:(P.info? ty).map (·.size)=some cs.length) : (loadVar ty ⟨g,off,none⟩).run P w=.ok (.agg cs.toArray) w:=by
 have hl:(loadCells ⟨g,off,none⟩ cs.length).run P w=.ok cs.toArray w:=
  run_loadCells_list (P:=P) w ⟨g,off,none⟩ cs (fun j v hv=>by
   have hadd:(⟨g,off,none⟩:Addr).add j=⟨g,off+j,none⟩:=by unfold Addr.add;split <;> simp_all
   rw[hadd];exact hc j v hv)
 cases hq:P.info? ty with
 |none=>simp[hq] at hi
 |some i =>
  have hs:i.size=cs.length:=by simpa [hq] using hi
  have hagg:(isAgg ty).run P w=.ok true w:=by unfold isAgg;rw[Sem.run_bind,run_underlying hu w];cases d <;> simp_all
  simp[loadVar,Sem.run_bind,hagg,sizeOf,typeInfo,hq,hs,hl]
theorem KH (fP:o.guard=none) (ty:TypeId) (x:Operand) (ho:o.op=.load ty x) (g off:Nat) (hx:a.eval x=.pointer (some ⟨g,off,none⟩)) (cs:List Value) (d:TypeDesc) (hc:∀ j v,cs[j]?=some v->w.cell? ⟨g,off+j,none⟩=some v) (hu:P.underlying ty=some d) (hd:(match d with | .struct _ | .array _ _=>true|_=>false)=true) (hi:(P.info? ty).map (·.size)=some cs.length) (h:wpList P ops Q rest (a.put o.dst (.agg cs.toArray)) w):wpList P ops Q (o :: rest) a w:=by
 refine wpList_plain fP fun K hK=>?_;unfold Oper.wp execOp;simp only[ho,hx,Instr.loadAt,Instr.sureAddr,Sem.run_bind,Sem.run_pure,Result.andThen_ok,qcq g off ty cs d hc hu hd hi];exact hK _ _ h
end
def YL (f:Nat->Nat):List Value:=(List.range 256).map fun a=>Value.int .i64 ((f a:Nat):Int)
theorem qaJ (f:Nat->Nat) {k:Nat} (h:k<256):(YL f)[k]?=some (.int .i64 ((f k:Nat):Int)):=by unfold YL;rw[List.getElem?_map,List.getElem?_range h];rfl
theorem qiB {f:Nat->Nat} {j:Nat} {v:Value} (h:(YL f)[j]?=some v):j<256/\v=.int .i64 ((f j:Nat):Int):=by
 have hj:j<256:=by have:=(List.getElem?_eq_some_iff.1 h).1;simpa [YL] using this
 rw[qaJ f hj] at h;cases h;exact⟨hj,rfl⟩
structure R3 (S:Sto) (refs:Nat->Nat) (w9:World) (i:Value) (wr:World):Prop where
 ex:∃ k:Nat,k<=256/\i=.int .i64 (k:Int)/\(∀ a,a<k->refs a<=(S.now[a]?.getD 0).toNat)/\wr=w9
theorem own_kept {cb mb:Nat} {w w':World} {base n size:Nat} {e:TypeId} {v:Value} {xs:List Value} (h:w.ownsRow base e size v n xs) (hk:qaj cb mb w w') (h1:cb<base) (h2:mb<base):w'.ownsRow base e size v n xs:=by
 refine⟨h.1,?_⟩;rcases h.2 with h0|⟨g,cap,cur,hv,hb,hg,hr⟩
 ·exact .inl h0
 ·exact .inr ⟨g,cap,cur,hv,hb,(hk.block g (zG.1 hg).1 zO zO).trans hg,hr⟩
structure R1 (w6:World) (root:Int) (dead:List Int) (vs:List Vol) (v i:Value) (wr:World):Prop where
 ex:∃ k:Nat,k<=vs.length/\i=.int .i64 (k:Int)/\wr.ownsRow w6.heap.size 3 1 v (1+dead.length+k) (Gj (vy root dead vs k))/\Ext w6 wr
def newS:Sto:=⟨JO,[],jb 256,jb 256⟩
def qO:Sto:=⟨JO,[(8,Zh (Qq 0 []))],(jb 256).set 8 1,jb 256⟩
theorem newS_may:qm newS=true:=by decide +kernel
theorem Wrs.nil (w:World) (B:Nat):Wrs w B (.slice none 0 0) []:=⟨[],rfl,⟨none,0,rfl,zM _,by simp[maxLen],Rd.none_⟩,fun p h=>by cases h⟩
set_option maxRecDepth 100000 in
theorem JL:Gu qO:=by
 have h1:JO.length=256:=by unfold JO;rw[List.length_replicate]
 have h2:∀ l∈JO,l.length<1000000:=fun l hl=>by unfold JO at hl;rw[List.mem_replicate] at hl;rw[hl.2,Zv];omega
 have h3:(Zh (Qq 0 [])).length=128:=vl zD;refine⟨by show JO.length<_;omega,by show 1<1000000;omega,h2,fun p hp=>?_,by show ((jb 256).set 8 1).length<_;rw[List.length_set,Zv];omega,by show (jb 256).length<_;rw[Zv];omega⟩;have:p=(8,Zh (Qq 0 [])):=by simpa [qO] using hp
 rw[this];show (Zh (Qq 0 [])).length<_;omega
set_option maxRecDepth 100000 in
theorem rnew_any (w:World):Calls prog 52 #[] w (Za (fun u W=>∃ B n1 n2,u=Qd (some ⟨B,0,none⟩) 256 256 none 0 0 (some ⟨n1,0,none⟩) 256 256 (some ⟨n2,0,none⟩) 256 256/\qU W W.heap.size (.slice (some ⟨B,0,none⟩) 256 256) (.slice none 0 0) (.slice (some ⟨n1,0,none⟩) 256 256) (.slice (some ⟨n2,0,none⟩) 256 256) newS) w):=by
 go_enter func52,ntmps52;go_wp2_with fail;generalize aA:World.alloc _ _=w1;have x1:Ext w w1:=by rw[<-aA];exact zN _ _
 have q1:w1.heap[w.heap.size]?=some (.cells #[.slice none 0 0,.slice none 0 0,.slice none 0 0,.slice none 0 0] 28 (0,0)):=by rw[<-aA];exact zI _ _ _ zA2
 have z0:w1.heap.size=w.heap.size+1:=by rw[<-aA];simp
 clear aA;refine(dnew_any w1).mono ?_;rintro e w2 ⟨u,rfl,⟨B,rfl,uD⟩,hB⟩;have hB:Ext w1 w2:=hB;have x2:=x1.trans hB;have q2:=qb q1 hB;have hx12:=hB;clear q1 hB x1;go_wp2_with fail;refine(qfk w2).mono ?_;rintro e w3 ⟨u,rfl,⟨rfl,oD⟩,hB⟩;have wF:Ext w2 w3:=hB;have x3:=x2.trans wF;have q3:=qb q2 wF;clear q2 hB;go_wp2_with fail;refine(qfk w3).mono ?_;rintro e w4 ⟨u,rfl,⟨rfl,hn2⟩,hB⟩;have bV:Ext w3 w4:=hB;have x4:=x3.trans bV;have q4:=qb q3 bV;have hn14:=qb oD bV;have kq:=qa q4;have fq:=qe q4;have z23:=wF.size;have z34:=bV.size;have z2':=hx12.size;have P5:∀ wx:World,wx=VN w4 w.heap.size 0 [.slice (some ⟨B,0,none⟩) 256 256,.slice none 0 0,.slice (some ⟨w2.heap.size,0,none⟩) 256 256,.slice (some ⟨w3.heap.size,0,none⟩) 256 256] ->
   wx.heap[w.heap.size]?=some (.cells #[.slice (some ⟨B,0,none⟩) 256 256,.slice none 0 0,.slice (some ⟨w2.heap.size,0,none⟩) 256 256,.slice (some ⟨w3.heap.size,0,none⟩) 256 256] 28 (0,0))/\Below w.heap.size w wx /\
    qU wx wx.heap.size (.slice (some ⟨B,0,none⟩) 256 256) (.slice none 0 0) (.slice (some ⟨w2.heap.size,0,none⟩) 256 256) (.slice (some ⟨w3.heap.size,0,none⟩) 256 256) newS:=fun wx e=>by
  have hk:∀ b,b≠w.heap.size->wx.heap[b]?=w4.heap[b]?:=fun b h1=>by rw[e];exact jn h1 _ _ _
  have hs:wx.heap.size=w4.heap.size:=by rw[e,jU]
  have h1:=Bys.lit ((hk _ zO).trans hn14) (by rw[Zv];unfold maxLen;omega);have h2:=Bys.lit ((hk _ zO).trans hn2) (by rw[Zv];unfold maxLen;omega);rw[Zv] at h1 h2;refine⟨by rw[e];refine(Jy _ _ _ _ q4).trans ?_;simp[Xk],by rw[e];exact jm (zM _) _ _ _ x4,?_,Wrs.nil _ _,h1,h2⟩;refine(uD wx fun q h1 h2=>?_).more zO;refine(World.cell?_of_block (hk q.block zO)).trans ((World.cell?_of_block (bV.block q.block zO)).trans (World.cell?_of_block (wF.block q.block h2)))
 replace P5:=zH P5;clear uD oD hn2 hn14 q4 q3;go_wp2_with fail;have P5:=P5.out;generalize aV:World.setCell (World.setCell (World.setCell (World.setCell w4 _ _) _ _) _ _) _ _=w5;obtain⟨r5,x5,h5⟩:=P5 w5 aV.symm;clear P5 aV;have k5:=qa r5;exact bodyPost_ret (v:=Qd (some ⟨B,0,none⟩) 256 256 none 0 0 (some ⟨w2.heap.size,0,none⟩) 256 256 (some ⟨w3.heap.size,0,none⟩) 256 256) (by simp[results,results52,go_sem,k5]) rfl ⟨_,rfl,⟨B,_,_,rfl,h5⟩,x5⟩
set_option maxRecDepth 100000 in
theorem qha (A1:Option Addr) (c1:Nat) (A3:Option Addr) (c3:Nat) (A4:Option Addr) (c4:Nat) (w:World) (h:qU w w.heap.size (.slice A1 256 c1) (.slice none 0 0) (.slice A3 256 c3) (.slice A4 256 c4) newS):Calls prog 92 #[Qd A1 256 c1 none 0 0 A3 256 c3 A4 256 c4,jE 0 none 0 0] w (Za (fun u W=>∃ v,u=.tuple #[v,.int .i64 8,.int .i64 0]/\QP w.heap.size qO v W) w):=by
 have HC:=zH (fun W (hW:Ext w W)=>Jw A1 256 c1 none 0 0 A3 256 c3 A4 256 c4 newS W (h.ext hW));rw[newS_may,show JA true=0 from rfl] at HC;have HN:=zH (fun W=>VH 0 none 0 0 [] W (Its.nil W W.heap.size));rw[show Qb 0 []=true from rfl,show JA true=0 from rfl] at HN;have HO:=zH (fun W (hW:Ext w W)=>qdV A1 256 c1 none 0 0 A3 256 c3 A4 256 c4 newS (by show (jb 256).length<_;rw[Zv];omega) W (h.ext hW));replace h:=zH h;go_enter func92,ntmps92;go_wp2_with fail;generalize aA:World.alloc (World.alloc (World.alloc _ _) _) _=w1;have x1:Ext w w1:=by rw[<-aA];exact((zN _ _).trans (zN _ _)).trans (zN _ _)
 have r1:w1.heap[w.heap.size]?=some (.cells #[.slice A1 256 c1,.slice none 0 0,.slice A3 256 c3,.slice A4 256 c4] 28 (0,0)):=by rw[<-aA];exact(zK _ _ _ zA1).trans ((zK _ _ _ zA2).trans (zI _ _ _ rfl))
 have p1:w1.heap[w.heap.size+1]?=some (.cells #[.int .i64 0,.slice none 0 0] 49 (0,0)):=by rw[<-aA];exact(zK _ _ _ zA2).trans (zI _ _ _ zA2)
 have q1:w1.heap[w.heap.size+1+1]?=some (.cells #[.slice none 0 0,.slice none 0 0,.slice none 0 0,.slice none 0 0] 28 (0,0)):=by rw[<-aA];exact zI _ _ _ zA2
 clear aA;refine(HC.out w1 x1).mono ?_;rintro e w2 ⟨rfl,hB⟩;have x2:Ext w w2:=x1.trans hB;have r2:=qb r1 hB;have p2:=qb p1 hB;have q2:=qb q1 hB;have kp:=qa p2;clear r1 p1 q1 x1 hB HC;go_wp2_with fail;refine(HN.out w2).mono ?_;rintro e w3 ⟨rfl,hB⟩;have x3:Ext w w3:=x2.trans hB;have r3:=qb r2 hB;have p3:=qb p2 hB;have q3:=qb q2 hB;have kr:=qa r3;clear r2 p2 q2 x2 hB HN kp;go_wp2_with fail;refine(HO.out w3 x3).mono ?_;rintro e w4 ⟨u,rfl,⟨b,B3,d3,rfl,aP,aF,aB⟩,hB⟩;have bV:Ext w3 w4:=hB;have x4:Ext w w4:=x3.trans bV;have p4:=qb p3 bV;have q4:=qb q3 bV;have kp:=qa p4;have z3:=x3.size;obtain⟨g,rfl⟩:∃ g,B3=some ⟨g,0,none⟩:=by
  obtain⟨h1,h2⟩:=aB;rcases h2 with ⟨_,h0⟩|⟨g,_,_,e,_⟩
  ·cases h0
  ·cases e;exact⟨g,rfl⟩
 have rO:Bls w4 w3.heap.size (.slice A1 256 c1) JO:=(h.out.bs.below x4).more z3;have q3z:=q3;have ha4:Bys w4 w3.heap.size (.slice A4 256 c4) (jb 256):=(h.out.last.below x4).more z3;have HM:=qgQ b w3.heap.size A1 256 c1 g d3 A4 c4 JO (jb 256) (jb 256) (Zv _) (Zv _) zD zD w4 aP aF aB rO ha4;replace HM:=zH HM;clear r3 p3 q3 hB kr rO ha4 aB aF HO;go_wp2_with fail;refine HM.out.mono ?_;rintro e w5 ⟨rfl,sZ,A2,c2,rD,hS5⟩;have x5:Below w.heap.size w w5:=Below.trans x4 (Below.mono sZ z3);have z34:=bV.size;have zq:=(zG.1 q3z).1;have q5:=(sZ.block (w.heap.size+1+1) zq).trans q4;have HT:=zH (KJ b A1 256 c1 A2 1 c2 (some ⟨g,0,none⟩) 256 d3 A4 256 c4 qO JL w5 rD hS5);clear HM rD hS5 kp p4 q4;go_wp2_with fail;refine HT.out.mono ?_;rintro e w6 ⟨u,rfl,hT,hB⟩;have dC:Ext w5 w6:=hB;have x6:Below w.heap.size w w6:=Below.trans x5 (Below.mono dC x5.size);have q6:=qb q5 dC;have kq:=qa q6;have fq:=qe q6;have z45:=sZ.size;obtain⟨BB,WW,gg,B3,e3,B4,e4,rfl,hD,hN,hL⟩:=hT;have P5:∀ wx:World,wx=VN w6 (w.heap.size+1+1) 0 [.slice (some ⟨BB,0,none⟩) qO.bs.length qO.bs.length,.slice (some ⟨WW,0,none⟩) qO.ws.length (qO.ws.length+1),.slice B3 qO.now.length e3,.slice B4 qO.last.length e4] ->
   wx.heap[w.heap.size+1+1]?=some (.cells #[.slice (some ⟨BB,0,none⟩) qO.bs.length qO.bs.length,.slice (some ⟨WW,0,none⟩) qO.ws.length (qO.ws.length+1),.slice B3 qO.now.length e3,.slice B4 qO.last.length e4] 28 (0,0))/\Below w.heap.size w wx /\
    QP w.heap.size qO (Qd (some ⟨BB,0,none⟩) qO.bs.length qO.bs.length (some ⟨WW,0,none⟩) qO.ws.length (qO.ws.length+1) B3 qO.now.length e3 B4 qO.last.length e4) wx:=fun wx e=>by
  have hk:∀ b,w5.heap.size<=b->b<w6.heap.size->wx.heap[b]?=w6.heap[b]?:=fun b h1 _=>by rw[e];exact jn zO _ _ _
  have hs:w6.heap.size<=wx.heap.size:=by rw[e,jU];exact zM _
  refine⟨by rw[e];refine(Jy _ _ _ _ q6).trans ?_;simp[Xk],by rw[e];exact jm zO _ _ _ x6,BB,WW,gg,B3,e3,B4,e4,rfl,hD.keep x5.size hs hk,QG (ZB hN hk) x5.size,QG (ZB hL hk) x5.size⟩
 replace P5:=zH P5;clear hD hN hL q6 hB q5;go_wp2_with fail;have P5:=P5.out;generalize aV:World.setCell (World.setCell (World.setCell (World.setCell w6 _ _) _ _) _ _) _ _=w7;obtain⟨r5,x7,h5⟩:=P5 w7 aV.symm;clear P5 aV;have k5:=qa r5;exact bodyPost_ret (v:=.tuple #[Qd (some ⟨BB,0,none⟩) qO.bs.length qO.bs.length (some ⟨WW,0,none⟩) qO.ws.length (qO.ws.length+1) B3 qO.now.length e3 B4 qO.last.length e4,.int .i64 8,.int .i64 0]) (by simp[results,results92,go_sem,k5]) rfl ⟨_,rfl,⟨_,rfl,h5⟩,x7⟩
def qas (lo:Nat) (u:Value) (W:World):Prop:=∃ BB WW g A3 c3 A4 c4,u=.agg (qF (.slice (some ⟨BB,0,none⟩) 256 256) (.slice (some ⟨WW,0,none⟩) 1 2) (.slice A3 256 c3) (.slice A4 256 c4) 0 8 1 (.slice none 0 0))/\Jz lo qO.bs qO.ws BB WW g W /\
 W.ownsRow lo 5 1 (.slice A3 256 c3) 256 (qO.now.map bv)/\W.ownsRow lo 5 1 (.slice A4 256 c4) 256 (qO.last.map bv)
theorem YO:qO.bs.length=256/\qO.ws.length=1/\qO.now.length=256/\qO.last.length=256:=by
 refine⟨?_,rfl,?_,Zv _⟩
 ·show JO.length=256;unfold JO;rw[List.length_replicate]
 ·show ((jb 256).set 8 1).length=256;rw[List.length_set,Zv]
theorem qas.sto {lo:Nat} {u:Value} {W:World} (h:qas lo u W):∃ A1 c1 A2 c2 A3 c3 A4 c4,u=.agg (qF (.slice A1 256 c1) (.slice A2 1 c2) (.slice A3 256 c3) (.slice A4 256 c4) 0 8 1 (.slice none 0 0))/\qU W W.heap.size (.slice A1 256 c1) (.slice A2 1 c2) (.slice A3 256 c3) (.slice A4 256 c4) qO:=by obtain⟨BB,WW,g,A3,c3,A4,c4,e,hD,hN,hL⟩:=h;obtain⟨l1,l2,l3,l4⟩:=YO;obtain⟨k1,k2⟩:=hD.reads JL.bs JL.ws JL.be JL.we W (fun _ _ _=>rfl);rw[l1] at k1;rw[l2] at k2;exact⟨_,_,_,_,A3,c3,A4,c4,e,k1,k2,Bys.of_own hN,Bys.of_own hL⟩
set_option maxRecDepth 100000 in
theorem qkk (A1:Option Addr) (c1:Nat) (A3:Option Addr) (c3:Nat) (A4:Option Addr) (c4:Nat) (w:World) (h:qU w w.heap.size (.slice A1 256 c1) (.slice none 0 0) (.slice A3 256 c3) (.slice A4 256 c4) newS):Calls prog 51 #[Qd A1 256 c1 none 0 0 A3 256 c3 A4 256 c4] w (Za (fun u W=>∃ v,u=.tuple #[v,.int .i64 8,.int .i64 0]/\QP w.heap.size qO v W) w):=by
 have HM:=zH (fun W (hW:Ext w W)=>qha A1 c1 A3 c3 A4 c4 W (h.ext hW));clear h;go_enter func51,ntmps51;go_wp2_with fail;generalize aA:World.alloc (World.alloc _ _) _=w1;have x1:Ext w w1:=by rw[<-aA];exact(zN _ _).trans (zN _ _)
 have q1:w1.heap[w.heap.size+1]?=some (.cells #[.slice none 0 0,.slice none 0 0,.slice none 0 0,.slice none 0 0] 28 (0,0)):=by rw[<-aA];exact zI _ _ _ zA2
 clear aA;refine(HM.out w1 x1).mono ?_;rintro e w6 ⟨u,rfl,⟨v,rfl,hT⟩,hB⟩;have dC:Ext w1 w6:=hB;have x6:Below w.heap.size w w6:=x1.trans dC;have q6:=qb q1 dC;have kq:=qa q6;have fq:=qe q6;have z1:=(zG.1 q1).1;obtain⟨BB,WW,gg,B3,e3,B4,e4,rfl,hD,hN,hL⟩:=hT;have P5:∀ wx:World,wx=VN w6 (w.heap.size+1) 0 [.slice (some ⟨BB,0,none⟩) qO.bs.length qO.bs.length,.slice (some ⟨WW,0,none⟩) qO.ws.length (qO.ws.length+1),.slice B3 qO.now.length e3,.slice B4 qO.last.length e4] ->
   wx.heap[w.heap.size+1]?=some (.cells #[.slice (some ⟨BB,0,none⟩) qO.bs.length qO.bs.length,.slice (some ⟨WW,0,none⟩) qO.ws.length (qO.ws.length+1),.slice B3 qO.now.length e3,.slice B4 qO.last.length e4] 28 (0,0))/\Below w.heap.size w wx /\
    QP w.heap.size qO (Qd (some ⟨BB,0,none⟩) qO.bs.length qO.bs.length (some ⟨WW,0,none⟩) qO.ws.length (qO.ws.length+1) B3 qO.now.length e3 B4 qO.last.length e4) wx:=fun wx e=>by
  have hk:∀ b,w1.heap.size<=b->b<w6.heap.size->wx.heap[b]?=w6.heap[b]?:=fun b h1 _=>by rw[e];exact jn zO _ _ _
  have hs:w6.heap.size<=wx.heap.size:=by rw[e,jU];exact zM _
  refine⟨by rw[e];refine(Jy _ _ _ _ q6).trans ?_;simp[Xk],by rw[e];exact jm zO _ _ _ x6,BB,WW,gg,B3,e3,B4,e4,rfl,hD.keep x1.size hs hk,QG (ZB hN hk) x1.size,QG (ZB hL hk) x1.size⟩
 replace P5:=zH P5;clear hD hN hL q6 hB q1;go_wp2_with fail;have P5:=P5.out;generalize aV:World.setCell (World.setCell (World.setCell (World.setCell w6 _ _) _ _) _ _) _ _=w7;obtain⟨r5,x7,h5⟩:=P5 w7 aV.symm;clear P5 aV;have k5:=qa r5;exact bodyPost_ret (v:=.tuple #[Qd (some ⟨BB,0,none⟩) qO.bs.length qO.bs.length (some ⟨WW,0,none⟩) qO.ws.length (qO.ws.length+1) B3 qO.now.length e3 B4 qO.last.length e4,.int .i64 8,.int .i64 0]) (by simp[results,results51,go_sem,k5]) rfl ⟨_,rfl,⟨_,rfl,h5⟩,x7⟩
set_option maxRecDepth 100000 in
theorem fnew_any (w:World):Calls prog 23 #[] w (Za (qas w.heap.size) w):=by
 obtain⟨l1,l2,l3,l4⟩:=YO;go_enter func23,ntmps23;go_wp2_with fail;generalize aA:World.alloc _ _=w1;have x1:Ext w w1:=by rw[<-aA];exact zN _ _
 have q1:w1.heap[w.heap.size]?=some (.cells (qF (.slice none 0 0) (.slice none 0 0) (.slice none 0 0) (.slice none 0 0) 0 0 0 (.slice none 0 0)) 32 (0,0)):=by rw[<-aA];exact zI _ _ _ zA2
 clear aA;refine(rnew_any w1).mono ?_;rintro e w2 ⟨u,rfl,⟨B,n1,n2,rfl,hS⟩,hB⟩;have dI:Ext w1 w2:=hB;have x2:Ext w w2:=x1.trans dI;have q2:=qb q1 dI;have z1:=(zG.1 q1).1;have z12:=dI.size;clear hB q1;have HP:=zH (qkk _ _ _ _ _ _ w2 hS);clear hS;go_wp2_with fail;refine HP.out.mono ?_;rintro e w6 ⟨u,rfl,⟨v,rfl,hT⟩,hB⟩;have dC:Ext w2 w6:=hB;have x6:Ext w w6:=x2.trans dC;have q6:=qb q2 dC;obtain⟨BB,WW,gg,B3,e3,B4,e4,rfl,hD,hN,hL⟩:=hT;rw[l1,l2,l3,l4];rw[l3] at hN;rw[l4] at hL;clear q2 hB HP;have kq:=qa q6;have fq:=qe q6;have zq:=(zG.1 q6).1;have P5:∀ wx:World,wx=VN w6 w.heap.size 0 [.slice (some ⟨BB,0,none⟩) 256 256,.slice (some ⟨WW,0,none⟩) 1 2,.slice B3 256 e3,.slice B4 256 e4,.int .u32 0,.int .i64 8,.int .u32 1,.slice none 0 0]->∀ o:Obj,
   (wx.alloc o).heap[w.heap.size]?=some (.cells (qF (.slice (some ⟨BB,0,none⟩) 256 256) (.slice (some ⟨WW,0,none⟩) 1 2) (.slice B3 256 e3) (.slice B4 256 e4) 0 8 1 (.slice none 0 0)) 32 (0,0))/\Below w.heap.size w (wx.alloc o) /\
    qas w.heap.size (.agg (qF (.slice (some ⟨BB,0,none⟩) 256 256) (.slice (some ⟨WW,0,none⟩) 1 2) (.slice B3 256 e3) (.slice B4 256 e4) 0 8 1 (.slice none 0 0))) (wx.alloc o):=fun wx e o=>by
  have hs:wx.heap.size=w6.heap.size:=by rw[e,jU]
  have hk:∀ b,w2.heap.size<=b->b<w6.heap.size->(wx.alloc o).heap[b]?=w6.heap[b]?:=fun b h1 h2=>(zK _ _ _ zO).trans (by rw[e];exact jn zO _ _ _);have hs2:w6.heap.size<=(wx.alloc o).heap.size:=zA1;refine⟨(zK _ _ _ zO).trans (by rw[e];refine(Jy _ _ _ _ q6).trans ?_;simp[Xk,qF]),Below.alloc (by rw[e];exact jm (zM _) _ _ _ x6) zO _,BB,WW,gg,B3,e3,B4,e4,rfl,hD.keep x2.size hs2 hk,QG (ZB hN hk) x2.size,QG (ZB hL hk) x2.size⟩
 replace P5:=zH P5;clear hD hN hL q6;go_wp2_with fail;have P5:=P5.out;generalize aV:World.setCell (World.setCell (World.setCell (World.setCell (World.setCell (World.setCell (World.setCell (World.setCell w6 _ _) _ _) _ _) _ _) _ _) _ _) _ _) _ _=w7;obtain⟨r5,x7,h5⟩:=P5 w7 aV.symm (.cells #[.slice (some ⟨BB,0,none⟩) 256 256,.slice (some ⟨WW,0,none⟩) 1 2,.slice B3 256 e3,.slice B4 256 e4] 28);clear P5 aV;have k5:=qa r5;exact bodyPost_ret (v:=.agg (qF (.slice (some ⟨BB,0,none⟩) 256 256) (.slice (some ⟨WW,0,none⟩) 1 2) (.slice B3 256 e3) (.slice B4 256 e4) 0 8 1 (.slice none 0 0))) (by simp[results,results23,go_sem,k5]) rfl ⟨_,rfl,h5,x7⟩
end Go.Proofs.YtpbniokljofedaaGreat
