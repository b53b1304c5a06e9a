/- Texts FWalk, FCheck, Order2, FFind, DWay1, CopyK, ItRep, joined. -/
import Derived.Laws.EntriesVeiled
import Derived.Lib.Overlaps
import Derived.Test.YtpbniokljofedaaGreatZI19
set_option linter.unusedSimpArgs false
set_option linter.unusedVariables false
set_option maxHeartbeats 8000000
open Go.Proofs.Tryz
namespace Go.Proofs.YtpbniokljofedaaGreat
open Go.RowKit
theorem qcY {w:World} {B b o n c:Nat} {l:List UInt8} (h:Bys w B (.slice (some ⟨b,o,none⟩) n c) l) {a:Nat} (ha:a<l.length):w.cell? ⟨b,o+a,none⟩=some (.int .u8 ((l[a]?.getD 0).toNat:Int)):=by obtain⟨A',c',e,_,_,hr⟩:=h;rw[Value.slice.injEq] at e;obtain⟨rfl,_,rfl⟩:=e;obtain⟨b',off',e,_,hc⟩:=hr.2 zO;simp only[Option.some.injEq,Addr.mk.injEq,and_true] at e;obtain⟨rfl,rfl⟩:=e;exact hc a _ (by rw[List.getElem?_map,zL zO];rfl)
theorem qdR {S:Sto} (hS:qo S=true) {w:World} {B:Nat} {v:Value} (h:Bys w B v S.now):∃ b3 o3 c3,v=.slice (some ⟨b3,o3,none⟩) 256 c3/\256<=c3/\c3<=maxLen:=by obtain⟨-,-,nJ,-⟩:=qQ hS;have hn:=h;obtain⟨A3,c3,e3,-⟩:=h;rw[e3] at hn;obtain⟨_,sO,tC,uI⟩:=hn.at_;obtain⟨b3,o3,rfl,_⟩:=uI zO;rw[nJ] at e3 sO;exact⟨b3,o3,c3,e3,sO,tC⟩
theorem qha {R:Ending->World->Prop} {a:Act} {W:World} {b:Nat} {f l:K3} {bo:Bool} (h4:a.tmps[5]?.getD undef=.pointer (some ⟨b,0,none⟩)) (hd:a.defers=[]) (aC:W.heap[b]?=some (.cells (sp7 f l bo) 114 (0,0))) (hR:R (.returned (.agg (sp7 f l bo))) W):bodyPost prog Tryz.f68 R .ret a W:=by
 refine bodyPost_ret (v:=.agg (sp7 f l bo)) ?_ hd hR;have k:=qa aC;simp[results,results68,go_sem,h4,k]
set_option maxRecDepth 100000 in
theorem qey (S:Sto) (hS:qo S=true) (bS bB bW bb:Nat) (v1 v2 v3 v4:Value) (A1:Option Addr) (n1 c1:Nat) (A2:Option Addr) (n2 c2:Nat) (A3:Option Addr) (n3 c3:Nat) (A4:Option Addr) (n4 c4:Nat) (h:Nat) (HW:∀ h':Nat,h=h'+1->WalkC S bS bB bW bb v1 v2 v3 v4 (.slice A1 n1 c1) (.slice A2 n2 c2) (.slice A3 n3 c3) (.slice A4 n4 c4) h'):WalkC S bS bB bW bb v1 v2 v3 v4 (.slice A1 n1 c1) (.slice A2 n2 c2) (.slice A3 n3 c3) (.slice A4 n4 c4) h:=by
 intro xs A c f l lo w hE hh5 hlen nP aG aU;obtain⟨b3,o3,d3,e3,hd3,tC⟩:=qdR hS hE.n;subst e3;have gW:S.now.length=256:=(qQ hS).2.2.1;obtain⟨-,dV,az,hA⟩:=aG.its.at_;have hss:(Qg S h xs).isSome=true:=by rw[aU];rfl
 replace aG:=zH aG;have HG:=zH (fun k hk=>qfH hss (k:=k) hk);have HN:=zH (fun y hy=>one_now (JO hss y hy));have HT:=zH (fun h' (e:h=h'+1) y (hy:y∈xs)=>Jb (S:=S) (h:=h') (y:=y) (by have:=JO hss y hy;rw[e] at this;exact this));replace aU:=zH aU;replace hss:=zH hss;replace hE:=zH hE;replace nP:=zH nP;replace hh5:=zH hh5;replace gW:=zH gW;replace hS:=zH hS;go_enter func68,ntmps68;go_wp2;generalize aA:(World.alloc (World.alloc _ _) _)=w1;have x1:Ext w w1:=by rw[<-aA];exact((zN _ _).trans (zN _ _)).trans (zN _ _)
 have H1:WkI S h xs A c w w1 0 (0,0,0) (0,0,0) false:=by
  refine⟨?_,?_,?_,fun h0=>absurd h0 (Nat.lt_irrefl 0),x1⟩
  ·rw[<-aA];exact(zK _ _ _ zA2).trans ((zK _ _ _ zA3).trans (zI _ _ _ rfl))
  ·rw[<-aA];exact(zK _ _ _ zA3).trans (zI _ _ _ zA3)
  ·rw[<-aA];exact zI _ _ _ zA3
 clear aA x1;replace H1:=zH H1;go_loopw [15] (fun i wr=>∃ (k:Nat) (fk lk:K3) (b:Bool),k<=xs.length/\i=.int .i64 (k:Int)/\WkI S h xs A c w wr k fk lk b) (fun i _=>xs.length-(intOf i).toNat)
 case atStart=>exact⟨0,_,_,_,zO,rfl,H1.out⟩
 case round =>
  obtain⟨k,fk,lk,bk,hk,rfl,HR⟩:=hrel;clear H1;have xr:=HR.xt;have rnr:=HR.rn;have yt:=HR.rx;have yl:=HR.rr;have z2:w.heap.size+2<wr.heap.size:=(zG.1 yt).1;by_cases hlt:k<xs.length
  ·have aJ:=hlt;obtain⟨b,off,rfl,hb⟩:=hA zO;obtain⟨A',c',d0,d1,d2,d3',d4,-⟩:=(aG.out.ext xr).its.item k aJ;have hxk:=nP.out xs[k] (List.getElem_mem aJ);have hnk:=HN.out xs[k] (List.getElem_mem aJ);obtain⟨l1,hone,hgo⟩:=HG.out k aJ;obtain⟨g1,g2⟩:=hgo fk lk (fun h0=>(HR.sp h0).1);have HTk:=zH (fun h' e=>HT.out h' e xs[k] (List.getElem_mem aJ));generalize xs[k]=x at *;obtain⟨hBT,hBU⟩:=hxk;obtain⟨r,hr⟩:=Int.eq_ofNat_of_zero_le hBT;rw[hr] at d3' hBU;have hr2:r<256:=zO;rw[hr,Int.toNat_natCast] at hnk;have hfN:=fun W (hx:Ext wr W)=>qcY ((hE.out.ext (xr.trans hx)).n) (a:=r) (by have:=gW.out;omega);have hnr:(S.now[r]?.getD 0).toNat=(S.now[r]?.getD 0).toNat:=rfl;generalize iw:(S.now[r]?.getD 0).toNat=nv at *;clear hnr;have hr0:(((r:Int) == 0)=true/\decide (r=0)=true)\/(((r:Int) == 0)=false/\decide (r=0)=false/\decide (0<nv)=true):=by
    rcases Nat.eq_zero_or_pos r with h0|h0
    ·subst h0;exact .inl ⟨zA1,zA1⟩
    ·exact .inr ⟨by rw[beq_eq_false_iff_ne];omega,decide_eq_false zO,decide_eq_true zO⟩
   replace hr:=zH hr;replace iw:=zH iw;replace hone:=zH hone;replace g1:=zH g1;replace g2:=zH g2;replace hnk:=zH hnk;unfold maxLen at tC;clear hBT hBU hgo;have knr:=qa rnr;have kxr:=qa yt;replace hfN:=zH hfN;go_wp2_with fail;generalize iG:(World.alloc _ _)=wa;have xa:Ext wr wa:=by rw[<-iG];exact zN _ _
   have ra:wa.heap[wr.heap.size]?=some (.cells #[.int .u8 x.k,.int .u32 x.i,.int .u32 x.o,.int .i64 r,.slice A' x.val.length c'] 68 (0,0)):=by rw[<-iG];exact zI _ _ _ rfl
   clear iG d0 d1 d2 d3' d4;have Ea:=hE.out.ext (xr.trans xa);have gC:∀ W,qk.r wa W->W.cell? ⟨bS,2,none⟩=some (.slice (some ⟨b3,o3,none⟩) 256 d3):=fun W h=>by rw[qa (qb Ea.s h)];rfl
   have gN:∀ W,qk.r wa W->W.cell? ⟨b3,o3+r,none⟩=some (.int .u8 (nv:Int)):=fun W h=>hfN.out W (xa.trans h);have gI:∀ W,qk.r wa W->∀ i,W.cell? ⟨wr.heap.size,i,none⟩=#[.int .u8 x.k,.int .u32 x.i,.int .u32 x.o,.int .i64 r,.slice A' x.val.length c'][i]?:=fun W h=>qa (qb ra h);clear knr kxr hfN;refine qm zQ ?_;refine Zo (w:=wa) qk (qD [(17,jO wa.heap.size 114 (sp7 (0,0,0) (0,0,0) false))]) [true,true,true,true,true,true,true,true,true,true,true,true,true,true,true,true,true,true] 1 zQ zQ zQ zQ zQ zQ ?st (Rel.drew _ _) ?walk
   case st=>exact qj (by simp only[List.forall_mem_cons];exact⟨fun p=>QI (ZX _ _ _ p),fun _ h=>by cases h⟩)
   case walk =>
    intro K hK;dsimp only[qp];rcases hr0 with ⟨yF,nK⟩|⟨yF,nK,nM⟩
    all_goals
     repeat ((first|(refine qd ?_ zA0 zA0 (fun W hW _=>⟨W,?_,Rel.refl _ W⟩) ?_;rotate_left;(go_simp<;>with_reducible rfl))|(refine qh zA0 ?_));try simp only[Act.put,ql,qf,qc,qg,qc,zA,zB,zC])
     try (
      refine qd (.pointer (some ⟨b3,o3+r,none⟩)) zA0 zA0 (fun W hW _=>⟨W,?_,Rel.refl _ W⟩) ?_
      ·go_simp;intro iD;exfalso;omega
      simp only[Act.put,qf,qc,qg,qc,zA,zB,zC])
     repeat ((first|(refine qd ?_ zA0 zA0 (fun W hW _=>⟨W,?_,Rel.refl _ W⟩) ?_;rotate_left;(go_simp<;>with_reducible rfl))|(refine qh zA0 ?_));try simp only[Act.put,ql,qf,qc,qg,qc,zA,zB,zC])
     refine qw (jO wa.heap.size 114 (sp7 (0,0,0) (0,0,0) false)) zA0 zA0 (fun W hW _=>?_) (fun (p8:Nat)=>?_)
     ·refine jT ?_ (Below.size hW);go_simp
     simp only[Act.put,qf,qc,qg,qc,zA,zB,zC];refine qt (hK _ _ fun W hW hF=>?_);obtain⟨f8,aP⟩:W.heap[p8]?=some (.cells (sp7 (0,0,0) (0,0,0) false) 114 (0,0))/\wa.heap.size<=p8:=(hF 17).1;clear hF hK gC gN gI;have ay:Ext wa W:=hW;refine zB5 ?_;have k8:=qa f8;have h8:=qe f8;go_wp2;refine Qm ?_;have x5:Ext wa _:=qbK ay aP (.int .u8 x.k) (.int .u32 x.i) (.int .u32 x.o) (.int .u8 x.k) (.int .u32 x.i) (.int .u32 x.o) (.bool true);have r8:=row7 f8 rfl (.int .u8 x.k) (.int .u32 x.i) (.int .u32 x.o) (.int .u8 x.k) (.int .u32 x.i) (.int .u32 x.o) (.bool true);generalize aK:(World.setCell (World.setCell (World.setCell (World.setCell (World.setCell (World.setCell (World.setCell W _ _) _ _) _ _) _ _) _ _) _ _) _ _)=w5 at *;clear aK k8 h8 f8 hW ay yF nK;have H5:=HR.ext (xa.trans x5);have r5:=qb ra x5;have z8:wr.heap.size<p8:=Nat.lt_of_lt_of_le (zG.1 ra).1 aP;have z8':p8<w5.heap.size:=(zG.1 r8).1;have kn5:=qa H5.rn;rcases Nat.eq_zero_or_pos h with hz|hz
     case' inl =>
      have hd2:decide (0<h)=false:=decide_eq_false zO;have oM:l1=qE x:=by
       have:=hone.out;rw[hz] at this;unfold Vx at this;split at this
       ·cases this;rfl
       ·cases this
      have H7:=H5;replace r8:w5.heap[p8]?=some (.cells (sp7 (qE x) l1 true) 114 (0,0)):=by rw[oM];exact r8
      replace hz:=zH hz;replace oM:=zH oM;replace H5:=zH H5;replace H7:=zH H7;clear rnr yt yl;go_upto_region 11 with fail
     case' inr =>
      obtain⟨h',hh⟩:∃ h',h=h'+1:=⟨h-1,zO⟩
      have dV:(h':Int)=(h:Int)-1:=zO;obtain⟨b',ys,e1,e2,e3,e4,e5⟩:=one_span (by rw[<-hh];exact hone.out);have xG:r=b':=by have:=hr.out;omega
      subst xG;have hd2:decide (0<h)=true:=decide_eq_true hz;have iQ:wrap64 ((h:Int)-1)=(h:Int)-1:=IntWalk.wrap64_in _ (by have:=hh5.out;omega);replace iQ:=zH iQ;obtain⟨hm1,iL,-⟩:=Qc e4;have wH:ys.length<=5:=by unfold Qe jv at hm1;simp at hm1;omega
      have hyn:0<ys.length:=by
       rcases Nat.eq_zero_or_pos ys.length with h0|h0
       ·obtain rfl:=List.eq_nil_of_length_eq_zero h0;cases e5
       ·exact h0
      have hHW:=zH (fun W (hx:Ext w5 W) A9 c9 lo9 (hi9:Zv lo9 W (.slice A9 ys.length c9) ys)=>HW h' hh ys A9 c9 (qE x) l1 lo9 W (hE.out.ext ((xr.trans (xa.trans x5)).trans hx)) (by have:=hh5.out;omega) wH (fun y hy=>(iL y hy).1.2.2.2.1) hi9 e5);have wU:=zH (vy 0 bb A1 n1 c1 A2 n2 c2 A3 n3 c3 A4 n4 c4 S hS.out r e2 e3 w5 (hE.out.ext (xr.trans (xa.trans x5))).on);rw[e4] at wU;have hy1:((ys.length:Int) == 0)=false:=by rw[beq_eq_false_iff_ne];omega
      have kb5:=qa (hE.out.ext (xr.trans (xa.trans x5))).b;have ki5:=qa r5;replace hh:=zH hh;replace hz:=zH hz;replace H5:=zH H5;replace e4:=zH e4;replace e5:=zH e5;replace dV:=zH dV;clear rnr yt yl hm1 iL wH hyn e1 e2 e3;go_wp2_with fail;refine wU.out.mono ?_;clear wU;rintro e w6 ⟨u,rfl,hu,eQ⟩;obtain⟨A9,c9,rfl,mM⟩:=hu;rw[dV.out];have H6:=H5.out.ext eQ;have r86:=qb r8 eQ;have r56:=qb r5 eQ;have E6:=hE.out.ext ((xr.trans (xa.trans x5)).trans eQ);have kn6:=qa H6.rn;have kf6:=qa E6.f;have z6:p8<w6.heap.size:=(zG.1 r86).1;have z66:=(zG.1 H6.rn).1;have zf6:=(zG.1 E6.f).1;replace H6:=zH H6;replace E6:=zH E6;replace mM:=zH mM;have hw64':=iQ.out;clear r8 r5 ki5 kb5 kn5 x5;go_wp2_with fail;generalize gu:(World.alloc w6 _)=w7;have x7:Ext w6 w7:=by rw[<-gu];exact zN _ _
      clear gu;have oI:=hHW.out w7 (Ext.trans eQ x7) A9 c9 _ (mM.out.ext x7);rw[dV.out] at oI;refine oI.mono ?_;clear oI hHW;rintro e w8 ⟨rfl,hB8⟩;have x8:Ext w6 w8:=x7.trans hB8;have H8:=H6.out.ext x8;have r88:=qb r86 x8;have r58:=qb r56 x8;have b8:=row7 r88 rfl (.int .u8 (qE x).1) (.int .u32 (qE x).2.1) (.int .u32 (qE x).2.2) (.int .u8 l1.1) (.int .u32 l1.2.1) (.int .u32 l1.2.2) (.bool true);have x9:∀ q≤p8,Below q w8 _:=fun q hq=>qbK (Below.refl q w8) hq (.int .u8 (qE x).1) (.int .u32 (qE x).2.1) (.int .u32 (qE x).2.2) (.int .u8 l1.1) (.int .u32 l1.2.1) (.int .u32 l1.2.2) (.bool true);have f8:=qe r88;have k8:=qa r88;have z8:w.heap.size+2<p8:=zO;clear r86 r56 kn6 kf6;replace hz:=zH hz.out;replace H8:=zH H8;go_upto_region 11 with fail;have H7:=H8.out.low (x9 p8 (zM _)) z8;have r5:=((x9 p8 (zM _)).block wr.heap.size zO).trans r58;clear x9 r88 r58 f8 k8;generalize hw9:(World.setCell (World.setCell (World.setCell (World.setCell (World.setCell (World.setCell (World.setCell w8 _ _) _ _) _ _) _ _) _ _) _ _) _ _)=w9 at *;clear hw9 z8' hB8 x8 eQ x7 z6 z66 zf6;have r8:w9.heap[p8]?=some (.cells (sp7 (qE x) l1 true) 114 (0,0)):=b8;clear b8;replace H7:=zH H7
     all_goals
      replace HR:=zH HR;clear xa;have kn7:=qa H7.out.rn;have kx7:=qa H7.out.rx;have fx7:=qe H7.out.rx;have k8:=qa r8;have k5:=qa r5;rcases Nat.eq_zero_or_pos k with pX|pX
      ·have hk1:decide ((k:Int)>0)=false:=decide_eq_false zO;have hk2:((k:Int) == 0)=true:=by rw[beq_iff_eq];omega
       have sZ:decide (0<k)=false:=decide_eq_false zO;have HN:=g2.out;rw[if_pos pX] at HN;have HR9:=H7.out.set7 HN;replace HN:=zH HN;replace pX:=zH pX;dsimp only[qE] at HR9;replace HR9:=zH HR9;clear hk;go_wp2_with fail;refine⟨⟨k+1,(x.k,x.i,x.o),l1,true,aJ,rfl,HR9.out⟩,?_⟩;simp[intOf];omega
      ·have hk1:decide ((k:Int)>0)=true:=decide_eq_true zO;have hk2:((k:Int) == 0)=false:=by rw[beq_eq_false_iff_ne];omega
       have sZ:decide (0<k)=true:=decide_eq_true pX;have HN:=g2.out;rw[if_neg zO] at HN;replace HN:=zH HN;have hls:VO lk.1 lk.2.1 lk.2.2 x.k x.i x.o=true:=g1.out pX;replace hls:=zH hls;replace pX:=zH pX;clear hk;go_wp2_with fail;refine(KL lk.1 lk.2.1 lk.2.2 x.k x.i x.o _).mono ?_;rintro e wl ⟨rfl,hB⟩;rw[hls.out];have H8':=H7.out.ext hB;have kx8:=qa H8'.rx;have fx8:=qe H8'.rx;have k88:=qa (qb r8 hB);have HR9:=zH (H8'.set4 HN.out);replace H8':=zH H8';clear kn7 kx7 fx7 k8 k5 hB r8 r5;go_wp2_with fail;refine⟨⟨k+1,fk,l1,true,aJ,rfl,HR9.out⟩,?_⟩;simp[intOf];omega
  ·have lX:k=xs.length:=zO;have hx0:0<xs.length:=by
    rcases Nat.eq_zero_or_pos xs.length with h0|h0
    ·have:=aU.out;rw[List.eq_nil_of_length_eq_zero h0] at this;cases this
    ·exact h0
   obtain⟨xH,rfl⟩:=HR.sp zO;rw[lX,List.take_length,aU.out] at xH;simp only[Option.some.injEq,Prod.mk.injEq] at xH;obtain⟨rfl,rfl⟩:=xH;have kx:=qa yt;have kr:=qa yl;have fr:=qe yl;have rr:=zH yl;have xrh:=zH xr;replace HR:=zH HR;replace lX:=zH lX;clear yt rnr yl xr;go_wp2;exact qha (b:=w.heap.size+1) rfl rfl (row7 rr.out rfl _ _ _ _ _ _ _) ⟨rfl,qbK xrh.out zO _ _ _ _ _ _ _⟩
theorem qex (S:Sto) (hS:qo S=true) (bS bB bW bb:Nat) (v1 v2 v3 v4:Value) (A1:Option Addr) (n1 c1:Nat) (A2:Option Addr) (n2 c2:Nat) (A3:Option Addr) (n3 c3:Nat) (A4:Option Addr) (n4 c4:Nat) : ∀ h:Nat,WalkC S bS bB bW bb v1 v2 v3 v4 (.slice A1 n1 c1) (.slice A2 n2 c2) (.slice A3 n3 c3) (.slice A4 n4 c4) h
 |0=>qey S hS bS bB bW bb v1 v2 v3 v4 A1 n1 c1 A2 n2 c2 A3 n3 c3 A4 n4 c4 0 fun _ e=>zO
 |h+1=>qey S hS bS bB bW bb v1 v2 v3 v4 A1 n1 c1 A2 n2 c2 A3 n3 c3 A4 n4 c4 (h+1) fun h' e=>by obtain rfl:h=h':=zO;exact qex S hS bS bB bW bb v1 v2 v3 v4 A1 n1 c1 A2 n2 c2 A3 n3 c3 A4 n4 c4 h
theorem now_pos {S:Sto} {a:Nat} {q:Int×List It} (h:qv S a=some q):0<(S.now[a]?.getD 0).toNat:=by
 unfold qv at h;split at h
 ·cases h
 ·omega
theorem qgX (f l:K3) (b:Bool) (w:World):(Instr.field 114 (.agg (sp7 f l b)) 2).run prog w=.ok (.bool b) w:=zQ
theorem Ge {R:Ending->World->Prop} {a:Act} {W:World} {u v:Value} (h4:a.tmps[4]?.getD undef=u) (h5:a.tmps[5]?.getD undef=v) (hd:a.defers=[]) (hR:R (.returned (.tuple #[u,v])) W):bodyPost prog Tryz.f29 R .ret a W:=by refine bodyPost_ret (v:=.tuple #[u,v]) ?_ hd hR;simp[results,results29,go_sem,h4,h5]
set_option maxRecDepth 100000 in
theorem qds (A1:Option Addr) (n1 c1:Nat) (A2:Option Addr) (n2 c2:Nat) (A3:Option Addr) (n3 c3:Nat) (A4:Option Addr) (n4 c4:Nat) (S:Sto) (hS:qo S=true) (a:Nat) (hT:Kj S a) (w:World) (aH:qU w w.heap.size (.slice A1 n1 c1) (.slice A2 n2 c2) (.slice A3 n3 c3) (.slice A4 n4 c4) S):Calls prog 29 #[Qd A1 n1 c1 A2 n2 c2 A3 n3 c3 A4 n4 c4,.int .i64 (a:Int)] w (QV (fun u _=>∃ (lvl:Nat) (xs:List It),qv S a=some ((lvl:Int),xs)/\lvl<=5/\u=.tuple #[.int .i64 ((lvl:Int)+1),.int .i64 0]) w):=by
 obtain⟨ha,bK,lvl,xs,hn,aU⟩:=hT;have eH:=now_pos hn;obtain⟨hm1,iL,-⟩:=Qc hn;have fH:xs.length<=5:=by unfold Qe jv at hm1;simp at hm1;omega
 have hll:lvl<=5:=by unfold Qe jv at hm1;simp at hm1;omega
 have nJ:S.now.length=256:=(qQ hS).2.2.1;obtain⟨b3,o3,d3,e3,hd3,tC⟩:=qdR hS aH.now;simp only[Value.slice.injEq] at e3;obtain⟨rfl,rfl,rfl⟩:=e3;have aF:=qcY aH.now (a:=a) zO;have HCK:=zH (fun W (hx:Ext w W)=>jP A1 n1 c1 A2 n2 c2 (some ⟨b3,o3,none⟩) 256 c3 A4 n4 c4 S W (aH.ext hx));have HON:=zH (fun W (hx:Ext w W)=>qfA A1 n1 c1 A2 n2 c2 (some ⟨b3,o3,none⟩) 256 c3 A4 n4 c4 S zO W (aH.ext hx));have HST:=zH aH;have ha3:decide ((a:Int)<8)=false:=decide_eq_false zO;have ha5:decide ((a:Int)≥256)=false:=decide_eq_false zO;have ha8:(a:Int)<256:=zO;generalize iw:(S.now[a]?.getD 0).toNat=nv at *;have oQ:((nv:Int) == 0)=false:=by rw[beq_eq_false_iff_ne];omega
 replace iw:=zH iw;replace hm1:=zH hm1;replace iL:=zH iL;replace hn:=zH hn;replace aU:=zH aU;replace hS:=zH hS;replace tC:=zH tC;replace nJ:=zH nJ;have hwr:Hid (wrap64 ((lvl:Int)+1)=(lvl:Int)+1):=zH (IntWalk.wrap64_in _ zO);replace hll:=zH hll;clear aH eH;go_enter func29,ntmps29;go_wp2_with fail;generalize aA:(World.alloc _ _)=w1;have x1:Ext w w1:=by rw[<-aA];exact zN _ _
 have r1:w1.heap[w.heap.size]?=some (.cells #[.slice A1 n1 c1,.slice A2 n2 c2,.slice (some ⟨b3,o3,none⟩) 256 c3,.slice A4 n4 c4] 28 (0,0)):=by rw[<-aA];exact zI _ _ _ rfl
 clear aA;refine(HCK.out w1 x1).mono ?_;clear HCK;rintro e w2 ⟨rfl,hB⟩;have x2:Ext w w2:=x1.trans hB;have r2:=qb r1 hB;rw[hS.out,show Jh true=0 from rfl];have k2:=qa r2;have az:=Ext.cell x2 aF;clear r1 hB x1 aF;go_wp2_with fail;refine(HON.out w2 x2).mono ?_;clear HON;rintro e w3 ⟨u,rfl,⟨bb,A3',c3',rfl,hOn,-⟩,hB⟩;have x3:Ext w w3:=Ext.trans x2 hB;have r3:=qb r2 hB;clear k2 az r2 x2 hB;replace hOn:=zH hOn;go_wp2_with fail;generalize hw4:(World.alloc w3 _)=w4;have x34:Ext w3 w4:=by rw[<-hw4];exact zN _ _
 have yc:w4.heap[w3.heap.size]?=some (.cells #[.pointer (some ⟨bb,0,none⟩)] 80 (0,0)):=by rw[<-hw4];exact zI _ _ _ rfl
 have rs4:=qb r3 x34;have hOn4:=zH (hOn.out.ext x34);have x4:Ext w w4:=x3.trans x34;clear hw4;have wU:=vy 0 bb A1 n1 c1 A2 n2 n2 A3' 256 c3' A4 n4 c4 S hS.out a ha bK w4 ⟨Nat.zero_le _,(hOn.out.ext x34).2⟩;rw[hn.out] at wU;refine wU.mono ?_;clear wU;rintro e w5 ⟨u,rfl,⟨A9,c9,rfl,aG⟩,hB⟩;have iC:Ext w4 w5:=hB;have rs5:=qb rs4 iC;have rb5:=qb yc iC;have hOn5:=zH (hOn4.out.ext iC);have x5:Ext w w5:=x4.trans iC;replace aG:=zH aG;clear rs4 yc hB iC x34 x4 x3 hOn4 hOn r3;rcases Nat.eq_zero_or_pos xs.length with h0|h0
 ·have hx1:decide ((xs.length:Int)>0)=false:=decide_eq_false zO;have hx2:decide (0<xs.length)=false:=decide_eq_false zO;replace h0:=zH h0;go_wp2_with fail;exact Ge (u:=.int .i64 ((lvl:Int)+1)) (by show Value.int .i64 (wrap64 _)=_;rw[hwr.out]) rfl rfl ⟨_,rfl,⟨lvl,xs,hn.out,hll.out,rfl⟩,x5.trans ((zN _ _).trans (zN _ _))⟩
 ·have hx1:decide ((xs.length:Int)>0)=true:=decide_eq_true zO;have hx2:decide (0<xs.length)=true:=decide_eq_true h0;obtain⟨⟨f,l⟩,hfl⟩:∃ p,Qg S lvl xs=some (some p):=by
   rcases hq:Qg S lvl xs with _|_|p
   ·have:=aU.out;rw[hq] at this;cases this
   ·exact absurd (by rw[List.take_length];exact hq) (Zy (S:=S) (h:=lvl) h0 (zM xs.length))
   ·exact⟨p,rfl⟩
  replace h0:=zH h0;replace hfl:=zH hfl;go_wp2_with fail;generalize nO:(World.alloc (World.alloc w5 _) _)=w6;have dW:Ext w5 w6:=by rw[<-nO];exact(zN _ _).trans (zN _ _)
  have rf6:w6.heap[w5.heap.size+1]?=some (.cells #[.func (.func 68) #[] #[.pointer (some ⟨w.heap.size,0,none⟩),.pointer (some ⟨w3.heap.size,0,none⟩),.pointer (some ⟨w5.heap.size+1,0,none⟩)]] 112 (0,0)):=by rw[<-nO];exact zI _ _ _ zA3
  have wO:w6.heap[w5.heap.size]?=some (.cells #[.int .i64 lvl,.slice A9 xs.length c9] 49 (0,0)):=by rw[<-nO];exact(zK _ _ _ zA3).trans (zI _ _ _ rfl)
  clear nO;have x6:Ext w w6:=x5.trans dW;have oI:=qex S hS.out w.heap.size w3.heap.size (w5.heap.size+1) bb (.slice A1 n1 c1) (.slice A2 n2 c2) (.slice (some ⟨b3,o3,none⟩) 256 c3) (.slice A4 n4 c4) A1 n1 c1 A2 n2 n2 A3' 256 c3' A4 n4 c4 lvl xs A9 c9 f l _ w6
   ⟨qb rs5 dW,qb rb5 dW,rf6,(HST.out.ext x6).now,⟨Nat.zero_le _,(hOn5.out.ext dW).2⟩⟩ hll.out fH (fun y hy=>(iL.out y hy).1.2.2.2.1) (aG.out.ext dW) hfl.out
  refine oI.mono ?_;clear oI;rintro e w7 ⟨rfl,hB⟩;have rn7:=qb wO hB;have kn7:=qa rn7;have x7:=zH (x6.trans hB);clear rs5 rb5 rf6 wO hB x6 dW x5;have hfi:=qgX;go_wp2_with fail;exact Ge (u:=.int .i64 ((lvl:Int)+1)) (by show Value.int .i64 (wrap64 _)=_;rw[hwr.out]) rfl rfl ⟨_,rfl,⟨lvl,xs,hn.out,hll.out,rfl⟩,x7.out⟩
theorem Xf (A1:Option Addr) (n1 c1:Nat) (A2:Option Addr) (n2 c2:Nat) (A3:Option Addr) (n3 c3:Nat) (A4:Option Addr) (n4 c4:Nat) (S:Sto) (hS:qo S=true) (a:Nat) (hT:Kj S a) (w:World) (aH:qU w w.heap.size (.slice A1 n1 c1) (.slice A2 n2 c2) (.slice A3 n3 c3) (.slice A4 n4 c4) S):Calls prog 29 #[Qd A1 n1 c1 A2 n2 c2 A3 n3 c3 A4 n4 c4,.int .i64 (a:Int)] w (QV (fun u _=>∃ m:Int,u=.tuple #[.int .i64 m,.int .i64 0]) w):=
 (qds A1 n1 c1 A2 n2 c2 A3 n3 c3 A4 n4 c4 S hS a hT w aH).mono fun e w' ⟨u,he,⟨_,_,_,_,hu⟩,hB⟩=>⟨u,he,⟨_,hu⟩,hB⟩

abbrev itemCs (x:It) (A:Option Addr) (c:Nat):Array Value:=#[.int .u8 x.k,.int .u32 x.i,.int .u32 x.o,.int .i64 x.r,.slice A x.val.length c]
abbrev item0:Array Value:=#[.int .u8 0,.int .u32 0,.int .u32 0,.int .i64 0,.slice none 0 0]
def FindQ (lo:Nat) (q:Option It) (u:Value) (W:World):Prop:=match q with
 |none=>u=.tuple #[.agg item0,.int .i64 6]
 |some x=>∃ A c,u=.tuple #[.agg (itemCs x A c),.int .i64 0]/\Bys W W.heap.size (.slice A x.val.length c) x.val/\Ze lo (.slice A x.val.length c)
theorem qax {w:World} {lo b off n c:Nat} {xs:List It} (h:Zv lo w (.slice (some ⟨b,off,none⟩) n c) xs) (i:Nat) (hi:i<xs.length):∃ A' c',ItAt w w.heap.size b (off+i*5) xs[i] A' c'/\Ze lo (.slice A' xs[i].val.length c'):=by
 obtain⟨ps,rfl,⟨A,c1,e,_,_,hr⟩,hp,hf,hg⟩:=h;cases e;have iK:i<ps.length:=by simpa using hi
 obtain⟨b',off',e,hb,hc⟩:=hr.2 zO;cases e;obtain⟨c0,c1,c2,c3,c4⟩:=vz ps i iK;have hgi:=hg ps[i] (List.getElem_mem iK);obtain⟨⟨A',c',e5⟩,aT⟩:=hp ps[i] (List.getElem_mem iK);rw[e5] at c4 aT hgi;refine⟨A',c',?_,by simpa using hgi⟩;simp only[List.getElem_map];refine⟨hc _ _ c0,?_,?_,?_,?_,aT⟩
 ·rw[Nat.add_assoc];exact hc _ _ c1
 ·rw[Nat.add_assoc];exact hc _ _ c2
 ·rw[Nat.add_assoc];exact hc _ _ c3
 ·rw[Nat.add_assoc];exact hc _ _ c4
def Km (S:Sto) (i:Value):Nat:=match qv S (intOf i).toNat with
 |some (l,_)=>l.toNat
 |none=>0
theorem XM {S:Sto} {r h:Nat} {ys:List It} (hn:qv S r=some ((h:Int),ys)):Km S (.int .i64 (r:Int))=h:=by unfold Km intOf;simp only[Int.toNat_natCast];rw[hn];simp
structure FnI (S:Sto) (K:K3) (q:Option It) (w2:World) (i:Value) (wr:World):Prop where
 ex:∃ (h r:Nat) (ys:List It),i=.int .i64 (r:Int)/\8<=r/\r<256/\qv S r=some ((h:Int),ys)/\(Qg S h ys).isSome=true/\XQ S K h ys=q/\Ext w2 wr
theorem Tt {R:Ending->World->Prop} {a:Act} {W:World} {b:Nat} {cs:Array Value} {v:Value} (h6:a.tmps[6]?.getD undef=.pointer (some ⟨b,0,none⟩)) (h7:a.tmps[7]?.getD undef=v) (hd:a.defers=[]) (aC:W.heap[b]?=some (.cells cs 68 (0,0))) (hs:∃ x0 x1 x2 x3 x4,cs=#[x0,x1,x2,x3,x4]) (hR:R (.returned (.tuple #[.agg cs,v])) W):bodyPost prog Tryz.f109 R .ret a W:=by
 refine bodyPost_ret (v:=.tuple #[.agg cs,v]) ?_ hd hR;have k:=qa aC;obtain⟨x0,x1,x2,x3,x4,rfl⟩:=hs;simp[results,results109,go_sem,h6,h7,k]
theorem row5 {w:World} {b:Nat} {ty:TypeId} {y0 y1 y2 y3 y4:Value} (h:w.heap[b]?=some (.cells #[y0,y1,y2,y3,y4] ty (0,0))) (x0 x1 x2 x3 x4:Value) : (((((w.setCell ⟨b,0,none⟩ x0).setCell ⟨b,1,none⟩ x1).setCell ⟨b,2,none⟩ x2).setCell ⟨b,3,none⟩ x3).setCell ⟨b,4,none⟩ x4).heap[b]?=some (.cells #[x0,x1,x2,x3,x4] ty (0,0)):=qi (qi (qi (qi (qi h 0 x0) 1 x1) 2 x2) 3 x3) 4 x4
theorem qeK {w0 w:World} {B b:Nat} (h:Below B w0 w) (hb:B<=b) (x0 x1 x2 x3 x4:Value):Below B w0 (((((w.setCell ⟨b,0,none⟩ x0).setCell ⟨b,1,none⟩ x1).setCell ⟨b,2,none⟩ x2).setCell ⟨b,3,none⟩ x3).setCell ⟨b,4,none⟩ x4):=
 Below.setCell (Below.setCell (Below.setCell (Below.setCell (Below.setCell h (p:=⟨b,0,none⟩) hb _) (p:=⟨b,1,none⟩) hb _) (p:=⟨b,2,none⟩) hb _) (p:=⟨b,3,none⟩) hb _) (p:=⟨b,4,none⟩) hb _
theorem its_set5 {w:World} {lo b:Nat} {v:Value} {xs:List It} (h:Zv lo w v xs) (hb:b<lo) (x0 x1 x2 x3 x4:Value):Zv lo (((((w.setCell ⟨b,0,none⟩ x0).setCell ⟨b,1,none⟩ x1).setCell ⟨b,2,none⟩ x2).setCell ⟨b,3,none⟩ x3).setCell ⟨b,4,none⟩ x4) v xs:=by
 refine h.keep zA3 (fun q hq _=>?_);have aN:∀ j,(⟨b,j,none⟩:Addr)≠q:=fun j e=>by subst e;simp at hq;omega
 rw[World.cell?_setCell_other _ _ _ _ (aN _),World.cell?_setCell_other _ _ _ _ (aN _),World.cell?_setCell_other _ _ _ _ (aN _),World.cell?_setCell_other _ _ _ _ (aN _),World.cell?_setCell_other _ _ _ _ (aN _)]
theorem its_cell {w:World} {lo b:Nat} {v:Value} {xs:List It} (_:Zv lo w v xs) {q:Addr} (hb:b<lo) (x0 x1 x2 x3 x4:Value) (hq:lo<=q.block) : (((((w.setCell ⟨b,0,none⟩ x0).setCell ⟨b,1,none⟩ x1).setCell ⟨b,2,none⟩ x2).setCell ⟨b,3,none⟩ x3).setCell ⟨b,4,none⟩ x4).cell? q=w.cell? q:=by
 have aN:∀ j,(⟨b,j,none⟩:Addr)≠q:=fun j e=>by subst e;simp at hq;omega
 rw[World.cell?_setCell_other _ _ _ _ (aN _),World.cell?_setCell_other _ _ _ _ (aN _),World.cell?_setCell_other _ _ _ _ (aN _),World.cell?_setCell_other _ _ _ _ (aN _),World.cell?_setCell_other _ _ _ _ (aN _)]
set_option maxRecDepth 100000 in
theorem qgW (A1:Option Addr) (n1 c1:Nat) (A2:Option Addr) (n2 c2:Nat) (A3:Option Addr) (n3 c3:Nat) (A4:Option Addr) (n4 c4:Nat) (S:Sto) (hS:qo S=true) (a lvl:Nat) (xs:List It) (ha:8<=a) (bK:a<256) (hn:qv S a=some ((lvl:Int),xs)) (aU:(Qg S lvl xs).isSome=true) (k i o:Int) (w:World) (aH:qU w w.heap.size (.slice A1 n1 c1) (.slice A2 n2 c2) (.slice A3 n3 c3) (.slice A4 n4 c4) S):Calls prog 109 #[Qd A1 n1 c1 A2 n2 c2 A3 n3 c3 A4 n4 c4,.int .i64 (a:Int),keyV k i o] w (QV (FindQ w.heap.size (XQ S (k,i,o) lvl xs)) w):=by
 have HCK:=zH (fun W (hx:Ext w W)=>Xf A1 n1 c1 A2 n2 c2 A3 n3 c3 A4 n4 c4 S hS a ⟨ha,bK,lvl,xs,hn,aU⟩ W (aH.ext hx));have HON:=zH (fun W (hx:Ext w W)=>qfA A1 n1 c1 A2 n2 c2 A3 n3 c3 A4 n4 c4 S (by have:=(qQ hS).2.2.1;omega) W (aH.ext hx));obtain⟨q,hq⟩:∃ q,XQ S (k,i,o) lvl xs=q:=⟨_,rfl⟩
 rw[hq];have HI0:∀ W,FnI S (k,i,o) q W (.int .i64 (a:Int)) W:=fun W=>⟨lvl,a,xs,rfl,ha,bK,hn,aU,hq,Ext.refl _⟩
 replace HI0:=zH HI0;replace hS:=zH hS;clear aH hn aU hq ha bK;go_enter func109,ntmps109;go_wp2_with fail;generalize aA:(World.alloc (World.alloc (World.alloc w _) _) _)=w1;have x1:Ext w w1:=by rw[<-aA];exact((zN _ _).trans (zN _ _)).trans (zN _ _)
 have uX:w1.heap[w.heap.size]?=some (.cells #[.slice A1 n1 c1,.slice A2 n2 c2,.slice A3 n3 c3,.slice A4 n4 c4] 28 (0,0)):=by rw[<-aA];exact(zK _ _ _ zA2).trans ((zK _ _ _ zA3).trans (zI _ _ _ rfl))
 have rk1:w1.heap[w.heap.size+1]?=some (.cells #[.int .u8 k,.int .u32 i,.int .u32 o] 66 (0,0)):=by rw[<-aA];exact(zK _ _ _ zA3).trans (zI _ _ _ zA3)
 have ri1:w1.heap[w.heap.size+2]?=some (.cells item0 68 (0,0)):=by rw[<-aA];exact zI _ _ _ zA3
 clear aA;have ks1:=qa uX;go_step3;go_wp2_with fail;refine(HCK.out w1 x1).mono ?_;clear HCK;rintro e w2 ⟨u,rfl,⟨m,rfl⟩,hB⟩;have x2:Ext w w2:=Ext.trans x1 hB;have rs2:=qb uX hB;have rk2:=qb rk1 hB;have ri2:=qb ri1 hB;clear uX rk1 ri1 hB x1 ks1;have ks2:=qa rs2;go_wp2_with fail;refine(HON.out w2 x2).mono ?_;clear HON;rintro e w3 ⟨u,rfl,⟨bb,A3',c3',rfl,hOn,-⟩,hB⟩;have x3:Ext w w3:=Ext.trans x2 hB;have rk3:=qb rk2 hB;have ri3:=qb ri2 hB;clear rs2 rk2 ri2 hB x2 ks2;replace hOn:=zH hOn;have I0:=zH (HI0.out w3);clear HI0;go_wp2_with fail;go_step3;go_wp2_with fail;go_loopw [10] (fun j wr=>FnI S (k,i,o) q w3 j wr) (fun j _=>Km S j)
 case atStart=>exact I0.out
 case round =>
  obtain⟨h,r,ys,rfl,h8,h256,hn,aU,hq,xr⟩:=hrel.ex;clear I0 hrel;have hlv:=XM hn;obtain⟨hm1,iL,-⟩:=Qc hn;have wH:ys.length<=5:=by unfold Qe jv at hm1;simp at hm1;omega
  have uu:=(span_ord aU).2;have wU:=vy 0 bb A1 n1 c1 A2 n2 n2 A3' n3 c3' A4 n4 c4 S hS.out r h8 h256 wr ⟨Nat.zero_le _,(hOn.out.ext xr).2⟩;rw[hn] at wU;have nT:=x3.trans xr;have rkr:=qb rk3 xr;have rir:=qb ri3 xr;have zr:w.heap.size+2<wr.heap.size:=(zG.1 rir).1;replace hlv:=zH hlv;replace aU:=zH aU;replace hn:=zH hn;replace hq:=zH hq;replace iL:=zH iL;replace uu:=zH uu;clear hm1;go_wp2_with fail;refine wU.mono ?_;clear wU;rintro e w4 ⟨u,rfl,⟨A9,c9,rfl,aG⟩,hB⟩;have iC:Ext wr w4:=hB;have x4:=nT.trans iC;have yh:=qb rkr iC;have ri4:=qb rir iC;have z4:w.heap.size+2<w4.heap.size:=(zG.1 ri4).1;have kk4:=qa yh;have z41:w.heap.size+1<w4.heap.size:=zO;replace aG:=zH aG;replace xr:=zH (xr.trans iC);clear rkr rir hB iC nT;go_wp2_with fail;generalize aK:(World.alloc w4 _)=w5;have x5:Ext w4 w5:=by rw[<-aK];exact zN _ _
  have uV:w5.heap[w4.heap.size]?=some (.cells #[.int .i64 h,.slice A9 ys.length c9] 49 (0,0)):=by rw[<-aK];exact zI _ _ _ rfl
  clear aK;refine(TA (h:Int) A9 c9 ys k i o _ w5 wH (aG.out.ext x5)).mono ?_;rintro e w6 ⟨rfl,hB⟩;have dW:Ext w4 w6:=x5.trans hB;have wO:=qb uV hB;have ri6:=qb ri4 dW;have kn6:=qa wO;have fi6:=qe ri6;have ki6:=qa ri6;have dm:=zH (aG.out.ext dW);replace xr:=zH (xr.out.trans dW);replace x4:=zH (x4.trans dW);clear uV x5 hB dW yh ri4 kk4 z4 z41;have hA:=dm.out.its.at_.2.2.2;have rD:=JJ ys (k,i,o);have hIT:=zH (fun j (hj:j<ys.length) b9 off (he:A9=some ⟨b9,off,none⟩)=>by have:=dm.out.its;rw[he] at this;exact this.item j hj);obtain⟨ie,iZ⟩:∃ ie,Kv ys (k,i,o)=ie:=⟨_,rfl⟩
  obtain⟨p,hp⟩:∃ p,qG ys (k,i,o)=p:=⟨_,rfl⟩
  have hT:ie=true->∃ hp:qG ys (k,i,o)<ys.length,qE (ys[qG ys (k,i,o)]'hp)=(k,i,o):=fun h0=>by
   rw[h0] at iZ;by_cases hl:qG ys (k,i,o)<ys.length
   ·rw[UK hl] at iZ;exact⟨hl,of_decide_eq_true iZ⟩
   ·rw[XB hl] at iZ;cases iZ
  have hF:ie=false->∀ hp:qG ys (k,i,o)<ys.length,qE (ys[qG ys (k,i,o)]'hp)≠(k,i,o):=fun h0 hl=>by rw[h0,UK hl] at iZ;exact of_decide_eq_false iZ
  rw[iZ,hp];rw[hp] at rD;have hT':=zH hT;have lq:=zH hF;replace hp:=zH hp;replace iZ:=zH iZ;clear hT hF;have HREL:=zH (fun (x:It) (hx:x∈ys) (hd:XA ys (k,i,o)=some x) (h':Nat) (hh:h=h'+1)=>by
   have h1:=JO aU.out x hx;rw[hh] at h1;obtain⟨b,e1,e2,e3,zs,e4,e5⟩:=Jb h1;have e6:qv S x.r.toNat=some ((h':Int),zs):=by rw[e1,Int.toNat_natCast];exact e4
   have e7:XQ S (k,i,o) h' zs=q:=by rw[<-one_down hd e6,<-hh];exact hq.out
   have e8:Km S (.int .i64 (b:Int))<Km S (.int .i64 (r:Int)):=by rw[XM e4,hlv.out];omega
   exact(⟨b,e1,⟨⟨h',b,zs,rfl,e2,e3,e4,e5,e7,xr.out⟩⟩,e8⟩:∃ b:Nat,x.r=(b:Int)/\FnI S (k,i,o) q w3 (.int .i64 (b:Int)) w6/\Km S (.int .i64 (b:Int))<Km S (.int .i64 (r:Int))))
  rcases Nat.eq_zero_or_pos h with h0|h0
  ·have hh1:((h:Int) == 0)=true:=by rw[beq_iff_eq];omega
   clear HREL;cases ie
   ·have hz:q=none:=by rw[<-hq.out,h0,qdT,leaf_no uu.out (lq.out rfl)]
    replace h0:=zH h0;replace hz:=zH hz;clear hA rD;go_wp2_with fail;exact Tt (b:=w.heap.size+2) rfl rfl rfl (row5 ri6 _ _ _ _ _) ⟨_,_,_,_,_,rfl⟩ ⟨_,rfl,by rw[hz.out];rfl,qeK x4.out zO _ _ _ _ _⟩
   ·obtain⟨bU,lX⟩:=hT'.out rfl;have hz:q=some ys[qG ys (k,i,o)]:=by rw[<-hq.out,h0,qdT,leaf_is uu.out bU lX]
    obtain⟨b9,off,rfl,hb9⟩:=hA zO;obtain⟨A',c',d0,d1,d2,d3,d4,-⟩:=hIT.out _ bU b9 off rfl;have hfr:=zH (fun j=>XF dm.out b9 off ys.length c9 j rfl zO);have hI5:=fun x0 x1 x2 x3 x4=>qax (its_set5 dm.out (b:=w.heap.size+1+1) zO x0 x1 x2 x3 x4) _ bU;have iF:=hp.out;generalize ys[qG ys (k,i,o)]=x at *;simp only[iF] at bU d0 d1 d2 d3 d4 hI5;replace h0:=zH h0;replace hz:=zH hz;replace hI5:=zH hI5;replace lX:=zH lX;clear hA rD iF hb9;go_wp2_with fail;obtain⟨A'',c'',⟨-,-,-,-,g4,gb⟩,gf⟩:=hI5.out (.int .u8 x.k) (.int .u32 x.i) (.int .u32 x.o) (.int .i64 x.r) (.slice A' x.val.length c');have hRX:=its_cell dm.out (b:=w.heap.size+1+1) (q:=⟨b9,off+p*5+4,none⟩) zO (.int .u8 x.k) (.int .u32 x.i) (.int .u32 x.o) (.int .i64 x.r) (.slice A' x.val.length c') (hfr.out 0);rw[hRX,d4] at g4;simp only[Option.some.injEq,Value.slice.injEq,true_and] at g4;obtain⟨rfl,rfl⟩:=g4;exact Tt (b:=w.heap.size+2) rfl rfl rfl (row5 ri6 _ _ _ _ _) ⟨_,_,_,_,_,rfl⟩ ⟨_,rfl,by rw[hz.out];exact⟨A',c',rfl,gb,gf.mono zO⟩,qeK x4.out zO _ _ _ _ _⟩
  ·have hh1:((h:Int) == 0)=false:=by rw[beq_eq_false_iff_ne];omega
   obtain⟨h',hh⟩:∃ h',h=h'+1:=⟨h-1,zO⟩
   replace hh:=zH hh;replace h0:=zH h0;cases ie
   ·rcases Nat.eq_zero_or_pos p with hp0|hp0
    ·have hz:q=none:=by rw[<-hq.out,hh.out,one_none (down_no uu.out (by rw[hp.out];exact hp0) (lq.out rfl))]
     have hp1:((p:Int) == 0)=true:=by rw[beq_iff_eq];omega
     replace hp0:=zH hp0;replace hz:=zH hz;clear hA rD HREL;go_wp2_with fail;exact Tt (b:=w.heap.size+2) rfl rfl rfl (row5 ri6 _ _ _ _ _) ⟨_,_,_,_,_,rfl⟩ ⟨_,rfl,by rw[hz.out];rfl,qeK x4.out zO _ _ _ _ _⟩
    ·have hd:=qdn uu.out (by rw[hp.out];exact hp0) (lq.out rfl);have hp1:((p:Int) == 0)=false:=by rw[beq_eq_false_iff_ne];omega
     have fD:decide (p=0)=false:=decide_eq_false zO;simp only[hp.out] at hd;obtain⟨b',e1,e2,e3⟩:=HREL.out _ (List.getElem_mem _) hd h' hh.out;obtain⟨x,hx⟩:∃ x,ys[p-1]'(by omega)=x:=⟨_,rfl⟩
     rw[hx] at hd e1;obtain⟨p',rfl⟩:∃ p',p=p'+1:=⟨p-1,zO⟩
     obtain⟨b9,off,rfl,hb9⟩:=hA zO;obtain⟨A',c',-,-,-,d3,-,-⟩:=hIT.out p' zO b9 off rfl;simp only[Nat.add_sub_cancel] at hx;rw[hx,e1] at d3;replace hx:=zH hx;have iQ:wrap64 (((p'+1:Nat):Int)-1)=(p':Int):=by rw[IntWalk.wrap64_in _ zO];omega
     have hlt:p'<ys.length:=zO;replace iQ:=iQ;replace hd:=zH hd;replace e1:=zH e1;replace e2:=zH e2;replace e3:=zH e3;clear hA HREL;replace rD:=zH rD;replace hp0:=zH hp0;go_wp2_with fail;exact⟨e2.out,e3.out⟩
   ·obtain⟨bU,lX⟩:=hT'.out rfl;have hd:=down_is uu.out bU lX;obtain⟨b',e1,e2,e3⟩:=HREL.out _ (List.getElem_mem _) hd h' hh.out;obtain⟨b9,off,rfl,hb9⟩:=hA zO;obtain⟨A',c',-,-,-,d3,-,-⟩:=hIT.out _ bU b9 off rfl;rw[e1] at d3;have iF:=hp.out;simp only[iF] at bU d3;replace hd:=zH hd;replace lX:=zH lX;replace e1:=zH e1;replace e2:=zH e2;replace e3:=zH e3;clear hA HREL rD iF;obtain⟨pz,hp1,fD⟩:∃ pz:Bool,((p:Int) == 0)=pz/\decide (p=0)=pz:=by
     rcases Nat.eq_zero_or_pos p with hp0|hp0
     ·exact⟨true,by rw[beq_iff_eq];omega,decide_eq_true hp0⟩
     ·exact⟨false,by rw[beq_eq_false_iff_ne];omega,decide_eq_false zO⟩
    cases pz;all_goals
     go_wp2_with fail;exact⟨e2.out,e3.out⟩
theorem Tryz.info_dstep:(Tryz.prog.info? 171).map (fun i=>(i.zero,i.size,i.bytes))=some (some (.agg #[.int .i64 0,.slice none 0 0,.int .i64 0]),3,40):=zQ
def Way1 (lo:Nat) (xs:List It) (p:Nat) (u:Value) (W:World):Prop:=∃ q c A c9,u=.slice (some ⟨q,0,none⟩) 1 c/\lo<=q/\∀ C,Qa (fun k=>k<lo) W C ->
 C.cell? ⟨q,0,none⟩=some (.int .i64 0)/\C.cell? ⟨q,1,none⟩=some (.slice A xs.length c9)/\C.cell? ⟨q,2,none⟩=some (.int .i64 (p:Int))/\Its C C.heap.size (.slice A xs.length c9) xs
set_option maxRecDepth 100000 in
theorem qgV (A1:Option Addr) (n1 c1:Nat) (A2:Option Addr) (n2 c2:Nat) (A3:Option Addr) (n3 c3:Nat) (A4:Option Addr) (n4 c4:Nat) (S:Sto) (hS:qo S=true) (a:Nat) (xs:List It) (ha:8<=a) (bK:a<256) (hn:qv S a=some (0,xs)) (k i o:Int) (w:World) (aH:qU w w.heap.size (.slice A1 n1 c1) (.slice A2 n2 c2) (.slice A3 n3 c3) (.slice A4 n4 c4) S):Calls prog 110 #[Qd A1 n1 c1 A2 n2 c2 A3 n3 c3 A4 n4 c4,.int .i64 (a:Int),keyV k i o] w (QV (Way1 w.heap.size xs (qG xs (k,i,o))) w):=by
 obtain⟨i0,hi,aY,aV,aX⟩:=info_parts Tryz.info_dstep;have HN:=zH (fun W (hx:Ext w W)=>Yt A1 n1 c1 A2 n2 c2 A3 n3 c3 A4 n4 c4 S (a:Int) W (aH.ext hx));have wH:xs.length<=5:=by have:=zt hn;omega
 have lH:ZQ S (a:Int)=0:=by rw[Xu hS ha bK,if_neg (show ¬ZE S a=0 from fun e=>by unfold qv at hn;rw[if_pos (show (S.now[a]?.getD 0).toNat=0 from e)] at hn;cases hn)]
 replace hi:=zH hi;clear aH;go_enter func110,ntmps110;go_wp2_with fail;generalize aA:(World.alloc (World.alloc w _) _)=w1;have x1:Ext w w1:=by rw[<-aA];exact(zN _ _).trans (zN _ _)
 have uX:w1.heap[w.heap.size]?=some (.cells #[.slice A1 n1 c1,.slice A2 n2 c2,.slice A3 n3 c3,.slice A4 n4 c4] 28 (0,0)):=by rw[<-aA];exact(zK _ _ _ zA3).trans (zI _ _ _ rfl)
 have rk1:w1.heap[w.heap.size+1]?=some (.cells #[.int .u8 k,.int .u32 i,.int .u32 o] 66 (0,0)):=by rw[<-aA];exact zI _ _ _ zA3
 have z1:w.heap.size<=w1.heap.size:=by rw[<-aA];simp;omega
 clear aA;go_wp2_with fail;go_loopw [6,7] (fun v j wr=>v=.slice none 0 0/\j=.int .i64 (a:Int)/\wr=w1) (fun _ _ _=>0)
 case atStart=>exact⟨rfl,rfl,rfl⟩
 case round =>
  obtain⟨rfl,rfl,hwr⟩:=hrel;have HNr:=HN.out wr (by rw[hwr];exact x1);have hwr2:=zH hwr;rw[<-hwr] at uX rk1 z1;have xr:=x1;rw[<-hwr] at xr;clear hwr x1 HN;rw[lH,if_pos rfl,Int.toNat_natCast,hn] at HNr;have ksr:=qa uX;clear lH hn hS;go_wp2_with fail;refine HNr.mono ?_;clear HNr;rintro e w4 ⟨u,rfl,⟨A9,c9,rfl,aG⟩,hB⟩;have hB:Ext wr w4:=hB;have yh:=qb rk1 hB;have z4:w.heap.size+1<w4.heap.size:=(zG.1 yh).1;have kk4:=qa yh;have z4r:wr.heap.size<=w4.heap.size:=hB.size;have x4:Ext w w4:=xr.trans hB;replace aG:=zH aG;clear hB uX rk1 ksr hwr2;go_wp2_with fail;generalize aK:(World.alloc w4 _)=w5;have af:Ext w4 w5:=by rw[<-aK];exact zN _ _
  have uV:w5.heap[w4.heap.size]?=some (.cells #[.int .i64 0,.slice A9 xs.length c9] 49 (0,0)):=by rw[<-aK];exact zI _ _ _ rfl
  clear aK;have rk5:=qb yh af;have kn5:=qa uV;have kk5:=qa rk5;clear kk4;go_wp2_with fail;refine(TA 0 A9 c9 xs k i o _ w5 wH (aG.out.ext af)).mono ?_;rintro e w6 ⟨rfl,hB⟩;have dW:Ext w4 w6:=af.trans hB;have wO:=qb uV hB;have kn6:=qa wO;have dm:=zH (aG.out.ext dW);have x6:Ext w w6:=x4.trans dW;have z46:=dW.size;clear uV af hB yh rk5 kk5 kn5 aG;obtain⟨ie,iZ⟩:∃ ie,Kv xs (k,i,o)=ie:=⟨_,rfl⟩
  obtain⟨p,hp⟩:∃ p,qG xs (k,i,o)=p:=⟨_,rfl⟩
  rw[iZ,hp];replace hp:=zH hp;clear iZ;go_wp2_with (at_builtin;refine qI ?_);refine Qh.go (Zc w6 rfl (.tmp 34) (.tmp 38) 168 rfl w6.heap.size 171 i0 _ 3 40 underlying168 hi.out aY aV aX rfl zA1 (.slice none 0 0) 0 [] zE (World.ownsRow_nil _ _ _ _) #[.int .i64 0,.slice A9 xs.length c9,.int .i64 (p:Int)] zE rfl zA8 zO zA1 (zM _) ?_);intro v' W' aW hg hB dQ;have iC:Ext w6 W':=hB;have xX:Ext w W':=x6.trans iC;obtain⟨A7,c7,rfl,-,-⟩:=qy aW;obtain⟨q,hq,hql⟩:∃ q,A7=some ⟨q,0,none⟩/\w6.heap.size<=q:=by
   rcases aW.2 with ⟨_,h0⟩|⟨g,cap,cur,e,h1,_⟩
   ·omega
   ·cases e;exact⟨g,rfl,h1⟩
  subst hq;have hF:Way1 w.heap.size xs p (.slice (some ⟨q,0,none⟩) 1 c7) W':=by have hfr:w.heap.size<=q:=Nat.le_trans x6.size hql;refine⟨q,c7,A9,c9,rfl,hfr,fun C hC=>?_⟩;have hr:=Rd.of_own aW;obtain⟨b0,off0,e0,hb0,dC⟩:=hr.2 zO;cases e0;have hk:∀ j u,([]++(#[.int .i64 0,.slice A9 xs.length c9,.int .i64 (p:Int)]:Array Value).toList)[j]?=some u->C.cell? ⟨q,0+j,none⟩=some u:=fun j u hu=>hC _ _ (fun h=>Nat.lt_irrefl _ (Nat.lt_of_lt_of_le h hfr)) (dC j u hu);have hI:=(dm.out.ext iC).keepX hC (fun r hr h=>zO);exact⟨hk 0 _ rfl,hk 1 _ rfl,hk 2 _ rfl,hI⟩
  replace hF:=zH hF;clear aW hg dQ hB dm;replace xX:=zH xX;have knW:=qa (qb wO iC);clear iC;go_wp2_with fail;go_ret;exact⟨_,rfl,by rw[hp.out];exact hF.out,xX.out⟩
theorem qaF {P:Program} (w:World) (dT sT ty elem:TypeId) (g o dLen dCap:Nat) (a:Addr) (sLen sCap:Nat) (cur:Array Value) (t:TypeId) (cs:List Value) (k:Nat) (hu:P.underlying dT=some (.slice elem)) (hs:(P.info? elem).map (·.size)=some k) (hg:w.heap[g]?=some (.cells cur t (0,0))) (hn:cs.length=Nat.min sLen dLen*k) (iP:∀ j v,cs[j]?=some v->w.cell? (a.add j)=some v) (gG:o+cs.length<=cur.size) (h1:∀ v∈cs,v.oneCell'=true) : (Builtin.copy_ #[dT,sT] ty #[.slice (some ⟨g,o,none⟩) dLen dCap,.slice (some a) sLen sCap]).run P w =
   .ok (.int .i64 (Nat.min sLen dLen:Nat)) (w.setRow g (cur.toList.take o++cs++cur.toList.drop (o+cs.length)).toArray):=by
 have hl:=run_loadCells_list (P:=P) w a cs iP;have aH:=run_storeCells_at P g o t cs 0 cur w hg (by simpa using gG) h1;cases hq:P.info? elem with
 |none=>simp[hq] at hs
 |some i =>
  have hi:i.size=k:=by simpa [hq] using hs
  have hn':min sLen dLen*k=cs.length:=hn.symm;simp[Builtin.copy_,run_underlying hu,Builtin.lenOf,Builtin.firstCells,sizeOf,typeInfo,hq,hi,hn',hl,aH];rfl
theorem take_mid {A V R:List Value} {a b:Nat} (h:A.length+V.length=a+b):(A++V++R).take (a+b)=A++V:=by rw[<-h,<-List.length_append];exact List.take_left
structure RowI (g cap n:Nat) (xs:List Value) (w:World):Prop where
 ex:∃ cur:Array Value,w.heap[g]?=some (.cells cur 68 (0,0))/\cur.size=cap*5/\cur.toList.take (n*5)=xs
theorem RowI.own {lo g cap n:Nat} {xs:List Value} {w:World} (h:RowI g cap n xs w) (hl:xs.length=n*5) (aP:lo<=g) (hn:n<=cap) (hc:cap<=maxLen):w.ownsRow lo 68 5 (.slice (some ⟨g,0,none⟩) n cap) n xs:=by obtain⟨cur,h1,h2,h3⟩:=h.ex;exact⟨hl,.inr ⟨g,cap,cur,rfl,aP,h1,hn,hc,h2,h3⟩⟩
def spl (cur:Array Value) (o:Nat) (cs:List Value):Array Value:=(cur.toList.take (o*5)++cs++cur.toList.drop (o*5+cs.length)).toArray
theorem QE {cur:Array Value} {o k:Nat} {cs:List Value} (hl:cs.length=k*5) (h:(o+k)*5<=cur.size):(spl cur o cs).size=cur.size:=by unfold spl;simp only[List.size_toArray,List.length_append,List.length_take,List.length_drop,Array.length_toList];omega
theorem jD {P:Program} {W:World} {g o k:Nat} {cur:Array Value} {cs:List Value} {dT sT ty:TypeId} {dLen dCap:Nat} {a:Addr} {sLen sCap:Nat} (hg:W.heap[g]?=some (.cells cur 68 (0,0))) (hl:cs.length=k*5) (h:(o+k)*5<=cur.size) (hu:P.underlying dT=some (.slice 68)) (hs:(P.info? 68).map (·.size)=some 5) (hk:Nat.min sLen dLen=k) (iP:∀ j v,cs[j]?=some v->W.cell? (a.add j)=some v) (h1:∀ v∈cs,v.oneCell'=true) : (Builtin.copy_ #[dT,sT] ty #[.slice (some ⟨g,o*5,none⟩) dLen dCap,.slice (some a) sLen sCap]).run P W=.ok (.int .i64 (k:Nat)) (W.setRow g (spl cur o cs)):=by
 have:=qaF (P:=P) W dT sT ty 68 g (o*5) dLen dCap a sLen sCap cur 68 cs 5 hu hs hg (by rw[hk,hl]) iP zO h1;rw[hk] at this;exact this
theorem Yv {cur:Array Value} {o k:Nat} {A cs:List Value} (hA:cur.toList.take (o*5)=A) (hl:cs.length=k*5) (h:(o+k)*5<=cur.size):(spl cur o cs).toList.take ((o+k)*5)=A++cs:=by
 unfold spl;rw[List.toList_toArray,hA,Nat.add_mul];have:A.length=o*5:=by rw[<-hA,List.length_take,Array.length_toList];omega
 exact take_mid zO
theorem qhK {cur:Array Value} {n i m:Nat} {xs vs:List Value} (hc:cur.toList.take (n*5)=xs) (hx:xs.length=n*5) (hv:vs.length=m*5) (hi:i<=n) (h:(n+m)*5<=cur.size) : (spl (spl cur (i+m) (xs.drop (i*5))) i vs).toList.take ((n+m)*5)=xs.take (i*5)++vs++xs.drop (i*5):=by
 have hd:(xs.drop (i*5)).length=(n-i)*5:=by rw[List.length_drop];omega
 have e1:(spl cur (i+m) (xs.drop (i*5))).toList=cur.toList.take ((i+m)*5)++xs.drop (i*5)++cur.toList.drop ((i+m)*5+(xs.drop (i*5)).length):=by unfold spl;rw[List.toList_toArray]
 have oM:(cur.toList.take ((i+m)*5)).length=(i+m)*5:=by rw[List.length_take,Array.length_toList];omega
 have e2:(spl cur (i+m) (xs.drop (i*5))).toList.take (i*5)=xs.take (i*5):=by rw[e1,List.append_assoc,List.take_append_of_le_length zO,List.take_take,Nat.min_eq_left zO,<-hc,List.take_take,Nat.min_eq_left zO]
 have e3:(spl cur (i+m) (xs.drop (i*5))).toList.drop (i*5+vs.length)=xs.drop (i*5)++cur.toList.drop ((i+m)*5+(xs.drop (i*5)).length):=by rw[e1,List.append_assoc];have:i*5+vs.length=(cur.toList.take ((i+m)*5)).length:=zO;rw[this];exact List.drop_left
 generalize hY:spl cur (i+m) (xs.drop (i*5))=Y at *;unfold spl;rw[List.toList_toArray,e2,e3,<-List.append_assoc];have ht:(xs.take (i*5)).length=i*5:=by rw[List.length_take];omega
 have:(n+m)*5=(xs.take (i*5)++vs++xs.drop (i*5)).length:=by simp only[List.length_append];omega
 rw[this];exact List.take_left
set_option maxRecDepth 100000 in
theorem Ub (A:Option Addr) (n c:Nat) (us:List Value) (hn:n<1073741824) (h1:∀ u∈us,u.oneCell'=true) (w:World) (hr:Rd w w.heap.size 5 A n us):Calls prog 102 #[.slice A n c] w (QV (fun u w'=>w'.ownsRow w.heap.size 68 5 u n us) w):=by
 obtain⟨i0,hi,aY,aV,aX⟩:=info_parts Tryz.info_item;have qn:∀ (w:World) (a:Option Addr) (n c n' c':Nat),(binOp .eql 47 (.slice a n c) (.slice none n' c')).run prog w=.ok (.bool a.isNone) w:=fun w a n c n' c'=>Lib.run_eql_slice_nil w _ _ a n c n' c' underlying47;rcases A with _|⟨b,off,p⟩
 ·have h0:n=0:=by
   rcases Nat.eq_zero_or_pos n with h|h
   ·exact h
   ·obtain⟨b,off,h,_⟩:=hr.2 h;cases h
  subst h0;obtain rfl:us=[]:=List.eq_nil_of_length_eq_zero (by simpa using hr.1);go_enter func102,ntmps102;go_wp2;go_ret;exact⟨_,rfl,World.ownsRow_nil _ _ _ _,Below.refl _ _⟩
 ·go_enter func102,ntmps102;go_wp2_with (at_builtin;refine qI ?_);refine Qh.go (Qq _ rfl (.tmp 5) (.tmp 6) 47 rfl w.heap.size 68 i0 _ 5 48 underlying47 hi aY aV aX rfl zA1 _ 0 [] rfl ?_ w.heap.size _ n c us zE ?_ h1 zO zA1 zA3 ?_)
  ·exact World.ownsRow_lit w #[] 0 (zM _) (by simp[maxLen]) rfl
  ·exact hr.keep fun p hp=>World.cell?_alloc_lt w _ p hp
  ·intro v' w' aB _ hb _;simp only[Nat.zero_add,List.nil_append] at aB;go_wp2;go_ret;exact⟨_,rfl,aB,Below.trans ((Below.refl _ _).alloc (zM _) _) hb⟩
def VG (lo:Nat) (s:Value) (k:Nat) (ys:List Value) (w:World) (e:Ending) (W:World):Prop:=∃ v',e=.returned v'/\W.ownsRow lo 68 5 v' k ys/\Below lo w W/\∀ q,q<w.heap.size->s.ownBlock≠some q->W.heap[q]?=w.heap[q]?
theorem QL {lo g:Nat} {w W:World} (h:Below lo w W) (aP:lo<=w.heap.size) (hg:lo<=g) (cur:Array Value):Below lo w (W.setRow g cur):=
 h.grown (Tf W g cur) (by have:=h.size;omega) (fun k hk=>by cases hk;exact hg)
theorem qcJ {w:World} {lo m c g:Nat} {e:TypeId} {vs:List Value} (h:w.ownsRow lo e 5 (.slice (some ⟨g,0,none⟩) m c) m vs):∀ j u,vs[j]?=some u->w.cell? ((⟨g,0,none⟩:Addr).add j)=some u:=fun j u hu=>by
 rcases h.2 with ⟨h0,_⟩|⟨g',cap,cur,hv,hb,hg,fP,_,hsz,nN⟩
 ·cases h0
 ·cases hv;rw[Addr.add_lit,Nat.zero_add,qa hg,<-Array.getElem?_toList];rw[<-nN,List.getElem?_take] at hu;split at hu
  ·exact hu
  ·cases hu
end Go.Proofs.YtpbniokljofedaaGreat
