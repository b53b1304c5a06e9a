/- Lemmas of the proof. -/
import Derived.Test.YtmeadnlmepcmbaaGreatZG03
set_option linter.all false
set_option maxHeartbeats 8000000
open Go.Proofs.Tryz
namespace Go.Proofs.YtmeadnlmepcmbaaGreat
open Go.RowKit
structure Vol where
 id:Int
 root:Int
 fz:Bool
 frm:Int
deriving DecidableEq
def Ql(v:Vol):List UInt8:=qM v.root.toNat 2++[if v.fz then 1 else 0]++qM v.frm.toNat 4
theorem vH(v:Vol):(Ql v).length=7:=by simp[Ql,QD]
def ZR(x:It):Vol:=⟨x.i,Zu x.val 0 2,decide ((x.val[2]?.getD 0).toNat=1),Zu x.val 3 4⟩
def VS(x:It):Bool:=decide (x.val.length=7)&&Xg 1 x.i 0 0 x.k x.i x.o x.r (Ql (ZR x)) x.val
abbrev VR(v:Vol):Value:=.agg #[.int .u32 v.id,.int .i64 v.root,.bool v.fz,.int .u32 v.frm]
def Uw(v:Vol):Prop:=(0<=v.id/\v.id<4294967296)/\(0<=v.root/\v.root<65536)/\(0<=v.frm/\v.frm<4294967296)
def VY(lo n:Nat)(ty:TypeId)(φ:List Value->World->Prop):qZ:=⟨Nat,λb=>.slice (some ⟨b,0,none⟩) n n,λb W=>lo<=b/\∃cs:Array Value,cs.size=n/\W.heap[b]?=some (.cells cs ty (0,0))/\φ cs.toList W⟩
theorem Qv(lo n:Nat)(ty:TypeId)(φ:List Value->World->Prop)(b:Nat):(VY lo n ty φ).f b=.slice (some ⟨b,0,none⟩) n n:=rfl
theorem Kf{lo n:Nat}{ty:TypeId}{φ:List Value->World->Prop}(hφ:∀l,QV (φ l)):∀p,QV ((VY lo n ty φ).φ p):=λp W W' he ⟨h1,cs,h2,h3,h4⟩=>
 ⟨h1,cs,h2,(Below.block he p (zG.1 h3).1).trans h3,hφ _ _ _ he h4⟩
theorem XA{P:Program}{o:Oper}{a:Act}{W:World}{lo' n':Nat}{ty:TypeId}{φ:List Value->World->Prop}{cs:Array Value}(hr:(execOp a.eval o).run P W=.ok (.value (.slice (some ⟨W.heap.size,0,none⟩) n' n')) (W.alloc (.cells cs ty)))(hlo:lo'<=W.heap.size)(hn:cs.size=n')(hφ:φ cs.toList (W.alloc (.cells cs ty))):vw P o a W (VY lo' n' ty φ):=by
 unfold vw;rw[hr];exact⟨W.heap.size,rfl,⟨hlo,cs,hn,zI _ _ _ rfl,hφ⟩,zN _ _⟩
def Vr(ls:List (List UInt8))(vs:List Value)(W:World):Prop:=vs.length=ls.length/\∀(i:Nat)(v:Value)(l:List UInt8),vs[i]?=some v->ls[i]?=some l->Bys W W.heap.size v l
theorem Vr.stable(ls:List (List UInt8))(vs:List Value):QV (Vr ls vs):=λ_ _ he h=>⟨h.1,λi v l h1 h2=>((h.2 i v l h1 h2).below he).more he.size⟩
theorem Bys.lit{W:World}{b:Nat}{l:List UInt8}{ty:TypeId}(h:W.heap[b]?=some (.cells (l.map bv).toArray ty (0,0)))(hl:l.length<=maxLen):Bys W W.heap.size (.slice (some ⟨b,0,none⟩) l.length l.length) l:=
 ⟨_,_,rfl,zM _,hl,zA3,λ_=>⟨b,0,rfl,(zG.1 h).1,λj u hu=>by rw[qa h];simpa using hu⟩⟩
theorem Rd.row{W:World}{b:Nat}{cs:Array Value}{ty:TypeId}(h:W.heap[b]?=some (.cells cs ty (0,0)))(n:Nat)(hn:cs.size=n):Rd W W.heap.size 1 (some ⟨b,0,none⟩) n cs.toList:=
 ⟨by simp[hn],λ_=>⟨b,0,rfl,(zG.1 h).1,λj u hu=>by rw[qa h];simpa using hu⟩⟩
set_option maxRecDepth 100000 in
theorem qjO(v:Vol)(hv:Uw v)(w:World):Calls prog 66 #[VR v] w (zm (IsI w.heap.size 1 v.id 0 0 (Ql v)) w):=by
 obtain⟨vi,vr,vf,vm⟩:=v;obtain⟨⟨hi1,hi2⟩,⟨hr1,hr2⟩,⟨hm1,hm2⟩⟩:=hv;dsimp only at*;obtain⟨r,rfl⟩:=Int.eq_ofNat_of_zero_le hr1;obtain⟨m,rfl⟩:=Int.eq_ofNat_of_zero_le hm1;have HB:Hid (Ql ⟨vi,r,vf,m⟩=[qM r 2,[if vf then 1 else 0],qM m 4].flatten):=by refine zH ?_;simp[Ql]
 have HL:Hid ((Ql ⟨vi,r,vf,m⟩).length=7):=zH (vH _);have l2:=QD 2 r;have l4:=QD 4 m;replace⟨l2,l4⟩:=zH2 l2 l4;generalize Ql ⟨vi,r,vf,m⟩=vb at*;cases vf
 ·go_enter func66,ntmps66;go_wp2_with fail;generalize hw1:(World.alloc (World.alloc _ _) _)=w1;have b1:Ext w w1:=by rw[<-hw1];exact(zN _ _).trans (zN _ _)
  have r1:w1.heap[w.heap.size]?=some (.cells #[.int .u32 vi,.int .i64 r,.bool false,.int .u32 m] 36 (0,0)):=by rw[<-hw1];exact(zK _ _ _ zA3).trans (zI _ _ _ rfl)
  have q1:w1.heap[w.heap.size+1]?=some (.cells #[.int .u8 0,.int .u32 0,.int .u32 0,.int .i64 0,.slice none 0 0] 51 (0,0)):=by rw[<-hw1];exact zI _ _ _ zA3
  clear hw1;refine(qfz r zO _).mono ?_;rintro e w2 ⟨u,rfl,⟨u2,rfl,A2,c2,rfl,hb2,hf2⟩,hB⟩;have b2:Ext w w2:=Ext.trans b1 hB;have r2:=qb r1 hB;have q2:=qb q1 hB;have k2:=qa r2;have s2:w.heap.size+1<w2.heap.size:=(zG.1 q2).1;clear hB b1 r1 q1;go_wp2;have hE:∀W,Ext w2 W->∀j,W.cell? ⟨w.heap.size,j,none⟩=#[.int .u32 vi,.int .i64 r,.bool false,.int .u32 m][j]?:=λW h=>qa (qb r2 h);clear k2;refine za (qQ [(5,jg w2.heap.size 1 5 #[.int .u8 0]),(8,Xj w2.heap.size 4 (qM m 4)),(9,VY w2.heap.size 3 26 (Vr [qM r 2,[0],qM m 4])),(10,Xj w2.heap.size 7 vb)]) 12 zQ zQ zQ zA1 zQ zQ ?st ?walk
  case st=>exact zo (by simp only[List.forall_mem_cons];exact⟨jS _ _ _ _,Ji _ _ _,Kf (Vr.stable _),Ji _ _ _,λ_ h=>by cases h⟩)
  case walk=>
   intro K hK;dsimp only[List.take];refine zB4 ?_;refine QH (jg w2.heap.size 1 5 #[.int .u8 0]) zA0 zA0 (λW hW _=>?_) (λ(p5:Nat)=>?_)
   ·refine YH ?_ hW.size;go_simp
   refine zB4 ?_;refine QH (Xj w2.heap.size 4 (qM m 4)) zA0 zA0 (λW hW _=>?_) (λp8=>?_)
   ·refine QW ?_ ((Xw m zO W).mono λe w' h=>?_)
    ·go_simp
    obtain⟨u,rfl,⟨A,c,rfl,h1,h2⟩,h3⟩:=h;exact⟨(A,c),rfl,⟨h1,h2.mono hW.size⟩,h3⟩
   obtain⟨A8,c8⟩:=p8;simp only[Act.put,qe,qc,qf,qy,Qv,QL,zA,zB,zC];refine QH (VY w2.heap.size 3 26 (Vr [qM r 2,[0],qM m 4])) zA0 zA0 (λW hW hp=>?_) (λ(p9:Nat)=>?_)
   ·have f5:=(hp 5 zA1).1;have f8:=(hp 8 zA1).1;obtain⟨f5,_⟩:W.heap[p5]?=some (.cells #[.int .u8 0] 5 (0,0))/\w2.heap.size<=p5:=f5;obtain⟨f8,_⟩:Bys W W.heap.size (.slice A8 4 c8) (qM m 4)/\_:=f8;have hR:Vr [qM r 2,[0],qM m 4] [.slice A2 2 c2,.slice (some ⟨p5,0,none⟩) 1 1,.slice A8 4 c8] W:=by
     refine⟨rfl,λi v l hv hl=>?_⟩;have wRP:Bys W W.heap.size (.slice (some ⟨p5,0,none⟩) 1 1) [(0:UInt8)]:=Bys.lit (l:=[(0:UInt8)]) f5 (by simp[maxLen]);rcases i with _|_|_|i
     ·simp at hv hl;subst hv;subst hl;exact(hb2.below hW).more hW.size
     ·simp at hv hl;subst hv;subst hl;exact wRP
     ·simp at hv hl;subst hv;subst hl;exact f8
     ·simp at hv
    refine XA (cs:=#[.slice A2 2 c2,.slice (some ⟨p5,0,none⟩) 1 1,.slice A8 4 c8]) ?_ hW.size rfl ?_
    ·go_simp
    ·exact Vr.stable _ _ _ _ (zN _ _) hR
   simp only[Act.put,qe,qc,qf,qy,Qv,QL,zA,zB,zC];refine QH (Xj w2.heap.size 7 vb) zA0 zA0 (λW hW hp=>?_) (λp10=>?_)
   ·obtain⟨_,cs,hcs,hBT,hR⟩:=(hp 9 zA1).1;have hlen:[qM r 2,[(0:UInt8)],qM m 4].flatten.length=7:=by simp[l2.out,l4.out]
    refine QW ?_ ((Kw (some ⟨p9,0,none⟩) 3 3 cs.toList [qM r 2,[0],qM m 4] (by simpa using hcs) rfl W (Rd.row hBT 3 hcs) (λi v l h1 h2=>hR.2 i v l h1 h2) zO zO).mono λe w' h=>?_)
    ·go_simp
    rw[hlen]at h;obtain⟨p,h1,h2,h3⟩:=XM h hW.size;have HB':=HB.out;simp only[Bool.false_eq_true,if_false]at HB';rw[<-HB']at h1 h2;exact⟨p,h1,h2,h3⟩
   obtain⟨A10,c10⟩:=p10;refine zB4 ?_;refine Zq (hK _ _ λW hW hF=>?_);obtain⟨f10,g10⟩:Bys W W.heap.size (.slice A10 7 c10) vb/\Zw w2.heap.size (.slice A10 7 c10):=(hF 10).1;clear hF hK hE;have b3:Ext w W:=b2.trans hW;have q3:=qb q2 hW;have kq:=qa q3;have fq:=qg q3;dsimp only[List.drop];go_wp2;have hgt:w.heap.size+1<w2.heap.size:=s2;have hby:=((((f10.setCell g10 (p:=⟨w.heap.size+1,0,none⟩) hgt (.int .u8 1)).setCell g10 (p:=⟨w.heap.size+1,1,none⟩) hgt (.int .u32 vi)).setCell g10 (p:=⟨w.heap.size+1,2,none⟩) hgt (.int .u32 0)).setCell g10 (p:=⟨w.heap.size+1,3,none⟩) hgt (.int .i64 0)).setCell g10 (p:=⟨w.heap.size+1,4,none⟩) hgt (.slice A10 7 c10);have rf:=qo (qo (qo (qo (qo q3 0 (.int .u8 1)) 1 (.int .u32 vi)) 2 (.int .u32 0)) 3 (.int .i64 0)) 4 (.slice A10 7 c10);have b3':Below w.heap.size w W:=b3;have bf:Below w.heap.size w (((((W.setCell ⟨w.heap.size+1,0,none⟩ (.int .u8 1)).setCell ⟨w.heap.size+1,1,none⟩ (.int .u32 vi)).setCell ⟨w.heap.size+1,2,none⟩ (.int .u32 0)).setCell ⟨w.heap.size+1,3,none⟩ (.int .i64 0)).setCell ⟨w.heap.size+1,4,none⟩ (.slice A10 7 c10)):=zA5;have hsz:(((((W.setCell ⟨w.heap.size+1,0,none⟩ (.int .u8 1)).setCell ⟨w.heap.size+1,1,none⟩ (.int .u32 vi)).setCell ⟨w.heap.size+1,2,none⟩ (.int .u32 0)).setCell ⟨w.heap.size+1,3,none⟩ (.int .i64 0)).setCell ⟨w.heap.size+1,4,none⟩ (.slice A10 7 c10)).heap.size=W.heap.size:=zA3;generalize hwf:(World.setCell (World.setCell (World.setCell (World.setCell (World.setCell W _ _) _ _) _ _) _ _) _ _)=wf at*;have kf:=qa rf;rw[<-hsz]at hby;exact bodyPost_ret (v:=KE 1 vi 0 0 A10 7 c10) (by simp[results,results66,go_sem,kf]) rfl ⟨_,rfl,⟨A10,c10,by rw[HL.out],by rw[HL.out];exact hby,by rw[HL.out];exact g10.mono zO⟩,bf⟩
 ·go_enter func66,ntmps66;go_wp2_with fail;generalize hw1:(World.alloc (World.alloc _ _) _)=w1;have b1:Ext w w1:=by rw[<-hw1];exact(zN _ _).trans (zN _ _)
  have r1:w1.heap[w.heap.size]?=some (.cells #[.int .u32 vi,.int .i64 r,.bool true,.int .u32 m] 36 (0,0)):=by rw[<-hw1];exact(zK _ _ _ zA3).trans (zI _ _ _ rfl)
  have q1:w1.heap[w.heap.size+1]?=some (.cells #[.int .u8 0,.int .u32 0,.int .u32 0,.int .i64 0,.slice none 0 0] 51 (0,0)):=by rw[<-hw1];exact zI _ _ _ zA3
  clear hw1;refine(qfz r zO _).mono ?_;rintro e w2 ⟨u,rfl,⟨u2,rfl,A2,c2,rfl,hb2,hf2⟩,hB⟩;have b2:Ext w w2:=Ext.trans b1 hB;have r2:=qb r1 hB;have q2:=qb q1 hB;have k2:=qa r2;have s2:w.heap.size+1<w2.heap.size:=(zG.1 q2).1;clear hB b1 r1 q1;go_wp2;have hE:∀W,Ext w2 W->∀j,W.cell? ⟨w.heap.size,j,none⟩=#[.int .u32 vi,.int .i64 r,.bool true,.int .u32 m][j]?:=λW h=>qa (qb r2 h);clear k2;refine za (qQ [(5,jg w2.heap.size 1 5 #[.int .u8 1]),(8,Xj w2.heap.size 4 (qM m 4)),(9,VY w2.heap.size 3 26 (Vr [qM r 2,[1],qM m 4])),(10,Xj w2.heap.size 7 vb)]) 12 zQ zQ zQ zA1 zQ zQ ?st ?walk
  case st=>exact zo (by simp only[List.forall_mem_cons];exact⟨jS _ _ _ _,Ji _ _ _,Kf (Vr.stable _),Ji _ _ _,λ_ h=>by cases h⟩)
  case walk=>
   intro K hK;dsimp only[List.take];refine zB4 ?_;refine QH (jg w2.heap.size 1 5 #[.int .u8 1]) zA0 zA0 (λW hW _=>?_) (λ(p5:Nat)=>?_)
   ·refine YH ?_ hW.size;go_simp
   refine zB4 ?_;refine QH (Xj w2.heap.size 4 (qM m 4)) zA0 zA0 (λW hW _=>?_) (λp8=>?_)
   ·refine QW ?_ ((Xw m zO W).mono λe w' h=>?_)
    ·go_simp
    obtain⟨u,rfl,⟨A,c,rfl,h1,h2⟩,h3⟩:=h;exact⟨(A,c),rfl,⟨h1,h2.mono hW.size⟩,h3⟩
   obtain⟨A8,c8⟩:=p8;simp only[Act.put,qe,qc,qf,qy,Qv,QL,zA,zB,zC];refine QH (VY w2.heap.size 3 26 (Vr [qM r 2,[1],qM m 4])) zA0 zA0 (λW hW hp=>?_) (λ(p9:Nat)=>?_)
   ·have f5:=(hp 5 zA1).1;have f8:=(hp 8 zA1).1;obtain⟨f5,_⟩:W.heap[p5]?=some (.cells #[.int .u8 1] 5 (0,0))/\w2.heap.size<=p5:=f5;obtain⟨f8,_⟩:Bys W W.heap.size (.slice A8 4 c8) (qM m 4)/\_:=f8;have hR:Vr [qM r 2,[1],qM m 4] [.slice A2 2 c2,.slice (some ⟨p5,0,none⟩) 1 1,.slice A8 4 c8] W:=by
     refine⟨rfl,λi v l hv hl=>?_⟩;have wRP:Bys W W.heap.size (.slice (some ⟨p5,0,none⟩) 1 1) [(1:UInt8)]:=Bys.lit (l:=[(1:UInt8)]) f5 (by simp[maxLen]);rcases i with _|_|_|i
     ·simp at hv hl;subst hv;subst hl;exact(hb2.below hW).more hW.size
     ·simp at hv hl;subst hv;subst hl;exact wRP
     ·simp at hv hl;subst hv;subst hl;exact f8
     ·simp at hv
    refine XA (cs:=#[.slice A2 2 c2,.slice (some ⟨p5,0,none⟩) 1 1,.slice A8 4 c8]) ?_ hW.size rfl ?_
    ·go_simp
    ·exact Vr.stable _ _ _ _ (zN _ _) hR
   simp only[Act.put,qe,qc,qf,qy,Qv,QL,zA,zB,zC];refine QH (Xj w2.heap.size 7 vb) zA0 zA0 (λW hW hp=>?_) (λp10=>?_)
   ·obtain⟨_,cs,hcs,hBT,hR⟩:=(hp 9 zA1).1;have hlen:[qM r 2,[(1:UInt8)],qM m 4].flatten.length=7:=by simp[l2.out,l4.out]
    refine QW ?_ ((Kw (some ⟨p9,0,none⟩) 3 3 cs.toList [qM r 2,[1],qM m 4] (by simpa using hcs) rfl W (Rd.row hBT 3 hcs) (λi v l h1 h2=>hR.2 i v l h1 h2) zO zO).mono λe w' h=>?_)
    ·go_simp
    rw[hlen]at h;obtain⟨p,h1,h2,h3⟩:=XM h hW.size;have HB':=HB.out;simp only[if_false,if_true]at HB';rw[<-HB']at h1 h2;exact⟨p,h1,h2,h3⟩
   obtain⟨A10,c10⟩:=p10;refine zB4 ?_;refine Zq (hK _ _ λW hW hF=>?_);obtain⟨f10,g10⟩:Bys W W.heap.size (.slice A10 7 c10) vb/\Zw w2.heap.size (.slice A10 7 c10):=(hF 10).1;clear hF hK hE;have b3:Ext w W:=b2.trans hW;have q3:=qb q2 hW;have kq:=qa q3;have fq:=qg q3;dsimp only[List.drop];go_wp2;have hgt:w.heap.size+1<w2.heap.size:=s2;have hby:=((((f10.setCell g10 (p:=⟨w.heap.size+1,0,none⟩) hgt (.int .u8 1)).setCell g10 (p:=⟨w.heap.size+1,1,none⟩) hgt (.int .u32 vi)).setCell g10 (p:=⟨w.heap.size+1,2,none⟩) hgt (.int .u32 0)).setCell g10 (p:=⟨w.heap.size+1,3,none⟩) hgt (.int .i64 0)).setCell g10 (p:=⟨w.heap.size+1,4,none⟩) hgt (.slice A10 7 c10);have rf:=qo (qo (qo (qo (qo q3 0 (.int .u8 1)) 1 (.int .u32 vi)) 2 (.int .u32 0)) 3 (.int .i64 0)) 4 (.slice A10 7 c10);have b3':Below w.heap.size w W:=b3;have bf:Below w.heap.size w (((((W.setCell ⟨w.heap.size+1,0,none⟩ (.int .u8 1)).setCell ⟨w.heap.size+1,1,none⟩ (.int .u32 vi)).setCell ⟨w.heap.size+1,2,none⟩ (.int .u32 0)).setCell ⟨w.heap.size+1,3,none⟩ (.int .i64 0)).setCell ⟨w.heap.size+1,4,none⟩ (.slice A10 7 c10)):=zA5;have hsz:(((((W.setCell ⟨w.heap.size+1,0,none⟩ (.int .u8 1)).setCell ⟨w.heap.size+1,1,none⟩ (.int .u32 vi)).setCell ⟨w.heap.size+1,2,none⟩ (.int .u32 0)).setCell ⟨w.heap.size+1,3,none⟩ (.int .i64 0)).setCell ⟨w.heap.size+1,4,none⟩ (.slice A10 7 c10)).heap.size=W.heap.size:=zA3;generalize hwf:(World.setCell (World.setCell (World.setCell (World.setCell (World.setCell W _ _) _ _) _ _) _ _) _ _)=wf at*;have kf:=qa rf;rw[<-hsz]at hby;exact bodyPost_ret (v:=KE 1 vi 0 0 A10 7 c10) (by simp[results,results66,go_sem,kf]) rfl ⟨_,rfl,⟨A10,c10,by rw[HL.out],by rw[HL.out];exact hby,by rw[HL.out];exact g10.mono zO⟩,bf⟩
def qj:Rel where
 rel:=Ext
 refl':=Ext.refl
 trans':=Ext.trans
 drew':=Ext.drew
theorem Qo{φ:World->Prop}(h:QV φ):qS qj φ:=λW W' he=>h W W' he
theorem Je{P:Program}{o:Oper}{a:Act}{W:World}{lo':Nat}{ty:TypeId}{cs:Array Value}(hr:(execOp a.eval o).run P W=.ok (.value (.pointer (some ⟨W.heap.size,0,none⟩))) (W.alloc (.cells cs ty)))(hlo:lo'<=W.heap.size):Qr qj P o a W (Jj lo' ty cs):=by
 unfold Qr;rw[hr];exact⟨W.heap.size,rfl,⟨zI _ _ _ rfl,hlo⟩,zN _ _⟩
def Vj(B:Nat)(ty:TypeId)(vs:Nat->Option Value):Rel where
 rel W W':=W.grownBy W' (some B)/\∀cs,W.heap[B]?=some (.cells cs ty (0,0))->∃cs',W'.heap[B]?=some (.cells cs' ty (0,0))/\cs'.size=cs.size/\∀j,cs'[j]?=cs[j]?\/(vs j≠none/\cs'[j]?=vs j)
 refl' W:=⟨World.grownBy.refl _ _,λcs h=>⟨cs,h,rfl,λ_=>.inl rfl⟩⟩
 trans' h k:=⟨h.1.trans k.1,λcs hc=>by
  obtain⟨c1,h1,h2,h3⟩:=h.2 cs hc;obtain⟨c2,k1,k2,k3⟩:=k.2 c1 h1;refine⟨c2,k1,k2.trans h2,λj=>?_⟩;rcases k3 j with e|e
  ·rw[e];exact h3 j
  ·exact .inr e⟩
 drew' W:=⟨⟨rfl,rfl,rfl,zM _,λ_ _ _=>rfl⟩,λcs h=>⟨cs,h,rfl,λ_=>.inl rfl⟩⟩
section
variable {B:Nat} {ty:TypeId} {vs:Nat->Option Value}
theorem qaj{W W':World}(h:Ext W W'):(Vj B ty vs).r W W':=⟨ZD h _,λcs hc=>⟨cs,qb hc h,rfl,λ_=>.inl rfl⟩⟩
theorem UA{W W':World}(h:(Vj B ty vs).r W W'){p:Addr}{u:Value}(hp:p.block≠B)(hc:W.cell? p=some u):W'.cell? p=some u:=
 World.grownBy.cell h.1 hc (λx=>hp (by simpa using x))
theorem Zp{W W':World}(h:(Vj B ty vs).r W W'){b:Nat}{o:Obj}(hp:b≠B)(hc:W.heap[b]?=some o):W'.heap[b]?=some o:=
 (h.1.block b (zG.1 hc).1 (λx=>hp (by simpa using x))).trans hc
theorem qgf{W:World}{cs:Array Value}{j:Nat}{v:Value}(h:W.heap[B]?=some (.cells cs ty (0,0)))(hv:vs j=some v)(hj:j<cs.size):(Vj B ty vs).r W (W.setCell ⟨B,j,none⟩ v)/\(W.setCell ⟨B,j,none⟩ v).cell? ⟨B,j,none⟩=some v:=by
 have hr:=qo h j v;refine⟨⟨⟨rfl,rfl,rfl,zA3,λk _ hk=>zJ _ _ _ _ (λe=>hk (by simp at e;rw[e]))⟩,λcs' hc=>?_⟩,?_⟩
 ·rw[h]at hc;simp only[Option.some.injEq,Obj.cells.injEq,and_true]at hc;subst hc;refine⟨_,hr,zA3,λk=>?_⟩;by_cases hk:j=k
  ·subst hk;exact .inr ⟨by rw[hv];simp,by rw[hv];simp[hj]⟩
  ·exact .inl (by simp[hk])
 ·rw[qa hr];simp[hj]
end
def Vd(B:Nat)(ty:TypeId)(j:Nat)(v:Value):qZ:=⟨Unit,λ_=>undef,λ_ W=>∃cs,W.heap[B]?=some (.cells cs ty (0,0))/\cs[j]?=some v⟩
theorem jM(B:Nat)(ty:TypeId)(j:Nat)(v:Value)(u:Unit):(Vd B ty j v).f u=undef:=rfl
theorem JG{B:Nat}{ty:TypeId}{vs:Nat->Option Value}{j:Nat}{v:Value}(hv:vs j=some v):∀p,qS (Vj B ty vs) ((Vd B ty j v).φ p):=by
 intro p W W' he ⟨cs,h1,h2⟩;obtain⟨c',k1,_,k3⟩:=he.2 cs h1;refine⟨c',k1,?_⟩;rcases k3 j with e|e
 ·rw[e];exact h2
 ·rw[e.2];exact hv
theorem Kd{P:Program}{o:Oper}{a:Act}{w W:World}{B:Nat}{ty:TypeId}{vs:Nat->Option Value}{j:Nat}{v:Value}{cs:Array Value}(h0:w.heap[B]?=some (.cells cs ty (0,0)))(hW:(Vj B ty vs).r w W)(hv:vs j=some v)(hj:j<cs.size)(hr:(∀i,W.frozen? ⟨B,i,none⟩=false)->(∃u,W.cell? ⟨B,j,none⟩=some u)->(execOp a.eval o).run P W=.ok .skip (W.setCell ⟨B,j,none⟩ v)):Qr (Vj B ty vs) P o a W (Vd B ty j v):=by
 obtain⟨c',k1,k2,k3⟩:=hW.2 cs h0;obtain⟨g1,g2⟩:=qgf (vs:=vs) k1 hv zO;refine Jr (hr (qg k1) ⟨_,by rw[qa k1,Array.getElem?_eq_getElem zO]⟩) ⟨(),rfl,?_,g1⟩;exact⟨_,qo k1 j v,by rw[Array.getElem?_setIfInBounds];simp[k2,hj]⟩
section
variable {B:Nat} {ty:TypeId} {cs:Array Value}
end
theorem QI{w:World}{b j:Nat}{v:Value}:w.grownBy (w.setCell ⟨b,j,none⟩ v) (some b):=⟨rfl,rfl,rfl,zA3,λk _ hk=>zJ _ _ _ _ (λe=>hk (by simp at e;rw[e]))⟩
def qeb(lo:Nat)(k i o r:Int)(n:Nat)(l:List UInt8):qZ:=⟨OA×Nat,λp=>.agg #[.int .u8 k,.int .u32 i,.int .u32 o,.int .i64 r,.slice p.1 n p.2],λp W=>Bys W W.heap.size (.slice p.1 n p.2) l/\Zw lo (.slice p.1 n p.2)⟩
theorem ZQ(lo:Nat)(k i o r:Int)(n:Nat)(l:List UInt8)(A c):(qeb lo k i o r n l).f (A,c)=.agg #[.int .u8 k,.int .u32 i,.int .u32 o,.int .i64 r,.slice A n c]:=rfl
theorem ZF{w:World}{b j:Nat}{v:Value}{cs:Array Value}{ty:TypeId}(h:w.heap[b]?=some (.cells cs ty (0,0)))(hv:cs[j]?=some v):Ext w (w.setCell ⟨b,j,none⟩ v):=by
 refine⟨rfl,rfl,rfl,zA3,λk _=>?_⟩;by_cases hk:k=b
 ·subst hk;rw[qo h j v,h];obtain⟨hj,e⟩:=zG.1 hv;have:cs.setIfInBounds j v=cs:=by
   apply Array.ext_getElem?;intro i;rw[Array.getElem?_setIfInBounds];split
   ·rename_i hi;rw[<-hi];simp[hj,e]
   ·rfl
  rw[this]
 ·exact zJ _ _ _ _ hk
def VolP(x:It)(u:Value)(_:World):Prop:=∃v',u=.tuple #[VR v',.bool (VS x)]/\(VS x=true->v'=ZR x)
theorem qav{x:It}(h:x.val.length<7):VS x=false:=by unfold VS;rw[decide_eq_false zO];rfl
theorem qir{x:It}(h:7<=x.val.length):VS x=Xg 1 x.i 0 0 x.k x.i x.o x.r (Ql (ZR x)) x.val:=by
 unfold VS;by_cases h7:x.val.length=7
 ·rw[decide_eq_true h7,Bool.true_and]
 ·rw[decide_eq_false h7,Bool.false_and]
  symm
  unfold Xg;rw[decide_eq_false];rintro⟨_,_,_,_,e⟩;have:=congrArg List.length e;rw[vH]at this;omega
theorem qhA{x:It}(hx:QY x)(h:7<=x.val.length):Uw (ZR x):=by have r0:=VB (l:=x.val) (a:=0) (k:=2) zO;have r3:=VB (l:=x.val) (a:=3) (k:=4) zO;exact⟨hx.2.1,⟨r0.1,r0.2⟩,⟨r3.1,r3.2⟩⟩
set_option maxRecDepth 100000 in
theorem qjh(x:It)(hx:QY x)(A c)(w:World)(h:Bys w w.heap.size (.slice A x.val.length c) x.val):Calls prog 162 #[KE x.k x.i x.o x.r A x.val.length c] w (zm (VolP x) w):=by
 have H2:∀W,Ext w W->_:=λW hW=>qbI _ x.val 0 zO W ((h.below hW).more hW.size);have H4:∀W,Ext w W->_:=λW hW=>KA _ x.val 3 zO W ((h.below hW).more hW.size);replace⟨H2,H4⟩:=zH2 H2 H4;have HV:=zH h;have hcat:=h.at_;clear h;have hAL:∀j,(hj:j<x.val.length)->∃b off,A=some ⟨b,off,none⟩/\w.cell? ⟨b,off+j,none⟩=some (.int .u8 (x.val[j].toNat:Int)):=by intro j hj;obtain⟨A',c',e,_,_,hr⟩:=HV.out;cases e;obtain⟨b,off,rfl,hb,hc⟩:=hr.2 zO;exact⟨b,off,rfl,hc j _ (by rw[List.getElem?_map,zL hj];rfl)⟩
 replace hAL:=zH hAL;have HN2:Hid (Uj x.val 0 2=if 2<=x.val.length then 0 else 8):=zH (by unfold Uj;rw[Nat.zero_add]);have HN4:Hid (Uj x.val 3 4=if 7<=x.val.length then 0 else 8):=zH (by unfold Uj;rfl);have HVA:Hid (ZR x=⟨x.i,Zu x.val 0 2,decide ((x.val[2]?.getD 0).toNat=1),Zu x.val 3 4⟩):=rfl;have HP0:Hid (x.val.length<7->∀W,VolP x (.tuple #[VR ⟨0,0,false,0⟩,.bool false]) W):=zH (λh W=>⟨_,by rw[qav h],λh'=>by rw[qav h]at h';cases h'⟩);have HP1:Hid (7<=x.val.length->∀W,VolP x (.tuple #[VR (ZR x),.bool (Xg 1 x.i 0 0 x.k x.i x.o x.r (Ql (ZR x)) x.val)]) W):=zH (λh W=>⟨_,by rw[qir h],λ_=>rfl⟩);have HON:=zH (λh=>qjO (ZR x) (qhA hx h));replace hx:=zH hx;generalize hva:ZR x=va at*;replace hva:=zH hva;generalize Zu x.val 0 2=n2 at*;generalize Zu x.val 3 4=n4 at*;generalize Uj x.val 0 2=e2 at*;generalize Uj x.val 3 4=e4 at*;go_enter func162,ntmps162;go_wp2_with fail;generalize hw1:(World.alloc (World.alloc _ _) _)=w1;have b1:Ext w w1:=by rw[<-hw1];exact(zN _ _).trans (zN _ _)
 have r1:w1.heap[w.heap.size]?=some (.cells #[.int .u8 x.k,.int .u32 x.i,.int .u32 x.o,.int .i64 x.r,.slice A x.val.length c] 51 (0,0)):=by rw[<-hw1];exact(zK _ _ _ zA3).trans (zI _ _ _ rfl)
 have q1:w1.heap[w.heap.size+1]?=some (.cells #[.int .u32 x.i,.int .i64 0,.bool false,.int .u32 0] 36 (0,0)):=by rw[<-hw1];exact zI _ _ _ zA3
 clear hw1;refine(H2.out _ b1).mono ?_;rintro e w2 ⟨rfl,hB⟩;have b2:Ext w w2:=Ext.trans b1 hB;have r2:=qb r1 hB;have q2:=qb q1 hB;have k2:=qa r2;clear hB b1 r1 q1 H2;go_wp2_with fail;clear k2;refine(H4.out _ b2).mono ?_;rintro e w3 ⟨rfl,hB⟩;have b3:Ext w w3:=Ext.trans b2 hB;have r3:=qb r2 hB;have q3:=qb q2 hB;have s3:w.heap.size+1<w3.heap.size:=(zG.1 q3).1;have k3:=qa r3;have kq3:=qa q3;have fq3:=qg q3;clear hB b2 r2 q2 H4;by_cases h7:7<=x.val.length
 ·obtain rfl:e2=0:=by rw[HN2.out,if_pos zO]
  obtain rfl:e4=0:=by rw[HN4.out,if_pos h7]
  obtain⟨b,off,rfl,hc2⟩:=hAL.out 2 zO;have e2':(x.val[2]?.getD 0).toNat=x.val[2].toNat:=by rw[zL zO];rfl
  rw[e2']at HVA;clear HN2 HN4 HP0 hAL e2';generalize x.val[2].toNat=p2 at*;go_wp2;obtain⟨RR,hRR⟩:∃RR:Rel,RR=Vj (w.heap.size+1) 36 (λj=>if j=1 then some (.int .i64 n2)else if j=2 then some (.bool (decide (p2=1)))else if j=3 then some (.int .u32 n4)else none):=⟨_,rfl⟩
  replace hRR:=zH hRR;have g1:∀W,RR.r w3 W->W.cell? ⟨w.heap.size,4,none⟩=some (.slice (some ⟨b,off,none⟩) x.val.length c):=λW h=>UA (hRR.out▸h) zA3 (by rw[k3];rfl);have hbw:b≠w.heap.size+1:=by have:=World.block_lt_of_cell? w _ hc2;simp at this;omega
  have g2:∀W,RR.r w3 W->W.cell? ⟨b,off+2,none⟩=some (.int .u8 (p2:Int)):=λW h=>UA (hRR.out▸h) hbw (Ext.cell b3 hc2);have hq1:((p2:Int)==1)=decide (p2=1):=by rw[Bool.eq_iff_iff];simp;omega
  have i2:(2:Int)<(x.val.length:Int):=zO;refine qt zQ ?_;refine ZY (w:=w3) RR (qQ [(8,Vd (w.heap.size+1) 36 1 (.int .i64 n2)),(10,Vd (w.heap.size+1) 36 2 (.bool (decide (p2=1)))),(12,Vd (w.heap.size+1) 36 3 (.int .u32 n4))])
   [true,true,true,true,true,true,true,true,true,true,true,true,true] 0 zQ zQ zQ zQ zQ zQ ?st (Rel.drew _ _) ?walk
  case st=>rw[hRR.out];exact qi (by simp only[List.forall_mem_cons];exact⟨JG rfl,JG rfl,JG rfl,λ_ h=>by cases h⟩)
  case walk=>
   intro K hK;dsimp only[qw];refine zB5 ?_;refine qH (Vd (w.heap.size+1) 36 1 (.int .i64 n2)) zA0 zA0 (λW hW _=>?_) (λp=>?_)
   ·rw[hRR.out]at hW⊢;refine Kd (j:=1) q3 hW rfl zA3 (λhf hu=>?_);obtain⟨u,hu⟩:=hu;go_simp
   cases p;refine zB5 ?_;refine qH (Vd (w.heap.size+1) 36 2 (.bool (decide (p2=1)))) zA0 zA0 (λW hW _=>?_) (λp=>?_)
   ·rw[hRR.out]at hW⊢;refine Kd (j:=2) q3 hW rfl zA3 (λhf hu=>?_);obtain⟨u,hu⟩:=hu;go_simp
   cases p;refine zB5 ?_;refine qH (Vd (w.heap.size+1) 36 3 (.int .u32 n4)) zA0 zA0 (λW hW _=>?_) (λp=>?_)
   ·rw[hRR.out]at hW⊢;refine Kd (j:=3) q3 hW rfl zA3 (λhf hu=>?_);obtain⟨u,hu⟩:=hu;go_simp
   cases p;refine zB5 ?_;refine qD (hK _ _ λW0 hW hF=>?_);have f1:=(hF 8).1;have f2:=(hF 10).1;have f3:=(hF 12).1;clear hF hK g1 g2;rw[hRR.out]at hW;have r4:=Zp hW zA3 r3;obtain⟨cs,q4,hcs,hcv⟩:=hW.2 _ q3;obtain rfl:cs=#[.int .u32 x.i,.int .i64 n2,.bool (decide (p2=1)),.int .u32 n4]:=by
    have e0:=hcv 0;simp at e0;obtain⟨c1,h1,h1'⟩:=f1;obtain⟨c2,h2,h2'⟩:=f2;obtain⟨c3,h3,h3'⟩:=f3;rw[q4]at h1 h2 h3;simp only[Option.some.injEq,Obj.cells.injEq,and_true]at h1 h2 h3;subst h1;subst h2;apply Array.ext_getElem?;intro j;rcases j with _|_|_|_|j
    ·rw[e0];rfl
    ·exact h1'
    ·exact h2'
    ·rw[<-h3]at h3';exact h3'
    ·rw[Array.getElem?_eq_none (by rw[hcs];simp),Array.getElem?_eq_none zA3]
   have bW:Below w.heap.size w W0:=Below.trans b3 ((Below.refl _ _).grown hW.1 zO (λg hg=>by simp at hg;omega));refine zB6 ?_;go_wp2;refine Qn ?_;go_wp2;have HO:=zH (HON.out h7);have HP:=HP1.out h7;have hvbl:=vH va;have hvx:=(HV.out.below bW).more bW.size;have ea:=HVA.out;clear HON HP1 HVA hva HV;subst ea;dsimp only at HO HP;generalize Ql _=vb at*;replace HO:=zH HO.out;have HSM:=zH (λA c W (hA:Bys W W.heap.size (.slice A 7 c) vb) (hW2:Ext W0 W)=>qdR 1 x.i 0 0 x.k x.i x.o x.r A (some ⟨b,off,none⟩) 7 c x.val.length _ vb x.val W hA ((hvx.below hW2).more hW2.size));generalize Xg 1 x.i 0 0 x.k x.i x.o x.r vb x.val=S at*;have hr5:∀W',Ext W0 W'->∀j,W'.cell? ⟨w.heap.size,j,none⟩=#[.int .u8 x.k,.int .u32 x.i,.int .u32 x.o,.int .i64 x.r,.slice (some ⟨b,off,none⟩) x.val.length c][j]?:=λW' h=>qa (qb r4 h);have hq5:∀W',Ext W0 W'->∀j,W'.cell? ⟨w.heap.size+1,j,none⟩=#[.int .u32 x.i,.int .i64 n2,.bool (decide (p2=1)),.int .u32 n4][j]?:=λW' h=>qa (qb q4 h);replace HP:=zH HP;generalize hdp:decide (p2=1)=fz at*;clear hdp;refine qt zQ ?_;refine ZY (w:=W0) qj (qQ [(2,outI 1 x.i 0 0 7 vb),(4,one (.bool S)),(5,one undef)])
    [true,true,true,true,true,true] 1 zQ zQ zQ zQ zQ zQ ?st (Rel.drew _ _) ?walk
   case st=>exact qi (by simp only[List.forall_mem_cons];exact⟨λp=>Qo (qgY _ _ _ _ _ _ p),λp=>Qo (Zy _ p),λp=>Qo (Zy _ p),λ_ h=>by cases h⟩)
   case walk=>
    intro K hK;dsimp only[qw];have hr6:∀W',qj.r W0 W'->∀j,W'.cell? ⟨w.heap.size,j,none⟩=#[.int .u8 x.k,.int .u32 x.i,.int .u32 x.o,.int .i64 x.r,.slice (some ⟨b,off,none⟩) x.val.length c][j]?:=hr5;have hq6:∀W',qj.r W0 W'->∀j,W'.cell? ⟨w.heap.size+1,j,none⟩=#[.int .u32 x.i,.int .i64 n2,.bool fz,.int .u32 n4][j]?:=hq5;refine zB5 ?_;refine qH (outI 1 x.i 0 0 7 vb) zA0 zA0 (λW hW _=>?_) (λp=>?_)
    ·refine Qi ?_ ((HO.out W).mono λe w' h=>?_)
     ·go_simp
     ·obtain⟨u,rfl,⟨A,c,rfl,h1,h2⟩,h3⟩:=h;rw[hvbl]at h1⊢;exact⟨(A,c),rfl,h1,h3⟩
    obtain⟨A2,c2⟩:=p;refine zB5 ?_;refine qH (one (.bool S)) zA0 zA0 (λW hW hp=>?_) (λp=>?_)
    ·have f2:Bys W W.heap.size (.slice A2 7 c2) vb:=(hp 2 zA1).1;refine Qi ?_ ((HSM.out A2 c2 W f2 hW).mono λe w' h=>⟨(),h.1,trivial,h.2⟩);go_simp
    cases p;simp only[Act.put,ql,qc,qf,jM,zA,zB,zC];refine qH (one undef) zA0 zA0 (λW hW hp=>?_) (λp=>?_)
    ·have q5:=qb q4 hW;have f5:=qg q5;have e0:=ZF q5 (j:=0) rfl;have e1:=ZF (qb q5 e0) (j:=1) rfl;have e2:=ZF (qb (qb q5 e0) e1) (j:=2) rfl;have e3:=ZF (qb (qb (qb q5 e0) e1) e2) (j:=3) rfl;refine Jr (w':=(((W.setCell ⟨w.heap.size+1,0,none⟩ (.int .u32 x.i)).setCell ⟨w.heap.size+1,1,none⟩ (.int .i64 n2)).setCell ⟨w.heap.size+1,2,none⟩ (.bool fz)).setCell ⟨w.heap.size+1,3,none⟩ (.int .u32 n4)) ?_ ⟨(),rfl,trivial,e0.trans (e1.trans (e2.trans e3))⟩;go_simp
    cases p;simp only[Act.put,qe,qc,qf,jM,zA,zB,zC];refine qD (hK _ _ λW hW hF=>?_);clear hF hK hr6 hq6 hr5 hq5;have hW':Ext W0 W:=hW;have q5:=qb q4 hW';have k5:=qa q5;refine zB6 ?_;go_wp2;refine Qn ?_;go_wp2;exact bodyPost_ret (v:=.tuple #[VR ⟨x.i,n2,fz,n4⟩,.bool S]) (by simp[results,results162,go_sem,k5]) rfl ⟨_,rfl,HP.out W,Below.trans bW (Below.mono hW' (by have:=bW.size;omega))⟩
 ·have h4:e4=8:=by rw[HN4.out,if_neg h7]
  have h2:e2=0\/e2=8:=by rw[HN2.out];split<;>simp
  have hp:=HP0.out zO;replace hp:=zH hp;subst h4;clear HN2 HN4 HP0 HP1 HON hAL HVA;have b3':Below w.heap.size w w3:=b3;rcases h2 with rfl|rfl
  ·go_wp2;have rf:=qo (qo (qo (qo q3 0 (.int .u32 0)) 1 (.int .i64 0)) 2 (.bool false)) 3 (.int .u32 0);have bf:Below w.heap.size w ((((w3.setCell ⟨w.heap.size+1,0,none⟩ (.int .u32 0)).setCell ⟨w.heap.size+1,1,none⟩ (.int .i64 0)).setCell ⟨w.heap.size+1,2,none⟩ (.bool false)).setCell ⟨w.heap.size+1,3,none⟩ (.int .u32 0)):=zA5;generalize hwf:(World.setCell (World.setCell (World.setCell (World.setCell w3 _ _) _ _) _ _) _ _)=wf at*;have kf:=qa rf;exact bodyPost_ret (v:=.tuple #[VR ⟨0,0,false,0⟩,.bool false]) (by simp[results,results162,go_sem,kf]) rfl ⟨_,rfl,hp.out wf,bf⟩
  ·go_wp2;have rf:=qo (qo (qo (qo q3 0 (.int .u32 0)) 1 (.int .i64 0)) 2 (.bool false)) 3 (.int .u32 0);have bf:Below w.heap.size w ((((w3.setCell ⟨w.heap.size+1,0,none⟩ (.int .u32 0)).setCell ⟨w.heap.size+1,1,none⟩ (.int .i64 0)).setCell ⟨w.heap.size+1,2,none⟩ (.bool false)).setCell ⟨w.heap.size+1,3,none⟩ (.int .u32 0)):=zA5;generalize hwf:(World.setCell (World.setCell (World.setCell (World.setCell w3 _ _) _ _) _ _) _ _)=wf at*;have kf:=qa rf;exact bodyPost_ret (v:=.tuple #[VR ⟨0,0,false,0⟩,.bool false]) (by simp[results,results162,go_sem,kf]) rfl ⟨_,rfl,hp.out wf,bf⟩
def UY(base:Nat)(e:TypeId)(size lo:Nat)(v:Value)(m:Nat)(ys:List Value):qZ:=⟨OA×Nat,λp=>.slice p.1 m p.2,λp W=>Done base e size lo v m ys (.slice p.1 m p.2) W⟩
theorem JS(base:Nat)(e:TypeId)(size lo:Nat)(v:Value)(m:Nat)(ys:List Value)(A c):(UY base e size lo v m ys).f (A,c)=.slice A m c:=rfl
theorem qbd{base:Nat}{e:TypeId}{size lo:Nat}{v:Value}{n:Nat}{xs:List Value}{m:Nat}{ys:List Value}:∀p,qS (KP base e size lo v n xs m ys) ((UY base e size lo v m ys).φ p):=λp _ _ he h=>he.2.2 _ h

def Bls(w:World)(B:Nat)(v:Value)(bs:List (List UInt8)):Prop:=
 ∃vs A c,v=.slice A bs.length c/\bs.length<=c/\c<=maxLen/\Rd w B 1 A bs.length vs/\∀(i:Nat)(u:Value)(l:List UInt8),vs[i]?=some u->bs[i]?=some l->Bys w B u l
theorem Bls.below{w w':World}{B:Nat}{v:Value}{bs:List (List UInt8)}(h:Bls w B v bs)(hb:Below B w w'):Bls w' B v bs:=by obtain⟨vs,A,c,e,h1,h2,h3,h4⟩:=h;exact⟨vs,A,c,e,h1,h2,h3.below hb,λi u l hu hl=>(h4 i u l hu hl).below hb⟩
theorem Bls.more{w:World}{B B':Nat}{v:Value}{bs:List (List UInt8)}(h:Bls w B v bs)(hb:B<=B'):Bls w B' v bs:=by obtain⟨vs,A,c,e,h1,h2,h3,h4⟩:=h;exact⟨vs,A,c,e,h1,h2,h3.more hb,λi u l hu hl=>(h4 i u l hu hl).more hb⟩
theorem Bls.at_{w:World}{B:Nat}{A:OA}{n c:Nat}{bs:List (List UInt8)}(h:Bls w B (.slice A n c) bs):n=bs.length/\n<=c/\c<=maxLen/\(0<n->∃b off,A=some ⟨b,off,none⟩/\b<B):=by obtain⟨vs,A',c',e,h1,h2,h3,_⟩:=h;cases e;refine⟨rfl,h1,h2,λhn=>?_⟩;obtain⟨b,off,e,hb,_⟩:=h3.2 hn;exact⟨b,off,e,hb⟩
theorem Bls.get{w:World}{B b off n c:Nat}{bs:List (List UInt8)}(h:Bls w B (.slice (some ⟨b,off,none⟩) n c) bs)(i:Nat)(hi:i<bs.length):∃A' c',w.cell? ⟨b,off+i,none⟩=some (.slice A' bs[i].length c')/\Bys w B (.slice A' bs[i].length c') bs[i]:=by
 obtain⟨vs,A',c',e,h1,h2,h3,h4⟩:=h;cases e;have hv:i<vs.length:=by rw[h3.len1];exact hi
 obtain⟨b',off',e,hb,hc⟩:=h3.2 zO;cases e;have hby:=h4 i vs[i] bs[i] (zL hv) (zL hi);obtain⟨A2,c2,e2,g1,g2,g3⟩:=hby;exact⟨A2,c2,by rw[<-e2];exact hc i _ (zL hv),A2,c2,rfl,g1,g2,g3⟩
def js:List ((Int×List UInt8)×Value)->List Value
 |[]=>[]
 |p::r=>.int .i64 p.1.1::p.2::js r
theorem YA(ps:List ((Int×List UInt8)×Value)):(js ps).length=ps.length*2:=by
 induction ps with
 |nil=>rfl
 |cons p r ih=>simp[js,ih];omega
theorem Yd(ps:List ((Int×List UInt8)×Value)):∀i (h:i<ps.length),(js ps)[i*2]?=some (.int .i64 ps[i].1.1)/\(js ps)[i*2+1]?=some ps[i].2:=by
 induction ps with
 |nil=>intro i h;simp at h
 |cons p r ih=>
  intro i h;rcases i with _|i
  ·simp[js]
  ·have:=ih i (by simpa using h);rw[show(i+1)*2=i*2+2 by omega];simpa [js]using this
def Wrs(w:World)(B:Nat)(v:Value)(ws:List (Int×List UInt8)):Prop:=
 ∃ps:List ((Int×List UInt8)×Value),ps.map (·.1)=ws/\(∃A c,v=.slice A ws.length c/\ws.length<=c/\c<=maxLen/\Rd w B 2 A ws.length (js ps))/\∀p∈ps,(∃A c,p.2=.slice A p.1.2.length c)/\Bys w B p.2 p.1.2
theorem Wrs.below{w w':World}{B:Nat}{v:Value}{ws:List (Int×List UInt8)}(h:Wrs w B v ws)(hb:Below B w w'):Wrs w' B v ws:=by obtain⟨ps,e,⟨A,c,e1,e2,e3,hr⟩,hp⟩:=h;exact⟨ps,e,⟨A,c,e1,e2,e3,hr.below hb⟩,λp h=>⟨(hp p h).1,(hp p h).2.below hb⟩⟩
theorem Wrs.more{w:World}{B B':Nat}{v:Value}{ws:List (Int×List UInt8)}(h:Wrs w B v ws)(hb:B<=B'):Wrs w B' v ws:=by obtain⟨ps,e,⟨A,c,e1,e2,e3,hr⟩,hp⟩:=h;exact⟨ps,e,⟨A,c,e1,e2,e3,hr.more hb⟩,λp h=>⟨(hp p h).1,(hp p h).2.more hb⟩⟩
theorem Wrs.at_{w:World}{B:Nat}{A:OA}{n c:Nat}{ws:List (Int×List UInt8)}(h:Wrs w B (.slice A n c) ws):n=ws.length/\n<=c/\c<=maxLen/\(0<n->∃b off,A=some ⟨b,off,none⟩/\b<B):=by obtain⟨ps,e,⟨A',c',e1,e2,e3,hr⟩,hp⟩:=h;cases e1;refine⟨rfl,e2,e3,λhn=>?_⟩;obtain⟨b,off,e,hb,_⟩:=hr.2 hn;exact⟨b,off,e,hb⟩
theorem Wrs.get{w:World}{B b off n c:Nat}{ws:List (Int×List UInt8)}(h:Wrs w B (.slice (some ⟨b,off,none⟩) n c) ws)(i:Nat)(hi:i<ws.length):∃A' c',w.cell? ⟨b,off+i*2,none⟩=some (.int .i64 ws[i].1)/\w.cell? ⟨b,off+i*2+1,none⟩=some (.slice A' ws[i].2.length c')/\Bys w B (.slice A' ws[i].2.length c') ws[i].2:=by
 obtain⟨ps,e,⟨A,c',e1,e2,e3,hr⟩,hp⟩:=h;cases e1;subst e;have hi':i<ps.length:=by simpa using hi
 obtain⟨b',off',e,hb,hc⟩:=hr.2 zO;cases e;obtain⟨c0,c1⟩:=Yd ps i hi';obtain⟨⟨A',c',e5⟩,hby⟩:=hp ps[i] (List.getElem_mem hi');rw[e5]at c1 hby;refine⟨A',c',?_⟩;simp only[List.getElem_map];exact⟨hc _ _ c0,by rw[Nat.add_assoc];exact hc _ _ c1,hby⟩
def qai(l:List UInt8):Bool:=decide (l.length=128)
def wrOk(x:Int×List UInt8):Bool:=decide (0<=x.1/\x.1<256/\x.2.length=128)
def headD(n m:Nat):Bool:=decide (n=256/\m<=4096)
def jV(bs:List (List UInt8))(ws:List (Int×List UInt8)):Bool:=headD bs.length ws.length&&(bs.all qai&&ws.all wrOk)
theorem qfT{α:Type}(f:α->Bool)(l:List α)(k:Nat)(h:k<l.length):(l.take (k+1)).all f=((l.take k).all f&&f l[k]):=by rw[List.take_succ_eq_append_getElem h,List.all_append];simp only[List.all_cons,List.all_nil,Bool.and_true]
theorem qjt{α:Type}{f:α->Bool}{l:List α}{k:Nat}(h:k<l.length)(hf:f l[k]=false):l.all f=false:=by rw[List.all_eq_false];exact⟨_,List.getElem_mem h,by simp[hf]⟩
abbrev Xu(A1:OA)(n1 c1:Nat)(A2:OA)(n2 c2:Nat):Value:=.agg #[.slice A1 n1 c1,.slice A2 n2 c2]
theorem qic(A1 n1 c1 A2 n2 c2)(bs:List (List UInt8))(ws:List (Int×List UInt8))(w:World)(hb:Bls w w.heap.size (.slice A1 n1 c1) bs)(hw:Wrs w w.heap.size (.slice A2 n2 c2) ws):Calls prog 158 #[Xu A1 n1 c1 A2 n2 c2] w (Ret (.int .i64 (vO (jV bs ws))) w):=by
 obtain⟨e1,hc1,hm1,hA1⟩:=hb.at_;obtain⟨e2,hc2,hm2,hA2⟩:=hw.at_;subst e1;subst e2;by_cases hh:headD bs.length ws.length=true
 case neg=>
  have hM:jV bs ws=false:=by unfold jV;rw[show headD bs.length ws.length=false by simpa using hh];rfl
  rw[hM];have hh':¬(bs.length=256/\ws.length<=4096):=by simpa [headD]using hh
  clear hM hb hw hA1 hA2 hh;generalize bs.length=n1 at*;generalize ws.length=n2 at*;go_enter func158,ntmps158;go_wp2;all_goals try simp only[beq_iff_eq,beq_eq_false_iff_ne,ne_eq,bne_iff_ne,bne_eq_false_iff_eq]at*
  all_goals first|(exfalso;omega)|skip
  all_goals go_ret
  all_goals exact⟨rfl,zA5⟩
 case pos=>
  have hM:jV bs ws=(bs.all qai&&ws.all wrOk):=by unfold jV;rw[hh];rfl
  have hh':bs.length=256/\ws.length<=4096:=by simpa [headD]using hh
  obtain⟨hn1,hn2⟩:=hh';rw[hM];clear hM hh;have HB:=zH hb;have HW:=zH hw;have HTB:=zH (qfT qai bs);have HTW:=zH (qfT wrOk ws);have HBB:=zH (λk h=>@qjt _ qai bs k h);have HBW:=zH (λk h=>@qjt _ wrOk ws k h);have HE1:Hid (bs.take bs.length=bs):=zH (List.take_length);have HE2:Hid (ws.take ws.length=ws):=zH (List.take_length);obtain⟨b1,o1,rfl,hb1⟩:=hA1 zO;clear hb hw hA1;have hsm:bs.length<1000:=zO;replace hn1:=zH hn1;have hd1:((bs.length:Int)!=256)=false:=by rw[bne_eq_false_iff_eq,hn1.out];rfl
  have hd2:decide ((ws.length:Int)>4096)=false:=decide_eq_false zO;go_enter func158,ntmps158;go_wp2;generalize hw1:(World.alloc _ _)=w1;have x1:Ext w w1:=by rw[<-hw1];exact zN _ _
  have r1:w1.heap[w.heap.size]?=some (.cells #[.slice (some ⟨b1,o1,none⟩) bs.length c1,.slice A2 ws.length c2] 25 (0,0)):=by rw[<-hw1];exact zI _ _ _ rfl
  clear hw1;go_loopw [20] (λi wr=>∃k:Nat,k<=bs.length/\i=.int .i64 (k:Int)/\(bs.take k).all qai=true/\Ext w1 wr) (λi _=>bs.length-(intOf i).toNat)
  case atStart=>exact⟨0,zO,rfl,rfl,Ext.refl _⟩
  case round=>
   obtain⟨k,hk,rfl,hok,hE⟩:=hrel;have hEw:=x1.trans hE;by_cases hlt:k<bs.length
   ·have hCB:=hlt;obtain⟨A',c',hc,_⟩:=((HB.out.below hEw).more hEw.size).get k hlt;have ht:=HTB.out k hlt;have hbd:=HBB.out k hlt;rw[hok,Bool.true_and]at ht;replace⟨ht,hbd⟩:=zH2 ht hbd;have hbo:qai bs[k]=decide (bs[k].length=128):=rfl;replace hbo:=zH hbo;generalize qai bs[k]=q at*;generalize bs[k].length=m at*;by_cases hm:m=128
    ·obtain rfl:q=true:=by rw[hbo.out,decide_eq_true hm]
     subst hm;go_wp2;go_roundw
     case rel=>exact⟨k+1,zO,by go_num,ht.out,hE⟩
     case measure=>simp[intOf];omega
    ·obtain rfl:q=false:=by rw[hbo.out,decide_eq_false hm]
     have hne:((m:Int)!=128)=true:=by rw[bne_iff_ne];omega
     have hf:=hbd.out rfl;go_wp2;go_ret;exact⟨by first|rfl|(rw[hf];rfl),hEw⟩
   ·obtain rfl:k=bs.length:=zO;rw[HE1.out]at hok;rw[hok];have rr:=qb r1 hE;have kr:=qa rr;clear HB HTB HBB r1 hd1 hd2;go_wp2;clear kr;go_loopw [31] (λi wq=>∃k:Nat,k<=ws.length/\i=.int .i64 (k:Int)/\(ws.take k).all wrOk=true/\Ext wr wq) (λi _=>ws.length-(intOf i).toNat)
    case atStart=>exact⟨0,zO,rfl,rfl,Ext.refl _⟩
    case round=>
     obtain⟨j,hj,rfl,hUY,hE2⟩:=hrel;have hEq:=hEw.trans hE2;by_cases hlt2:j<ws.length
     ·have wWQ:=hlt2;obtain⟨b2,o2,rfl,hb2⟩:=hA2 zO;obtain⟨A',c',hca,hcb,_⟩:=((HW.out.below hEq).more hEq.size).get j hlt2;have ht:=HTW.out j hlt2;have hbd:=HBW.out j hlt2;rw[hUY,Bool.true_and]at ht;replace⟨ht,hbd⟩:=zH2 ht hbd;have hbo:wrOk ws[j]=decide (0<=ws[j].1/\ws[j].1<256/\ws[j].2.length=128):=rfl;replace hbo:=zH hbo;generalize wrOk ws[j]=q at*;generalize ws[j].1=a at*;generalize ws[j].2.length=m at*;by_cases hm:0<=a/\a<256/\m=128
      ·obtain rfl:q=true:=by rw[hbo.out,decide_eq_true hm]
       obtain⟨ha1,ha2,rfl⟩:=hm;have hda:decide (a<0)=false:=decide_eq_false zO;have hdb:decide (a≥256)=false:=decide_eq_false zO;go_wp2;go_roundw
       case rel=>exact⟨j+1,zO,by go_num,ht.out,hE2.trans (zN _ _)⟩
       case measure=>simp[intOf];omega
      ·obtain rfl:q=false:=by rw[hbo.out,decide_eq_false hm]
       have hf:=hbd.out rfl;go_wp2;all_goals try simp only[beq_iff_eq,beq_eq_false_iff_ne,ne_eq,bne_iff_ne,bne_eq_false_iff_eq]at*
       all_goals first
        |(exfalso;omega)
        |(go_ret
          exact⟨by first|rfl|(rw[hf];rfl),Below.alloc hEq (by have:=hEq.size;omega) _⟩)
     ·obtain rfl:j=ws.length:=zO;rw[HE2.out]at hUY;go_wp2;go_ret;exact⟨by first|rfl|(rw[hok];rfl)|(rw[hUY];rfl)|(rw[hok,hUY];rfl),hEq⟩
def QP(t:List UInt8):Bool:=decide (t.length=256)&&Kq (t.take 8)
theorem Bys.take{w:World}{B:Nat}{A:OA}{m c:Nat}{l:List UInt8}(h:Bys w B (.slice A m c) l){k:Nat}(hk:k<=l.length):Bys w B (.slice A k c) (l.take k):=by
 obtain⟨A',c',e,hc,hm,hr⟩:=h;cases e;have hl:(l.take k).length=k:=zA2;refine⟨_,_,by rw[hl],by rw[hl];omega,hm,?_⟩;rw[hl];have:=hr.take hk
 rwa [Nat.mul_one,<-List.map_take]at this
theorem qbx(v:Value)(t:List UInt8)(w:World)(h:Bys w w.heap.size v t):Calls prog 159 #[v] w (Ret (.int .i64 (vO (QP t))) w):=by
 obtain⟨A,m,c,rfl⟩:∃A m c,v=.slice A m c:=by obtain⟨A,c,e,_⟩:=h;exact⟨_,_,_,e⟩
 obtain⟨e1,hc,hm,hA⟩:=h.at_;subst e1;by_cases h256:t.length=256
 ·have hT:QP t=Kq (t.take 8):=by unfold QP;rw[decide_eq_true h256,Bool.true_and]
  rw[hT];have HM:=zH (λW (hW:Ext w W)=>qhs (.slice A 8 c) (t.take 8) zA2 zA2 W (((h.take (k:=8) zO).below hW).more hW.size));have hz:=qcc (t.take 8);have hml:=qeX (t.take 8);generalize XH (t.take 8)=mx at*;generalize Kq (t.take 8)=z at*;clear hT h;have hc8:(8:Int)<=(c:Int):=zO;have hd1:((t.length:Int)!=256)=false:=by rw[bne_eq_false_iff_eq];omega
  clear h256;go_enter func159,ntmps159;go_wp2_with fail;refine(HM.out _ (Ext.refl _)).mono ?_;rintro e w2 ⟨rfl,hB⟩;clear HM;cases z
  ·have hm0:0<mx:=by simpa using hz
   go_wp2;go_ret;exact⟨rfl,hB⟩
  ·obtain rfl:mx=0:=by simpa using hz
   go_wp2;go_ret;exact⟨rfl,hB⟩
 ·have hT:QP t=false:=by unfold QP;rw[decide_eq_false h256];rfl
  rw[hT];have hn1:((t.length:Int)!=256)=true:=by rw[bne_iff_ne];omega
  go_enter func159,ntmps159;go_wp2;go_ret;exact⟨rfl,Below.refl _ _⟩
structure Sto where
 bs:List (List UInt8)
 ws:List (Int×List UInt8)
 now:List UInt8
 last:List UInt8
def qm(S:Sto):Bool:=jV S.bs S.ws&&(QP S.now&&QP S.last)
abbrev Qp(A1:OA)(n1 c1:Nat)(A2:OA)(n2 c2:Nat)(A3:OA)(n3 c3:Nat)(A4:OA)(n4 c4:Nat):Value:=.agg #[.slice A1 n1 c1,.slice A2 n2 c2,.slice A3 n3 c3,.slice A4 n4 c4]
structure Qq(w:World)(B:Nat)(v1 v2 v3 v4:Value)(S:Sto):Prop where
 bs:Bls w B v1 S.bs
 ws:Wrs w B v2 S.ws
 now:Bys w B v3 S.now
 last:Bys w B v4 S.last
theorem Qq.below{w w':World}{B:Nat}{v1 v2 v3 v4:Value}{S:Sto}(h:Qq w B v1 v2 v3 v4 S)(hb:Below B w w'):Qq w' B v1 v2 v3 v4 S:=⟨h.bs.below hb,h.ws.below hb,h.now.below hb,h.last.below hb⟩
theorem Qq.more{w:World}{B B':Nat}{v1 v2 v3 v4:Value}{S:Sto}(h:Qq w B v1 v2 v3 v4 S)(hb:B<=B'):Qq w B' v1 v2 v3 v4 S:=⟨h.bs.more hb,h.ws.more hb,h.now.more hb,h.last.more hb⟩
theorem Qq.ext{w w':World}{v1 v2 v3 v4:Value}{S:Sto}(h:Qq w w.heap.size v1 v2 v3 v4 S)(hx:Ext w w'):Qq w' w'.heap.size v1 v2 v3 v4 S:=(h.below hx).more hx.size
theorem Kh(A1 n1 c1 A2 n2 c2 A3 n3 c3 A4 n4 c4)(S:Sto)(w:World)(h:Qq w w.heap.size (.slice A1 n1 c1) (.slice A2 n2 c2) (.slice A3 n3 c3) (.slice A4 n4 c4) S):Calls prog 108 #[Qp A1 n1 c1 A2 n2 c2 A3 n3 c3 A4 n4 c4] w (Ret (.int .i64 (vO (qm S))) w):=by
 have HD:=zH (λW (hW:Ext w W)=>qic A1 n1 c1 A2 n2 c2 S.bs S.ws W (h.ext hW).bs (h.ext hW).ws);have HN:=zH (λW (hW:Ext w W)=>qbx (.slice A3 n3 c3) S.now W (h.ext hW).now);have HL:=zH (λW (hW:Ext w W)=>qbx (.slice A4 n4 c4) S.last W (h.ext hW).last);have hS:qm S=(jV S.bs S.ws&&(QP S.now&&QP S.last)):=rfl;rw[hS];clear hS h;generalize jV S.bs S.ws=d at*;generalize QP S.now=n at*;generalize QP S.last=l at*;go_enter func108,ntmps108;go_wp2_with fail;generalize hw1:(World.alloc _ _)=w1;have x1:Ext w w1:=by rw[<-hw1];exact zN _ _
 have r1:w1.heap[w.heap.size]?=some (.cells #[.slice A1 n1 c1,.slice A2 n2 c2,.slice A3 n3 c3,.slice A4 n4 c4] 28 (0,0)):=by rw[<-hw1];exact zI _ _ _ rfl
 clear hw1;refine(HD.out _ x1).mono ?_;rintro e w2 ⟨rfl,hB⟩;have x2:=x1.trans hB;have r2:=qb r1 hB;have k2:=qa r2;clear hB r1 x1 HD;cases d
 ·go_wp2;go_ret;exact⟨rfl,x2⟩
 ·go_wp2_with fail;refine(HN.out _ x2).mono ?_;rintro e w3 ⟨rfl,hB⟩;have x3:=x2.trans hB;have r3:=qb r2 hB;have k3:=qa r3;clear hB r2 x2 k2 HN;cases n
  ·go_wp2;go_ret;exact⟨rfl,x3⟩
  ·go_wp2_with fail;refine(HL.out _ x3).mono ?_;rintro e w4 ⟨rfl,hB⟩;have x4:=x3.trans hB;clear hB r3 x3 k3 HL;cases l;all_goals
    go_wp2;go_ret;exact⟨rfl,x4⟩
def jA(ws:List (Int×List UInt8))(a:Int):Option (List UInt8):=(ws.reverse.find? λp=>p.1==a).map (·.2)
def jW(S:Sto)(a:Nat):List UInt8:=match jA S.ws a with|some l=>l|none=>S.bs[a]?.getD []
theorem KF{ws:List (Int×List UInt8)}{a:Int}{k:Nat}(h:k<ws.length):jA (ws.take (k+1)) a=if ws[k].1=a then some ws[k].2 else jA (ws.take k) a:=by
 unfold jA;rw[List.take_succ_eq_append_getElem h,List.reverse_append,List.reverse_singleton,List.singleton_append,List.find?_cons];by_cases h1:ws[k].1=a
 ·rw[if_pos h1];simp[h1]
 ·rw[if_neg h1];have:(ws[k].1==a)=false:=by simpa using h1
  rw[this]
def qk(S:Sto)(a:Nat):Option (Int×List It):=if(S.now[a]?.getD 0).toNat=0 then none else QK (jW S a)
theorem Qb{S:Sto}(h:qm S=true):S.bs.length=256/\S.ws.length<=4096/\S.now.length=256/\S.last.length=256:=by unfold qm jV headD QP at h;simp at h;omega
theorem qgl(A n c)(hn:n<=c)(hc:c<=maxLen)(w:World):Calls prog 160 #[.slice A n c] w (Ret (.slice A n n) w):=by
 unfold maxLen at hc;go_enter func160,ntmps160;have h1:(n:Int)<=(c:Int):=zO;have h2:(0:Int)<=(n:Int):=zO;go_wp2;go_ret;exact⟨rfl,Below.refl _ _⟩
def OnB(lo b:Nat)(v1 v2 v3 v4:Value)(S:Sto)(W:World):Prop:=lo<=b/\W.heap[b]?=some (.cells #[v1,v2,v3,v4] 223 (0,0))/\Qq W W.heap.size v1 v2 v3 v4 S
theorem Wrs.clip{w:World}{B:Nat}{A:OA}{n c:Nat}{ws:List (Int×List UInt8)}(h:Wrs w B (.slice A n c) ws):Wrs w B (.slice A n n) ws:=by obtain⟨ps,e,⟨A',c',e1,e2,e3,hr⟩,hp⟩:=h;cases e1;exact⟨ps,e,⟨_,_,rfl,zM _,zO,hr⟩,hp⟩
set_option maxRecDepth 100000 in
theorem qfa(A1 n1 c1 A2 n2 c2 A3 n3 c3 A4 n4 c4)(S:Sto)(hl:S.now.length<1073741824)(w:World)(h:Qq w w.heap.size (.slice A1 n1 c1) (.slice A2 n2 c2) (.slice A3 n3 c3) (.slice A4 n4 c4) S):Calls prog 109 #[Qp A1 n1 c1 A2 n2 c2 A3 n3 c3 A4 n4 c4] w (zm (λu W=>∃b A3' c3',u=.pointer (some ⟨b,0,none⟩)/\OnB w.heap.size b (.slice A1 n1 c1) (.slice A2 n2 n2) (.slice A3' n3 c3') (.slice A4 n4 c4) S W/\Zw w.heap.size (.slice A3' n3 c3')) w):=by
 have hn3:Hid (n3=S.now.length):=zH h.now.at_.1;obtain⟨-,h2a,h2b,-⟩:=h.ws.at_;have HC:=zH (λW (hW:Ext w W)=>kR (.slice A3 n3 c3) S.now hl W (h.ext hW).now);replace h:=zH h;go_enter func109,ntmps109;go_wp2_with fail;generalize hw1:(World.alloc _ _)=w1;have x1:Ext w w1:=by rw[<-hw1];exact zN _ _
 have r1:w1.heap[w.heap.size]?=some (.cells #[.slice A1 n1 c1,.slice A2 n2 c2,.slice A3 n3 c3,.slice A4 n4 c4] 28 (0,0)):=by rw[<-hw1];exact zI _ _ _ rfl
 clear hw1;refine(HC.out _ x1).mono ?_;rintro e w2 ⟨u,rfl,hu,hB⟩;have x2:=x1.trans hB;have r2:=qb r1 hB;have hby:=Bys.of_own hu;have hfr:=Zw.of_own hu;have s1:w.heap.size<w1.heap.size:=(zG.1 r1).1;obtain⟨A3',c3',rfl,_,_⟩:=qG hu;have k2:=qa r2;have f2:=qg r2;clear hB r1 HC hu;rw[<-hn3.out]at hby hfr⊢;go_wp2_with fail;have wQT:=hby.setCell hfr (p:=⟨w.heap.size,2,none⟩) s1 (.slice A3' n3 c3');generalize hw3:(World.setCell _ _ _)=w3 at*;have x3:Ext w w3:=by rw[<-hw3];exact Below.setCell x2 (p:=⟨w.heap.size,2,none⟩) (zM _) _
 have r3:w3.heap[w.heap.size]?=some (.cells #[.slice A1 n1 c1,.slice A2 n2 c2,.slice A3' n3 c3',.slice A4 n4 c4] 28 (0,0)):=by rw[<-hw3];exact qo r2 2 _
 have hz3:w3.heap.size=w2.heap.size:=by rw[<-hw3];simp
 rw[<-hz3]at wQT;clear hw3 k2 f2 r2 x2 hby;refine(qgl A2 n2 c2 h2a h2b _).mono ?_;rintro e w4 ⟨rfl,hB⟩;have x4:=x3.trans hB;have r4:=qb r3 hB;have hby4:=(wQT.below hB).more hB.size;have k4:=qa r4;have f4:=qg r4;have s4:w.heap.size<w4.heap.size:=(zG.1 r4).1;clear hB r3 x3 wQT;go_wp2;have hfrw:Zw w.heap.size (.slice A3' n3 c3'):=hfr.mono zO;have wQU:=hby4.setCell hfr (p:=⟨w.heap.size,1,none⟩) s1 (.slice A2 n2 n2);have bf:Below w.heap.size w ((w4.setCell ⟨w.heap.size,1,none⟩ (.slice A2 n2 n2)).alloc (.cells #[.slice A1 n1 c1,.slice A2 n2 n2,.slice A3' n3 c3',.slice A4 n4 c4] 223)):=by have x4':Below w.heap.size w w4:=x4;exact(by repeat' (first|with_reducible exact Below.refl _ _|with_reducible assumption|with_reducible apply Below.drew|with_reducible apply qR|with_reducible refine Below.alloc ?_ ?_ _|with_reducible refine Below.setCell ?_ ?_ _|(simp;done)|(simp;omega)|omega))
 go_ret;refine⟨_,rfl,⟨w4.heap.size,A3',c3',rfl,⟨zO,zI _ _ _ zA3,?_⟩,hfrw⟩,bf⟩;have h0:=(h.out.below bf).more bf.size;refine⟨h0.bs,h0.ws.clip,?_,h0.last⟩;exact(wQU.below (Below.alloc (Below.refl _ _) zA3 _)).more zA3
end Go.Proofs.YtmeadnlmepcmbaaGreat
namespace Go.Proofs.YtmeadnlmepcmbaaGreat
open Go.RowKit Go.Shelf
attribute [local go_sem] Oper.semAt_some
abbrev Sl:Type:=OA×Nat×Nat
abbrev sv(s:Sl):Value:=.slice s.1 s.2.1 s.2.2
abbrev W2:Type:=Int×Sl
abbrev w2z:W2:=(0,none,0,0)
set_option maxRecDepth 100000 in
theorem backW_in(n:Nat)(hn:1<=n)(l Bs b off len cap:Nat)(us:List W2)(hFH:len<1099511627776)(J Jx:List (Nat×W2)->World->Prop)(hY:∀pre x W,J pre W->pre.length<len->YieldAt Fence.wide (n-1) prog l #[.int .i64 (x.1:Int),.agg #[.int .i64 x.2.1,sv x.2.2]] W λe W'=>
   (e=.returned (.bool true)/\J (pre++[x]) W'/\Qu Bs b W W')\/(e=.returned (.bool false)/\Jx (pre++[x]) W'))
  (W:World) (hBs:W.cell? ⟨Bs,0,none⟩=some (.slice (some ⟨b,off,none⟩) len cap)) (hc:∀i,i<len->W.cell? ⟨b,off+i*2,none⟩=some (.int .i64 (us[i]?.getD w2z).1)/\W.cell? ⟨b,off+i*2+1,none⟩=some (sv (us[i]?.getD w2z).2)) (h0:J [] W) :
  CallsIn Fence.wide n prog 189 #[.func (.yield l) #[] #[],.pointer (some ⟨Bs,0,none⟩)] W λe W'=>(∃v,e=.returned v) /\
   ((∃ys,ys=ZO (λj=>(len-1-j,us[len-1-j]?.getD w2z)) len/\J ys W')\/(∃pre,(∃k,k<=len/\pre=ZO (λj=>(len-1-j,us[len-1-j]?.getD w2z)) k)/\Jx pre W')):=by
 refine callsIn_of_wp func189 rfl trivial ?_ rfl;simp only[ntmps189,List.size_toArray,List.length_cons,List.length_nil,Nat.reduceAdd,Nat.reduceSub,Array.replicate_succ,Array.replicate_zero,List.push_toArray,List.append_toArray,List.nil_append,List.cons_append]
 gi_wp2
 gi_loopw [3] (λi wr=>∃k:Nat,k<=len/\i=.int .i64 ((len:Int)-1-k)/\J (ZO (λj=>(len-1-j,us[len-1-j]?.getD w2z)) k) wr/\Qu Bs b W wr)
  (λi _=>(intOf i+1).toNat)
 case atStart=>exact⟨0,Nat.zero_le _,zA3,h0,Qu.refl _ _ _⟩
 case round=>
  obtain⟨k,hk,rfl,hJs,hnx⟩:=hrel;have hBr:wr.cell? ⟨Bs,0,none⟩=some (.slice (some ⟨b,off,none⟩) len cap):=(World.cell?_of_block (w:=W) hnx.1).trans hBs;by_cases hlt:k<len
  ·have hcx:=(World.cell?_of_block (w:=W) (a:=⟨b,off+(len-1-k)*2,none⟩) hnx.2).trans (hc (len-1-k) zO).1;have hcy:=(World.cell?_of_block (w:=W) (a:=⟨b,off+(len-1-k)*2+1,none⟩) hnx.2).trans (hc (len-1-k) zO).2;obtain⟨fn,tmps,assign,body,hy,hR⟩:=hY _ (len-1-k,us[len-1-k]?.getD w2z) wr hJs (by rw[Zt];exact hlt);dsimp only at hy;obtain⟨i,hi⟩:∃i:Nat,len-1-k=i:=⟨_,rfl⟩
   have hi2:(len:Int)-1-k=(i:Int):=zO;have hil:i<len:=zO;have hik:k+i+1<=len/\len<=k+i+1:=zO;have HU:=zH (Vi (λj=>(len-1-j,us[len-1-j]?.getD w2z)) k);obtain⟨u,hu⟩:∃u,us[i]?.getD w2z=u:=⟨_,rfl⟩
   rw[hi]at hcx hcy hy hR;rw[hu]at hcx hcy hy hR;rw[hi2];clear hi2;have HE:=zH hu;clear hu;have HI:=zH hi;clear hi
   gi_wp2
   refine hR.mono ?_;rintro e W3 (⟨rfl,hJ3,hk3⟩|⟨rfl,hUK⟩)
   ·gi_wp2
    go_roundw
    case rel=>exact⟨k+1,zO,by go_num,by rw[HU.out,HI.out,HE.out];exact hJ3,hnx.t hk3⟩
    case measure=>simp[intOf]
   ·gi_wp2
    refine bodyPost_ret (results_none rfl _ _ _) rfl ?_;exact⟨⟨_,rfl⟩,.inr ⟨_,⟨k+1,zO,by rw[HU.out,HI.out,HE.out]⟩,hUK⟩⟩
  ·obtain rfl:k=len:=zO
   gi_wp2
   go_end0;exact⟨⟨_,rfl⟩,.inl ⟨_,rfl,hJs⟩⟩
set_option maxRecDepth 100000 in
theorem qeE(n l Bs c:Nat)(A:OA)(J:List (Nat×W2)->World->Prop)(W:World)(hBs:W.cell? ⟨Bs,0,none⟩=some (.slice A 0 c))(h0:J [] W):CallsIn Fence.wide n prog 189 #[.func (.yield l) #[] #[],.pointer (some ⟨Bs,0,none⟩)] W λe W'=>(∃v,e=.returned v)/\J [] W':=by
 refine callsIn_of_wp func189 rfl trivial ?_ rfl;simp only[ntmps189,List.size_toArray,List.length_cons,List.length_nil,Nat.reduceAdd,Nat.reduceSub,Array.replicate_succ,Array.replicate_zero,List.push_toArray,List.append_toArray,List.nil_append,List.cons_append]
 gi_wp2
 gi_loopw [3] (λi wr=>i=.int .i64 (-1)/\J [] wr) (λ_ _=>0)
 case atStart=>exact⟨rfl,h0⟩
 case round=>
  obtain⟨rfl,hJs⟩:=hrel
  gi_wp2
  go_end0;exact⟨⟨_,rfl⟩,hJs⟩
def TT(us:List W2)(k:Nat):List (Nat×W2):=ZO (λj=>(us.length-1-j,us[us.length-1-j]?.getD w2z)) k
def SW(W:World)(Bs b:Nat)(v:Value)(us:List W2):Prop:=
 W.cell? ⟨Bs,0,none⟩=some v/\((us=[]/\∃A c,v=.slice A 0 c)\/∃off cap,v=.slice (some ⟨b,off,none⟩) us.length cap/\∀i,i<us.length->W.cell? ⟨b,off+i*2,none⟩=some (.int .i64 (us[i]?.getD w2z).1)/\W.cell? ⟨b,off+i*2+1,none⟩=some (sv (us[i]?.getD w2z).2))
theorem SW.keep{W W':World}{Bs b:Nat}{v:Value}{us:List W2}(h:SW W Bs b v us)(hk:Qu Bs b W W'):SW W' Bs b v us:=by
 refine⟨(World.cell?_of_block (w:=W) hk.1).trans h.1,?_⟩;rcases h.2 with h|⟨off,cap,e,hc⟩
 ·exact .inl h
 ·exact .inr ⟨off,cap,e,λi hi=>⟨(World.cell?_of_block (w:=W) hk.2).trans (hc i hi).1,(World.cell?_of_block (w:=W) hk.2).trans (hc i hi).2⟩⟩
theorem qfX(n:Nat)(hn:1<=n)(Bs b:Nat)(v:Value)(us:List W2)(hFH:us.length<1099511627776)(w:World)(hBs:Bs<w.heap.size)(hb:b<w.heap.size)(hS:SW w Bs b v us):SeqStopsK Fence.wide n prog 189 #[.pointer (some ⟨Bs,0,none⟩)] (λx:Nat×W2=>#[.int .i64 (x.1:Int),.agg #[.int .i64 x.2.1,sv x.2.2]]) (Qu Bs b) (λys=>ys=TT us us.length)
   (λpre=>∃k,k<=us.length/\pre=TT us k) us.length w:=λl J Jx W hW _ _ hY h0=>by
 obtain⟨hc,h⟩:=hS.keep (Qu.below hW hBs hb);rcases h with⟨rfl,A,c,rfl⟩|⟨off,cap,rfl,hcs⟩
 ·exact(qeE n l Bs c A J W hc h0).mono λe W' ⟨he,hj⟩=>⟨he,.inl ⟨_,rfl,hj⟩⟩
 ·exact backW_in n hn l Bs b off us.length cap us hFH J Jx hY W hc hcs h0
theorem Tz(A m c)(w:World):Calls prog 151 #[.slice A m c] w (λe w'=>e=.returned (.func (.func 189) #[] #[.pointer (some ⟨w.heap.size,0,none⟩)])/\w'=w.alloc (.cells #[.slice A m c] 23)):=by
 go_enter func151,ntmps151;go_wp2;go_ret;exact⟨rfl,rfl⟩
end Go.Proofs.YtmeadnlmepcmbaaGreat
