/- Texts Vol, FreeS, Volm, Volr, Volmr, Disk, DiskR, joined. -/
import Derived.Test.YtpbniokljofedaaGreatZI05
set_option linter.unusedSimpArgs false
set_option linter.unusedVariables false
set_option maxHeartbeats 8000000
open Go.Proofs.Tryz
namespace Go.Proofs.YtpbniokljofedaaGreat
open Go.RowKit
structure Vol where
 id:Int
 root:Int
 fz:Bool
 frm:Int
deriving DecidableEq
def Qu (v:Vol):List UInt8:=qA v.root.toNat 2++[if v.fz then 1 else 0]++qA v.frm.toNat 4
theorem vq (v:Vol):(Qu v).length=7:=by simp[Qu,zZ]
def Kr (x:It):Vol:=⟨x.i,Za x.val 0 2,decide ((x.val[2]?.getD 0).toNat=1),Za x.val 3 4⟩
def TZ (x:It):Bool:=decide (x.val.length=7) && Ur 1 x.i 0 0 x.k x.i x.o x.r (Qu (Kr x)) x.val
abbrev VC (v:Vol):Value:=.agg #[.int .u32 v.id,.int .i64 v.root,.bool v.fz,.int .u32 v.frm]
def qcG (v:Vol):Prop:=(0<=v.id/\v.id<4294967296)/\(0<=v.root/\v.root<65536)/\(0<=v.frm/\v.frm<4294967296)
def vl (lo n:Nat) (ty:TypeId) (φ:List Value->World->Prop):qS:=⟨Nat,fun b=>.slice (some ⟨b,0,none⟩) n n,fun b W=>lo<=b/\∃ cs:Array Value,cs.size=n/\W.heap[b]?=some (.cells cs ty (0,0))/\φ cs.toList W⟩
theorem Qj (lo n:Nat) (ty:TypeId) (φ:List Value->World->Prop) (b:Nat):(vl lo n ty φ).f b=.slice (some ⟨b,0,none⟩) n n:=rfl
theorem vL {lo n:Nat} {ty:TypeId} {φ:List Value->World->Prop} (hφ:∀ l,QJ (φ l)):∀ p,QJ ((vl lo n ty φ).φ p):=fun p W W' he ⟨h1,cs,h2,h3,h4⟩ =>
 ⟨h1,cs,h2,(Below.block he p (zG.1 h3).1).trans h3,hφ _ _ _ he h4⟩
theorem KI {P:Program} {o:Oper} {a:Act} {W:World} {lo' n':Nat} {ty:TypeId} {φ:List Value->World->Prop} {cs:Array Value} (hr:(execOp a.eval o).run P W=.ok (.value (.slice (some ⟨W.heap.size,0,none⟩) n' n')) (W.alloc (.cells cs ty))) (aP:lo'<=W.heap.size) (hn:cs.size=n') (hφ:φ cs.toList (W.alloc (.cells cs ty))):jY P o a W (vl lo' n' ty φ):=by
 unfold jY;rw[hr];exact⟨W.heap.size,rfl,⟨aP,cs,hn,zI _ _ _ rfl,hφ⟩,zN _ _⟩
def JC (ls:List (List UInt8)) (vs:List Value) (W:World):Prop:=vs.length=ls.length/\∀ (i:Nat) (v:Value) (l:List UInt8),vs[i]?=some v->ls[i]?=some l->Bys W W.heap.size v l
theorem JC.stable (ls:List (List UInt8)) (vs:List Value):QJ (JC ls vs):=fun _ _ he h=>⟨h.1,fun i v l h1 h2=>((h.2 i v l h1 h2).below he).more he.size⟩
theorem Bys.lit {W:World} {b:Nat} {l:List UInt8} {ty:TypeId} (h:W.heap[b]?=some (.cells (l.map bv).toArray ty (0,0))) (hl:l.length<=maxLen):Bys W W.heap.size (.slice (some ⟨b,0,none⟩) l.length l.length) l:=
 ⟨_,_,rfl,zM _,hl,zA3,fun _=>⟨b,0,rfl,(zG.1 h).1,fun j u hu=>by rw[qa h];simpa using hu⟩⟩
theorem Rd.row {W:World} {b:Nat} {cs:Array Value} {ty:TypeId} (h:W.heap[b]?=some (.cells cs ty (0,0))) (n:Nat) (hn:cs.size=n):Rd W W.heap.size 1 (some ⟨b,0,none⟩) n cs.toList:=
 ⟨by simp[hn],fun _=>⟨b,0,rfl,(zG.1 h).1,fun j u hu=>by rw[qa h];simpa using hu⟩⟩
set_option maxRecDepth 100000 in
theorem qgq (v:Vol) (hv:qcG v) (w:World):Calls prog 55 #[VC v] w (QV (IsI w.heap.size 1 v.id 0 0 (Qu v)) w):=by
 obtain⟨vi,vr,vf,vm⟩:=v;obtain⟨⟨yT,dD⟩,⟨mX,hr2⟩,⟨hm1,iL⟩⟩:=hv;dsimp only at *;obtain⟨r,rfl⟩:=Int.eq_ofNat_of_zero_le mX;obtain⟨m,rfl⟩:=Int.eq_ofNat_of_zero_le hm1;have HB:Hid (Qu ⟨vi,r,vf,m⟩=[qA r 2,[if vf then 1 else 0],qA m 4].flatten):=by refine zH ?_;simp[Qu]
 have HL:Hid ((Qu ⟨vi,r,vf,m⟩).length=7):=zH (vq _);have l2:=zZ 2 r;have l4:=zZ 4 m;replace l2:=zH l2;replace l4:=zH l4;generalize Qu ⟨vi,r,vf,m⟩=vb at *;cases vf
 ·go_enter func55,ntmps55;go_wp2_with fail;generalize aA:(World.alloc (World.alloc _ _) _)=w1;have b1:Ext w w1:=by rw[<-aA];exact(zN _ _).trans (zN _ _)
  have r1:w1.heap[w.heap.size]?=some (.cells #[.int .u32 vi,.int .i64 r,.bool false,.int .u32 m] 40 (0,0)):=by rw[<-aA];exact(zK _ _ _ zA3).trans (zI _ _ _ rfl)
  have q1:w1.heap[w.heap.size+1]?=some (.cells #[.int .u8 0,.int .u32 0,.int .u32 0,.int .i64 0,.slice none 0 0] 68 (0,0)):=by rw[<-aA];exact zI _ _ _ zA3
  clear aA;refine(qct r zO _).mono ?_;rintro e w2 ⟨u,rfl,⟨u2,rfl,A2,c2,rfl,bI,hf2⟩,hB⟩;have b2:Ext w w2:=Ext.trans b1 hB;have r2:=qb r1 hB;have q2:=qb q1 hB;have k2:=qa r2;have s2:w.heap.size+1<w2.heap.size:=(zG.1 q2).1;clear hB b1 r1 q1;go_wp2;have hE:∀ W,Ext w2 W->∀ j,W.cell? ⟨w.heap.size,j,none⟩=#[.int .u32 vi,.int .i64 r,.bool false,.int .u32 m][j]?:=fun W h=>qa (qb r2 h);clear k2;refine zl (qD [(5,jm w2.heap.size 1 5 #[.int .u8 0]),(8,Kw w2.heap.size 4 (qA m 4)),(9,vl w2.heap.size 3 26 (JC [qA r 2,[0],qA m 4])),(10,Kw w2.heap.size 7 vb)]) 12 zQ zQ zQ zA1 zQ zQ ?st ?walk
  case st=>exact Zb (by simp only[List.forall_mem_cons];exact⟨Jy _ _ _ _,jl _ _ _,vL (JC.stable _),jl _ _ _,fun _ h=>by cases h⟩)
  case walk =>
   intro K hK;dsimp only[List.take];repeat ((first|(refine qM ?_ zA0 zA0 (fun W hW _=>⟨W,?_,Ext.refl W⟩) ?_;rotate_left;(go_simp<;>with_reducible rfl))|(refine qV zA0 ?_));try simp only[Act.put,ql,qf,qc,qg,qO,Qj,Qy,zA,zB,zC])
   refine Qx (jm w2.heap.size 1 5 #[.int .u8 0]) zA0 zA0 (fun W hW _=>?_) (fun (p5:Nat)=>?_)
   ·refine kK ?_ hW.size;go_simp
   simp only[Act.put,qf,qc,qg,qO,Qj,Qy,zA,zB,zC];repeat ((first|(refine qM ?_ zA0 zA0 (fun W hW _=>⟨W,?_,Ext.refl W⟩) ?_;rotate_left;(go_simp<;>with_reducible rfl))|(refine qV zA0 ?_));try simp only[Act.put,ql,qf,qc,qg,qO,Qj,Qy,zA,zB,zC])
   refine Qx (Kw w2.heap.size 4 (qA m 4)) zA0 zA0 (fun W hW _=>?_) (fun p8=>?_)
   ·refine QP ?_ ((KE m zO W).mono fun e w' h=>?_)
    ·go_simp
    obtain⟨u,rfl,⟨A,c,rfl,h1,h2⟩,h3⟩:=h;exact⟨(A,c),rfl,⟨h1,h2.mono hW.size⟩,h3⟩
   obtain⟨A8,c8⟩:=p8;simp only[Act.put,qf,qc,qg,qO,Qj,Qy,zA,zB,zC];refine Qx (vl w2.heap.size 3 26 (JC [qA r 2,[0],qA m 4])) zA0 zA0 (fun W hW hp=>?_) (fun (p9:Nat)=>?_)
   ·have f5:=(hp 5 zA1).1;have f8:=(hp 8 zA1).1;obtain⟨f5,_⟩:W.heap[p5]?=some (.cells #[.int .u8 0] 5 (0,0))/\w2.heap.size<=p5:=f5;obtain⟨f8,_⟩:Bys W W.heap.size (.slice A8 4 c8) (qA m 4)/\_:=f8;have hR:JC [qA r 2,[0],qA m 4] [.slice A2 2 c2,.slice (some ⟨p5,0,none⟩) 1 1,.slice A8 4 c8] W:=by
     refine⟨rfl,fun i v l hv hl=>?_⟩;have hKB:Bys W W.heap.size (.slice (some ⟨p5,0,none⟩) 1 1) [(0:UInt8)]:=Bys.lit (l:=[(0:UInt8)]) f5 (by simp[maxLen]);rcases i with _|_|_|i
     ·simp at hv hl;subst hv;subst hl;exact(bI.below hW).more hW.size
     ·simp at hv hl;subst hv;subst hl;exact hKB
     ·simp at hv hl;subst hv;subst hl;exact f8
     ·simp at hv
    refine KI (cs:=#[.slice A2 2 c2,.slice (some ⟨p5,0,none⟩) 1 1,.slice A8 4 c8]) ?_ hW.size rfl ?_
    ·go_simp
    ·exact JC.stable _ _ _ _ (zN _ _) hR
   simp only[Act.put,qf,qc,qg,qO,Qj,Qy,zA,zB,zC];refine Qx (Kw w2.heap.size 7 vb) zA0 zA0 (fun W hW hp=>?_) (fun p10=>?_)
   ·obtain⟨_,cs,bV,aC,hR⟩:=(hp 9 zA1).1;have hlen:[qA r 2,[(0:UInt8)],qA m 4].flatten.length=7:=by simp[l2.out,l4.out]
    refine QP ?_ ((Va (some ⟨p9,0,none⟩) 3 3 cs.toList [qA r 2,[0],qA m 4] (by simpa using bV) rfl W (Rd.row aC 3 bV) (fun i v l h1 h2=>hR.2 i v l h1 h2) zO zO).mono fun e w' h=>?_)
    ·go_simp
    rw[hlen] at h;obtain⟨p,h1,h2,h3⟩:=KR h hW.size;have HB':=HB.out;simp only[Bool.false_eq_true,if_false] at HB';rw[<-HB'] at h1 h2;exact⟨p,h1,h2,h3⟩
   obtain⟨A10,c10⟩:=p10;simp only[Act.put,qf,qc,qg,qO,Qj,Qy,zA,zB,zC];repeat ((first|(refine qM ?_ zA0 zA0 (fun W hW _=>⟨W,?_,Ext.refl W⟩) ?_;rotate_left;(go_simp<;>with_reducible rfl))|(refine qV zA0 ?_));try simp only[Act.put,ql,qf,qc,qg,qO,Qj,Qy,zA,zB,zC])
   refine Zp (hK _ _ fun W hW hF=>?_);obtain⟨f10,g10⟩:Bys W W.heap.size (.slice A10 7 c10) vb/\Ze w2.heap.size (.slice A10 7 c10):=(hF 10).1;clear hF hK hE;have b3:Ext w W:=b2.trans hW;have q3:=qb q2 hW;have kq:=qa q3;have fq:=qe q3;dsimp only[List.drop];go_wp2;have lK:w.heap.size+1<w2.heap.size:=s2;have aT:=((((f10.setCell g10 (p:=⟨w.heap.size+1,0,none⟩) lK (.int .u8 1)).setCell g10 (p:=⟨w.heap.size+1,1,none⟩) lK (.int .u32 vi)).setCell g10 (p:=⟨w.heap.size+1,2,none⟩) lK (.int .u32 0)).setCell g10 (p:=⟨w.heap.size+1,3,none⟩) lK (.int .i64 0)).setCell g10 (p:=⟨w.heap.size+1,4,none⟩) lK (.slice A10 7 c10);have rf:=qi (qi (qi (qi (qi q3 0 (.int .u8 1)) 1 (.int .u32 vi)) 2 (.int .u32 0)) 3 (.int .i64 0)) 4 (.slice A10 7 c10);have b3':Below w.heap.size w W:=b3;have bf:Below w.heap.size w (((((W.setCell ⟨w.heap.size+1,0,none⟩ (.int .u8 1)).setCell ⟨w.heap.size+1,1,none⟩ (.int .u32 vi)).setCell ⟨w.heap.size+1,2,none⟩ (.int .u32 0)).setCell ⟨w.heap.size+1,3,none⟩ (.int .i64 0)).setCell ⟨w.heap.size+1,4,none⟩ (.slice A10 7 c10)):=zA5;have hsz:(((((W.setCell ⟨w.heap.size+1,0,none⟩ (.int .u8 1)).setCell ⟨w.heap.size+1,1,none⟩ (.int .u32 vi)).setCell ⟨w.heap.size+1,2,none⟩ (.int .u32 0)).setCell ⟨w.heap.size+1,3,none⟩ (.int .i64 0)).setCell ⟨w.heap.size+1,4,none⟩ (.slice A10 7 c10)).heap.size=W.heap.size:=zA3;generalize aZ:(World.setCell (World.setCell (World.setCell (World.setCell (World.setCell W _ _) _ _) _ _) _ _) _ _)=wf at *;have kf:=qa rf;rw[<-hsz] at aT;exact bodyPost_ret (v:=Vd 1 vi 0 0 A10 7 c10) (by simp[results,results55,go_sem,kf]) rfl ⟨_,rfl,⟨A10,c10,by rw[HL.out],by rw[HL.out];exact aT,by rw[HL.out];exact g10.mono zO⟩,bf⟩
 ·go_enter func55,ntmps55;go_wp2_with fail;generalize aA:(World.alloc (World.alloc _ _) _)=w1;have b1:Ext w w1:=by rw[<-aA];exact(zN _ _).trans (zN _ _)
  have r1:w1.heap[w.heap.size]?=some (.cells #[.int .u32 vi,.int .i64 r,.bool true,.int .u32 m] 40 (0,0)):=by rw[<-aA];exact(zK _ _ _ zA3).trans (zI _ _ _ rfl)
  have q1:w1.heap[w.heap.size+1]?=some (.cells #[.int .u8 0,.int .u32 0,.int .u32 0,.int .i64 0,.slice none 0 0] 68 (0,0)):=by rw[<-aA];exact zI _ _ _ zA3
  clear aA;refine(qct r zO _).mono ?_;rintro e w2 ⟨u,rfl,⟨u2,rfl,A2,c2,rfl,bI,hf2⟩,hB⟩;have b2:Ext w w2:=Ext.trans b1 hB;have r2:=qb r1 hB;have q2:=qb q1 hB;have k2:=qa r2;have s2:w.heap.size+1<w2.heap.size:=(zG.1 q2).1;clear hB b1 r1 q1;go_wp2;have hE:∀ W,Ext w2 W->∀ j,W.cell? ⟨w.heap.size,j,none⟩=#[.int .u32 vi,.int .i64 r,.bool true,.int .u32 m][j]?:=fun W h=>qa (qb r2 h);clear k2;refine zl (qD [(5,jm w2.heap.size 1 5 #[.int .u8 1]),(8,Kw w2.heap.size 4 (qA m 4)),(9,vl w2.heap.size 3 26 (JC [qA r 2,[1],qA m 4])),(10,Kw w2.heap.size 7 vb)]) 12 zQ zQ zQ zA1 zQ zQ ?st ?walk
  case st=>exact Zb (by simp only[List.forall_mem_cons];exact⟨Jy _ _ _ _,jl _ _ _,vL (JC.stable _),jl _ _ _,fun _ h=>by cases h⟩)
  case walk =>
   intro K hK;dsimp only[List.take];repeat ((first|(refine qM ?_ zA0 zA0 (fun W hW _=>⟨W,?_,Ext.refl W⟩) ?_;rotate_left;(go_simp<;>with_reducible rfl))|(refine qV zA0 ?_));try simp only[Act.put,ql,qf,qc,qg,qO,Qj,Qy,zA,zB,zC])
   refine Qx (jm w2.heap.size 1 5 #[.int .u8 1]) zA0 zA0 (fun W hW _=>?_) (fun (p5:Nat)=>?_)
   ·refine kK ?_ hW.size;go_simp
   simp only[Act.put,qf,qc,qg,qO,Qj,Qy,zA,zB,zC];repeat ((first|(refine qM ?_ zA0 zA0 (fun W hW _=>⟨W,?_,Ext.refl W⟩) ?_;rotate_left;(go_simp<;>with_reducible rfl))|(refine qV zA0 ?_));try simp only[Act.put,ql,qf,qc,qg,qO,Qj,Qy,zA,zB,zC])
   refine Qx (Kw w2.heap.size 4 (qA m 4)) zA0 zA0 (fun W hW _=>?_) (fun p8=>?_)
   ·refine QP ?_ ((KE m zO W).mono fun e w' h=>?_)
    ·go_simp
    obtain⟨u,rfl,⟨A,c,rfl,h1,h2⟩,h3⟩:=h;exact⟨(A,c),rfl,⟨h1,h2.mono hW.size⟩,h3⟩
   obtain⟨A8,c8⟩:=p8;simp only[Act.put,qf,qc,qg,qO,Qj,Qy,zA,zB,zC];refine Qx (vl w2.heap.size 3 26 (JC [qA r 2,[1],qA m 4])) zA0 zA0 (fun W hW hp=>?_) (fun (p9:Nat)=>?_)
   ·have f5:=(hp 5 zA1).1;have f8:=(hp 8 zA1).1;obtain⟨f5,_⟩:W.heap[p5]?=some (.cells #[.int .u8 1] 5 (0,0))/\w2.heap.size<=p5:=f5;obtain⟨f8,_⟩:Bys W W.heap.size (.slice A8 4 c8) (qA m 4)/\_:=f8;have hR:JC [qA r 2,[1],qA m 4] [.slice A2 2 c2,.slice (some ⟨p5,0,none⟩) 1 1,.slice A8 4 c8] W:=by
     refine⟨rfl,fun i v l hv hl=>?_⟩;have hKB:Bys W W.heap.size (.slice (some ⟨p5,0,none⟩) 1 1) [(1:UInt8)]:=Bys.lit (l:=[(1:UInt8)]) f5 (by simp[maxLen]);rcases i with _|_|_|i
     ·simp at hv hl;subst hv;subst hl;exact(bI.below hW).more hW.size
     ·simp at hv hl;subst hv;subst hl;exact hKB
     ·simp at hv hl;subst hv;subst hl;exact f8
     ·simp at hv
    refine KI (cs:=#[.slice A2 2 c2,.slice (some ⟨p5,0,none⟩) 1 1,.slice A8 4 c8]) ?_ hW.size rfl ?_
    ·go_simp
    ·exact JC.stable _ _ _ _ (zN _ _) hR
   simp only[Act.put,qf,qc,qg,qO,Qj,Qy,zA,zB,zC];refine Qx (Kw w2.heap.size 7 vb) zA0 zA0 (fun W hW hp=>?_) (fun p10=>?_)
   ·obtain⟨_,cs,bV,aC,hR⟩:=(hp 9 zA1).1;have hlen:[qA r 2,[(1:UInt8)],qA m 4].flatten.length=7:=by simp[l2.out,l4.out]
    refine QP ?_ ((Va (some ⟨p9,0,none⟩) 3 3 cs.toList [qA r 2,[1],qA m 4] (by simpa using bV) rfl W (Rd.row aC 3 bV) (fun i v l h1 h2=>hR.2 i v l h1 h2) zO zO).mono fun e w' h=>?_)
    ·go_simp
    rw[hlen] at h;obtain⟨p,h1,h2,h3⟩:=KR h hW.size;have HB':=HB.out;simp only[if_false,if_true] at HB';rw[<-HB'] at h1 h2;exact⟨p,h1,h2,h3⟩
   obtain⟨A10,c10⟩:=p10;simp only[Act.put,qf,qc,qg,qO,Qj,Qy,zA,zB,zC];repeat ((first|(refine qM ?_ zA0 zA0 (fun W hW _=>⟨W,?_,Ext.refl W⟩) ?_;rotate_left;(go_simp<;>with_reducible rfl))|(refine qV zA0 ?_));try simp only[Act.put,ql,qf,qc,qg,qO,Qj,Qy,zA,zB,zC])
   refine Zp (hK _ _ fun W hW hF=>?_);obtain⟨f10,g10⟩:Bys W W.heap.size (.slice A10 7 c10) vb/\Ze w2.heap.size (.slice A10 7 c10):=(hF 10).1;clear hF hK hE;have b3:Ext w W:=b2.trans hW;have q3:=qb q2 hW;have kq:=qa q3;have fq:=qe q3;dsimp only[List.drop];go_wp2;have lK:w.heap.size+1<w2.heap.size:=s2;have aT:=((((f10.setCell g10 (p:=⟨w.heap.size+1,0,none⟩) lK (.int .u8 1)).setCell g10 (p:=⟨w.heap.size+1,1,none⟩) lK (.int .u32 vi)).setCell g10 (p:=⟨w.heap.size+1,2,none⟩) lK (.int .u32 0)).setCell g10 (p:=⟨w.heap.size+1,3,none⟩) lK (.int .i64 0)).setCell g10 (p:=⟨w.heap.size+1,4,none⟩) lK (.slice A10 7 c10);have rf:=qi (qi (qi (qi (qi q3 0 (.int .u8 1)) 1 (.int .u32 vi)) 2 (.int .u32 0)) 3 (.int .i64 0)) 4 (.slice A10 7 c10);have b3':Below w.heap.size w W:=b3;have bf:Below w.heap.size w (((((W.setCell ⟨w.heap.size+1,0,none⟩ (.int .u8 1)).setCell ⟨w.heap.size+1,1,none⟩ (.int .u32 vi)).setCell ⟨w.heap.size+1,2,none⟩ (.int .u32 0)).setCell ⟨w.heap.size+1,3,none⟩ (.int .i64 0)).setCell ⟨w.heap.size+1,4,none⟩ (.slice A10 7 c10)):=zA5;have hsz:(((((W.setCell ⟨w.heap.size+1,0,none⟩ (.int .u8 1)).setCell ⟨w.heap.size+1,1,none⟩ (.int .u32 vi)).setCell ⟨w.heap.size+1,2,none⟩ (.int .u32 0)).setCell ⟨w.heap.size+1,3,none⟩ (.int .i64 0)).setCell ⟨w.heap.size+1,4,none⟩ (.slice A10 7 c10)).heap.size=W.heap.size:=zA3;generalize aZ:(World.setCell (World.setCell (World.setCell (World.setCell (World.setCell W _ _) _ _) _ _) _ _) _ _)=wf at *;have kf:=qa rf;rw[<-hsz] at aT;exact bodyPost_ret (v:=Vd 1 vi 0 0 A10 7 c10) (by simp[results,results55,go_sem,kf]) rfl ⟨_,rfl,⟨A10,c10,by rw[HL.out],by rw[HL.out];exact aT,by rw[HL.out];exact g10.mono zO⟩,bf⟩
def qk:Rel where
 rel:=Ext
 refl':=Ext.refl
 trans':=Ext.trans
 drew':=Ext.drew
theorem QI {φ:World->Prop} (h:QJ φ):qC qk φ:=fun W W' he=>h W W' he
theorem jT {P:Program} {o:Oper} {a:Act} {W:World} {lo':Nat} {ty:TypeId} {cs:Array Value} (hr:(execOp a.eval o).run P W=.ok (.value (.pointer (some ⟨W.heap.size,0,none⟩))) (W.alloc (.cells cs ty))) (aP:lo'<=W.heap.size):QC qk P o a W (jO lo' ty cs):=by
 unfold QC;rw[hr];exact⟨W.heap.size,rfl,⟨zI _ _ _ rfl,aP⟩,zN _ _⟩
def kF (B:Nat) (ty:TypeId) (vs:Nat->Option Value):Rel where
 rel W W':=W.grownBy W' (some B)/\∀ cs,W.heap[B]?=some (.cells cs ty (0,0))->∃ cs',W'.heap[B]?=some (.cells cs' ty (0,0))/\cs'.size=cs.size/\∀ j,cs'[j]?=cs[j]?\/(vs j≠none/\cs'[j]?=vs j)
 refl' W:=⟨World.grownBy.refl _ _,fun cs h=>⟨cs,h,rfl,fun _=>.inl rfl⟩⟩
 trans' h k:=⟨h.1.trans k.1,fun cs hc=>by
  obtain⟨c1,h1,h2,h3⟩:=h.2 cs hc;obtain⟨c2,k1,k2,k3⟩:=k.2 c1 h1;refine⟨c2,k1,k2.trans h2,fun j=>?_⟩;rcases k3 j with e|e
  ·rw[e];exact h3 j
  ·exact .inr e⟩
 drew' W:=⟨⟨rfl,rfl,rfl,zM _,fun _ _ _=>rfl⟩,fun cs h=>⟨cs,h,rfl,fun _=>.inl rfl⟩⟩
section
variable {B:Nat} {ty:TypeId} {vs:Nat->Option Value}
theorem Xw {W W':World} (h:(kF B ty vs).r W W') {p:Addr} {u:Value} (hp:p.block≠B) (hc:W.cell? p=some u):W'.cell? p=some u:=
 World.grownBy.cell h.1 hc (fun x=>hp (by simpa using x))
theorem qcZ {W W':World} (h:(kF B ty vs).r W W') {b:Nat} {o:Obj} (hp:b≠B) (hc:W.heap[b]?=some o):W'.heap[b]?=some o:=
 (h.1.block b (zG.1 hc).1 (fun x=>hp (by simpa using x))).trans hc
theorem qda {W:World} {cs:Array Value} {j:Nat} {v:Value} (h:W.heap[B]?=some (.cells cs ty (0,0))) (hv:vs j=some v) (hj:j<cs.size) : (kF B ty vs).r W (W.setCell ⟨B,j,none⟩ v)/\(W.setCell ⟨B,j,none⟩ v).cell? ⟨B,j,none⟩=some v:=by
 have hr:=qi h j v;refine⟨⟨⟨rfl,rfl,rfl,zA3,fun k _ hk=>zJ _ _ _ _ (fun e=>hk (by simp at e;rw[e]))⟩,fun cs' hc=>?_⟩,?_⟩
 ·rw[h] at hc;simp only[Option.some.injEq,Obj.cells.injEq,and_true] at hc;subst hc;refine⟨_,hr,zA3,fun k=>?_⟩;by_cases hk:j=k
  ·subst hk;exact .inr ⟨by rw[hv];simp,by rw[hv];simp[hj]⟩
  ·exact .inl (by simp[hk])
 ·rw[qa hr];simp[hj]
end
def Ka (B:Nat) (ty:TypeId) (j:Nat) (v:Value):qS:=⟨Unit,fun _=>undef,fun _ W=>∃ cs,W.heap[B]?=some (.cells cs ty (0,0))/\cs[j]?=some v⟩
theorem ZU (B:Nat) (ty:TypeId) (j:Nat) (v:Value) (u:Unit):(Ka B ty j v).f u=undef:=rfl
theorem Vy {B:Nat} {ty:TypeId} {vs:Nat->Option Value} {j:Nat} {v:Value} (hv:vs j=some v):∀ p,qC (kF B ty vs) ((Ka B ty j v).φ p):=by
 intro p W W' he ⟨cs,h1,h2⟩;obtain⟨c',k1,_,k3⟩:=he.2 cs h1;refine⟨c',k1,?_⟩;rcases k3 j with e|e
 ·rw[e];exact h2
 ·rw[e.2];exact hv
theorem Xg {P:Program} {o:Oper} {a:Act} {w W:World} {B:Nat} {ty:TypeId} {vs:Nat->Option Value} {j:Nat} {v:Value} {cs:Array Value} (h0:w.heap[B]?=some (.cells cs ty (0,0))) (hW:(kF B ty vs).r w W) (hv:vs j=some v) (hj:j<cs.size) (hr:(∀ i,W.frozen? ⟨B,i,none⟩=false)->(∃ u,W.cell? ⟨B,j,none⟩=some u)->(execOp a.eval o).run P W=.ok .skip (W.setCell ⟨B,j,none⟩ v)):QC (kF B ty vs) P o a W (Ka B ty j v):=by
 obtain⟨c',k1,k2,k3⟩:=hW.2 cs h0;obtain⟨g1,g2⟩:=qda (vs:=vs) k1 hv zO;refine vj (hr (qe k1) ⟨_,by rw[qa k1,Array.getElem?_eq_getElem zO]⟩) ⟨(),rfl,?_,g1⟩;exact⟨_,qi k1 j v,by rw[Array.getElem?_setIfInBounds];simp[k2,hj]⟩
section
variable {B:Nat} {ty:TypeId} {cs:Array Value}
end
theorem Qv {w:World} {b j:Nat} {v:Value}:w.grownBy (w.setCell ⟨b,j,none⟩ v) (some b):=⟨rfl,rfl,rfl,zA3,fun k _ hk=>zJ _ _ _ _ (fun e=>hk (by simp at e;rw[e]))⟩
def qbj (lo:Nat) (k i o r:Int) (n:Nat) (l:List UInt8):qS:=⟨Option Addr×Nat,fun p=>.agg #[.int .u8 k,.int .u32 i,.int .u32 o,.int .i64 r,.slice p.1 n p.2],fun p W=>Bys W W.heap.size (.slice p.1 n p.2) l/\Ze lo (.slice p.1 n p.2)⟩
theorem Zi (lo:Nat) (k i o r:Int) (n:Nat) (l:List UInt8) (A:Option Addr) (c:Nat):(qbj lo k i o r n l).f (A,c)=.agg #[.int .u8 k,.int .u32 i,.int .u32 o,.int .i64 r,.slice A n c]:=rfl
theorem Qo {w:World} {b j:Nat} {v:Value} {cs:Array Value} {ty:TypeId} (h:w.heap[b]?=some (.cells cs ty (0,0))) (hv:cs[j]?=some v):Ext w (w.setCell ⟨b,j,none⟩ v):=by
 refine⟨rfl,rfl,rfl,zA3,fun k _=>?_⟩;by_cases hk:k=b
 ·subst hk;rw[qi h j v,h];obtain⟨hj,e⟩:=zG.1 hv;have:cs.setIfInBounds j v=cs:=by
   apply Array.ext_getElem?;intro i;rw[Array.getElem?_setIfInBounds];split
   ·rename_i hi;rw[<-hi];simp[hj,e]
   ·rfl
  rw[this]
 ·exact zJ _ _ _ _ hk
def VolP (x:It) (u:Value) (_:World):Prop:=∃ v',u=.tuple #[VC v',.bool (TZ x)]/\(TZ x=true->v'=Kr x)
theorem Ua {x:It} (h:x.val.length<7):TZ x=false:=by unfold TZ;rw[decide_eq_false zO];rfl
theorem qfi {x:It} (h:7<=x.val.length):TZ x=Ur 1 x.i 0 0 x.k x.i x.o x.r (Qu (Kr x)) x.val:=by
 unfold TZ;by_cases h7:x.val.length=7
 ·rw[decide_eq_true h7,Bool.true_and]
 ·rw[decide_eq_false h7,Bool.false_and]
  symm
  unfold Ur;rw[decide_eq_false];rintro ⟨_,_,_,_,e⟩;have:=congrArg List.length e;rw[vq] at this;omega
theorem volAt_ok {x:It} (hx:jq x) (h:7<=x.val.length):qcG (Kr x):=by have r0:=JH (l:=x.val) (a:=0) (k:=2) zO;have r3:=JH (l:=x.val) (a:=3) (k:=4) zO;exact⟨hx.2.1,⟨r0.1,r0.2⟩,⟨r3.1,r3.2⟩⟩
set_option maxRecDepth 100000 in
theorem qfU (x:It) (hx:jq x) (A:Option Addr) (c:Nat) (w:World) (h:Bys w w.heap.size (.slice A x.val.length c) x.val):Calls prog 135 #[Vd x.k x.i x.o x.r A x.val.length c] w (QV (VolP x) w):=by
 have H2:∀ W,Ext w W->_:=fun W hW=>Gj _ x.val 0 zO W ((h.below hW).more hW.size);have H4:∀ W,Ext w W->_:=fun W hW=>Vc _ x.val 3 zO W ((h.below hW).more hW.size);replace H2:=zH H2;replace H4:=zH H4;have HV:=zH h;have hcat:=h.at_;clear h;have aF:∀ j,(hj:j<x.val.length)->∃ b off,A=some ⟨b,off,none⟩/\w.cell? ⟨b,off+j,none⟩=some (.int .u8 (x.val[j].toNat:Int)):=by intro j hj;obtain⟨A',c',e,_,_,hr⟩:=HV.out;cases e;obtain⟨b,off,rfl,hb,hc⟩:=hr.2 zO;exact⟨b,off,rfl,hc j _ (by rw[List.getElem?_map,zL hj];rfl)⟩
 replace aF:=zH aF;have HN2:Hid (Xl x.val 0 2=if 2<=x.val.length then 0 else 8):=zH (by unfold Xl;rw[Nat.zero_add]);have HN4:Hid (Xl x.val 3 4=if 7<=x.val.length then 0 else 8):=zH (by unfold Xl;rfl);have HVA:Hid (Kr x=⟨x.i,Za x.val 0 2,decide ((x.val[2]?.getD 0).toNat=1),Za x.val 3 4⟩):=rfl;have HP0:Hid (x.val.length<7->∀ W,VolP x (.tuple #[VC ⟨0,0,false,0⟩,.bool false]) W):=zH (fun h W=>⟨_,by rw[Ua h],fun h'=>by rw[Ua h] at h';cases h'⟩);have HP1:Hid (7<=x.val.length->∀ W,VolP x (.tuple #[VC (Kr x),.bool (Ur 1 x.i 0 0 x.k x.i x.o x.r (Qu (Kr x)) x.val)]) W):=zH (fun h W=>⟨_,by rw[qfi h],fun _=>rfl⟩);have HON:=zH (fun h=>qgq (Kr x) (volAt_ok hx h));replace hx:=zH hx;generalize hva:Kr x=va at *;replace hva:=zH hva;generalize Za x.val 0 2=n2 at *;generalize Za x.val 3 4=n4 at *;generalize Xl x.val 0 2=e2 at *;generalize Xl x.val 3 4=e4 at *;go_enter func135,ntmps135;go_wp2_with fail;generalize aA:(World.alloc (World.alloc _ _) _)=w1;have b1:Ext w w1:=by rw[<-aA];exact(zN _ _).trans (zN _ _)
 have r1:w1.heap[w.heap.size]?=some (.cells #[.int .u8 x.k,.int .u32 x.i,.int .u32 x.o,.int .i64 x.r,.slice A x.val.length c] 68 (0,0)):=by rw[<-aA];exact(zK _ _ _ zA3).trans (zI _ _ _ rfl)
 have q1:w1.heap[w.heap.size+1]?=some (.cells #[.int .u32 x.i,.int .i64 0,.bool false,.int .u32 0] 40 (0,0)):=by rw[<-aA];exact zI _ _ _ zA3
 clear aA;refine(H2.out _ b1).mono ?_;rintro e w2 ⟨rfl,hB⟩;have b2:Ext w w2:=Ext.trans b1 hB;have r2:=qb r1 hB;have q2:=qb q1 hB;have k2:=qa r2;clear hB b1 r1 q1 H2;go_wp2_with fail;clear k2;refine(H4.out _ b2).mono ?_;rintro e w3 ⟨rfl,hB⟩;have b3:Ext w w3:=Ext.trans b2 hB;have r3:=qb r2 hB;have q3:=qb q2 hB;have s3:w.heap.size+1<w3.heap.size:=(zG.1 q3).1;have k3:=qa r3;have kq3:=qa q3;have fq3:=qe q3;clear hB b2 r2 q2 H4;by_cases h7:7<=x.val.length
 ·obtain rfl:e2=0:=by rw[HN2.out,if_pos zO]
  obtain rfl:e4=0:=by rw[HN4.out,if_pos h7]
  obtain⟨b,off,rfl,az⟩:=aF.out 2 zO;have e2':(x.val[2]?.getD 0).toNat=x.val[2].toNat:=by rw[zL zO];rfl
  rw[e2'] at HVA;clear HN2 HN4 HP0 aF e2';generalize x.val[2].toNat=p2 at *;go_wp2;obtain⟨RR,ak⟩:∃ RR:Rel,RR=kF (w.heap.size+1) 40 (fun j=>if j=1 then some (.int .i64 n2) else if j=2 then some (.bool (decide (p2=1))) else if j=3 then some (.int .u32 n4) else none):=⟨_,rfl⟩
  replace ak:=zH ak;have g1:∀ W,RR.r w3 W->W.cell? ⟨w.heap.size,4,none⟩=some (.slice (some ⟨b,off,none⟩) x.val.length c):=fun W h=>Xw (ak.out ▸ h) zA3 (by rw[k3];rfl);have hbw:b≠w.heap.size+1:=by have:=World.block_lt_of_cell? w _ az;simp at this;omega
  have g2:∀ W,RR.r w3 W->W.cell? ⟨b,off+2,none⟩=some (.int .u8 (p2:Int)):=fun W h=>Xw (ak.out ▸ h) hbw (Ext.cell b3 az);have yF:((p2:Int) == 1)=decide (p2=1):=by rw[Bool.eq_iff_iff];simp;omega
  have i2:(2:Int)<(x.val.length:Int):=zO;refine qm zQ ?_;refine Zo (w:=w3) RR (qD [(8,Ka (w.heap.size+1) 40 1 (.int .i64 n2)),(10,Ka (w.heap.size+1) 40 2 (.bool (decide (p2=1)))),(12,Ka (w.heap.size+1) 40 3 (.int .u32 n4))])
   [true,true,true,true,true,true,true,true,true,true,true,true,true] 0 zQ zQ zQ zQ zQ zQ ?st (Rel.drew _ _) ?walk
  case st=>rw[ak.out];exact qj (by simp only[List.forall_mem_cons];exact⟨Vy rfl,Vy rfl,Vy rfl,fun _ h=>by cases h⟩)
  case walk =>
   intro K hK;dsimp only[qp];repeat ((first|(refine qd ?_ zA0 zA0 (fun W hW _=>⟨W,?_,Rel.refl _ W⟩) ?_;rotate_left;(go_simp<;>with_reducible rfl))|(refine qh zA0 ?_));try simp only[Act.put,ql,qf,qc,qg,ZU,zA,zB,zC])
   refine qw (Ka (w.heap.size+1) 40 1 (.int .i64 n2)) zA0 zA0 (fun W hW _=>?_) (fun p=>?_)
   ·rw[ak.out] at hW ⊢;refine Xg (j:=1) q3 hW rfl zA3 (fun hf hu=>?_);obtain⟨u,hu⟩:=hu;go_simp
   cases p;simp only[Act.put,qf,qc,qg,ZU,zA,zB,zC];repeat ((first|(refine qd ?_ zA0 zA0 (fun W hW _=>⟨W,?_,Rel.refl _ W⟩) ?_;rotate_left;(go_simp<;>with_reducible rfl))|(refine qh zA0 ?_));try simp only[Act.put,ql,qf,qc,qg,ZU,zA,zB,zC])
   refine qw (Ka (w.heap.size+1) 40 2 (.bool (decide (p2=1)))) zA0 zA0 (fun W hW _=>?_) (fun p=>?_)
   ·rw[ak.out] at hW ⊢;refine Xg (j:=2) q3 hW rfl zA3 (fun hf hu=>?_);obtain⟨u,hu⟩:=hu;go_simp
   cases p;simp only[Act.put,qf,qc,qg,ZU,zA,zB,zC];repeat ((first|(refine qd ?_ zA0 zA0 (fun W hW _=>⟨W,?_,Rel.refl _ W⟩) ?_;rotate_left;(go_simp<;>with_reducible rfl))|(refine qh zA0 ?_));try simp only[Act.put,ql,qf,qc,qg,ZU,zA,zB,zC])
   refine qw (Ka (w.heap.size+1) 40 3 (.int .u32 n4)) zA0 zA0 (fun W hW _=>?_) (fun p=>?_)
   ·rw[ak.out] at hW ⊢;refine Xg (j:=3) q3 hW rfl zA3 (fun hf hu=>?_);obtain⟨u,hu⟩:=hu;go_simp
   cases p;simp only[Act.put,qf,qc,qg,ZU,zA,zB,zC];repeat ((first|(refine qd ?_ zA0 zA0 (fun W hW _=>⟨W,?_,Rel.refl _ W⟩) ?_;rotate_left;(go_simp<;>with_reducible rfl))|(refine qh zA0 ?_));try simp only[Act.put,ql,qf,qc,qg,ZU,zA,zB,zC])
   refine qt (hK _ _ fun W0 hW hF=>?_);have f1:=(hF 8).1;have f2:=(hF 10).1;have f3:=(hF 12).1;clear hF hK g1 g2;rw[ak.out] at hW;have r4:=qcZ hW zA3 r3;obtain⟨cs,q4,bV,hcv⟩:=hW.2 _ q3;obtain rfl:cs=#[.int .u32 x.i,.int .i64 n2,.bool (decide (p2=1)),.int .u32 n4]:=by
    have e0:=hcv 0;simp at e0;obtain⟨c1,h1,h1'⟩:=f1;obtain⟨c2,h2,h2'⟩:=f2;obtain⟨c3,h3,h3'⟩:=f3;rw[q4] at h1 h2 h3;simp only[Option.some.injEq,Obj.cells.injEq,and_true] at h1 h2 h3;subst h1;subst h2;apply Array.ext_getElem?;intro j;rcases j with _|_|_|_|j
    ·rw[e0];rfl
    ·exact h1'
    ·exact h2'
    ·rw[<-h3] at h3';exact h3'
    ·rw[Array.getElem?_eq_none (by rw[bV];simp),Array.getElem?_eq_none zA3]
   have bW:Below w.heap.size w W0:=Below.trans b3 ((Below.refl _ _).grown hW.1 zO (fun g hg=>by simp at hg;omega));refine zB5 ?_;go_wp2;refine Qm ?_;go_wp2;have HO:=zH (HON.out h7);have HP:=HP1.out h7;have hvbl:=vq va;have hvx:=(HV.out.below bW).more bW.size;have ea:=HVA.out;clear HON HP1 HVA hva HV;subst ea;dsimp only at HO HP;generalize Qu _=vb at *;replace HO:=zH HO.out;have HSM:=zH (fun A c W (hA:Bys W W.heap.size (.slice A 7 c) vb) (hW2:Ext W0 W)=>qhd 1 x.i 0 0 x.k x.i x.o x.r A (some ⟨b,off,none⟩) 7 c x.val.length _ vb x.val W hA ((hvx.below hW2).more hW2.size));generalize Ur 1 x.i 0 0 x.k x.i x.o x.r vb x.val=S at *;have hr5:∀ W',Ext W0 W'->∀ j,W'.cell? ⟨w.heap.size,j,none⟩=#[.int .u8 x.k,.int .u32 x.i,.int .u32 x.o,.int .i64 x.r,.slice (some ⟨b,off,none⟩) x.val.length c][j]?:=fun W' h=>qa (qb r4 h);have hq5:∀ W',Ext W0 W'->∀ j,W'.cell? ⟨w.heap.size+1,j,none⟩=#[.int .u32 x.i,.int .i64 n2,.bool (decide (p2=1)),.int .u32 n4][j]?:=fun W' h=>qa (qb q4 h);replace HP:=zH HP;generalize hdp:decide (p2=1)=fz at *;clear hdp;refine qm zQ ?_;refine Zo (w:=W0) qk (qD [(2,outI 1 x.i 0 0 7 vb),(4,one (.bool S)),(5,one undef)])
    [true,true,true,true,true,true] 1 zQ zQ zQ zQ zQ zQ ?st (Rel.drew _ _) ?walk
   case st=>exact qj (by simp only[List.forall_mem_cons];exact⟨fun p=>QI (qdU _ _ _ _ _ _ p),fun p=>QI (Zw _ p),fun p=>QI (Zw _ p),fun _ h=>by cases h⟩)
   case walk =>
    intro K hK;dsimp only[qp];have hr6:∀ W',qk.r W0 W'->∀ j,W'.cell? ⟨w.heap.size,j,none⟩=#[.int .u8 x.k,.int .u32 x.i,.int .u32 x.o,.int .i64 x.r,.slice (some ⟨b,off,none⟩) x.val.length c][j]?:=hr5;have hq6:∀ W',qk.r W0 W'->∀ j,W'.cell? ⟨w.heap.size+1,j,none⟩=#[.int .u32 x.i,.int .i64 n2,.bool fz,.int .u32 n4][j]?:=hq5;repeat ((first|(refine qd ?_ zA0 zA0 (fun W hW _=>⟨W,?_,Rel.refl _ W⟩) ?_;rotate_left;(go_simp<;>with_reducible rfl))|(refine qh zA0 ?_));try simp only[Act.put,ql,qf,qc,qg,ZU,zA,zB,zC])
    refine qw (outI 1 x.i 0 0 7 vb) zA0 zA0 (fun W hW _=>?_) (fun p=>?_)
    ·refine Qb ?_ ((HO.out W).mono fun e w' h=>?_)
     ·go_simp
     ·obtain⟨u,rfl,⟨A,c,rfl,h1,h2⟩,h3⟩:=h;rw[hvbl] at h1 ⊢;exact⟨(A,c),rfl,h1,h3⟩
    obtain⟨A2,c2⟩:=p;simp only[Act.put,qf,qc,qg,ZU,zA,zB,zC];repeat ((first|(refine qd ?_ zA0 zA0 (fun W hW _=>⟨W,?_,Rel.refl _ W⟩) ?_;rotate_left;(go_simp<;>with_reducible rfl))|(refine qh zA0 ?_));try simp only[Act.put,ql,qf,qc,qg,ZU,zA,zB,zC])
    refine qw (one (.bool S)) zA0 zA0 (fun W hW hp=>?_) (fun p=>?_)
    ·have f2:Bys W W.heap.size (.slice A2 7 c2) vb:=(hp 2 zA1).1;refine Qb ?_ ((HSM.out A2 c2 W f2 hW).mono fun e w' h=>⟨(),h.1,trivial,h.2⟩);go_simp
    cases p;simp only[Act.put,ql,qc,qg,ZU,zA,zB,zC];refine qw (one undef) zA0 zA0 (fun W hW hp=>?_) (fun p=>?_)
    ·have q5:=qb q4 hW;have f5:=qe q5;have e0:=Qo q5 (j:=0) rfl;have e1:=Qo (qb q5 e0) (j:=1) rfl;have e2:=Qo (qb (qb q5 e0) e1) (j:=2) rfl;have e3:=Qo (qb (qb (qb q5 e0) e1) e2) (j:=3) rfl;refine vj (w':=(((W.setCell ⟨w.heap.size+1,0,none⟩ (.int .u32 x.i)).setCell ⟨w.heap.size+1,1,none⟩ (.int .i64 n2)).setCell ⟨w.heap.size+1,2,none⟩ (.bool fz)).setCell ⟨w.heap.size+1,3,none⟩ (.int .u32 n4)) ?_ ⟨(),rfl,trivial,e0.trans (e1.trans (e2.trans e3))⟩;go_simp
    cases p;simp only[Act.put,qf,qc,qg,ZU,zA,zB,zC];refine qt (hK _ _ fun W hW hF=>?_);clear hF hK hr6 hq6 hr5 hq5;have ay:Ext W0 W:=hW;have q5:=qb q4 ay;have k5:=qa q5;refine zB5 ?_;go_wp2;refine Qm ?_;go_wp2;exact bodyPost_ret (v:=.tuple #[VC ⟨x.i,n2,fz,n4⟩,.bool S]) (by simp[results,results135,go_sem,k5]) rfl ⟨_,rfl,HP.out W,Below.trans bW (Below.mono ay (by have:=bW.size;omega))⟩
 ·have h4:e4=8:=by rw[HN4.out,if_neg h7]
  have h2:e2=0\/e2=8:=by rw[HN2.out];split <;> simp
  have hp:=HP0.out zO;replace hp:=zH hp;subst h4;clear HN2 HN4 HP0 HP1 HON aF HVA;have b3':Below w.heap.size w w3:=b3;rcases h2 with rfl|rfl
  ·go_wp2;have rf:=qi (qi (qi (qi q3 0 (.int .u32 0)) 1 (.int .i64 0)) 2 (.bool false)) 3 (.int .u32 0);have bf:Below w.heap.size w ((((w3.setCell ⟨w.heap.size+1,0,none⟩ (.int .u32 0)).setCell ⟨w.heap.size+1,1,none⟩ (.int .i64 0)).setCell ⟨w.heap.size+1,2,none⟩ (.bool false)).setCell ⟨w.heap.size+1,3,none⟩ (.int .u32 0)):=zA5;generalize aZ:(World.setCell (World.setCell (World.setCell (World.setCell w3 _ _) _ _) _ _) _ _)=wf at *;have kf:=qa rf;exact bodyPost_ret (v:=.tuple #[VC ⟨0,0,false,0⟩,.bool false]) (by simp[results,results135,go_sem,kf]) rfl ⟨_,rfl,hp.out wf,bf⟩
  ·go_wp2;have rf:=qi (qi (qi (qi q3 0 (.int .u32 0)) 1 (.int .i64 0)) 2 (.bool false)) 3 (.int .u32 0);have bf:Below w.heap.size w ((((w3.setCell ⟨w.heap.size+1,0,none⟩ (.int .u32 0)).setCell ⟨w.heap.size+1,1,none⟩ (.int .i64 0)).setCell ⟨w.heap.size+1,2,none⟩ (.bool false)).setCell ⟨w.heap.size+1,3,none⟩ (.int .u32 0)):=zA5;generalize aZ:(World.setCell (World.setCell (World.setCell (World.setCell w3 _ _) _ _) _ _) _ _)=wf at *;have kf:=qa rf;exact bodyPost_ret (v:=.tuple #[VC ⟨0,0,false,0⟩,.bool false]) (by simp[results,results135,go_sem,kf]) rfl ⟨_,rfl,hp.out wf,bf⟩
def XS (base:Nat) (e:TypeId) (size lo:Nat) (v:Value) (m:Nat) (ys:List Value):qS:=⟨Option Addr×Nat,fun p=>.slice p.1 m p.2,fun p W=>Done base e size lo v m ys (.slice p.1 m p.2) W⟩
theorem jN (base:Nat) (e:TypeId) (size lo:Nat) (v:Value) (m:Nat) (ys:List Value) (A:Option Addr) (c:Nat):(XS base e size lo v m ys).f (A,c)=.slice A m c:=rfl
theorem UE {base:Nat} {e:TypeId} {size lo:Nat} {v:Value} {n:Nat} {xs:List Value} {m:Nat} {ys:List Value}:∀ p,qC (Vr base e size lo v n xs m ys) ((XS base e size lo v m ys).φ p):=fun p _ _ he h=>he.2.2 _ h

def Bls (w:World) (B:Nat) (v:Value) (bs:List (List UInt8)):Prop:=
 ∃ vs A c,v=.slice A bs.length c/\bs.length<=c/\c<=maxLen/\Rd w B 1 A bs.length vs/\∀ (i:Nat) (u:Value) (l:List UInt8),vs[i]?=some u->bs[i]?=some l->Bys w B u l
theorem Bls.below {w w':World} {B:Nat} {v:Value} {bs:List (List UInt8)} (h:Bls w B v bs) (hb:Below B w w'):Bls w' B v bs:=by obtain⟨vs,A,c,e,h1,h2,h3,h4⟩:=h;exact⟨vs,A,c,e,h1,h2,h3.below hb,fun i u l hu hl=>(h4 i u l hu hl).below hb⟩
theorem Bls.more {w:World} {B B':Nat} {v:Value} {bs:List (List UInt8)} (h:Bls w B v bs) (hb:B<=B'):Bls w B' v bs:=by obtain⟨vs,A,c,e,h1,h2,h3,h4⟩:=h;exact⟨vs,A,c,e,h1,h2,h3.more hb,fun i u l hu hl=>(h4 i u l hu hl).more hb⟩
theorem Bls.at_ {w:World} {B:Nat} {A:Option Addr} {n c:Nat} {bs:List (List UInt8)} (h:Bls w B (.slice A n c) bs):n=bs.length/\n<=c/\c<=maxLen/\(0<n->∃ b off,A=some ⟨b,off,none⟩/\b<B):=by obtain⟨vs,A',c',e,h1,h2,h3,_⟩:=h;cases e;refine⟨rfl,h1,h2,fun hn=>?_⟩;obtain⟨b,off,e,hb,_⟩:=h3.2 hn;exact⟨b,off,e,hb⟩
theorem Bls.get {w:World} {B b off n c:Nat} {bs:List (List UInt8)} (h:Bls w B (.slice (some ⟨b,off,none⟩) n c) bs) (i:Nat) (hi:i<bs.length):∃ A' c',w.cell? ⟨b,off+i,none⟩=some (.slice A' bs[i].length c')/\Bys w B (.slice A' bs[i].length c') bs[i]:=by
 obtain⟨vs,A',c',e,h1,h2,h3,h4⟩:=h;cases e;have hv:i<vs.length:=by rw[h3.len1];exact hi
 obtain⟨b',off',e,hb,hc⟩:=h3.2 zO;cases e;have aT:=h4 i vs[i] bs[i] (zL hv) (zL hi);obtain⟨A2,c2,e2,g1,g2,g3⟩:=aT;exact⟨A2,c2,by rw[<-e2];exact hc i _ (zL hv),A2,c2,rfl,g1,g2,g3⟩
def ZA:List ((Int×List UInt8)×Value)->List Value
 | []=>[]
 |p :: r=>.int .i64 p.1.1 :: p.2 :: ZA r
theorem kG (ps:List ((Int×List UInt8)×Value)):(ZA ps).length=ps.length*2:=by
 induction ps with
 |nil=>rfl
 |cons p r ih=>simp[ZA,ih];omega
theorem VJ (ps:List ((Int×List UInt8)×Value)):∀ i (h:i<ps.length),(ZA ps)[i*2]?=some (.int .i64 ps[i].1.1)/\(ZA ps)[i*2+1]?=some ps[i].2:=by
 induction ps with
 |nil=>intro i h;simp at h
 |cons p r ih =>
  intro i h;rcases i with _|i
  ·simp[ZA]
  ·have:=ih i (by simpa using h);rw[show (i+1)*2=i*2+2 by omega];simpa [ZA] using this
def Wrs (w:World) (B:Nat) (v:Value) (ws:List (Int×List UInt8)):Prop:=
 ∃ ps:List ((Int×List UInt8)×Value),ps.map (·.1)=ws/\(∃ A c,v=.slice A ws.length c/\ws.length<=c/\c<=maxLen/\Rd w B 2 A ws.length (ZA ps))/\∀ p∈ps,(∃ A c,p.2=.slice A p.1.2.length c)/\Bys w B p.2 p.1.2
theorem Wrs.below {w w':World} {B:Nat} {v:Value} {ws:List (Int×List UInt8)} (h:Wrs w B v ws) (hb:Below B w w'):Wrs w' B v ws:=by obtain⟨ps,e,⟨A,c,e1,e2,e3,hr⟩,hp⟩:=h;exact⟨ps,e,⟨A,c,e1,e2,e3,hr.below hb⟩,fun p h=>⟨(hp p h).1,(hp p h).2.below hb⟩⟩
theorem Wrs.more {w:World} {B B':Nat} {v:Value} {ws:List (Int×List UInt8)} (h:Wrs w B v ws) (hb:B<=B'):Wrs w B' v ws:=by obtain⟨ps,e,⟨A,c,e1,e2,e3,hr⟩,hp⟩:=h;exact⟨ps,e,⟨A,c,e1,e2,e3,hr.more hb⟩,fun p h=>⟨(hp p h).1,(hp p h).2.more hb⟩⟩
theorem Wrs.at_ {w:World} {B:Nat} {A:Option Addr} {n c:Nat} {ws:List (Int×List UInt8)} (h:Wrs w B (.slice A n c) ws):n=ws.length/\n<=c/\c<=maxLen/\(0<n->∃ b off,A=some ⟨b,off,none⟩/\b<B):=by obtain⟨ps,e,⟨A',c',e1,e2,e3,hr⟩,hp⟩:=h;cases e1;refine⟨rfl,e2,e3,fun hn=>?_⟩;obtain⟨b,off,e,hb,_⟩:=hr.2 hn;exact⟨b,off,e,hb⟩
theorem Wrs.get {w:World} {B b off n c:Nat} {ws:List (Int×List UInt8)} (h:Wrs w B (.slice (some ⟨b,off,none⟩) n c) ws) (i:Nat) (hi:i<ws.length):∃ A' c',w.cell? ⟨b,off+i*2,none⟩=some (.int .i64 ws[i].1)/\w.cell? ⟨b,off+i*2+1,none⟩=some (.slice A' ws[i].2.length c')/\Bys w B (.slice A' ws[i].2.length c') ws[i].2:=by
 obtain⟨ps,e,⟨A,c',e1,e2,e3,hr⟩,hp⟩:=h;cases e1;subst e;have iK:i<ps.length:=by simpa using hi
 obtain⟨b',off',e,hb,hc⟩:=hr.2 zO;cases e;obtain⟨c0,c1⟩:=VJ ps i iK;obtain⟨⟨A',c',e5⟩,aT⟩:=hp ps[i] (List.getElem_mem iK);rw[e5] at c1 aT;refine⟨A',c',?_⟩;simp only[List.getElem_map];exact⟨hc _ _ c0,by rw[Nat.add_assoc];exact hc _ _ c1,aT⟩
def TP (l:List UInt8):Bool:=decide (l.length=128)
def wrOk (x:Int×List UInt8):Bool:=decide (0<=x.1/\x.1<256/\x.2.length=128)
def headD (n m:Nat):Bool:=decide (n=256/\m<=4096)
def jd (bs:List (List UInt8)) (ws:List (Int×List UInt8)):Bool:=headD bs.length ws.length && (bs.all TP && ws.all wrOk)
theorem qcM {α:Type} (f:α->Bool) (l:List α) (k:Nat) (h:k<l.length):(l.take (k+1)).all f=((l.take k).all f && f l[k]):=by rw[List.take_succ_eq_append_getElem h,List.all_append];simp only[List.all_cons,List.all_nil,Bool.and_true]
theorem qgb {α:Type} {f:α->Bool} {l:List α} {k:Nat} (h:k<l.length) (hf:f l[k]=false):l.all f=false:=by rw[List.all_eq_false];exact⟨_,List.getElem_mem h,by simp[hf]⟩
abbrev VK (A1:Option Addr) (n1 c1:Nat) (A2:Option Addr) (n2 c2:Nat):Value:=.agg #[.slice A1 n1 c1,.slice A2 n2 c2]
theorem qeS (A1:Option Addr) (n1 c1:Nat) (A2:Option Addr) (n2 c2:Nat) (bs:List (List UInt8)) (ws:List (Int×List UInt8)) (w:World) (hb:Bls w w.heap.size (.slice A1 n1 c1) bs) (hw:Wrs w w.heap.size (.slice A2 n2 c2) ws):Calls prog 119 #[VK A1 n1 c1 A2 n2 c2] w (Ret (.int .i64 (Jh (jd bs ws))) w):=by
 obtain⟨e1,dV,hm1,hA1⟩:=hb.at_;obtain⟨e2,az,iL,xU⟩:=hw.at_;subst e1;subst e2;by_cases hh:headD bs.length ws.length=true
 case neg =>
  have hM:jd bs ws=false:=by unfold jd;rw[show headD bs.length ws.length=false by simpa using hh];rfl
  rw[hM];have yS:¬(bs.length=256/\ws.length<=4096):=by simpa [headD] using hh
  clear hM hb hw hA1 xU hh;generalize bs.length=n1 at *;generalize ws.length=n2 at *;go_enter func119,ntmps119;go_wp2;all_goals try simp only[beq_iff_eq,beq_eq_false_iff_ne,ne_eq,bne_iff_ne,bne_eq_false_iff_eq] at *
  all_goals first|(exfalso;omega)|skip
  all_goals go_ret
  all_goals exact⟨rfl,zA5⟩
 case pos =>
  have hM:jd bs ws=(bs.all TP && ws.all wrOk):=by unfold jd;rw[hh];rfl
  have yS:bs.length=256/\ws.length<=4096:=by simpa [headD] using hh
  obtain⟨oQ,hn2⟩:=yS;rw[hM];clear hM hh;have HB:=zH hb;have HW:=zH hw;have HTB:=zH (qcM TP bs);have HTW:=zH (qcM wrOk ws);have HBB:=zH (fun k h=>@qgb _ TP bs k h);have HBW:=zH (fun k h=>@qgb _ wrOk ws k h);have HE1:Hid (bs.take bs.length=bs):=zH (List.take_length);have HE2:Hid (ws.take ws.length=ws):=zH (List.take_length);obtain⟨b1,o1,rfl,bD⟩:=hA1 zO;clear hb hw hA1;have hsm:bs.length<1000:=zO;replace oQ:=zH oQ;have hd1:((bs.length:Int) != 256)=false:=by rw[bne_eq_false_iff_eq,oQ.out];rfl
  have hd2:decide ((ws.length:Int)>4096)=false:=decide_eq_false zO;go_enter func119,ntmps119;go_wp2;generalize aA:(World.alloc _ _)=w1;have x1:Ext w w1:=by rw[<-aA];exact zN _ _
  have r1:w1.heap[w.heap.size]?=some (.cells #[.slice (some ⟨b1,o1,none⟩) bs.length c1,.slice A2 ws.length c2] 25 (0,0)):=by rw[<-aA];exact zI _ _ _ rfl
  clear aA;go_loopw [20] (fun i wr=>∃ k:Nat,k<=bs.length/\i=.int .i64 (k:Int)/\(bs.take k).all TP=true/\Ext w1 wr) (fun i _=>bs.length-(intOf i).toNat)
  case atStart=>exact⟨0,zO,rfl,rfl,Ext.refl _⟩
  case round =>
   obtain⟨k,hk,rfl,hok,hE⟩:=hrel;have yx:=x1.trans hE;by_cases hlt:k<bs.length
   ·have aJ:=hlt;obtain⟨A',c',hc,_⟩:=((HB.out.below yx).more yx.size).get k hlt;have ht:=HTB.out k hlt;have hbd:=HBB.out k hlt;rw[hok,Bool.true_and] at ht;replace ht:=zH ht;replace hbd:=zH hbd;have hbo:TP bs[k]=decide (bs[k].length=128):=rfl;replace hbo:=zH hbo;generalize TP bs[k]=q at *;generalize bs[k].length=m at *;by_cases hm:m=128
    ·obtain rfl:q=true:=by rw[hbo.out,decide_eq_true hm]
     subst hm;go_wp2;go_roundw
     case rel=>exact⟨k+1,zO,by go_num,ht.out,hE⟩
     case measure=>simp[intOf];omega
    ·obtain rfl:q=false:=by rw[hbo.out,decide_eq_false hm]
     have aN:((m:Int) != 128)=true:=by rw[bne_iff_ne];omega
     have hf:=hbd.out rfl;go_wp2;go_ret;exact⟨by first|rfl|(rw[hf];rfl),yx⟩
   ·obtain rfl:k=bs.length:=zO;rw[HE1.out] at hok;rw[hok];have rr:=qb r1 hE;have kr:=qa rr;clear HB HTB HBB r1 hd1 hd2;go_wp2;clear kr;go_loopw [31] (fun i wq=>∃ k:Nat,k<=ws.length/\i=.int .i64 (k:Int)/\(ws.take k).all wrOk=true/\Ext wr wq) (fun i _=>ws.length-(intOf i).toNat)
    case atStart=>exact⟨0,zO,rfl,rfl,Ext.refl _⟩
    case round =>
     obtain⟨j,hj,rfl,hEW,fQ⟩:=hrel;have hEq:=yx.trans fQ;by_cases hlt2:j<ws.length
     ·have hQQ:=hlt2;obtain⟨b2,o2,rfl,bI⟩:=xU zO;obtain⟨A',c',hca,uJ,_⟩:=((HW.out.below hEq).more hEq.size).get j hlt2;have ht:=HTW.out j hlt2;have hbd:=HBW.out j hlt2;rw[hEW,Bool.true_and] at ht;replace ht:=zH ht;replace hbd:=zH hbd;have hbo:wrOk ws[j]=decide (0<=ws[j].1/\ws[j].1<256/\ws[j].2.length=128):=rfl;replace hbo:=zH hbo;generalize wrOk ws[j]=q at *;generalize ws[j].1=a at *;generalize ws[j].2.length=m at *;by_cases hm:0<=a/\a<256/\m=128
      ·obtain rfl:q=true:=by rw[hbo.out,decide_eq_true hm]
       obtain⟨ha1,bK,rfl⟩:=hm;have hda:decide (a<0)=false:=decide_eq_false zO;have hdb:decide (a≥256)=false:=decide_eq_false zO;go_wp2;go_roundw
       case rel=>exact⟨j+1,zO,by go_num,ht.out,fQ.trans (zN _ _)⟩
       case measure=>simp[intOf];omega
      ·obtain rfl:q=false:=by rw[hbo.out,decide_eq_false hm]
       have hf:=hbd.out rfl;go_wp2;all_goals try simp only[beq_iff_eq,beq_eq_false_iff_ne,ne_eq,bne_iff_ne,bne_eq_false_iff_eq] at *
       all_goals first
        |(exfalso;omega)
        |(go_ret
          exact⟨by first|rfl|(rw[hf];rfl),Below.alloc hEq (by have:=hEq.size;omega) _⟩)
     ·obtain rfl:j=ws.length:=zO;rw[HE2.out] at hEW;go_wp2;go_ret;exact⟨by first|rfl|(rw[hok];rfl)|(rw[hEW];rfl)|(rw[hok,hEW];rfl),hEq⟩
def QB (t:List UInt8):Bool:=decide (t.length=256) && kz (t.take 8)
theorem Bys.take {w:World} {B:Nat} {A:Option Addr} {m c:Nat} {l:List UInt8} (h:Bys w B (.slice A m c) l) {k:Nat} (hk:k<=l.length):Bys w B (.slice A k c) (l.take k):=by
 obtain⟨A',c',e,hc,hm,hr⟩:=h;cases e;have hl:(l.take k).length=k:=zA2;refine⟨_,_,by rw[hl],by rw[hl];omega,hm,?_⟩;rw[hl];have:=hr.take hk
 rwa [Nat.mul_one,<-List.map_take] at this
theorem UY (v:Value) (t:List UInt8) (w:World) (h:Bys w w.heap.size v t):Calls prog 120 #[v] w (Ret (.int .i64 (Jh (QB t))) w):=by
 obtain⟨A,m,c,rfl⟩:∃ A m c,v=.slice A m c:=by obtain⟨A,c,e,_⟩:=h;exact⟨_,_,_,e⟩
 obtain⟨e1,hc,hm,hA⟩:=h.at_;subst e1;by_cases h256:t.length=256
 ·have hT:QB t=kz (t.take 8):=by unfold QB;rw[decide_eq_true h256,Bool.true_and]
  rw[hT];have HM:=zH (fun W (hW:Ext w W)=>qen (.slice A 8 c) (t.take 8) zA2 zA2 W (((h.take (k:=8) zO).below hW).more hW.size));have hz:=Gw (t.take 8);have ut:=qbY (t.take 8);generalize KM (t.take 8)=mx at *;generalize kz (t.take 8)=z at *;clear hT h;have hc8:(8:Int)<=(c:Int):=zO;have hd1:((t.length:Int) != 256)=false:=by rw[bne_eq_false_iff_eq];omega
  clear h256;go_enter func120,ntmps120;go_wp2_with fail;refine(HM.out _ (Ext.refl _)).mono ?_;rintro e w2 ⟨rfl,hB⟩;clear HM;cases z
  ·have hm0:0<mx:=by simpa using hz
   go_wp2;go_ret;exact⟨rfl,hB⟩
  ·obtain rfl:mx=0:=by simpa using hz
   go_wp2;go_ret;exact⟨rfl,hB⟩
 ·have hT:QB t=false:=by unfold QB;rw[decide_eq_false h256];rfl
  rw[hT];have oQ:((t.length:Int) != 256)=true:=by rw[bne_iff_ne];omega
  go_enter func120,ntmps120;go_wp2;go_ret;exact⟨rfl,Below.refl _ _⟩
end Go.Proofs.YtpbniokljofedaaGreat
