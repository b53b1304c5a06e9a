/- Texts Vol, FreeS, Volm, Volr, Volmr, Disk, DiskR, Room, Read8, joined. -/
import Derived.Test.YtpbniokljofedaaGreatZG05
set_option linter.unusedSimpArgs false
set_option linter.unusedVariables false
set_option maxHeartbeats 8000000
open Go.Proofs.Tryz
namespace Go.Proofs.YtpbniokljofedaaGreat
open Go.RowKit
structure Vol where
 id:Int
 root:Int
 fz:Bool
 frm:Int
deriving DecidableEq
def Qk (v:Vol):List UInt8:=qB v.root.toNat 2++[if v.fz then 1 else 0]++qB v.frm.toNat 4
theorem JV (v:Vol):(Qk v).length=7:=by simp[Qk,Qy]
def jg (x:It):Vol:=⟨x.i,Zk x.val 0 2,decide ((x.val[2]?.getD 0).toNat=1),Zk x.val 3 4⟩
def VB (x:It):Bool:=decide (x.val.length=7) && Yv 1 x.i 0 0 x.k x.i x.o x.r (Qk (jg x)) x.val
abbrev jB (v:Vol):Value:=.agg #[.int .u32 v.id,.int .i64 v.root,.bool v.fz,.int .u32 v.frm]
def vD (v:Vol):Prop:=(0<=v.id/\v.id<4294967296)/\(0<=v.root/\v.root<65536)/\(0<=v.frm/\v.frm<4294967296)
def Vl (lo n:Nat) (ty:TypeId) (φ:List Value->World->Prop):Qa:=⟨Nat,fun b=>.slice (some ⟨b,0,none⟩) n n,fun b W=>lo<=b/\∃ cs:Array Value,cs.size=n/\W.heap[b]?=some (.cells cs ty (0,0))/\φ cs.toList W⟩
theorem Qm (lo n:Nat) (ty:TypeId) (φ:List Value->World->Prop) (b:Nat):(Vl lo n ty φ).f b=.slice (some ⟨b,0,none⟩) n n:=rfl
theorem VI {lo n:Nat} {ty:TypeId} {φ:List Value->World->Prop} (hφ:∀ l,QV (φ l)):∀ p,QV ((Vl lo n ty φ).φ p):=fun p W W' he ⟨h1,cs,h2,h3,h4⟩ =>
 ⟨h1,cs,h2,(Below.block he p (zG.1 h3).1).trans h3,hφ _ _ _ he h4⟩
theorem YT {P:Program} {o:Oper} {a:Act} {W:World} {lo' n':Nat} {ty:TypeId} {φ:List Value->World->Prop} {cs:Array Value} (hr:(execOp a.eval o).run P W=.ok (.value (.slice (some ⟨W.heap.size,0,none⟩) n' n')) (W.alloc (.cells cs ty))) (aP:lo'<=W.heap.size) (hn:cs.size=n') (hφ:φ cs.toList (W.alloc (.cells cs ty))):JN P o a W (Vl lo' n' ty φ):=by
 unfold JN;rw[hr];exact⟨W.heap.size,rfl,⟨aP,cs,hn,zI _ _ _ rfl,hφ⟩,zN _ _⟩
def vB (ls:List (List UInt8)) (vs:List Value) (W:World):Prop:=vs.length=ls.length/\∀ (i:Nat) (v:Value) (l:List UInt8),vs[i]?=some v->ls[i]?=some l->Bys W W.heap.size v l
theorem vB.stable (ls:List (List UInt8)) (vs:List Value):QV (vB ls vs):=fun _ _ he h=>⟨h.1,fun i v l h1 h2=>((h.2 i v l h1 h2).below he).more he.size⟩
theorem Bys.lit {W:World} {b:Nat} {l:List UInt8} {ty:TypeId} (h:W.heap[b]?=some (.cells (l.map bv).toArray ty (0,0))) (hl:l.length<=maxLen):Bys W W.heap.size (.slice (some ⟨b,0,none⟩) l.length l.length) l:=
 ⟨_,_,rfl,zM _,hl,zA2,fun _=>⟨b,0,rfl,(zG.1 h).1,fun j u hu=>by rw[qa h];simpa using hu⟩⟩
theorem Rd.row {W:World} {b:Nat} {cs:Array Value} {ty:TypeId} (h:W.heap[b]?=some (.cells cs ty (0,0))) (n:Nat) (hn:cs.size=n):Rd W W.heap.size 1 (some ⟨b,0,none⟩) n cs.toList:=
 ⟨by simp[hn],fun _=>⟨b,0,rfl,(zG.1 h).1,fun j u hu=>by rw[qa h];simpa using hu⟩⟩
set_option maxRecDepth 100000 in
theorem qiW (v:Vol) (hv:vD v) (w:World):Calls prog 55 #[jB v] w (Za (IsI w.heap.size 1 v.id 0 0 (Qk v)) w):=by
 obtain⟨vi,vr,vf,vm⟩:=v;obtain⟨⟨uM,hi2⟩,⟨oH,hr2⟩,⟨hm1,lJ⟩⟩:=hv;dsimp only at *;obtain⟨r,rfl⟩:=Int.eq_ofNat_of_zero_le oH;obtain⟨m,rfl⟩:=Int.eq_ofNat_of_zero_le hm1;have HB:Hid (Qk ⟨vi,r,vf,m⟩=[qB r 2,[if vf then 1 else 0],qB m 4].flatten):=by refine zH ?_;simp[Qk]
 have HL:Hid ((Qk ⟨vi,r,vf,m⟩).length=7):=zH (JV _);have l2:=Qy 2 r;have l4:=Qy 4 m;replace l2:=zH l2;replace l4:=zH l4;generalize Qk ⟨vi,r,vf,m⟩=vb at *;cases vf
 ·go_enter func55,ntmps55;go_wp2_with fail;generalize aA:(World.alloc (World.alloc _ _) _)=w1;have b1:Ext w w1:=by rw[<-aA];exact(zN _ _).trans (zN _ _)
  have r1:w1.heap[w.heap.size]?=some (.cells #[.int .u32 vi,.int .i64 r,.bool false,.int .u32 m] 40 (0,0)):=by rw[<-aA];exact(zK _ _ _ zA2).trans (zI _ _ _ rfl)
  have q1:w1.heap[w.heap.size+1]?=some (.cells #[.int .u8 0,.int .u32 0,.int .u32 0,.int .i64 0,.slice none 0 0] 68 (0,0)):=by rw[<-aA];exact zI _ _ _ zA2
  clear aA;refine(qeq r zO _).mono ?_;rintro e w2 ⟨u,rfl,⟨u2,rfl,A2,c2,rfl,bZ,hf2⟩,hB⟩;have b2:Ext w w2:=Ext.trans b1 hB;have r2:=qb r1 hB;have q2:=qb q1 hB;have k2:=qa r2;have s2:w.heap.size+1<w2.heap.size:=(zG.1 q2).1;clear hB b1 r1 q1;go_wp2;have hE:∀ W,Ext w2 W->∀ j,W.cell? ⟨w.heap.size,j,none⟩=#[.int .u32 vi,.int .i64 r,.bool false,.int .u32 m][j]?:=fun W h=>qa (qb r2 h);clear k2;refine QZ (qH [(5,jR w2.heap.size 1 5 #[.int .u8 0]),(8,YB w2.heap.size 4 (qB m 4)),(9,Vl w2.heap.size 3 26 (vB [qB r 2,[0],qB m 4])),(10,YB w2.heap.size 7 vb)]) 12 zQ zQ zQ zD zQ zQ ?st ?walk
  case st=>exact zm (by simp only[List.forall_mem_cons];exact⟨vx _ _ _ _,jQ _ _ _,VI (vB.stable _),jQ _ _ _,fun _ h=>by cases h⟩)
  case walk =>
   intro K hK;dsimp only[List.take];repeat ((first|(refine qI ?_ zA0 zA0 (fun W hW _=>⟨W,?_,Ext.refl W⟩) ?_;rotate_left;(go_simp<;>with_reducible rfl))|(refine qV zA0 ?_));try simp only[Act.put,ql,qg,qc,qf,qS,Qm,QH,zA,zB,zC])
   refine QA (jR w2.heap.size 1 5 #[.int .u8 0]) zA0 zA0 (fun W hW _=>?_) (fun (p5:Nat)=>?_)
   ·refine KU ?_ hW.size;go_simp
   simp only[Act.put,qg,qc,qf,qS,Qm,QH,zA,zB,zC];repeat ((first|(refine qI ?_ zA0 zA0 (fun W hW _=>⟨W,?_,Ext.refl W⟩) ?_;rotate_left;(go_simp<;>with_reducible rfl))|(refine qV zA0 ?_));try simp only[Act.put,ql,qg,qc,qf,qS,Qm,QH,zA,zB,zC])
   refine QA (YB w2.heap.size 4 (qB m 4)) zA0 zA0 (fun W hW _=>?_) (fun p8=>?_)
   ·refine QT ?_ ((YP m zO W).mono fun e w' h=>?_)
    ·go_simp
    obtain⟨u,rfl,⟨A,c,rfl,h1,h2⟩,h3⟩:=h;exact⟨(A,c),rfl,⟨h1,h2.mono hW.size⟩,h3⟩
   obtain⟨A8,c8⟩:=p8;simp only[Act.put,qg,qc,qf,qS,Qm,QH,zA,zB,zC];refine QA (Vl w2.heap.size 3 26 (vB [qB r 2,[0],qB m 4])) zA0 zA0 (fun W hW hp=>?_) (fun (p9:Nat)=>?_)
   ·have f5:=(hp 5 zD).1;have f8:=(hp 8 zD).1;obtain⟨f5,_⟩:W.heap[p5]?=some (.cells #[.int .u8 0] 5 (0,0))/\w2.heap.size<=p5:=f5;obtain⟨f8,_⟩:Bys W W.heap.size (.slice A8 4 c8) (qB m 4)/\_:=f8;have hR:vB [qB r 2,[0],qB m 4] [.slice A2 2 c2,.slice (some ⟨p5,0,none⟩) 1 1,.slice A8 4 c8] W:=by
     refine⟨rfl,fun i v l hv hl=>?_⟩;have hMI:Bys W W.heap.size (.slice (some ⟨p5,0,none⟩) 1 1) [(0:UInt8)]:=Bys.lit (l:=[(0:UInt8)]) f5 (by simp[maxLen]);rcases i with _|_|_|i
     ·simp at hv hl;subst hv;subst hl;exact(bZ.below hW).more hW.size
     ·simp at hv hl;subst hv;subst hl;exact hMI
     ·simp at hv hl;subst hv;subst hl;exact f8
     ·simp at hv
    refine YT (cs:=#[.slice A2 2 c2,.slice (some ⟨p5,0,none⟩) 1 1,.slice A8 4 c8]) ?_ hW.size rfl ?_
    ·go_simp
    ·exact vB.stable _ _ _ _ (zN _ _) hR
   simp only[Act.put,qg,qc,qf,qS,Qm,QH,zA,zB,zC];refine QA (YB w2.heap.size 7 vb) zA0 zA0 (fun W hW hp=>?_) (fun p10=>?_)
   ·obtain⟨_,cs,dD,aF,hR⟩:=(hp 9 zD).1;have hlen:[qB r 2,[(0:UInt8)],qB m 4].flatten.length=7:=by simp[l2.out,l4.out]
    refine QT ?_ ((kF (some ⟨p9,0,none⟩) 3 3 cs.toList [qB r 2,[0],qB m 4] (by simpa using dD) rfl W (Rd.row aF 3 dD) (fun i v l h1 h2=>hR.2 i v l h1 h2) zO zO).mono fun e w' h=>?_)
    ·go_simp
    rw[hlen] at h;obtain⟨p,h1,h2,h3⟩:=Xe h hW.size;have HB':=HB.out;simp only[Bool.false_eq_true,if_false] at HB';rw[<-HB'] at h1 h2;exact⟨p,h1,h2,h3⟩
   obtain⟨A10,c10⟩:=p10;simp only[Act.put,qg,qc,qf,qS,Qm,QH,zA,zB,zC];repeat ((first|(refine qI ?_ zA0 zA0 (fun W hW _=>⟨W,?_,Ext.refl W⟩) ?_;rotate_left;(go_simp<;>with_reducible rfl))|(refine qV zA0 ?_));try simp only[Act.put,ql,qg,qc,qf,qS,Qm,QH,zA,zB,zC])
   refine Zg (hK _ _ fun W hW hF=>?_);obtain⟨f10,g10⟩:Bys W W.heap.size (.slice A10 7 c10) vb/\Zo w2.heap.size (.slice A10 7 c10):=(hF 10).1;clear hF hK hE;have b3:Ext w W:=b2.trans hW;have q3:=qb q2 hW;have kq:=qa q3;have fq:=qe q3;dsimp only[List.drop];go_wp2;have iY:w.heap.size+1<w2.heap.size:=s2;have aQ:=((((f10.setCell g10 (p:=⟨w.heap.size+1,0,none⟩) iY (.int .u8 1)).setCell g10 (p:=⟨w.heap.size+1,1,none⟩) iY (.int .u32 vi)).setCell g10 (p:=⟨w.heap.size+1,2,none⟩) iY (.int .u32 0)).setCell g10 (p:=⟨w.heap.size+1,3,none⟩) iY (.int .i64 0)).setCell g10 (p:=⟨w.heap.size+1,4,none⟩) iY (.slice A10 7 c10);have rf:=qi (qi (qi (qi (qi q3 0 (.int .u8 1)) 1 (.int .u32 vi)) 2 (.int .u32 0)) 3 (.int .i64 0)) 4 (.slice A10 7 c10);have b3':Below w.heap.size w W:=b3;have bf:Below w.heap.size w (((((W.setCell ⟨w.heap.size+1,0,none⟩ (.int .u8 1)).setCell ⟨w.heap.size+1,1,none⟩ (.int .u32 vi)).setCell ⟨w.heap.size+1,2,none⟩ (.int .u32 0)).setCell ⟨w.heap.size+1,3,none⟩ (.int .i64 0)).setCell ⟨w.heap.size+1,4,none⟩ (.slice A10 7 c10)):=zA4;have hsz:(((((W.setCell ⟨w.heap.size+1,0,none⟩ (.int .u8 1)).setCell ⟨w.heap.size+1,1,none⟩ (.int .u32 vi)).setCell ⟨w.heap.size+1,2,none⟩ (.int .u32 0)).setCell ⟨w.heap.size+1,3,none⟩ (.int .i64 0)).setCell ⟨w.heap.size+1,4,none⟩ (.slice A10 7 c10)).heap.size=W.heap.size:=zA2;generalize aY:(World.setCell (World.setCell (World.setCell (World.setCell (World.setCell W _ _) _ _) _ _) _ _) _ _)=wf at *;have kf:=qa rf;rw[<-hsz] at aQ;exact bodyPost_ret (v:=kJ 1 vi 0 0 A10 7 c10) (by simp[results,results55,go_sem,kf]) rfl ⟨_,rfl,⟨A10,c10,by rw[HL.out],by rw[HL.out];exact aQ,by rw[HL.out];exact g10.mono zO⟩,bf⟩
 ·go_enter func55,ntmps55;go_wp2_with fail;generalize aA:(World.alloc (World.alloc _ _) _)=w1;have b1:Ext w w1:=by rw[<-aA];exact(zN _ _).trans (zN _ _)
  have r1:w1.heap[w.heap.size]?=some (.cells #[.int .u32 vi,.int .i64 r,.bool true,.int .u32 m] 40 (0,0)):=by rw[<-aA];exact(zK _ _ _ zA2).trans (zI _ _ _ rfl)
  have q1:w1.heap[w.heap.size+1]?=some (.cells #[.int .u8 0,.int .u32 0,.int .u32 0,.int .i64 0,.slice none 0 0] 68 (0,0)):=by rw[<-aA];exact zI _ _ _ zA2
  clear aA;refine(qeq r zO _).mono ?_;rintro e w2 ⟨u,rfl,⟨u2,rfl,A2,c2,rfl,bZ,hf2⟩,hB⟩;have b2:Ext w w2:=Ext.trans b1 hB;have r2:=qb r1 hB;have q2:=qb q1 hB;have k2:=qa r2;have s2:w.heap.size+1<w2.heap.size:=(zG.1 q2).1;clear hB b1 r1 q1;go_wp2;have hE:∀ W,Ext w2 W->∀ j,W.cell? ⟨w.heap.size,j,none⟩=#[.int .u32 vi,.int .i64 r,.bool true,.int .u32 m][j]?:=fun W h=>qa (qb r2 h);clear k2;refine QZ (qH [(5,jR w2.heap.size 1 5 #[.int .u8 1]),(8,YB w2.heap.size 4 (qB m 4)),(9,Vl w2.heap.size 3 26 (vB [qB r 2,[1],qB m 4])),(10,YB w2.heap.size 7 vb)]) 12 zQ zQ zQ zD zQ zQ ?st ?walk
  case st=>exact zm (by simp only[List.forall_mem_cons];exact⟨vx _ _ _ _,jQ _ _ _,VI (vB.stable _),jQ _ _ _,fun _ h=>by cases h⟩)
  case walk =>
   intro K hK;dsimp only[List.take];repeat ((first|(refine qI ?_ zA0 zA0 (fun W hW _=>⟨W,?_,Ext.refl W⟩) ?_;rotate_left;(go_simp<;>with_reducible rfl))|(refine qV zA0 ?_));try simp only[Act.put,ql,qg,qc,qf,qS,Qm,QH,zA,zB,zC])
   refine QA (jR w2.heap.size 1 5 #[.int .u8 1]) zA0 zA0 (fun W hW _=>?_) (fun (p5:Nat)=>?_)
   ·refine KU ?_ hW.size;go_simp
   simp only[Act.put,qg,qc,qf,qS,Qm,QH,zA,zB,zC];repeat ((first|(refine qI ?_ zA0 zA0 (fun W hW _=>⟨W,?_,Ext.refl W⟩) ?_;rotate_left;(go_simp<;>with_reducible rfl))|(refine qV zA0 ?_));try simp only[Act.put,ql,qg,qc,qf,qS,Qm,QH,zA,zB,zC])
   refine QA (YB w2.heap.size 4 (qB m 4)) zA0 zA0 (fun W hW _=>?_) (fun p8=>?_)
   ·refine QT ?_ ((YP m zO W).mono fun e w' h=>?_)
    ·go_simp
    obtain⟨u,rfl,⟨A,c,rfl,h1,h2⟩,h3⟩:=h;exact⟨(A,c),rfl,⟨h1,h2.mono hW.size⟩,h3⟩
   obtain⟨A8,c8⟩:=p8;simp only[Act.put,qg,qc,qf,qS,Qm,QH,zA,zB,zC];refine QA (Vl w2.heap.size 3 26 (vB [qB r 2,[1],qB m 4])) zA0 zA0 (fun W hW hp=>?_) (fun (p9:Nat)=>?_)
   ·have f5:=(hp 5 zD).1;have f8:=(hp 8 zD).1;obtain⟨f5,_⟩:W.heap[p5]?=some (.cells #[.int .u8 1] 5 (0,0))/\w2.heap.size<=p5:=f5;obtain⟨f8,_⟩:Bys W W.heap.size (.slice A8 4 c8) (qB m 4)/\_:=f8;have hR:vB [qB r 2,[1],qB m 4] [.slice A2 2 c2,.slice (some ⟨p5,0,none⟩) 1 1,.slice A8 4 c8] W:=by
     refine⟨rfl,fun i v l hv hl=>?_⟩;have hMI:Bys W W.heap.size (.slice (some ⟨p5,0,none⟩) 1 1) [(1:UInt8)]:=Bys.lit (l:=[(1:UInt8)]) f5 (by simp[maxLen]);rcases i with _|_|_|i
     ·simp at hv hl;subst hv;subst hl;exact(bZ.below hW).more hW.size
     ·simp at hv hl;subst hv;subst hl;exact hMI
     ·simp at hv hl;subst hv;subst hl;exact f8
     ·simp at hv
    refine YT (cs:=#[.slice A2 2 c2,.slice (some ⟨p5,0,none⟩) 1 1,.slice A8 4 c8]) ?_ hW.size rfl ?_
    ·go_simp
    ·exact vB.stable _ _ _ _ (zN _ _) hR
   simp only[Act.put,qg,qc,qf,qS,Qm,QH,zA,zB,zC];refine QA (YB w2.heap.size 7 vb) zA0 zA0 (fun W hW hp=>?_) (fun p10=>?_)
   ·obtain⟨_,cs,dD,aF,hR⟩:=(hp 9 zD).1;have hlen:[qB r 2,[(1:UInt8)],qB m 4].flatten.length=7:=by simp[l2.out,l4.out]
    refine QT ?_ ((kF (some ⟨p9,0,none⟩) 3 3 cs.toList [qB r 2,[1],qB m 4] (by simpa using dD) rfl W (Rd.row aF 3 dD) (fun i v l h1 h2=>hR.2 i v l h1 h2) zO zO).mono fun e w' h=>?_)
    ·go_simp
    rw[hlen] at h;obtain⟨p,h1,h2,h3⟩:=Xe h hW.size;have HB':=HB.out;simp only[if_false,if_true] at HB';rw[<-HB'] at h1 h2;exact⟨p,h1,h2,h3⟩
   obtain⟨A10,c10⟩:=p10;simp only[Act.put,qg,qc,qf,qS,Qm,QH,zA,zB,zC];repeat ((first|(refine qI ?_ zA0 zA0 (fun W hW _=>⟨W,?_,Ext.refl W⟩) ?_;rotate_left;(go_simp<;>with_reducible rfl))|(refine qV zA0 ?_));try simp only[Act.put,ql,qg,qc,qf,qS,Qm,QH,zA,zB,zC])
   refine Zg (hK _ _ fun W hW hF=>?_);obtain⟨f10,g10⟩:Bys W W.heap.size (.slice A10 7 c10) vb/\Zo w2.heap.size (.slice A10 7 c10):=(hF 10).1;clear hF hK hE;have b3:Ext w W:=b2.trans hW;have q3:=qb q2 hW;have kq:=qa q3;have fq:=qe q3;dsimp only[List.drop];go_wp2;have iY:w.heap.size+1<w2.heap.size:=s2;have aQ:=((((f10.setCell g10 (p:=⟨w.heap.size+1,0,none⟩) iY (.int .u8 1)).setCell g10 (p:=⟨w.heap.size+1,1,none⟩) iY (.int .u32 vi)).setCell g10 (p:=⟨w.heap.size+1,2,none⟩) iY (.int .u32 0)).setCell g10 (p:=⟨w.heap.size+1,3,none⟩) iY (.int .i64 0)).setCell g10 (p:=⟨w.heap.size+1,4,none⟩) iY (.slice A10 7 c10);have rf:=qi (qi (qi (qi (qi q3 0 (.int .u8 1)) 1 (.int .u32 vi)) 2 (.int .u32 0)) 3 (.int .i64 0)) 4 (.slice A10 7 c10);have b3':Below w.heap.size w W:=b3;have bf:Below w.heap.size w (((((W.setCell ⟨w.heap.size+1,0,none⟩ (.int .u8 1)).setCell ⟨w.heap.size+1,1,none⟩ (.int .u32 vi)).setCell ⟨w.heap.size+1,2,none⟩ (.int .u32 0)).setCell ⟨w.heap.size+1,3,none⟩ (.int .i64 0)).setCell ⟨w.heap.size+1,4,none⟩ (.slice A10 7 c10)):=zA4;have hsz:(((((W.setCell ⟨w.heap.size+1,0,none⟩ (.int .u8 1)).setCell ⟨w.heap.size+1,1,none⟩ (.int .u32 vi)).setCell ⟨w.heap.size+1,2,none⟩ (.int .u32 0)).setCell ⟨w.heap.size+1,3,none⟩ (.int .i64 0)).setCell ⟨w.heap.size+1,4,none⟩ (.slice A10 7 c10)).heap.size=W.heap.size:=zA2;generalize aY:(World.setCell (World.setCell (World.setCell (World.setCell (World.setCell W _ _) _ _) _ _) _ _) _ _)=wf at *;have kf:=qa rf;rw[<-hsz] at aQ;exact bodyPost_ret (v:=kJ 1 vi 0 0 A10 7 c10) (by simp[results,results55,go_sem,kf]) rfl ⟨_,rfl,⟨A10,c10,by rw[HL.out],by rw[HL.out];exact aQ,by rw[HL.out];exact g10.mono zO⟩,bf⟩
def qj:Rel where
 rel:=Ext
 refl':=Ext.refl
 trans':=Ext.trans
 drew':=Ext.drew
theorem QI {φ:World->Prop} (h:QV φ):qJ qj φ:=fun W W' he=>h W W' he
theorem jN {P:Program} {o:Oper} {a:Act} {W:World} {lo':Nat} {ty:TypeId} {cs:Array Value} (hr:(execOp a.eval o).run P W=.ok (.value (.pointer (some ⟨W.heap.size,0,none⟩))) (W.alloc (.cells cs ty))) (aP:lo'<=W.heap.size):QK qj P o a W (jS lo' ty cs):=by
 unfold QK;rw[hr];exact⟨W.heap.size,rfl,⟨zI _ _ _ rfl,aP⟩,zN _ _⟩
def KO (B:Nat) (ty:TypeId) (vs:Nat->Option Value):Rel where
 rel W W':=W.grownBy W' (some B)/\∀ cs,W.heap[B]?=some (.cells cs ty (0,0))->∃ cs',W'.heap[B]?=some (.cells cs' ty (0,0))/\cs'.size=cs.size/\∀ j,cs'[j]?=cs[j]?\/(vs j≠none/\cs'[j]?=vs j)
 refl' W:=⟨World.grownBy.refl _ _,fun cs h=>⟨cs,h,rfl,fun _=>.inl rfl⟩⟩
 trans' h k:=⟨h.1.trans k.1,fun cs hc=>by
  obtain⟨c1,h1,h2,h3⟩:=h.2 cs hc;obtain⟨c2,k1,k2,k3⟩:=k.2 c1 h1;refine⟨c2,k1,k2.trans h2,fun j=>?_⟩;rcases k3 j with e|e
  ·rw[e];exact h3 j
  ·exact .inr e⟩
 drew' W:=⟨⟨rfl,rfl,rfl,zM _,fun _ _ _=>rfl⟩,fun cs h=>⟨cs,h,rfl,fun _=>.inl rfl⟩⟩
section
variable {B:Nat} {ty:TypeId} {vs:Nat->Option Value}
theorem TH {W W':World} (h:(KO B ty vs).r W W') {p:Addr} {u:Value} (hp:p.block≠B) (hc:W.cell? p=some u):W'.cell? p=some u:=
 World.grownBy.cell h.1 hc (fun x=>hp (by simpa using x))
theorem qeZ {W W':World} (h:(KO B ty vs).r W W') {b:Nat} {o:Obj} (hp:b≠B) (hc:W.heap[b]?=some o):W'.heap[b]?=some o:=
 (h.1.block b (zG.1 hc).1 (fun x=>hp (by simpa using x))).trans hc
theorem qfa {W:World} {cs:Array Value} {j:Nat} {v:Value} (h:W.heap[B]?=some (.cells cs ty (0,0))) (hv:vs j=some v) (hj:j<cs.size) : (KO B ty vs).r W (W.setCell ⟨B,j,none⟩ v)/\(W.setCell ⟨B,j,none⟩ v).cell? ⟨B,j,none⟩=some v:=by
 have hr:=qi h j v;refine⟨⟨⟨rfl,rfl,rfl,zA2,fun k _ hk=>zJ _ _ _ _ (fun e=>hk (by simp at e;rw[e]))⟩,fun cs' hc=>?_⟩,?_⟩
 ·rw[h] at hc;simp only[Option.some.injEq,Obj.cells.injEq,and_true] at hc;subst hc;refine⟨_,hr,zA2,fun k=>?_⟩;by_cases hk:j=k
  ·subst hk;exact .inr ⟨by rw[hv];simp,by rw[hv];simp[hj]⟩
  ·exact .inl (by simp[hk])
 ·rw[qa hr];simp[hj]
end
def Yi (B:Nat) (ty:TypeId) (j:Nat) (v:Value):Qa:=⟨Unit,fun _=>undef,fun _ W=>∃ cs,W.heap[B]?=some (.cells cs ty (0,0))/\cs[j]?=some v⟩
theorem js (B:Nat) (ty:TypeId) (j:Nat) (v:Value) (u:Unit):(Yi B ty j v).f u=undef:=rfl
theorem Kd {B:Nat} {ty:TypeId} {vs:Nat->Option Value} {j:Nat} {v:Value} (hv:vs j=some v):∀ p,qJ (KO B ty vs) ((Yi B ty j v).φ p):=by
 intro p W W' he ⟨cs,h1,h2⟩;obtain⟨c',k1,_,k3⟩:=he.2 cs h1;refine⟨c',k1,?_⟩;rcases k3 j with e|e
 ·rw[e];exact h2
 ·rw[e.2];exact hv
theorem Tp {P:Program} {o:Oper} {a:Act} {w W:World} {B:Nat} {ty:TypeId} {vs:Nat->Option Value} {j:Nat} {v:Value} {cs:Array Value} (h0:w.heap[B]?=some (.cells cs ty (0,0))) (hW:(KO B ty vs).r w W) (hv:vs j=some v) (hj:j<cs.size) (hr:(∀ i,W.frozen? ⟨B,i,none⟩=false)->(∃ u,W.cell? ⟨B,j,none⟩=some u)->(execOp a.eval o).run P W=.ok .skip (W.setCell ⟨B,j,none⟩ v)):QK (KO B ty vs) P o a W (Yi B ty j v):=by
 obtain⟨c',k1,k2,k3⟩:=hW.2 cs h0;obtain⟨g1,g2⟩:=qfa (vs:=vs) k1 hv zO;refine Vi (hr (qe k1) ⟨_,by rw[qa k1,Array.getElem?_eq_getElem zO]⟩) ⟨(),rfl,?_,g1⟩;exact⟨_,qi k1 j v,by rw[Array.getElem?_setIfInBounds];simp[k2,hj]⟩
section
variable {B:Nat} {ty:TypeId} {cs:Array Value}
end
def outRowB (B:Nat) (ty:TypeId) (cs:Array Value):Qa:=⟨Unit,fun _=>undef,fun _ W=>W.heap[B]?=some (.cells cs ty (0,0))⟩
theorem Ge (B:Nat) (ty:TypeId) (cs:Array Value) (u:Unit):(outRowB B ty cs).f u=undef:=rfl
theorem QB {w:World} {b j:Nat} {v:Value}:w.grownBy (w.setCell ⟨b,j,none⟩ v) (some b):=⟨rfl,rfl,rfl,zA2,fun k _ hk=>zJ _ _ _ _ (fun e=>hk (by simp at e;rw[e]))⟩
def qdc (lo:Nat) (k i o r:Int) (n:Nat) (l:List UInt8):Qa:=⟨Option Addr×Nat,fun p=>.agg #[.int .u8 k,.int .u32 i,.int .u32 o,.int .i64 r,.slice p.1 n p.2],fun p W=>Bys W W.heap.size (.slice p.1 n p.2) l/\Zo lo (.slice p.1 n p.2)⟩
theorem ZD (lo:Nat) (k i o r:Int) (n:Nat) (l:List UInt8) (A:Option Addr) (c:Nat):(qdc lo k i o r n l).f (A,c)=.agg #[.int .u8 k,.int .u32 i,.int .u32 o,.int .i64 r,.slice A n c]:=rfl
theorem Qp {w:World} {b j:Nat} {v:Value} {cs:Array Value} {ty:TypeId} (h:w.heap[b]?=some (.cells cs ty (0,0))) (hv:cs[j]?=some v):Ext w (w.setCell ⟨b,j,none⟩ v):=by
 refine⟨rfl,rfl,rfl,zA2,fun k _=>?_⟩;by_cases hk:k=b
 ·subst hk;rw[qi h j v,h];obtain⟨hj,e⟩:=zG.1 hv;have:cs.setIfInBounds j v=cs:=by
   apply Array.ext_getElem?;intro i;rw[Array.getElem?_setIfInBounds];split
   ·rename_i hi;rw[<-hi];simp[hj,e]
   ·rfl
  rw[this]
 ·exact zJ _ _ _ _ hk
def VolP (x:It) (u:Value) (_:World):Prop:=∃ v',u=.tuple #[jB v',.bool (VB x)]/\(VB x=true->v'=jg x)
theorem GH {x:It} (h:x.val.length<7):VB x=false:=by unfold VB;rw[decide_eq_false zO];rfl
theorem qhp {x:It} (h:7<=x.val.length):VB x=Yv 1 x.i 0 0 x.k x.i x.o x.r (Qk (jg x)) x.val:=by
 unfold VB;by_cases h7:x.val.length=7
 ·rw[decide_eq_true h7,Bool.true_and]
 ·rw[decide_eq_false h7,Bool.false_and]
  symm
  unfold Yv;rw[decide_eq_false];rintro ⟨_,_,_,_,e⟩;have:=congrArg List.length e;rw[JV] at this;omega
theorem qgx {x:It} (hx:Zm x) (h:7<=x.val.length):vD (jg x):=by have r0:=vM (l:=x.val) (a:=0) (k:=2) zO;have r3:=vM (l:=x.val) (a:=3) (k:=4) zO;exact⟨hx.2.1,⟨r0.1,r0.2⟩,⟨r3.1,r3.2⟩⟩
set_option maxRecDepth 100000 in
theorem qio (x:It) (hx:Zm x) (A:Option Addr) (c:Nat) (w:World) (h:Bys w w.heap.size (.slice A x.val.length c) x.val):Calls prog 135 #[kJ x.k x.i x.o x.r A x.val.length c] w (Za (VolP x) w):=by
 have H2:∀ W,Ext w W->_:=fun W hW=>qaZ _ x.val 0 zO W ((h.below hW).more hW.size);have H4:∀ W,Ext w W->_:=fun W hW=>kH _ x.val 3 zO W ((h.below hW).more hW.size);replace H2:=zH H2;replace H4:=zH H4;have HV:=zH h;have hcat:=h.at_;clear h;have aC:∀ j,(hj:j<x.val.length)->∃ b off,A=some ⟨b,off,none⟩/\w.cell? ⟨b,off+j,none⟩=some (.int .u8 (x.val[j].toNat:Int)):=by intro j hj;obtain⟨A',c',e,_,_,hr⟩:=HV.out;cases e;obtain⟨b,off,rfl,hb,hc⟩:=hr.2 zO;exact⟨b,off,rfl,hc j _ (by rw[List.getElem?_map,zL hj];rfl)⟩
 replace aC:=zH aC;have HN2:Hid (Tu x.val 0 2=if 2<=x.val.length then 0 else 8):=zH (by unfold Tu;rw[Nat.zero_add]);have HN4:Hid (Tu x.val 3 4=if 7<=x.val.length then 0 else 8):=zH (by unfold Tu;rfl);have HVA:Hid (jg x=⟨x.i,Zk x.val 0 2,decide ((x.val[2]?.getD 0).toNat=1),Zk x.val 3 4⟩):=rfl;have HP0:Hid (x.val.length<7->∀ W,VolP x (.tuple #[jB ⟨0,0,false,0⟩,.bool false]) W):=zH (fun h W=>⟨_,by rw[GH h],fun h'=>by rw[GH h] at h';cases h'⟩);have HP1:Hid (7<=x.val.length->∀ W,VolP x (.tuple #[jB (jg x),.bool (Yv 1 x.i 0 0 x.k x.i x.o x.r (Qk (jg x)) x.val)]) W):=zH (fun h W=>⟨_,by rw[qhp h],fun _=>rfl⟩);have HON:=zH (fun h=>qiW (jg x) (qgx hx h));replace hx:=zH hx;generalize hva:jg x=va at *;replace hva:=zH hva;generalize Zk x.val 0 2=n2 at *;generalize Zk x.val 3 4=n4 at *;generalize Tu x.val 0 2=e2 at *;generalize Tu x.val 3 4=e4 at *;go_enter func135,ntmps135;go_wp2_with fail;generalize aA:(World.alloc (World.alloc _ _) _)=w1;have b1:Ext w w1:=by rw[<-aA];exact(zN _ _).trans (zN _ _)
 have r1:w1.heap[w.heap.size]?=some (.cells #[.int .u8 x.k,.int .u32 x.i,.int .u32 x.o,.int .i64 x.r,.slice A x.val.length c] 68 (0,0)):=by rw[<-aA];exact(zK _ _ _ zA2).trans (zI _ _ _ rfl)
 have q1:w1.heap[w.heap.size+1]?=some (.cells #[.int .u32 x.i,.int .i64 0,.bool false,.int .u32 0] 40 (0,0)):=by rw[<-aA];exact zI _ _ _ zA2
 clear aA;refine(H2.out _ b1).mono ?_;rintro e w2 ⟨rfl,hB⟩;have b2:Ext w w2:=Ext.trans b1 hB;have r2:=qb r1 hB;have q2:=qb q1 hB;have k2:=qa r2;clear hB b1 r1 q1 H2;go_wp2_with fail;clear k2;refine(H4.out _ b2).mono ?_;rintro e w3 ⟨rfl,hB⟩;have b3:Ext w w3:=Ext.trans b2 hB;have r3:=qb r2 hB;have q3:=qb q2 hB;have s3:w.heap.size+1<w3.heap.size:=(zG.1 q3).1;have k3:=qa r3;have kq3:=qa q3;have fq3:=qe q3;clear hB b2 r2 q2 H4;by_cases h7:7<=x.val.length
 ·obtain rfl:e2=0:=by rw[HN2.out,if_pos zO]
  obtain rfl:e4=0:=by rw[HN4.out,if_pos h7]
  obtain⟨b,off,rfl,bP⟩:=aC.out 2 zO;have e2':(x.val[2]?.getD 0).toNat=x.val[2].toNat:=by rw[zL zO];rfl
  rw[e2'] at HVA;clear HN2 HN4 HP0 aC e2';generalize x.val[2].toNat=p2 at *;go_wp2;obtain⟨RR,bK⟩:∃ RR:Rel,RR=KO (w.heap.size+1) 40 (fun j=>if j=1 then some (.int .i64 n2) else if j=2 then some (.bool (decide (p2=1))) else if j=3 then some (.int .u32 n4) else none):=⟨_,rfl⟩
  replace bK:=zH bK;have g1:∀ W,RR.r w3 W->W.cell? ⟨w.heap.size,4,none⟩=some (.slice (some ⟨b,off,none⟩) x.val.length c):=fun W h=>TH (bK.out ▸ h) zA2 (by rw[k3];rfl);have hbw:b≠w.heap.size+1:=by have:=World.block_lt_of_cell? w _ bP;simp at this;omega
  have g2:∀ W,RR.r w3 W->W.cell? ⟨b,off+2,none⟩=some (.int .u8 (p2:Int)):=fun W h=>TH (bK.out ▸ h) hbw (Ext.cell b3 bP);have yx:((p2:Int) == 1)=decide (p2=1):=by rw[Bool.eq_iff_iff];simp;omega
  have i2:(2:Int)<(x.val.length:Int):=zO;refine qp zQ ?_;refine ZH (w:=w3) RR (qH [(8,Yi (w.heap.size+1) 40 1 (.int .i64 n2)),(10,Yi (w.heap.size+1) 40 2 (.bool (decide (p2=1)))),(12,Yi (w.heap.size+1) 40 3 (.int .u32 n4))])
   [true,true,true,true,true,true,true,true,true,true,true,true,true] 0 zQ zQ zQ zQ zQ zQ ?st (Rel.drew _ _) ?walk
  case st=>rw[bK.out];exact qk (by simp only[List.forall_mem_cons];exact⟨Kd rfl,Kd rfl,Kd rfl,fun _ h=>by cases h⟩)
  case walk =>
   intro K hK;dsimp only[qt];repeat ((first|(refine qd ?_ zA0 zA0 (fun W hW _=>⟨W,?_,Rel.refl _ W⟩) ?_;rotate_left;(go_simp<;>with_reducible rfl))|(refine qh zA0 ?_));try simp only[Act.put,ql,qg,qc,qf,js,zA,zB,zC])
   refine qw (Yi (w.heap.size+1) 40 1 (.int .i64 n2)) zA0 zA0 (fun W hW _=>?_) (fun p=>?_)
   ·rw[bK.out] at hW ⊢;refine Tp (j:=1) q3 hW rfl zA2 (fun hf hu=>?_);obtain⟨u,hu⟩:=hu;go_simp
   cases p;simp only[Act.put,qg,qc,qf,js,zA,zB,zC];repeat ((first|(refine qd ?_ zA0 zA0 (fun W hW _=>⟨W,?_,Rel.refl _ W⟩) ?_;rotate_left;(go_simp<;>with_reducible rfl))|(refine qh zA0 ?_));try simp only[Act.put,ql,qg,qc,qf,js,zA,zB,zC])
   refine qw (Yi (w.heap.size+1) 40 2 (.bool (decide (p2=1)))) zA0 zA0 (fun W hW _=>?_) (fun p=>?_)
   ·rw[bK.out] at hW ⊢;refine Tp (j:=2) q3 hW rfl zA2 (fun hf hu=>?_);obtain⟨u,hu⟩:=hu;go_simp
   cases p;simp only[Act.put,qg,qc,qf,js,zA,zB,zC];repeat ((first|(refine qd ?_ zA0 zA0 (fun W hW _=>⟨W,?_,Rel.refl _ W⟩) ?_;rotate_left;(go_simp<;>with_reducible rfl))|(refine qh zA0 ?_));try simp only[Act.put,ql,qg,qc,qf,js,zA,zB,zC])
   refine qw (Yi (w.heap.size+1) 40 3 (.int .u32 n4)) zA0 zA0 (fun W hW _=>?_) (fun p=>?_)
   ·rw[bK.out] at hW ⊢;refine Tp (j:=3) q3 hW rfl zA2 (fun hf hu=>?_);obtain⟨u,hu⟩:=hu;go_simp
   cases p;simp only[Act.put,qg,qc,qf,js,zA,zB,zC];repeat ((first|(refine qd ?_ zA0 zA0 (fun W hW _=>⟨W,?_,Rel.refl _ W⟩) ?_;rotate_left;(go_simp<;>with_reducible rfl))|(refine qh zA0 ?_));try simp only[Act.put,ql,qg,qc,qf,js,zA,zB,zC])
   refine qv (hK _ _ fun W0 hW hF=>?_);have f1:=(hF 8).1;have f2:=(hF 10).1;have f3:=(hF 12).1;clear hF hK g1 g2;rw[bK.out] at hW;have r4:=qeZ hW zA2 r3;obtain⟨cs,q4,dD,hcv⟩:=hW.2 _ q3;obtain rfl:cs=#[.int .u32 x.i,.int .i64 n2,.bool (decide (p2=1)),.int .u32 n4]:=by
    have e0:=hcv 0;simp at e0;obtain⟨c1,h1,h1'⟩:=f1;obtain⟨c2,h2,h2'⟩:=f2;obtain⟨c3,h3,h3'⟩:=f3;rw[q4] at h1 h2 h3;simp only[Option.some.injEq,Obj.cells.injEq,and_true] at h1 h2 h3;subst h1;subst h2;apply Array.ext_getElem?;intro j;rcases j with _|_|_|_|j
    ·rw[e0];rfl
    ·exact h1'
    ·exact h2'
    ·rw[<-h3] at h3';exact h3'
    ·rw[Array.getElem?_eq_none (by rw[dD];simp),Array.getElem?_eq_none zA2]
   have bW:Below w.heap.size w W0:=Below.trans b3 ((Below.refl _ _).grown hW.1 zO (fun g hg=>by simp at hg;omega));refine zB5 ?_;go_wp2;refine Qo ?_;go_wp2;have HO:=zH (HON.out h7);have HP:=HP1.out h7;have hvbl:=JV va;have hvx:=(HV.out.below bW).more bW.size;have ea:=HVA.out;clear HON HP1 HVA hva HV;subst ea;dsimp only at HO HP;generalize Qk _=vb at *;replace HO:=zH HO.out;have HSM:=zH (fun A c W (hA:Bys W W.heap.size (.slice A 7 c) vb) (hW2:Ext W0 W)=>qcR 1 x.i 0 0 x.k x.i x.o x.r A (some ⟨b,off,none⟩) 7 c x.val.length _ vb x.val W hA ((hvx.below hW2).more hW2.size));generalize Yv 1 x.i 0 0 x.k x.i x.o x.r vb x.val=S at *;have hr5:∀ W',Ext W0 W'->∀ j,W'.cell? ⟨w.heap.size,j,none⟩=#[.int .u8 x.k,.int .u32 x.i,.int .u32 x.o,.int .i64 x.r,.slice (some ⟨b,off,none⟩) x.val.length c][j]?:=fun W' h=>qa (qb r4 h);have hq5:∀ W',Ext W0 W'->∀ j,W'.cell? ⟨w.heap.size+1,j,none⟩=#[.int .u32 x.i,.int .i64 n2,.bool (decide (p2=1)),.int .u32 n4][j]?:=fun W' h=>qa (qb q4 h);replace HP:=zH HP;generalize hdp:decide (p2=1)=fz at *;clear hdp;refine qp zQ ?_;refine ZH (w:=W0) qj (qH [(2,outI 1 x.i 0 0 7 vb),(4,one (.bool S)),(5,one undef)])
    [true,true,true,true,true,true] 1 zQ zQ zQ zQ zQ zQ ?st (Rel.drew _ _) ?walk
   case st=>exact qk (by simp only[List.forall_mem_cons];exact⟨fun p=>QI (qfV _ _ _ _ _ _ p),fun p=>QI (Zn _ p),fun p=>QI (Zn _ p),fun _ h=>by cases h⟩)
   case walk =>
    intro K hK;dsimp only[qt];have hr6:∀ W',qj.r W0 W'->∀ j,W'.cell? ⟨w.heap.size,j,none⟩=#[.int .u8 x.k,.int .u32 x.i,.int .u32 x.o,.int .i64 x.r,.slice (some ⟨b,off,none⟩) x.val.length c][j]?:=hr5;have hq6:∀ W',qj.r W0 W'->∀ j,W'.cell? ⟨w.heap.size+1,j,none⟩=#[.int .u32 x.i,.int .i64 n2,.bool fz,.int .u32 n4][j]?:=hq5;repeat ((first|(refine qd ?_ zA0 zA0 (fun W hW _=>⟨W,?_,Rel.refl _ W⟩) ?_;rotate_left;(go_simp<;>with_reducible rfl))|(refine qh zA0 ?_));try simp only[Act.put,ql,qg,qc,qf,js,zA,zB,zC])
    refine qw (outI 1 x.i 0 0 7 vb) zA0 zA0 (fun W hW _=>?_) (fun p=>?_)
    ·refine Qi ?_ ((HO.out W).mono fun e w' h=>?_)
     ·go_simp
     ·obtain⟨u,rfl,⟨A,c,rfl,h1,h2⟩,h3⟩:=h;rw[hvbl] at h1 ⊢;exact⟨(A,c),rfl,h1,h3⟩
    obtain⟨A2,c2⟩:=p;simp only[Act.put,qg,qc,qf,js,zA,zB,zC];repeat ((first|(refine qd ?_ zA0 zA0 (fun W hW _=>⟨W,?_,Rel.refl _ W⟩) ?_;rotate_left;(go_simp<;>with_reducible rfl))|(refine qh zA0 ?_));try simp only[Act.put,ql,qg,qc,qf,js,zA,zB,zC])
    refine qw (one (.bool S)) zA0 zA0 (fun W hW hp=>?_) (fun p=>?_)
    ·have f2:Bys W W.heap.size (.slice A2 7 c2) vb:=(hp 2 zD).1;refine Qi ?_ ((HSM.out A2 c2 W f2 hW).mono fun e w' h=>⟨(),h.1,trivial,h.2⟩);go_simp
    cases p;simp only[Act.put,ql,qc,qf,js,zA,zB,zC];refine qw (one undef) zA0 zA0 (fun W hW hp=>?_) (fun p=>?_)
    ·have q5:=qb q4 hW;have f5:=qe q5;have e0:=Qp q5 (j:=0) rfl;have e1:=Qp (qb q5 e0) (j:=1) rfl;have e2:=Qp (qb (qb q5 e0) e1) (j:=2) rfl;have e3:=Qp (qb (qb (qb q5 e0) e1) e2) (j:=3) rfl;refine Vi (w':=(((W.setCell ⟨w.heap.size+1,0,none⟩ (.int .u32 x.i)).setCell ⟨w.heap.size+1,1,none⟩ (.int .i64 n2)).setCell ⟨w.heap.size+1,2,none⟩ (.bool fz)).setCell ⟨w.heap.size+1,3,none⟩ (.int .u32 n4)) ?_ ⟨(),rfl,trivial,e0.trans (e1.trans (e2.trans e3))⟩;go_simp
    cases p;simp only[Act.put,qg,qc,qf,js,zA,zB,zC];refine qv (hK _ _ fun W hW hF=>?_);clear hF hK hr6 hq6 hr5 hq5;have ak:Ext W0 W:=hW;have q5:=qb q4 ak;have k5:=qa q5;refine zB5 ?_;go_wp2;refine Qo ?_;go_wp2;exact bodyPost_ret (v:=.tuple #[jB ⟨x.i,n2,fz,n4⟩,.bool S]) (by simp[results,results135,go_sem,k5]) rfl ⟨_,rfl,HP.out W,Below.trans bW (Below.mono ak (by have:=bW.size;omega))⟩
 ·have h4:e4=8:=by rw[HN4.out,if_neg h7]
  have h2:e2=0\/e2=8:=by rw[HN2.out];split <;> simp
  have hp:=HP0.out zO;replace hp:=zH hp;subst h4;clear HN2 HN4 HP0 HP1 HON aC HVA;have b3':Below w.heap.size w w3:=b3;rcases h2 with rfl|rfl
  ·go_wp2;have rf:=qi (qi (qi (qi q3 0 (.int .u32 0)) 1 (.int .i64 0)) 2 (.bool false)) 3 (.int .u32 0);have bf:Below w.heap.size w ((((w3.setCell ⟨w.heap.size+1,0,none⟩ (.int .u32 0)).setCell ⟨w.heap.size+1,1,none⟩ (.int .i64 0)).setCell ⟨w.heap.size+1,2,none⟩ (.bool false)).setCell ⟨w.heap.size+1,3,none⟩ (.int .u32 0)):=zA4;generalize aY:(World.setCell (World.setCell (World.setCell (World.setCell w3 _ _) _ _) _ _) _ _)=wf at *;have kf:=qa rf;exact bodyPost_ret (v:=.tuple #[jB ⟨0,0,false,0⟩,.bool false]) (by simp[results,results135,go_sem,kf]) rfl ⟨_,rfl,hp.out wf,bf⟩
  ·go_wp2;have rf:=qi (qi (qi (qi q3 0 (.int .u32 0)) 1 (.int .i64 0)) 2 (.bool false)) 3 (.int .u32 0);have bf:Below w.heap.size w ((((w3.setCell ⟨w.heap.size+1,0,none⟩ (.int .u32 0)).setCell ⟨w.heap.size+1,1,none⟩ (.int .i64 0)).setCell ⟨w.heap.size+1,2,none⟩ (.bool false)).setCell ⟨w.heap.size+1,3,none⟩ (.int .u32 0)):=zA4;generalize aY:(World.setCell (World.setCell (World.setCell (World.setCell w3 _ _) _ _) _ _) _ _)=wf at *;have kf:=qa rf;exact bodyPost_ret (v:=.tuple #[jB ⟨0,0,false,0⟩,.bool false]) (by simp[results,results135,go_sem,kf]) rfl ⟨_,rfl,hp.out wf,bf⟩
def Um (base:Nat) (e:TypeId) (size lo:Nat) (v:Value) (m:Nat) (ys:List Value):Qa:=⟨Option Addr×Nat,fun p=>.slice p.1 m p.2,fun p W=>Done base e size lo v m ys (.slice p.1 m p.2) W⟩
theorem Jv (base:Nat) (e:TypeId) (size lo:Nat) (v:Value) (m:Nat) (ys:List Value) (A:Option Addr) (c:Nat):(Um base e size lo v m ys).f (A,c)=.slice A m c:=rfl
theorem qao {base:Nat} {e:TypeId} {size lo:Nat} {v:Value} {n:Nat} {xs:List Value} {m:Nat} {ys:List Value}:∀ p,qJ (kX base e size lo v n xs m ys) ((Um base e size lo v m ys).φ p):=fun p _ _ he h=>he.2.2 _ h

def Bls (w:World) (B:Nat) (v:Value) (bs:List (List UInt8)):Prop:=
 ∃ vs A c,v=.slice A bs.length c/\bs.length<=c/\c<=maxLen/\Rd w B 1 A bs.length vs/\∀ (i:Nat) (u:Value) (l:List UInt8),vs[i]?=some u->bs[i]?=some l->Bys w B u l
theorem Bls.below {w w':World} {B:Nat} {v:Value} {bs:List (List UInt8)} (h:Bls w B v bs) (hb:Below B w w'):Bls w' B v bs:=by obtain⟨vs,A,c,e,h1,h2,h3,h4⟩:=h;exact⟨vs,A,c,e,h1,h2,h3.below hb,fun i u l hu hl=>(h4 i u l hu hl).below hb⟩
theorem Bls.more {w:World} {B B':Nat} {v:Value} {bs:List (List UInt8)} (h:Bls w B v bs) (hb:B<=B'):Bls w B' v bs:=by obtain⟨vs,A,c,e,h1,h2,h3,h4⟩:=h;exact⟨vs,A,c,e,h1,h2,h3.more hb,fun i u l hu hl=>(h4 i u l hu hl).more hb⟩
theorem Bls.at_ {w:World} {B:Nat} {A:Option Addr} {n c:Nat} {bs:List (List UInt8)} (h:Bls w B (.slice A n c) bs):n=bs.length/\n<=c/\c<=maxLen/\(0<n->∃ b off,A=some ⟨b,off,none⟩/\b<B):=by obtain⟨vs,A',c',e,h1,h2,h3,_⟩:=h;cases e;refine⟨rfl,h1,h2,fun hn=>?_⟩;obtain⟨b,off,e,hb,_⟩:=h3.2 hn;exact⟨b,off,e,hb⟩
theorem Bls.get {w:World} {B b off n c:Nat} {bs:List (List UInt8)} (h:Bls w B (.slice (some ⟨b,off,none⟩) n c) bs) (i:Nat) (hi:i<bs.length):∃ A' c',w.cell? ⟨b,off+i,none⟩=some (.slice A' bs[i].length c')/\Bys w B (.slice A' bs[i].length c') bs[i]:=by
 obtain⟨vs,A',c',e,h1,h2,h3,h4⟩:=h;cases e;have hv:i<vs.length:=by rw[h3.len1];exact hi
 obtain⟨b',off',e,hb,hc⟩:=h3.2 zO;cases e;have aQ:=h4 i vs[i] bs[i] (zL hv) (zL hi);obtain⟨A2,c2,e2,g1,g2,g3⟩:=aQ;exact⟨A2,c2,by rw[<-e2];exact hc i _ (zL hv),A2,c2,rfl,g1,g2,g3⟩
def ZT:List ((Int×List UInt8)×Value)->List Value
 | []=>[]
 |p :: r=>.int .i64 p.1.1 :: p.2 :: ZT r
theorem KP (ps:List ((Int×List UInt8)×Value)):(ZT ps).length=ps.length*2:=by
 induction ps with
 |nil=>rfl
 |cons p r ih=>simp[ZT,ih];omega
theorem Kp (ps:List ((Int×List UInt8)×Value)):∀ i (h:i<ps.length),(ZT ps)[i*2]?=some (.int .i64 ps[i].1.1)/\(ZT ps)[i*2+1]?=some ps[i].2:=by
 induction ps with
 |nil=>intro i h;simp at h
 |cons p r ih =>
  intro i h;rcases i with _|i
  ·simp[ZT]
  ·have:=ih i (by simpa using h);rw[show (i+1)*2=i*2+2 by omega];simpa [ZT] using this
def Wrs (w:World) (B:Nat) (v:Value) (ws:List (Int×List UInt8)):Prop:=
 ∃ ps:List ((Int×List UInt8)×Value),ps.map (·.1)=ws/\(∃ A c,v=.slice A ws.length c/\ws.length<=c/\c<=maxLen/\Rd w B 2 A ws.length (ZT ps))/\∀ p∈ps,(∃ A c,p.2=.slice A p.1.2.length c)/\Bys w B p.2 p.1.2
theorem Wrs.below {w w':World} {B:Nat} {v:Value} {ws:List (Int×List UInt8)} (h:Wrs w B v ws) (hb:Below B w w'):Wrs w' B v ws:=by obtain⟨ps,e,⟨A,c,e1,e2,e3,hr⟩,hp⟩:=h;exact⟨ps,e,⟨A,c,e1,e2,e3,hr.below hb⟩,fun p h=>⟨(hp p h).1,(hp p h).2.below hb⟩⟩
theorem Wrs.more {w:World} {B B':Nat} {v:Value} {ws:List (Int×List UInt8)} (h:Wrs w B v ws) (hb:B<=B'):Wrs w B' v ws:=by obtain⟨ps,e,⟨A,c,e1,e2,e3,hr⟩,hp⟩:=h;exact⟨ps,e,⟨A,c,e1,e2,e3,hr.more hb⟩,fun p h=>⟨(hp p h).1,(hp p h).2.more hb⟩⟩
theorem Wrs.at_ {w:World} {B:Nat} {A:Option Addr} {n c:Nat} {ws:List (Int×List UInt8)} (h:Wrs w B (.slice A n c) ws):n=ws.length/\n<=c/\c<=maxLen/\(0<n->∃ b off,A=some ⟨b,off,none⟩/\b<B):=by obtain⟨ps,e,⟨A',c',e1,e2,e3,hr⟩,hp⟩:=h;cases e1;refine⟨rfl,e2,e3,fun hn=>?_⟩;obtain⟨b,off,e,hb,_⟩:=hr.2 hn;exact⟨b,off,e,hb⟩
theorem Wrs.get {w:World} {B b off n c:Nat} {ws:List (Int×List UInt8)} (h:Wrs w B (.slice (some ⟨b,off,none⟩) n c) ws) (i:Nat) (hi:i<ws.length):∃ A' c',w.cell? ⟨b,off+i*2,none⟩=some (.int .i64 ws[i].1)/\w.cell? ⟨b,off+i*2+1,none⟩=some (.slice A' ws[i].2.length c')/\Bys w B (.slice A' ws[i].2.length c') ws[i].2:=by
 obtain⟨ps,e,⟨A,c',e1,e2,e3,hr⟩,hp⟩:=h;cases e1;subst e;have fV:i<ps.length:=by simpa using hi
 obtain⟨b',off',e,hb,hc⟩:=hr.2 zO;cases e;obtain⟨c0,c1⟩:=Kp ps i fV;obtain⟨⟨A',c',e5⟩,aQ⟩:=hp ps[i] (List.getElem_mem fV);rw[e5] at c1 aQ;refine⟨A',c',?_⟩;simp only[List.getElem_map];exact⟨hc _ _ c0,by rw[Nat.add_assoc];exact hc _ _ c1,aQ⟩
def Gw (l:List UInt8):Bool:=decide (l.length=128)
def wrOk (x:Int×List UInt8):Bool:=decide (0<=x.1/\x.1<256/\x.2.length=128)
def headD (n m:Nat):Bool:=decide (n=256/\m<=4096)
def jD (bs:List (List UInt8)) (ws:List (Int×List UInt8)):Bool:=headD bs.length ws.length && (bs.all Gw && ws.all wrOk)
theorem qeO {α:Type} (f:α->Bool) (l:List α) (k:Nat) (h:k<l.length):(l.take (k+1)).all f=((l.take k).all f && f l[k]):=by rw[List.take_succ_eq_append_getElem h,List.all_append];simp only[List.all_cons,List.all_nil,Bool.and_true]
theorem qiz {α:Type} {f:α->Bool} {l:List α} {k:Nat} (h:k<l.length) (hf:f l[k]=false):l.all f=false:=by rw[List.all_eq_false];exact⟨_,List.getElem_mem h,by simp[hf]⟩
abbrev YN (A1:Option Addr) (n1 c1:Nat) (A2:Option Addr) (n2 c2:Nat):Value:=.agg #[.slice A1 n1 c1,.slice A2 n2 c2]
theorem qgX (A1:Option Addr) (n1 c1:Nat) (A2:Option Addr) (n2 c2:Nat) (bs:List (List UInt8)) (ws:List (Int×List UInt8)) (w:World) (hb:Bls w w.heap.size (.slice A1 n1 c1) bs) (hw:Wrs w w.heap.size (.slice A2 n2 c2) ws):Calls prog 119 #[YN A1 n1 c1 A2 n2 c2] w (Ret (.int .i64 (JA (jD bs ws))) w):=by
 obtain⟨e1,dV,hm1,hA1⟩:=hb.at_;obtain⟨e2,bP,lJ,yM⟩:=hw.at_;subst e1;subst e2;by_cases hh:headD bs.length ws.length=true
 case neg =>
  have hM:jD bs ws=false:=by unfold jD;rw[show headD bs.length ws.length=false by simpa using hh];rfl
  rw[hM];have hh':¬(bs.length=256/\ws.length<=4096):=by simpa [headD] using hh
  clear hM hb hw hA1 yM hh;generalize bs.length=n1 at *;generalize ws.length=n2 at *;go_enter func119,ntmps119;go_wp2;all_goals try simp only[beq_iff_eq,beq_eq_false_iff_ne,ne_eq,bne_iff_ne,bne_eq_false_iff_eq] at *
  all_goals first|(exfalso;omega)|skip
  all_goals go_ret
  all_goals exact⟨rfl,zA4⟩
 case pos =>
  have hM:jD bs ws=(bs.all Gw && ws.all wrOk):=by unfold jD;rw[hh];rfl
  have hh':bs.length=256/\ws.length<=4096:=by simpa [headD] using hh
  obtain⟨oD,hn2⟩:=hh';rw[hM];clear hM hh;have HB:=zH hb;have HW:=zH hw;have HTB:=zH (qeO Gw bs);have HTW:=zH (qeO wrOk ws);have HBB:=zH (fun k h=>@qiz _ Gw bs k h);have HBW:=zH (fun k h=>@qiz _ wrOk ws k h);have HE1:Hid (bs.take bs.length=bs):=zH (List.take_length);have HE2:Hid (ws.take ws.length=ws):=zH (List.take_length);obtain⟨b1,o1,rfl,bU⟩:=hA1 zO;clear hb hw hA1;have hsm:bs.length<1000:=zO;replace oD:=zH oD;have hd1:((bs.length:Int) != 256)=false:=by rw[bne_eq_false_iff_eq,oD.out];rfl
  have hd2:decide ((ws.length:Int)>4096)=false:=decide_eq_false zO;go_enter func119,ntmps119;go_wp2;generalize aA:(World.alloc _ _)=w1;have x1:Ext w w1:=by rw[<-aA];exact zN _ _
  have r1:w1.heap[w.heap.size]?=some (.cells #[.slice (some ⟨b1,o1,none⟩) bs.length c1,.slice A2 ws.length c2] 25 (0,0)):=by rw[<-aA];exact zI _ _ _ rfl
  clear aA;go_loopw [20] (fun i wr=>∃ k:Nat,k<=bs.length/\i=.int .i64 (k:Int)/\(bs.take k).all Gw=true/\Ext w1 wr) (fun i _=>bs.length-(intOf i).toNat)
  case atStart=>exact⟨0,zO,rfl,rfl,Ext.refl _⟩
  case round =>
   obtain⟨k,hk,rfl,hok,hE⟩:=hrel;have hEw:=x1.trans hE;by_cases hlt:k<bs.length
   ·have aH:=hlt;obtain⟨A',c',hc,_⟩:=((HB.out.below hEw).more hEw.size).get k hlt;have ht:=HTB.out k hlt;have hbd:=HBB.out k hlt;rw[hok,Bool.true_and] at ht;replace ht:=zH ht;replace hbd:=zH hbd;have hbo:Gw bs[k]=decide (bs[k].length=128):=rfl;replace hbo:=zH hbo;generalize Gw bs[k]=q at *;generalize bs[k].length=m at *;by_cases hm:m=128
    ·obtain rfl:q=true:=by rw[hbo.out,decide_eq_true hm]
     subst hm;go_wp2;go_roundw
     case rel=>exact⟨k+1,zO,by go_num,ht.out,hE⟩
     case measure=>simp[intOf];omega
    ·obtain rfl:q=false:=by rw[hbo.out,decide_eq_false hm]
     have aG:((m:Int) != 128)=true:=by rw[bne_iff_ne];omega
     have hf:=hbd.out rfl;go_wp2;go_ret;exact⟨by first|rfl|(rw[hf];rfl),hEw⟩
   ·obtain rfl:k=bs.length:=zO;rw[HE1.out] at hok;rw[hok];have rr:=qb r1 hE;have kr:=qa rr;clear HB HTB HBB r1 hd1 hd2;go_wp2;clear kr;go_loopw [31] (fun i wq=>∃ k:Nat,k<=ws.length/\i=.int .i64 (k:Int)/\(ws.take k).all wrOk=true/\Ext wr wq) (fun i _=>ws.length-(intOf i).toNat)
    case atStart=>exact⟨0,zO,rfl,rfl,Ext.refl _⟩
    case round =>
     obtain⟨j,hj,rfl,xI,gQ⟩:=hrel;have hEq:=hEw.trans gQ;by_cases hlt2:j<ws.length
     ·have hUB:=hlt2;obtain⟨b2,o2,rfl,bZ⟩:=yM zO;obtain⟨A',c',hca,wH,_⟩:=((HW.out.below hEq).more hEq.size).get j hlt2;have ht:=HTW.out j hlt2;have hbd:=HBW.out j hlt2;rw[xI,Bool.true_and] at ht;replace ht:=zH ht;replace hbd:=zH hbd;have hbo:wrOk ws[j]=decide (0<=ws[j].1/\ws[j].1<256/\ws[j].2.length=128):=rfl;replace hbo:=zH hbo;generalize wrOk ws[j]=q at *;generalize ws[j].1=a at *;generalize ws[j].2.length=m at *;by_cases hm:0<=a/\a<256/\m=128
      ·obtain rfl:q=true:=by rw[hbo.out,decide_eq_true hm]
       obtain⟨ha1,aj,rfl⟩:=hm;have hda:decide (a<0)=false:=decide_eq_false zO;have hdb:decide (a≥256)=false:=decide_eq_false zO;go_wp2;go_roundw
       case rel=>exact⟨j+1,zO,by go_num,ht.out,gQ.trans (zN _ _)⟩
       case measure=>simp[intOf];omega
      ·obtain rfl:q=false:=by rw[hbo.out,decide_eq_false hm]
       have hf:=hbd.out rfl;go_wp2;all_goals try simp only[beq_iff_eq,beq_eq_false_iff_ne,ne_eq,bne_iff_ne,bne_eq_false_iff_eq] at *
       all_goals first
        |(exfalso;omega)
        |(go_ret
          exact⟨by first|rfl|(rw[hf];rfl),Below.alloc hEq (by have:=hEq.size;omega) _⟩)
     ·obtain rfl:j=ws.length:=zO;rw[HE2.out] at xI;go_wp2;go_ret;exact⟨by first|rfl|(rw[hok];rfl)|(rw[xI];rfl)|(rw[hok,xI];rfl),hEq⟩
def Qn (t:List UInt8):Bool:=decide (t.length=256) && VZ (t.take 8)
theorem Bys.take {w:World} {B:Nat} {A:Option Addr} {m c:Nat} {l:List UInt8} (h:Bys w B (.slice A m c) l) {k:Nat} (hk:k<=l.length):Bys w B (.slice A k c) (l.take k):=by
 obtain⟨A',c',e,hc,hm,hr⟩:=h;cases e;have hl:(l.take k).length=k:=zA1;refine⟨_,_,by rw[hl],by rw[hl];omega,hm,?_⟩;rw[hl];have:=hr.take hk
 rwa [Nat.mul_one,<-List.map_take] at this
theorem Tj (v:Value) (t:List UInt8) (w:World) (h:Bys w w.heap.size v t):Calls prog 120 #[v] w (Ret (.int .i64 (JA (Qn t))) w):=by
 obtain⟨A,m,c,rfl⟩:∃ A m c,v=.slice A m c:=by obtain⟨A,c,e,_⟩:=h;exact⟨_,_,_,e⟩
 obtain⟨e1,hc,hm,hA⟩:=h.at_;subst e1;by_cases h256:t.length=256
 ·have hT:Qn t=VZ (t.take 8):=by unfold Qn;rw[decide_eq_true h256,Bool.true_and]
  rw[hT];have HM:=zH (fun W (hW:Ext w W)=>qgq (.slice A 8 c) (t.take 8) zA1 zA1 W (((h.take (k:=8) zO).below hW).more hW.size));have hz:=qbi (t.take 8);have rZ:=qdQ (t.take 8);generalize YZ (t.take 8)=mx at *;generalize VZ (t.take 8)=z at *;clear hT h;have hc8:(8:Int)<=(c:Int):=zO;have hd1:((t.length:Int) != 256)=false:=by rw[bne_eq_false_iff_eq];omega
  clear h256;go_enter func120,ntmps120;go_wp2_with fail;refine(HM.out _ (Ext.refl _)).mono ?_;rintro e w2 ⟨rfl,hB⟩;clear HM;cases z
  ·have hm0:0<mx:=by simpa using hz
   go_wp2;go_ret;exact⟨rfl,hB⟩
  ·obtain rfl:mx=0:=by simpa using hz
   go_wp2;go_ret;exact⟨rfl,hB⟩
 ·have hT:Qn t=false:=by unfold Qn;rw[decide_eq_false h256];rfl
  rw[hT];have oD:((t.length:Int) != 256)=true:=by rw[bne_iff_ne];omega
  go_enter func120,ntmps120;go_wp2;go_ret;exact⟨rfl,Below.refl _ _⟩
structure Sto where
 bs:List (List UInt8)
 ws:List (Int×List UInt8)
 now:List UInt8
 last:List UInt8
def qm (S:Sto):Bool:=jD S.bs S.ws && (Qn S.now && Qn S.last)
abbrev Qd (A1:Option Addr) (n1 c1:Nat) (A2:Option Addr) (n2 c2:Nat) (A3:Option Addr) (n3 c3:Nat) (A4:Option Addr) (n4 c4:Nat):Value:=.agg #[.slice A1 n1 c1,.slice A2 n2 c2,.slice A3 n3 c3,.slice A4 n4 c4]
structure qU (w:World) (B:Nat) (v1 v2 v3 v4:Value) (S:Sto):Prop where
 bs:Bls w B v1 S.bs
 ws:Wrs w B v2 S.ws
 now:Bys w B v3 S.now
 last:Bys w B v4 S.last
theorem qU.below {w w':World} {B:Nat} {v1 v2 v3 v4:Value} {S:Sto} (h:qU w B v1 v2 v3 v4 S) (hb:Below B w w'):qU w' B v1 v2 v3 v4 S:=⟨h.bs.below hb,h.ws.below hb,h.now.below hb,h.last.below hb⟩
theorem qU.more {w:World} {B B':Nat} {v1 v2 v3 v4:Value} {S:Sto} (h:qU w B v1 v2 v3 v4 S) (hb:B<=B'):qU w B' v1 v2 v3 v4 S:=⟨h.bs.more hb,h.ws.more hb,h.now.more hb,h.last.more hb⟩
theorem qU.ext {w w':World} {v1 v2 v3 v4:Value} {S:Sto} (h:qU w w.heap.size v1 v2 v3 v4 S) (hx:Ext w w'):qU w' w'.heap.size v1 v2 v3 v4 S:=(h.below hx).more hx.size
theorem Jw (A1:Option Addr) (n1 c1:Nat) (A2:Option Addr) (n2 c2:Nat) (A3:Option Addr) (n3 c3:Nat) (A4:Option Addr) (n4 c4:Nat) (S:Sto) (w:World) (h:qU w w.heap.size (.slice A1 n1 c1) (.slice A2 n2 c2) (.slice A3 n3 c3) (.slice A4 n4 c4) S):Calls prog 65 #[Qd A1 n1 c1 A2 n2 c2 A3 n3 c3 A4 n4 c4] w (Ret (.int .i64 (JA (qm S))) w):=by
 have HD:=zH (fun W (hW:Ext w W)=>qgX A1 n1 c1 A2 n2 c2 S.bs S.ws W (h.ext hW).bs (h.ext hW).ws);have HN:=zH (fun W (hW:Ext w W)=>Tj (.slice A3 n3 c3) S.now W (h.ext hW).now);have HL:=zH (fun W (hW:Ext w W)=>Tj (.slice A4 n4 c4) S.last W (h.ext hW).last);have hS:qm S=(jD S.bs S.ws && (Qn S.now && Qn S.last)):=rfl;rw[hS];clear hS h;generalize jD S.bs S.ws=d at *;generalize Qn S.now=n at *;generalize Qn S.last=l at *;go_enter func65,ntmps65;go_wp2_with fail;generalize aA:(World.alloc _ _)=w1;have x1:Ext w w1:=by rw[<-aA];exact zN _ _
 have r1:w1.heap[w.heap.size]?=some (.cells #[.slice A1 n1 c1,.slice A2 n2 c2,.slice A3 n3 c3,.slice A4 n4 c4] 28 (0,0)):=by rw[<-aA];exact zI _ _ _ rfl
 clear aA;refine(HD.out _ x1).mono ?_;rintro e w2 ⟨rfl,hB⟩;have x2:=x1.trans hB;have r2:=qb r1 hB;have k2:=qa r2;clear hB r1 x1 HD;cases d
 ·go_wp2;go_ret;exact⟨rfl,x2⟩
 ·go_wp2_with fail;refine(HN.out _ x2).mono ?_;rintro e w3 ⟨rfl,hB⟩;have x3:=x2.trans hB;have r3:=qb r2 hB;have k3:=qa r3;clear hB r2 x2 k2 HN;cases n
  ·go_wp2;go_ret;exact⟨rfl,x3⟩
  ·go_wp2_with fail;refine(HL.out _ x3).mono ?_;rintro e w4 ⟨rfl,hB⟩;have x4:=x3.trans hB;clear hB r3 x3 k3 HL;cases l;all_goals
    go_wp2;go_ret;exact⟨rfl,x4⟩
def jk (ws:List (Int×List UInt8)) (a:Int):Option (List UInt8):=(ws.reverse.find? fun p=>p.1 == a).map (·.2)
def Jb (S:Sto) (a:Nat):List UInt8:=match jk S.ws a with|some l=>l|none=>S.bs[a]?.getD []
theorem kK {ws:List (Int×List UInt8)} {a:Int} {k:Nat} (h:k<ws.length):jk (ws.take (k+1)) a=if ws[k].1=a then some ws[k].2 else jk (ws.take k) a:=by
 unfold jk;rw[List.take_succ_eq_append_getElem h,List.reverse_append,List.reverse_singleton,List.singleton_append,List.find?_cons];by_cases h1:ws[k].1=a
 ·rw[if_pos h1];simp[h1]
 ·rw[if_neg h1];have:(ws[k].1 == a)=false:=by simpa using h1
  rw[this]
def qu (S:Sto) (a:Nat):Option (Int×List It):=if (S.now[a]?.getD 0).toNat=0 then none else QL (Jb S a)
theorem Qc {S:Sto} (h:qm S=true):S.bs.length=256/\S.ws.length<=4096/\S.now.length=256/\S.last.length=256:=by unfold qm jD headD Qn at h;simp at h;omega
end Go.Proofs.YtpbniokljofedaaGreat
