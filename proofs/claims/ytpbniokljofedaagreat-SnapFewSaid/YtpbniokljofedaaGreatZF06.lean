/- Texts Vol, FreeS, Volm, Volr, Volmr, Disk, DiskR, joined. -/
import Derived.Test.YtpbniokljofedaaGreatZF05
set_option linter.unusedSimpArgs false
set_option linter.unusedVariables false
set_option maxHeartbeats 8000000
namespace Go.Proofs.YtpbniokljofedaaGreat
open Go.RowKit
structure Vol where
 id:Int
 root:Int
 fz:Bool
 frm:Int
deriving DecidableEq
def Qx (v:Vol):List UInt8:=qB v.root.toNat 2++[if v.fz then 1 else 0]++qB v.frm.toNat 4
theorem vB (v:Vol):(Qx v).length=7:=by simp[Qx,zQ]
def ku (x:It):Vol:=⟨x.i,zZ x.val 0 2,decide ((x.val[2]?.getD 0).toNat=1),zZ x.val 3 4⟩
def XI (x:It):Bool:=decide (x.val.length=7) && Ux 1 x.i 0 0 x.k x.i x.o x.r (Qx (ku x)) x.val
abbrev jK (v:Vol):Value:=.agg #[.int .u32 v.id,.int .i64 v.root,.bool v.fz,.int .u32 v.frm]
def VM (v:Vol):Prop:=(0≤v.id∧v.id<4294967296)∧(0≤v.root∧v.root<65536)∧(0≤v.frm∧v.frm<4294967296)
def vx (lo n:Nat) (ty:TypeId) (φ:List Value→World→Prop):qS:=⟨Nat,fun b=>.slice (some ⟨b,0,none⟩) n n,fun b W=>lo≤b∧∃ cs:Array Value,cs.size=n∧W.heap[b]?=some (.cells cs ty (0,0))∧φ cs.toList W⟩
theorem Qi (lo n:Nat) (ty:TypeId) (φ:List Value→World→Prop) (b:Nat):(vx lo n ty φ).f b=.slice (some ⟨b,0,none⟩) n n:=rfl
theorem vX {lo n:Nat} {ty:TypeId} {φ:List Value→World→Prop} (hφ:∀ l,QL (φ l)):∀ p,QL ((vx lo n ty φ).φ p):=fun p W W' he ⟨h1,cs,h2,h3,h4⟩ =>
 ⟨h1,cs,h2,(Below.block he p (zG.1 h3).1).trans h3,hφ _ _ _ he h4⟩
theorem KP {P:Program} {o:Oper} {a:Act} {W:World} {lo' n':Nat} {ty:TypeId} {φ:List Value→World→Prop} {cs:Array Value} (hr:(execOp a.eval o).run P W=.ok (.value (.slice (some ⟨W.heap.size,0,none⟩) n' n')) (W.alloc (.cells cs ty)))
  (hlo:lo'≤W.heap.size) (hn:cs.size=n') (hφ:φ cs.toList (W.alloc (.cells cs ty))):Jg P o a W (vx lo' n' ty φ):=by
 unfold Jg;rw[hr];exact⟨W.heap.size,rfl,⟨hlo,cs,hn,zI _ _ _ rfl,hφ⟩,zN _ _⟩
def JH (ls:List (List UInt8)) (vs:List Value) (W:World):Prop:=vs.length=ls.length∧∀ (i:Nat) (v:Value) (l:List UInt8),vs[i]?=some v→ls[i]?=some l→Bys W W.heap.size v l
theorem JH.stable (ls:List (List UInt8)) (vs:List Value):QL (JH ls vs):=fun _ _ he h=>⟨h.1,fun i v l h1 h2=>((h.2 i v l h1 h2).below he).more he.size⟩
theorem Bys.lit {W:World} {b:Nat} {l:List UInt8} {ty:TypeId} (h:W.heap[b]?=some (.cells (l.map bv).toArray ty (0,0))) (hl:l.length≤maxLen):Bys W W.heap.size (.slice (some ⟨b,0,none⟩) l.length l.length) l:=
 ⟨_,_,rfl,zM _,hl,by simp,fun _=>⟨b,0,rfl,(zG.1 h).1,fun j u hu=>by rw[qa h];simpa using hu⟩⟩
theorem Rd.row {W:World} {b:Nat} {cs:Array Value} {ty:TypeId} (h:W.heap[b]?=some (.cells cs ty (0,0))) (n:Nat) (hn:cs.size=n):Rd W W.heap.size 1 (some ⟨b,0,none⟩) n cs.toList:=
 ⟨by simp[hn],fun _=>⟨b,0,rfl,(zG.1 h).1,fun j u hu=>by rw[qa h];simpa using hu⟩⟩
set_option maxRecDepth 100000 in
theorem qgW (v:Vol) (hv:VM v) (w:World) :
  Calls Tryz.prog 55 #[jK v] w (zo (IsI w.heap.size 1 v.id 0 0 (Qx v)) w):=by
 obtain⟨vi,vr,vf,vm⟩:=v
 obtain⟨⟨hi1,hi2⟩,⟨hr1,hr2⟩,⟨hm1,hm2⟩⟩:=hv
 dsimp only at *
 obtain⟨r,rfl⟩:=Int.eq_ofNat_of_zero_le hr1
 obtain⟨m,rfl⟩:=Int.eq_ofNat_of_zero_le hm1
 have HB:Hid (Qx ⟨vi,r,vf,m⟩=[qB r 2,[if vf then 1 else 0],qB m 4].flatten):=by
  refine zH ?_
  simp[Qx]
 have HL:Hid ((Qx ⟨vi,r,vf,m⟩).length=7):=zH (vB _)
 have l2:=zQ 2 r
 have l4:=zQ 4 m
 replace l2:=zH l2
 replace l4:=zH l4
 generalize Qx ⟨vi,r,vf,m⟩=vb at *
 cases vf
 ·go_enter Tryz.func55,Tryz.ntmps55
  go_wp2_with fail
  generalize hw1:(World.alloc (World.alloc _ _) _)=w1
  have b1:Ext w w1:=by rw[←hw1];exact(zN _ _).trans (zN _ _)
  have r1:w1.heap[w.heap.size]?=some (.cells #[.int .u32 vi,.int .i64 r,.bool false,.int .u32 m] 40 (0,0)):=by rw[←hw1];exact(zK _ _ _ (by simp)).trans (zI _ _ _ rfl)
  have q1:w1.heap[w.heap.size+1]?=some (.cells #[.int .u8 0,.int .u32 0,.int .u32 0,.int .i64 0,.slice none 0 0] 68 (0,0)):=by rw[←hw1];exact zI _ _ _ (by simp)
  clear hw1
  refine(qcM r (by omega) _).mono ?_
  rintro e w2 ⟨u,rfl,⟨u2,rfl,A2,c2,rfl,hb2,hf2⟩,hB⟩
  have b2:Ext w w2:=Ext.trans b1 hB
  have r2:=qb r1 hB
  have q2:=qb q1 hB
  have k2:=qa r2
  have s2:w.heap.size+1<w2.heap.size:=(zG.1 q2).1
  clear hB b1 r1 q1
  go_wp2
  have hE:∀ W,Ext w2 W→∀ j,W.cell? ⟨w.heap.size,j,none⟩=#[.int .u32 vi,.int .i64 r,.bool false,.int .u32 m][j]?:=fun W h=>qa (qb r2 h)
  clear k2
  refine zD (qF [(5,jt w2.heap.size 1 5 #[.int .u8 0]),(8,Kx w2.heap.size 4 (qB m 4)),(9,vx w2.heap.size 3 26 (JH [qB r 2,[0],qB m 4])),(10,Kx w2.heap.size 7 vb)]) 12 (by kernel_rfl) (by kernel_rfl) (by kernel_rfl) (by decide) (by kernel_rfl) (by kernel_rfl) ?st ?walk
  case st=>exact Za (by simp only[List.forall_mem_cons];exact⟨JD _ _ _ _,js _ _ _,vX (JH.stable _),js _ _ _,fun _ h=>by cases h⟩)
  case walk =>
   intro K hK
   dsimp only[List.take]
   repeat ((first|(refine qI ?_ (by rfl) (by rfl) (fun W hW _=>⟨W,?_,Ext.refl W⟩) ?_;rotate_left;(go_simp<;>with_reducible rfl))|(refine qT (by rfl) ?_));try simp only[Act.put,qj,qf,qc,qg,qN,Qi,QA,zA,zB,zC])
   refine Qz (jt w2.heap.size 1 5 #[.int .u8 0]) (by rfl) (by rfl) (fun W hW _=>?_) (fun (p5:Nat)=>?_)
   ·refine kR ?_ hW.size
    go_simp
   simp only[Act.put,qj,qf,qc,qg,qN,Qi,QA,zA,zB,zC]
   repeat ((first|(refine qI ?_ (by rfl) (by rfl) (fun W hW _=>⟨W,?_,Ext.refl W⟩) ?_;rotate_left;(go_simp<;>with_reducible rfl))|(refine qT (by rfl) ?_));try simp only[Act.put,qj,qf,qc,qg,qN,Qi,QA,zA,zB,zC])
   refine Qz (Kx w2.heap.size 4 (qB m 4)) (by rfl) (by rfl) (fun W hW _=>?_) (fun p8=>?_)
   ·refine QT ?_ ((KL m (by omega) W).mono fun e w' h=>?_)
    ·go_simp
    obtain⟨u,rfl,⟨A,c,rfl,h1,h2⟩,h3⟩:=h
    exact⟨(A,c),rfl,⟨h1,h2.mono hW.size⟩,h3⟩
   obtain⟨A8,c8⟩:=p8
   simp only[Act.put,qj,qf,qc,qg,qN,Qi,QA,zA,zB,zC]
   refine Qz (vx w2.heap.size 3 26 (JH [qB r 2,[0],qB m 4])) (by rfl) (by rfl) (fun W hW hp=>?_) (fun (p9:Nat)=>?_)
   ·have f5:=(hp 5 (by decide)).1
    have f8:=(hp 8 (by decide)).1
    obtain⟨f5,_⟩:W.heap[p5]?=some (.cells #[.int .u8 0] 5 (0,0))∧w2.heap.size≤p5:=f5
    obtain⟨f8,_⟩:Bys W W.heap.size (.slice A8 4 c8) (qB m 4)∧_:=f8
    have hR:JH [qB r 2,[0],qB m 4] [.slice A2 2 c2,.slice (some ⟨p5,0,none⟩) 1 1,.slice A8 4 c8] W:=by
     refine⟨rfl,fun i v l hv hl=>?_⟩
     have hlit:Bys W W.heap.size (.slice (some ⟨p5,0,none⟩) 1 1) [(0:UInt8)]:=Bys.lit (l:=[(0:UInt8)]) f5 (by simp[maxLen])
     rcases i with _|_|_|i
     ·simp at hv hl;subst hv;subst hl;exact(hb2.below hW).more hW.size
     ·simp at hv hl;subst hv;subst hl;exact hlit
     ·simp at hv hl;subst hv;subst hl;exact f8
     ·simp at hv
    refine KP (cs:=#[.slice A2 2 c2,.slice (some ⟨p5,0,none⟩) 1 1,.slice A8 4 c8]) ?_ hW.size rfl ?_
    ·go_simp
    ·exact JH.stable _ _ _ _ (zN _ _) hR
   simp only[Act.put,qj,qf,qc,qg,qN,Qi,QA,zA,zB,zC]
   refine Qz (Kx w2.heap.size 7 vb) (by rfl) (by rfl) (fun W hW hp=>?_) (fun p10=>?_)
   ·obtain⟨_,cs,hcs,hrow,hR⟩:=(hp 9 (by decide)).1
    have hlen:[qB r 2,[(0:UInt8)],qB m 4].flatten.length=7:=by simp[l2.out,l4.out]
    refine QT ?_ ((Vp (some ⟨p9,0,none⟩) 3 3 cs.toList [qB r 2,[0],qB m 4] (by simpa using hcs) rfl W (Rd.row hrow 3 hcs) (fun i v l h1 h2=>hR.2 i v l h1 h2) (by omega) (by omega)).mono fun e w' h=>?_)
    ·go_simp
    rw[hlen] at h
    obtain⟨p,h1,h2,h3⟩:=KY h hW.size
    have HB':=HB.out
    simp only[Bool.false_eq_true,if_false,if_true] at HB'
    rw[←HB'] at h1 h2
    exact⟨p,h1,h2,h3⟩
   obtain⟨A10,c10⟩:=p10
   simp only[Act.put,qj,qf,qc,qg,qN,Qi,QA,zA,zB,zC]
   repeat ((first|(refine qI ?_ (by rfl) (by rfl) (fun W hW _=>⟨W,?_,Ext.refl W⟩) ?_;rotate_left;(go_simp<;>with_reducible rfl))|(refine qT (by rfl) ?_));try simp only[Act.put,qj,qf,qc,qg,qN,Qi,QA,zA,zB,zC])
   refine Zq (hK _ _ fun W hW hF=>?_)
   obtain⟨f10,g10⟩:Bys W W.heap.size (.slice A10 7 c10) vb∧Zm w2.heap.size (.slice A10 7 c10):=(hF 10).1
   clear hF hK hE
   have b3:Ext w W:=b2.trans hW
   have q3:=qb q2 hW
   have kq:=qa q3
   have fq:=qd q3
   dsimp only[List.drop]
   go_wp2
   have hgt:w.heap.size+1<w2.heap.size:=s2
   have hby:=((((f10.setCell g10 (p:=⟨w.heap.size+1,0,none⟩) hgt (.int .u8 1)).setCell g10 (p:=⟨w.heap.size+1,1,none⟩) hgt (.int .u32 vi)).setCell g10 (p:=⟨w.heap.size+1,2,none⟩) hgt (.int .u32 0)).setCell g10 (p:=⟨w.heap.size+1,3,none⟩) hgt (.int .i64 0)).setCell g10 (p:=⟨w.heap.size+1,4,none⟩) hgt (.slice A10 7 c10)
   have rf:=qi (qi (qi (qi (qi q3 0 (.int .u8 1)) 1 (.int .u32 vi)) 2 (.int .u32 0)) 3 (.int .i64 0)) 4 (.slice A10 7 c10)
   have b3':Below w.heap.size w W:=b3
   have bf:Below w.heap.size w (((((W.setCell ⟨w.heap.size+1,0,none⟩ (.int .u8 1)).setCell ⟨w.heap.size+1,1,none⟩ (.int .u32 vi)).setCell ⟨w.heap.size+1,2,none⟩ (.int .u32 0)).setCell ⟨w.heap.size+1,3,none⟩ (.int .i64 0)).setCell ⟨w.heap.size+1,4,none⟩ (.slice A10 7 c10)):=(by repeat' (first|with_reducible exact Below.refl _ _|with_reducible assumption|with_reducible apply Below.drew|with_reducible apply qA|with_reducible refine Below.alloc ?_ ?_ _|with_reducible refine Below.setCell ?_ ?_ _|(simp;done)|(simp;omega)|omega))
   have hsz:(((((W.setCell ⟨w.heap.size+1,0,none⟩ (.int .u8 1)).setCell ⟨w.heap.size+1,1,none⟩ (.int .u32 vi)).setCell ⟨w.heap.size+1,2,none⟩ (.int .u32 0)).setCell ⟨w.heap.size+1,3,none⟩ (.int .i64 0)).setCell ⟨w.heap.size+1,4,none⟩ (.slice A10 7 c10)).heap.size=W.heap.size:=by simp
   generalize hwf:(World.setCell (World.setCell (World.setCell (World.setCell (World.setCell W _ _) _ _) _ _) _ _) _ _)=wf at *
   have kf:=qa rf
   rw[←hsz] at hby
   exact bodyPost_ret (v:=Vs 1 vi 0 0 A10 7 c10) (by simp[results,Tryz.results55,go_sem,kf]) rfl ⟨_,rfl,⟨A10,c10,by rw[HL.out],by rw[HL.out];exact hby,by rw[HL.out];exact g10.mono (by omega)⟩,bf⟩
 ·go_enter Tryz.func55,Tryz.ntmps55
  go_wp2_with fail
  generalize hw1:(World.alloc (World.alloc _ _) _)=w1
  have b1:Ext w w1:=by rw[←hw1];exact(zN _ _).trans (zN _ _)
  have r1:w1.heap[w.heap.size]?=some (.cells #[.int .u32 vi,.int .i64 r,.bool true,.int .u32 m] 40 (0,0)):=by rw[←hw1];exact(zK _ _ _ (by simp)).trans (zI _ _ _ rfl)
  have q1:w1.heap[w.heap.size+1]?=some (.cells #[.int .u8 0,.int .u32 0,.int .u32 0,.int .i64 0,.slice none 0 0] 68 (0,0)):=by rw[←hw1];exact zI _ _ _ (by simp)
  clear hw1
  refine(qcM r (by omega) _).mono ?_
  rintro e w2 ⟨u,rfl,⟨u2,rfl,A2,c2,rfl,hb2,hf2⟩,hB⟩
  have b2:Ext w w2:=Ext.trans b1 hB
  have r2:=qb r1 hB
  have q2:=qb q1 hB
  have k2:=qa r2
  have s2:w.heap.size+1<w2.heap.size:=(zG.1 q2).1
  clear hB b1 r1 q1
  go_wp2
  have hE:∀ W,Ext w2 W→∀ j,W.cell? ⟨w.heap.size,j,none⟩=#[.int .u32 vi,.int .i64 r,.bool true,.int .u32 m][j]?:=fun W h=>qa (qb r2 h)
  clear k2
  refine zD (qF [(5,jt w2.heap.size 1 5 #[.int .u8 1]),(8,Kx w2.heap.size 4 (qB m 4)),(9,vx w2.heap.size 3 26 (JH [qB r 2,[1],qB m 4])),(10,Kx w2.heap.size 7 vb)]) 12 (by kernel_rfl) (by kernel_rfl) (by kernel_rfl) (by decide) (by kernel_rfl) (by kernel_rfl) ?st ?walk
  case st=>exact Za (by simp only[List.forall_mem_cons];exact⟨JD _ _ _ _,js _ _ _,vX (JH.stable _),js _ _ _,fun _ h=>by cases h⟩)
  case walk =>
   intro K hK
   dsimp only[List.take]
   repeat ((first|(refine qI ?_ (by rfl) (by rfl) (fun W hW _=>⟨W,?_,Ext.refl W⟩) ?_;rotate_left;(go_simp<;>with_reducible rfl))|(refine qT (by rfl) ?_));try simp only[Act.put,qj,qf,qc,qg,qN,Qi,QA,zA,zB,zC])
   refine Qz (jt w2.heap.size 1 5 #[.int .u8 1]) (by rfl) (by rfl) (fun W hW _=>?_) (fun (p5:Nat)=>?_)
   ·refine kR ?_ hW.size
    go_simp
   simp only[Act.put,qj,qf,qc,qg,qN,Qi,QA,zA,zB,zC]
   repeat ((first|(refine qI ?_ (by rfl) (by rfl) (fun W hW _=>⟨W,?_,Ext.refl W⟩) ?_;rotate_left;(go_simp<;>with_reducible rfl))|(refine qT (by rfl) ?_));try simp only[Act.put,qj,qf,qc,qg,qN,Qi,QA,zA,zB,zC])
   refine Qz (Kx w2.heap.size 4 (qB m 4)) (by rfl) (by rfl) (fun W hW _=>?_) (fun p8=>?_)
   ·refine QT ?_ ((KL m (by omega) W).mono fun e w' h=>?_)
    ·go_simp
    obtain⟨u,rfl,⟨A,c,rfl,h1,h2⟩,h3⟩:=h
    exact⟨(A,c),rfl,⟨h1,h2.mono hW.size⟩,h3⟩
   obtain⟨A8,c8⟩:=p8
   simp only[Act.put,qj,qf,qc,qg,qN,Qi,QA,zA,zB,zC]
   refine Qz (vx w2.heap.size 3 26 (JH [qB r 2,[1],qB m 4])) (by rfl) (by rfl) (fun W hW hp=>?_) (fun (p9:Nat)=>?_)
   ·have f5:=(hp 5 (by decide)).1
    have f8:=(hp 8 (by decide)).1
    obtain⟨f5,_⟩:W.heap[p5]?=some (.cells #[.int .u8 1] 5 (0,0))∧w2.heap.size≤p5:=f5
    obtain⟨f8,_⟩:Bys W W.heap.size (.slice A8 4 c8) (qB m 4)∧_:=f8
    have hR:JH [qB r 2,[1],qB m 4] [.slice A2 2 c2,.slice (some ⟨p5,0,none⟩) 1 1,.slice A8 4 c8] W:=by
     refine⟨rfl,fun i v l hv hl=>?_⟩
     have hlit:Bys W W.heap.size (.slice (some ⟨p5,0,none⟩) 1 1) [(1:UInt8)]:=Bys.lit (l:=[(1:UInt8)]) f5 (by simp[maxLen])
     rcases i with _|_|_|i
     ·simp at hv hl;subst hv;subst hl;exact(hb2.below hW).more hW.size
     ·simp at hv hl;subst hv;subst hl;exact hlit
     ·simp at hv hl;subst hv;subst hl;exact f8
     ·simp at hv
    refine KP (cs:=#[.slice A2 2 c2,.slice (some ⟨p5,0,none⟩) 1 1,.slice A8 4 c8]) ?_ hW.size rfl ?_
    ·go_simp
    ·exact JH.stable _ _ _ _ (zN _ _) hR
   simp only[Act.put,qj,qf,qc,qg,qN,Qi,QA,zA,zB,zC]
   refine Qz (Kx w2.heap.size 7 vb) (by rfl) (by rfl) (fun W hW hp=>?_) (fun p10=>?_)
   ·obtain⟨_,cs,hcs,hrow,hR⟩:=(hp 9 (by decide)).1
    have hlen:[qB r 2,[(1:UInt8)],qB m 4].flatten.length=7:=by simp[l2.out,l4.out]
    refine QT ?_ ((Vp (some ⟨p9,0,none⟩) 3 3 cs.toList [qB r 2,[1],qB m 4] (by simpa using hcs) rfl W (Rd.row hrow 3 hcs) (fun i v l h1 h2=>hR.2 i v l h1 h2) (by omega) (by omega)).mono fun e w' h=>?_)
    ·go_simp
    rw[hlen] at h
    obtain⟨p,h1,h2,h3⟩:=KY h hW.size
    have HB':=HB.out
    simp only[Bool.false_eq_true,if_false,if_true] at HB'
    rw[←HB'] at h1 h2
    exact⟨p,h1,h2,h3⟩
   obtain⟨A10,c10⟩:=p10
   simp only[Act.put,qj,qf,qc,qg,qN,Qi,QA,zA,zB,zC]
   repeat ((first|(refine qI ?_ (by rfl) (by rfl) (fun W hW _=>⟨W,?_,Ext.refl W⟩) ?_;rotate_left;(go_simp<;>with_reducible rfl))|(refine qT (by rfl) ?_));try simp only[Act.put,qj,qf,qc,qg,qN,Qi,QA,zA,zB,zC])
   refine Zq (hK _ _ fun W hW hF=>?_)
   obtain⟨f10,g10⟩:Bys W W.heap.size (.slice A10 7 c10) vb∧Zm w2.heap.size (.slice A10 7 c10):=(hF 10).1
   clear hF hK hE
   have b3:Ext w W:=b2.trans hW
   have q3:=qb q2 hW
   have kq:=qa q3
   have fq:=qd q3
   dsimp only[List.drop]
   go_wp2
   have hgt:w.heap.size+1<w2.heap.size:=s2
   have hby:=((((f10.setCell g10 (p:=⟨w.heap.size+1,0,none⟩) hgt (.int .u8 1)).setCell g10 (p:=⟨w.heap.size+1,1,none⟩) hgt (.int .u32 vi)).setCell g10 (p:=⟨w.heap.size+1,2,none⟩) hgt (.int .u32 0)).setCell g10 (p:=⟨w.heap.size+1,3,none⟩) hgt (.int .i64 0)).setCell g10 (p:=⟨w.heap.size+1,4,none⟩) hgt (.slice A10 7 c10)
   have rf:=qi (qi (qi (qi (qi q3 0 (.int .u8 1)) 1 (.int .u32 vi)) 2 (.int .u32 0)) 3 (.int .i64 0)) 4 (.slice A10 7 c10)
   have b3':Below w.heap.size w W:=b3
   have bf:Below w.heap.size w (((((W.setCell ⟨w.heap.size+1,0,none⟩ (.int .u8 1)).setCell ⟨w.heap.size+1,1,none⟩ (.int .u32 vi)).setCell ⟨w.heap.size+1,2,none⟩ (.int .u32 0)).setCell ⟨w.heap.size+1,3,none⟩ (.int .i64 0)).setCell ⟨w.heap.size+1,4,none⟩ (.slice A10 7 c10)):=(by repeat' (first|with_reducible exact Below.refl _ _|with_reducible assumption|with_reducible apply Below.drew|with_reducible apply qA|with_reducible refine Below.alloc ?_ ?_ _|with_reducible refine Below.setCell ?_ ?_ _|(simp;done)|(simp;omega)|omega))
   have hsz:(((((W.setCell ⟨w.heap.size+1,0,none⟩ (.int .u8 1)).setCell ⟨w.heap.size+1,1,none⟩ (.int .u32 vi)).setCell ⟨w.heap.size+1,2,none⟩ (.int .u32 0)).setCell ⟨w.heap.size+1,3,none⟩ (.int .i64 0)).setCell ⟨w.heap.size+1,4,none⟩ (.slice A10 7 c10)).heap.size=W.heap.size:=by simp
   generalize hwf:(World.setCell (World.setCell (World.setCell (World.setCell (World.setCell W _ _) _ _) _ _) _ _) _ _)=wf at *
   have kf:=qa rf
   rw[←hsz] at hby
   exact bodyPost_ret (v:=Vs 1 vi 0 0 A10 7 c10) (by simp[results,Tryz.results55,go_sem,kf]) rfl ⟨_,rfl,⟨A10,c10,by rw[HL.out],by rw[HL.out];exact hby,by rw[HL.out];exact g10.mono (by omega)⟩,bf⟩
def ql:Rel where
 rel:=Ext
 refl':=Ext.refl
 trans':=Ext.trans
 drew':=Ext.drew
theorem QK {φ:World→Prop} (h:QL φ):qD ql φ:=fun W W' he=>h W W' he
theorem jY {P:Program} {o:Oper} {a:Act} {W:World} {lo':Nat} {ty:TypeId} {cs:Array Value} (hr:(execOp a.eval o).run P W=.ok (.value (.pointer (some ⟨W.heap.size,0,none⟩))) (W.alloc (.cells cs ty)))
  (hlo:lo'≤W.heap.size):QG ql P o a W (jT lo' ty cs):=by
 unfold QG;rw[hr];exact⟨W.heap.size,rfl,⟨zI _ _ _ rfl,hlo⟩,zN _ _⟩
def kJ (B:Nat) (ty:TypeId) (vs:Nat→Option Value):Rel where
 rel W W':=W.grownBy W' (some B)∧∀ cs,W.heap[B]?=some (.cells cs ty (0,0))→∃ cs',W'.heap[B]?=some (.cells cs' ty (0,0))∧cs'.size=cs.size∧∀ j,cs'[j]?=cs[j]?∨(vs j≠none∧cs'[j]?=vs j)
 refl' W:=⟨World.grownBy.refl _ _,fun cs h=>⟨cs,h,rfl,fun _=>.inl rfl⟩⟩
 trans' h k:=⟨h.1.trans k.1,fun cs hc=>by
  obtain⟨c1,h1,h2,h3⟩:=h.2 cs hc
  obtain⟨c2,k1,k2,k3⟩:=k.2 c1 h1
  refine⟨c2,k1,k2.trans h2,fun j=>?_⟩
  rcases k3 j with e|e
  ·rw[e];exact h3 j
  ·exact .inr e⟩
 drew' W:=⟨⟨rfl,rfl,rfl,zM _,fun _ _ _=>rfl⟩,fun cs h=>⟨cs,h,rfl,fun _=>.inl rfl⟩⟩
section
variable {B:Nat} {ty:TypeId} {vs:Nat→Option Value}
theorem Xz {W W':World} (h:(kJ B ty vs).r W W') {p:Addr} {u:Value} (hp:p.block≠B) (hc:W.cell? p=some u):W'.cell? p=some u:=
 World.grownBy.cell h.1 hc (fun x=>hp (by simpa using x))
theorem qdq {W W':World} (h:(kJ B ty vs).r W W') {b:Nat} {o:Obj} (hp:b≠B) (hc:W.heap[b]?=some o):W'.heap[b]?=some o:=
 (h.1.block b (zG.1 hc).1 (fun x=>hp (by simpa using x))).trans hc
theorem qdr {W:World} {cs:Array Value} {j:Nat} {v:Value} (h:W.heap[B]?=some (.cells cs ty (0,0))) (hv:vs j=some v) (hj:j<cs.size) :
  (kJ B ty vs).r W (W.setCell ⟨B,j,none⟩ v)∧(W.setCell ⟨B,j,none⟩ v).cell? ⟨B,j,none⟩=some v:=by
 have hr:=qi h j v
 refine⟨⟨⟨rfl,rfl,rfl,by simp,fun k _ hk=>zJ _ _ _ _ (fun e=>hk (by simp at e;rw[e]))⟩,fun cs' hc=>?_⟩,?_⟩
 ·rw[h] at hc
  simp only[Option.some.injEq,Obj.cells.injEq,and_true] at hc
  subst hc
  refine⟨_,hr,by simp,fun k=>?_⟩
  by_cases hk:j=k
  ·subst hk
   exact .inr ⟨by rw[hv];simp,by rw[hv];simp[hj]⟩
  ·exact .inl (by simp[hk])
 ·rw[qa hr]
  simp[hj]
end
def Kf (B:Nat) (ty:TypeId) (j:Nat) (v:Value):qS:=⟨Unit,fun _=>undef,fun _ W=>∃ cs,W.heap[B]?=some (.cells cs ty (0,0))∧cs[j]?=some v⟩
theorem ZU (B:Nat) (ty:TypeId) (j:Nat) (v:Value) (u:Unit):(Kf B ty j v).f u=undef:=rfl
theorem VF {B:Nat} {ty:TypeId} {vs:Nat→Option Value} {j:Nat} {v:Value} (hv:vs j=some v):∀ p,qD (kJ B ty vs) ((Kf B ty j v).φ p):=by
 intro p W W' he ⟨cs,h1,h2⟩
 obtain⟨c',k1,_,k3⟩:=he.2 cs h1
 refine⟨c',k1,?_⟩
 rcases k3 j with e|e
 ·rw[e];exact h2
 ·rw[e.2];exact hv
theorem Xk {P:Program} {o:Oper} {a:Act} {w W:World} {B:Nat} {ty:TypeId} {vs:Nat→Option Value} {j:Nat} {v:Value} {cs:Array Value} (h0:w.heap[B]?=some (.cells cs ty (0,0))) (hW:(kJ B ty vs).r w W) (hv:vs j=some v) (hj:j<cs.size)
  (hr:(∀ i,W.frozen? ⟨B,i,none⟩=false)→(∃ u,W.cell? ⟨B,j,none⟩=some u)→(execOp a.eval o).run P W=.ok .skip (W.setCell ⟨B,j,none⟩ v)):QG (kJ B ty vs) P o a W (Kf B ty j v):=by
 obtain⟨c',k1,k2,k3⟩:=hW.2 cs h0
 obtain⟨g1,g2⟩:=qdr (vs:=vs) k1 hv (by omega)
 refine vq (hr (qd k1) ⟨_,by rw[qa k1,Array.getElem?_eq_getElem (by omega)]⟩) ⟨(),rfl,?_,g1⟩
 exact⟨_,qi k1 j v,by rw[Array.getElem?_setIfInBounds];simp[k2,hj]⟩
section
variable {B:Nat} {ty:TypeId} {cs:Array Value}
end
def outRowB (B:Nat) (ty:TypeId) (cs:Array Value):qS:=⟨Unit,fun _=>undef,fun _ W=>W.heap[B]?=some (.cells cs ty (0,0))⟩
theorem TJ (B:Nat) (ty:TypeId) (cs:Array Value) (u:Unit):(outRowB B ty cs).f u=undef:=rfl
theorem Qt {w:World} {b j:Nat} {v:Value}:w.grownBy (w.setCell ⟨b,j,none⟩ v) (some b):=⟨rfl,rfl,rfl,by simp,fun k _ hk=>zJ _ _ _ _ (fun e=>hk (by simp at e;rw[e]))⟩
def qbz (lo:Nat) (k i o r:Int) (n:Nat) (l:List UInt8):qS:=⟨Option Addr×Nat,fun p=>.agg #[.int .u8 k,.int .u32 i,.int .u32 o,.int .i64 r,.slice p.1 n p.2],fun p W=>Bys W W.heap.size (.slice p.1 n p.2) l∧Zm lo (.slice p.1 n p.2)⟩
theorem Zk (lo:Nat) (k i o r:Int) (n:Nat) (l:List UInt8) (A:Option Addr) (c:Nat):(qbz lo k i o r n l).f (A,c)=.agg #[.int .u8 k,.int .u32 i,.int .u32 o,.int .i64 r,.slice A n c]:=rfl
theorem Qk {w:World} {b j:Nat} {v:Value} {cs:Array Value} {ty:TypeId} (h:w.heap[b]?=some (.cells cs ty (0,0))) (hv:cs[j]?=some v):Ext w (w.setCell ⟨b,j,none⟩ v):=by
 refine⟨rfl,rfl,rfl,by simp,fun k _=>?_⟩
 by_cases hk:k=b
 ·subst hk
  rw[qi h j v,h]
  obtain⟨hj,e⟩:=zG.1 hv
  have:cs.setIfInBounds j v=cs:=by
   apply Array.ext_getElem?
   intro i
   rw[Array.getElem?_setIfInBounds]
   split
   ·rename_i hi;rw[←hi];simp[hj,e]
   ·rfl
  rw[this]
 ·exact zJ _ _ _ _ hk
def VolP (x:It) (u:Value) (_:World):Prop:=∃ v',u=.tuple #[jK v',.bool (XI x)]∧(XI x=true→v'=ku x)
theorem Uh {x:It} (h:x.val.length<7):XI x=false:=by unfold XI;rw[decide_eq_false (by omega)];rfl
theorem qfC {x:It} (h:7≤x.val.length):XI x=Ux 1 x.i 0 0 x.k x.i x.o x.r (Qx (ku x)) x.val:=by
 unfold XI
 by_cases h7:x.val.length=7
 ·rw[decide_eq_true h7,Bool.true_and]
 ·rw[decide_eq_false h7,Bool.false_and]
  symm
  unfold Ux
  rw[decide_eq_false]
  rintro ⟨_,_,_,_,e⟩
  have:=congrArg List.length e
  rw[vB] at this
  omega
theorem qeM {x:It} (hx:ZY x) (h:7≤x.val.length):VM (ku x):=by
 have r0:=JM (l:=x.val) (a:=0) (k:=2) (by omega)
 have r3:=JM (l:=x.val) (a:=3) (k:=4) (by omega)
 exact⟨hx.2.1,⟨r0.1,r0.2⟩,⟨r3.1,r3.2⟩⟩
set_option maxRecDepth 100000 in
theorem qgu (x:It) (hx:ZY x) (A:Option Addr) (c:Nat) (w:World) (h:Bys w w.heap.size (.slice A x.val.length c) x.val) :
  Calls Tryz.prog 135 #[Vs x.k x.i x.o x.r A x.val.length c] w (zo (VolP x) w):=by
 have H2:∀ W,Ext w W→_:=fun W hW=>Gv _ x.val 0 (by omega) W ((h.below hW).more hW.size)
 have H4:∀ W,Ext w W→_:=fun W hW=>Vr _ x.val 3 (by omega) W ((h.below hW).more hW.size)
 replace H2:=zH H2
 replace H4:=zH H4
 have HV:=zH h
 have hcat:=h.at_
 clear h
 have hcell:∀ j,(hj:j<x.val.length)→∃ b off,A=some ⟨b,off,none⟩∧w.cell? ⟨b,off+j,none⟩=some (.int .u8 (x.val[j].toNat:Int)):=by
  intro j hj
  obtain⟨A',c',e,_,_,hr⟩:=HV.out
  cases e
  obtain⟨b,off,rfl,hb,hc⟩:=hr.2 (by omega)
  exact⟨b,off,rfl,hc j _ (by rw[List.getElem?_map,zL hj];rfl)⟩
 replace hcell:=zH hcell
 have HN2:Hid (Xo x.val 0 2=if 2≤x.val.length then 0 else 8):=zH (by unfold Xo;rw[Nat.zero_add])
 have HN4:Hid (Xo x.val 3 4=if 7≤x.val.length then 0 else 8):=zH (by unfold Xo;rfl)
 have HVA:Hid (ku x=⟨x.i,zZ x.val 0 2,decide ((x.val[2]?.getD 0).toNat=1),zZ x.val 3 4⟩):=rfl
 have HP0:Hid (x.val.length<7→∀ W,VolP x (.tuple #[jK ⟨0,0,false,0⟩,.bool false]) W):=zH (fun h W=>⟨_,by rw[Uh h],fun h'=>by rw[Uh h] at h';cases h'⟩)
 have HP1:Hid (7≤x.val.length→∀ W,VolP x (.tuple #[jK (ku x),.bool (Ux 1 x.i 0 0 x.k x.i x.o x.r (Qx (ku x)) x.val)]) W):=zH (fun h W=>⟨_,by rw[qfC h],fun _=>rfl⟩)
 have HON:=zH (fun h=>qgW (ku x) (qeM hx h))
 replace hx:=zH hx
 generalize hva:ku x=va at *
 replace hva:=zH hva
 generalize zZ x.val 0 2=n2 at *
 generalize zZ x.val 3 4=n4 at *
 generalize Xo x.val 0 2=e2 at *
 generalize Xo x.val 3 4=e4 at *
 go_enter Tryz.func135,Tryz.ntmps135
 go_wp2_with fail
 generalize hw1:(World.alloc (World.alloc _ _) _)=w1
 have b1:Ext w w1:=by rw[←hw1];exact(zN _ _).trans (zN _ _)
 have r1:w1.heap[w.heap.size]?=some (.cells #[.int .u8 x.k,.int .u32 x.i,.int .u32 x.o,.int .i64 x.r,.slice A x.val.length c] 68 (0,0)):=by rw[←hw1];exact(zK _ _ _ (by simp)).trans (zI _ _ _ rfl)
 have q1:w1.heap[w.heap.size+1]?=some (.cells #[.int .u32 x.i,.int .i64 0,.bool false,.int .u32 0] 40 (0,0)):=by rw[←hw1];exact zI _ _ _ (by simp)
 clear hw1
 refine(H2.out _ b1).mono ?_
 rintro e w2 ⟨rfl,hB⟩
 have b2:Ext w w2:=Ext.trans b1 hB
 have r2:=qb r1 hB
 have q2:=qb q1 hB
 have k2:=qa r2
 clear hB b1 r1 q1 H2
 go_wp2_with fail
 clear k2
 refine(H4.out _ b2).mono ?_
 rintro e w3 ⟨rfl,hB⟩
 have b3:Ext w w3:=Ext.trans b2 hB
 have r3:=qb r2 hB
 have q3:=qb q2 hB
 have s3:w.heap.size+1<w3.heap.size:=(zG.1 q3).1
 have k3:=qa r3
 have kq3:=qa q3
 have fq3:=qd q3
 clear hB b2 r2 q2 H4
 by_cases h7:7≤x.val.length
 ·obtain rfl:e2=0:=by rw[HN2.out,if_pos (by omega)]
  obtain rfl:e4=0:=by rw[HN4.out,if_pos h7]
  obtain⟨b,off,rfl,hc2⟩:=hcell.out 2 (by omega)
  have e2':(x.val[2]?.getD 0).toNat=x.val[2].toNat:=by rw[zL (by omega)];rfl
  rw[e2'] at HVA
  clear HN2 HN4 HP0 hcell e2'
  generalize x.val[2].toNat=p2 at *
  have hcat':=hcat.2
  go_wp2
  obtain⟨RR,hRR⟩:∃ RR:Rel,RR=kJ (w.heap.size+1) 40 (fun j=>if j=1 then some (.int .i64 n2) else if j=2 then some (.bool (decide (p2=1))) else if j=3 then some (.int .u32 n4) else none):=⟨_,rfl⟩
  replace hRR:=zH hRR
  have g1:∀ W,RR.r w3 W→W.cell? ⟨w.heap.size,4,none⟩=some (.slice (some ⟨b,off,none⟩) x.val.length c):=fun W h=>Xz (hRR.out ▸ h) (by simp) (by rw[k3];rfl)
  have hbw:b≠w.heap.size+1:=by have:=World.block_lt_of_cell? w _ hc2;simp at this;omega
  have g2:∀ W,RR.r w3 W→W.cell? ⟨b,off+2,none⟩=some (.int .u8 (p2:Int)):=fun W h=>Xz (hRR.out ▸ h) hbw (Ext.cell b3 hc2)
  have hq1:((p2:Int) == 1)=decide (p2=1):=by rw[Bool.eq_iff_iff];simp;omega
  have i2:(2:Int)<(x.val.length:Int):=by omega
  refine qo (by kernel_rfl) ?_
  refine Zp (w:=w3) RR (qF [(8,Kf (w.heap.size+1) 40 1 (.int .i64 n2)),(10,Kf (w.heap.size+1) 40 2 (.bool (decide (p2=1)))),(12,Kf (w.heap.size+1) 40 3 (.int .u32 n4))])
   [true,true,true,true,true,true,true,true,true,true,true,true,true] 0 (by kernel_rfl) (by kernel_rfl) (by kernel_rfl) (by kernel_rfl) (by kernel_rfl) (by kernel_rfl) ?st (Rel.drew _ _) ?walk
  case st=>rw[hRR.out];exact qk (by simp only[List.forall_mem_cons];exact⟨VF rfl,VF rfl,VF rfl,fun _ h=>by cases h⟩)
  case walk =>
   intro K hK
   dsimp only[qp]
   repeat ((first|(refine qe ?_ (by rfl) (by rfl) (fun W hW _=>⟨W,?_,Rel.refl _ W⟩) ?_;rotate_left;(go_simp<;>with_reducible rfl))|(refine qh (by rfl) ?_));try simp only[Act.put,qj,qf,qc,qg,ZU,zA,zB,zC])
   refine qy (Kf (w.heap.size+1) 40 1 (.int .i64 n2)) (by rfl) (by rfl) (fun W hW _=>?_) (fun p=>?_)
   ·rw[hRR.out] at hW ⊢
    refine Xk (j:=1) q3 hW rfl (by simp) (fun hf hu=>?_)
    obtain⟨u,hu⟩:=hu
    go_simp
   cases p
   simp only[Act.put,qj,qf,qc,qg,ZU,zA,zB,zC]
   repeat ((first|(refine qe ?_ (by rfl) (by rfl) (fun W hW _=>⟨W,?_,Rel.refl _ W⟩) ?_;rotate_left;(go_simp<;>with_reducible rfl))|(refine qh (by rfl) ?_));try simp only[Act.put,qj,qf,qc,qg,ZU,zA,zB,zC])
   refine qy (Kf (w.heap.size+1) 40 2 (.bool (decide (p2=1)))) (by rfl) (by rfl) (fun W hW _=>?_) (fun p=>?_)
   ·rw[hRR.out] at hW ⊢
    refine Xk (j:=2) q3 hW rfl (by simp) (fun hf hu=>?_)
    obtain⟨u,hu⟩:=hu
    go_simp
   cases p
   simp only[Act.put,qj,qf,qc,qg,ZU,zA,zB,zC]
   repeat ((first|(refine qe ?_ (by rfl) (by rfl) (fun W hW _=>⟨W,?_,Rel.refl _ W⟩) ?_;rotate_left;(go_simp<;>with_reducible rfl))|(refine qh (by rfl) ?_));try simp only[Act.put,qj,qf,qc,qg,ZU,zA,zB,zC])
   refine qy (Kf (w.heap.size+1) 40 3 (.int .u32 n4)) (by rfl) (by rfl) (fun W hW _=>?_) (fun p=>?_)
   ·rw[hRR.out] at hW ⊢
    refine Xk (j:=3) q3 hW rfl (by simp) (fun hf hu=>?_)
    obtain⟨u,hu⟩:=hu
    go_simp
   cases p
   simp only[Act.put,qj,qf,qc,qg,ZU,zA,zB,zC]
   repeat ((first|(refine qe ?_ (by rfl) (by rfl) (fun W hW _=>⟨W,?_,Rel.refl _ W⟩) ?_;rotate_left;(go_simp<;>with_reducible rfl))|(refine qh (by rfl) ?_));try simp only[Act.put,qj,qf,qc,qg,ZU,zA,zB,zC])
   refine qt (hK _ _ fun W0 hW hF=>?_)
   have f1:=(hF 8).1
   have f2:=(hF 10).1
   have f3:=(hF 12).1
   clear hF hK g1 g2
   rw[hRR.out] at hW
   have r4:=qdq hW (by simp) r3
   obtain⟨cs,q4,hcs,hcv⟩:=hW.2 _ q3
   obtain rfl:cs=#[.int .u32 x.i,.int .i64 n2,.bool (decide (p2=1)),.int .u32 n4]:=by
    have e0:=hcv 0
    simp at e0
    obtain⟨c1,h1,h1'⟩:=f1
    obtain⟨c2,h2,h2'⟩:=f2
    obtain⟨c3,h3,h3'⟩:=f3
    rw[q4] at h1 h2 h3
    simp only[Option.some.injEq,Obj.cells.injEq,and_true] at h1 h2 h3
    subst h1
    subst h2
    apply Array.ext_getElem?
    intro j
    rcases j with _|_|_|_|j
    ·rw[e0];rfl
    ·exact h1'
    ·exact h2'
    ·rw[←h3] at h3';exact h3'
    ·rw[Array.getElem?_eq_none (by rw[hcs];simp),Array.getElem?_eq_none (by simp)]
   have bW:Below w.heap.size w W0:=Below.trans b3 ((Below.refl _ _).grown hW.1 (by omega) (fun g hg=>by simp at hg;omega))
   dsimp only[List.drop,List.length_cons,List.length_nil]
   go_wp2
   refine Qm ?_
   go_wp2
   have HO:=zH (HON.out h7)
   have HP:=HP1.out h7
   have hvbl:=vB va
   have hvx:=(HV.out.below bW).more bW.size
   have ea:=HVA.out
   clear HON HP1 HVA hva HV
   subst ea
   dsimp only at HO HP
   generalize Qx _=vb at *
   replace HO:=zH HO.out
   have HSM:=zH (fun A c W (hA:Bys W W.heap.size (.slice A 7 c) vb) (hW2:Ext W0 W)=>qhQ 1 x.i 0 0 x.k x.i x.o x.r A (some ⟨b,off,none⟩) 7 c x.val.length _ vb x.val W hA ((hvx.below hW2).more hW2.size))
   generalize Ux 1 x.i 0 0 x.k x.i x.o x.r vb x.val=S at *
   have hr5:∀ W',Ext W0 W'→∀ j,W'.cell? ⟨w.heap.size,j,none⟩=#[.int .u8 x.k,.int .u32 x.i,.int .u32 x.o,.int .i64 x.r,.slice (some ⟨b,off,none⟩) x.val.length c][j]?:=fun W' h=>qa (qb r4 h)
   have hq5:∀ W',Ext W0 W'→∀ j,W'.cell? ⟨w.heap.size+1,j,none⟩=#[.int .u32 x.i,.int .i64 n2,.bool (decide (p2=1)),.int .u32 n4][j]?:=fun W' h=>qa (qb q4 h)
   replace HP:=zH HP
   generalize hdp:decide (p2=1)=fz at *
   clear hdp
   refine qo (by kernel_rfl) ?_
   refine Zp (w:=W0) ql (qF [(2,outI 1 x.i 0 0 7 vb),(4,one (.bool S)),(5,one undef)])
    [true,true,true,true,true,true] 1 (by kernel_rfl) (by kernel_rfl) (by kernel_rfl) (by kernel_rfl) (by kernel_rfl) (by kernel_rfl) ?st (Rel.drew _ _) ?walk
   case st=>exact qk (by simp only[List.forall_mem_cons];exact⟨fun p=>QK (qej _ _ _ _ _ _ p),fun p=>QK (Zy _ p),fun p=>QK (Zy _ p),fun _ h=>by cases h⟩)
   case walk =>
    intro K hK
    dsimp only[qp]
    have hr6:∀ W',ql.r W0 W'→∀ j,W'.cell? ⟨w.heap.size,j,none⟩=#[.int .u8 x.k,.int .u32 x.i,.int .u32 x.o,.int .i64 x.r,.slice (some ⟨b,off,none⟩) x.val.length c][j]?:=hr5
    have hq6:∀ W',ql.r W0 W'→∀ j,W'.cell? ⟨w.heap.size+1,j,none⟩=#[.int .u32 x.i,.int .i64 n2,.bool fz,.int .u32 n4][j]?:=hq5
    repeat ((first|(refine qe ?_ (by rfl) (by rfl) (fun W hW _=>⟨W,?_,Rel.refl _ W⟩) ?_;rotate_left;(go_simp<;>with_reducible rfl))|(refine qh (by rfl) ?_));try simp only[Act.put,qj,qf,qc,qg,ZU,zA,zB,zC])
    refine qy (outI 1 x.i 0 0 7 vb) (by rfl) (by rfl) (fun W hW _=>?_) (fun p=>?_)
    ·refine Qg ?_ ((HO.out W).mono fun e w' h=>?_)
     ·go_simp
     ·obtain⟨u,rfl,⟨A,c,rfl,h1,h2⟩,h3⟩:=h
      rw[hvbl] at h1 ⊢
      exact⟨(A,c),rfl,h1,h3⟩
    obtain⟨A2,c2⟩:=p
    simp only[Act.put,qj,qf,qc,qg,ZU,zA,zB,zC]
    repeat ((first|(refine qe ?_ (by rfl) (by rfl) (fun W hW _=>⟨W,?_,Rel.refl _ W⟩) ?_;rotate_left;(go_simp<;>with_reducible rfl))|(refine qh (by rfl) ?_));try simp only[Act.put,qj,qf,qc,qg,ZU,zA,zB,zC])
    refine qy (one (.bool S)) (by rfl) (by rfl) (fun W hW hp=>?_) (fun p=>?_)
    ·have f2:Bys W W.heap.size (.slice A2 7 c2) vb:=(hp 2 (by decide)).1
     refine Qg ?_ ((HSM.out A2 c2 W f2 hW).mono fun e w' h=>⟨(),h.1,trivial,h.2⟩)
     go_simp
    cases p
    simp only[Act.put,qj,qf,qc,qg,ZU,zA,zB,zC]
    refine qy (one undef) (by rfl) (by rfl) (fun W hW hp=>?_) (fun p=>?_)
    ·have q5:=qb q4 hW
     have k5:=qa q5
     have f5:=qd q5
     have e0:=Qk q5 (j:=0) rfl
     have e1:=Qk (qb q5 e0) (j:=1) rfl
     have e2:=Qk (qb (qb q5 e0) e1) (j:=2) rfl
     have e3:=Qk (qb (qb (qb q5 e0) e1) e2) (j:=3) rfl
     refine vq (w':=(((W.setCell ⟨w.heap.size+1,0,none⟩ (.int .u32 x.i)).setCell ⟨w.heap.size+1,1,none⟩ (.int .i64 n2)).setCell ⟨w.heap.size+1,2,none⟩ (.bool fz)).setCell ⟨w.heap.size+1,3,none⟩ (.int .u32 n4)) ?_ ⟨(),rfl,trivial,e0.trans (e1.trans (e2.trans e3))⟩
     go_simp
    cases p
    simp only[Act.put,qj,qf,qc,qg,ZU,zA,zB,zC]
    refine qt (hK _ _ fun W hW hF=>?_)
    clear hF hK hr6 hq6 hr5 hq5
    have hW':Ext W0 W:=hW
    have q5:=qb q4 hW'
    have k5:=qa q5
    dsimp only[List.drop,List.length_cons,List.length_nil]
    go_wp2
    refine Qm ?_
    go_wp2
    exact bodyPost_ret (v:=.tuple #[jK ⟨x.i,n2,fz,n4⟩,.bool S]) (by simp[results,Tryz.results135,go_sem,k5]) rfl ⟨_,rfl,HP.out W,Below.trans bW (Below.mono hW' (by have:=bW.size;omega))⟩
 ·have h4:e4=8:=by rw[HN4.out,if_neg h7]
  have h2:e2=0∨e2=8:=by rw[HN2.out];split <;> simp
  have hp:=HP0.out (by omega)
  replace hp:=zH hp
  subst h4
  clear HN2 HN4 HP0 HP1 HON hcell HVA
  have b3':Below w.heap.size w w3:=b3
  rcases h2 with rfl|rfl
  ·go_wp2
   have rf:=qi (qi (qi (qi q3 0 (.int .u32 0)) 1 (.int .i64 0)) 2 (.bool false)) 3 (.int .u32 0)
   have bf:Below w.heap.size w ((((w3.setCell ⟨w.heap.size+1,0,none⟩ (.int .u32 0)).setCell ⟨w.heap.size+1,1,none⟩ (.int .i64 0)).setCell ⟨w.heap.size+1,2,none⟩ (.bool false)).setCell ⟨w.heap.size+1,3,none⟩ (.int .u32 0)):=(by repeat' (first|with_reducible exact Below.refl _ _|with_reducible assumption|with_reducible apply Below.drew|with_reducible apply qA|with_reducible refine Below.alloc ?_ ?_ _|with_reducible refine Below.setCell ?_ ?_ _|(simp;done)|(simp;omega)|omega))
   generalize hwf:(World.setCell (World.setCell (World.setCell (World.setCell w3 _ _) _ _) _ _) _ _)=wf at *
   have kf:=qa rf
   exact bodyPost_ret (v:=.tuple #[jK ⟨0,0,false,0⟩,.bool false]) (by simp[results,Tryz.results135,go_sem,kf]) rfl ⟨_,rfl,hp.out wf,bf⟩
  ·go_wp2
   have rf:=qi (qi (qi (qi q3 0 (.int .u32 0)) 1 (.int .i64 0)) 2 (.bool false)) 3 (.int .u32 0)
   have bf:Below w.heap.size w ((((w3.setCell ⟨w.heap.size+1,0,none⟩ (.int .u32 0)).setCell ⟨w.heap.size+1,1,none⟩ (.int .i64 0)).setCell ⟨w.heap.size+1,2,none⟩ (.bool false)).setCell ⟨w.heap.size+1,3,none⟩ (.int .u32 0)):=(by repeat' (first|with_reducible exact Below.refl _ _|with_reducible assumption|with_reducible apply Below.drew|with_reducible apply qA|with_reducible refine Below.alloc ?_ ?_ _|with_reducible refine Below.setCell ?_ ?_ _|(simp;done)|(simp;omega)|omega))
   generalize hwf:(World.setCell (World.setCell (World.setCell (World.setCell w3 _ _) _ _) _ _) _ _)=wf at *
   have kf:=qa rf
   exact bodyPost_ret (v:=.tuple #[jK ⟨0,0,false,0⟩,.bool false]) (by simp[results,Tryz.results135,go_sem,kf]) rfl ⟨_,rfl,hp.out wf,bf⟩
def Ta (base:Nat) (e:TypeId) (size lo:Nat) (v:Value) (m:Nat) (ys:List Value):qS:=⟨Option Addr×Nat,fun p=>.slice p.1 m p.2,fun p W=>Done base e size lo v m ys (.slice p.1 m p.2) W⟩
theorem jS (base:Nat) (e:TypeId) (size lo:Nat) (v:Value) (m:Nat) (ys:List Value) (A:Option Addr) (c:Nat):(Ta base e size lo v m ys).f (A,c)=.slice A m c:=rfl
theorem UK {base:Nat} {e:TypeId} {size lo:Nat} {v:Value} {n:Nat} {xs:List Value} {m:Nat} {ys:List Value}:∀ p,qD (VB base e size lo v n xs m ys) ((Ta base e size lo v m ys).φ p):=fun p _ _ he h=>he.2.2 _ h

def Bls (w:World) (B:Nat) (v:Value) (bs:List (List UInt8)):Prop:=
 ∃ vs A c,v=.slice A bs.length c∧bs.length≤c∧c≤maxLen∧Rd w B 1 A bs.length vs∧∀ (i:Nat) (u:Value) (l:List UInt8),vs[i]?=some u→bs[i]?=some l→Bys w B u l
theorem Bls.below {w w':World} {B:Nat} {v:Value} {bs:List (List UInt8)} (h:Bls w B v bs) (hb:Below B w w'):Bls w' B v bs:=by
 obtain⟨vs,A,c,e,h1,h2,h3,h4⟩:=h
 exact⟨vs,A,c,e,h1,h2,h3.below hb,fun i u l hu hl=>(h4 i u l hu hl).below hb⟩
theorem Bls.more {w:World} {B B':Nat} {v:Value} {bs:List (List UInt8)} (h:Bls w B v bs) (hb:B≤B'):Bls w B' v bs:=by
 obtain⟨vs,A,c,e,h1,h2,h3,h4⟩:=h
 exact⟨vs,A,c,e,h1,h2,h3.more hb,fun i u l hu hl=>(h4 i u l hu hl).more hb⟩
theorem Bls.at_ {w:World} {B:Nat} {A:Option Addr} {n c:Nat} {bs:List (List UInt8)} (h:Bls w B (.slice A n c) bs):n=bs.length∧n≤c∧c≤maxLen∧(0<n→∃ b off,A=some ⟨b,off,none⟩∧b<B):=by
 obtain⟨vs,A',c',e,h1,h2,h3,_⟩:=h
 cases e
 refine⟨rfl,h1,h2,fun hn=>?_⟩
 obtain⟨b,off,e,hb,_⟩:=h3.2 hn
 exact⟨b,off,e,hb⟩
theorem Bls.get {w:World} {B b off n c:Nat} {bs:List (List UInt8)} (h:Bls w B (.slice (some ⟨b,off,none⟩) n c) bs) (i:Nat) (hi:i<bs.length):∃ A' c',w.cell? ⟨b,off+i,none⟩=some (.slice A' bs[i].length c')∧Bys w B (.slice A' bs[i].length c') bs[i]:=by
 obtain⟨vs,A',c',e,h1,h2,h3,h4⟩:=h
 cases e
 have hv:i<vs.length:=by rw[h3.len1];exact hi
 obtain⟨b',off',e,hb,hc⟩:=h3.2 (by omega)
 cases e
 have hby:=h4 i vs[i] bs[i] (zL hv) (zL hi)
 obtain⟨A2,c2,e2,g1,g2,g3⟩:=hby
 exact⟨A2,c2,by rw[←e2];exact hc i _ (zL hv),A2,c2,rfl,g1,g2,g3⟩
def ZB:List ((Int×List UInt8)×Value)→List Value
 | []=>[]
 |p :: r=>.int .i64 p.1.1 :: p.2 :: ZB r
theorem kK (ps:List ((Int×List UInt8)×Value)):(ZB ps).length=ps.length*2:=by
 induction ps with
 |nil=>rfl
 |cons p r ih=>simp[ZB,ih];omega
theorem VP (ps:List ((Int×List UInt8)×Value)):∀ i (h:i<ps.length),(ZB ps)[i*2]?=some (.int .i64 ps[i].1.1)∧(ZB ps)[i*2+1]?=some ps[i].2:=by
 induction ps with
 |nil=>intro i h;simp at h
 |cons p r ih =>
  intro i h
  rcases i with _|i
  ·simp[ZB]
  ·have:=ih i (by simpa using h)
   rw[show (i+1)*2=i*2+2 by omega]
   simpa [ZB] using this
def Wrs (w:World) (B:Nat) (v:Value) (ws:List (Int×List UInt8)):Prop:=
 ∃ ps:List ((Int×List UInt8)×Value),ps.map (·.1)=ws∧(∃ A c,v=.slice A ws.length c∧ws.length≤c∧c≤maxLen∧Rd w B 2 A ws.length (ZB ps))∧∀ p∈ps,(∃ A c,p.2=.slice A p.1.2.length c)∧Bys w B p.2 p.1.2
theorem Wrs.below {w w':World} {B:Nat} {v:Value} {ws:List (Int×List UInt8)} (h:Wrs w B v ws) (hb:Below B w w'):Wrs w' B v ws:=by
 obtain⟨ps,e,⟨A,c,e1,e2,e3,hr⟩,hp⟩:=h
 exact⟨ps,e,⟨A,c,e1,e2,e3,hr.below hb⟩,fun p h=>⟨(hp p h).1,(hp p h).2.below hb⟩⟩
theorem Wrs.more {w:World} {B B':Nat} {v:Value} {ws:List (Int×List UInt8)} (h:Wrs w B v ws) (hb:B≤B'):Wrs w B' v ws:=by
 obtain⟨ps,e,⟨A,c,e1,e2,e3,hr⟩,hp⟩:=h
 exact⟨ps,e,⟨A,c,e1,e2,e3,hr.more hb⟩,fun p h=>⟨(hp p h).1,(hp p h).2.more hb⟩⟩
theorem Wrs.at_ {w:World} {B:Nat} {A:Option Addr} {n c:Nat} {ws:List (Int×List UInt8)} (h:Wrs w B (.slice A n c) ws):n=ws.length∧n≤c∧c≤maxLen∧(0<n→∃ b off,A=some ⟨b,off,none⟩∧b<B):=by
 obtain⟨ps,e,⟨A',c',e1,e2,e3,hr⟩,hp⟩:=h
 cases e1
 refine⟨rfl,e2,e3,fun hn=>?_⟩
 obtain⟨b,off,e,hb,_⟩:=hr.2 hn
 exact⟨b,off,e,hb⟩
theorem Wrs.get {w:World} {B b off n c:Nat} {ws:List (Int×List UInt8)} (h:Wrs w B (.slice (some ⟨b,off,none⟩) n c) ws) (i:Nat) (hi:i<ws.length):∃ A' c',w.cell? ⟨b,off+i*2,none⟩=some (.int .i64 ws[i].1)∧w.cell? ⟨b,off+i*2+1,none⟩=some (.slice A' ws[i].2.length c')∧Bys w B (.slice A' ws[i].2.length c') ws[i].2:=by
 obtain⟨ps,e,⟨A,c',e1,e2,e3,hr⟩,hp⟩:=h
 cases e1
 subst e
 have hi':i<ps.length:=by simpa using hi
 obtain⟨b',off',e,hb,hc⟩:=hr.2 (by omega)
 cases e
 obtain⟨c0,c1⟩:=VP ps i hi'
 obtain⟨⟨A',c',e5⟩,hby⟩:=hp ps[i] (List.getElem_mem hi')
 rw[e5] at c1 hby
 refine⟨A',c',?_⟩
 simp only[List.getElem_map]
 exact⟨hc _ _ c0,by rw[Nat.add_assoc];exact hc _ _ c1,hby⟩
def TX (l:List UInt8):Bool:=decide (l.length=128)
def wrOk (x:Int×List UInt8):Bool:=decide (0≤x.1∧x.1<256∧x.2.length=128)
def headD (n m:Nat):Bool:=decide (n=256∧m≤4096)
def je (bs:List (List UInt8)) (ws:List (Int×List UInt8)):Bool:=headD bs.length ws.length && (bs.all TX && ws.all wrOk)
theorem qdg {α:Type} (f:α→Bool) (l:List α) (k:Nat) (h:k<l.length):(l.take (k+1)).all f=((l.take k).all f && f l[k]):=by
 rw[List.take_succ_eq_append_getElem h,List.all_append];simp only[List.all_cons,List.all_nil,Bool.and_true]
theorem qgD {α:Type} {f:α→Bool} {l:List α} {k:Nat} (h:k<l.length) (hf:f l[k]=false):l.all f=false:=by
 rw[List.all_eq_false];exact⟨_,List.getElem_mem h,by simp[hf]⟩
abbrev KJ (A1:Option Addr) (n1 c1:Nat) (A2:Option Addr) (n2 c2:Nat):Value:=.agg #[.slice A1 n1 c1,.slice A2 n2 c2]
theorem qfm (A1:Option Addr) (n1 c1:Nat) (A2:Option Addr) (n2 c2:Nat) (bs:List (List UInt8)) (ws:List (Int×List UInt8)) (w:World) (hb:Bls w w.heap.size (.slice A1 n1 c1) bs) (hw:Wrs w w.heap.size (.slice A2 n2 c2) ws) :
  Calls Tryz.prog 119 #[KJ A1 n1 c1 A2 n2 c2] w (Ret (.int .i64 (jX (je bs ws))) w):=by
 obtain⟨e1,hc1,hm1,hA1⟩:=hb.at_
 obtain⟨e2,hc2,hm2,hA2⟩:=hw.at_
 subst e1
 subst e2
 by_cases hh:headD bs.length ws.length=true
 case neg =>
  have hM:je bs ws=false:=by unfold je;rw[show headD bs.length ws.length=false by simpa using hh];rfl
  rw[hM]
  have hh':¬(bs.length=256∧ws.length≤4096):=by simpa [headD] using hh
  clear hM hb hw hA1 hA2 hh
  generalize bs.length=n1 at *
  generalize ws.length=n2 at *
  go_enter Tryz.func119,Tryz.ntmps119
  go_wp2
  all_goals try simp only[beq_iff_eq,beq_eq_false_iff_ne,ne_eq,bne_iff_ne,bne_eq_false_iff_eq] at *
  all_goals first|(exfalso;omega)|skip
  all_goals go_ret
  all_goals exact⟨rfl,(by repeat' (first|with_reducible exact Below.refl _ _|with_reducible assumption|with_reducible apply Below.drew|with_reducible apply qA|with_reducible refine Below.alloc ?_ ?_ _|with_reducible refine Below.setCell ?_ ?_ _|(simp;done)|(simp;omega)|omega))⟩
 case pos =>
  have hM:je bs ws=(bs.all TX && ws.all wrOk):=by unfold je;rw[hh];rfl
  have hh':bs.length=256∧ws.length≤4096:=by simpa [headD] using hh
  obtain⟨hn1,hn2⟩:=hh'
  rw[hM]
  clear hM hh
  have HB:=zH hb
  have HW:=zH hw
  have HTB:=zH (qdg TX bs)
  have HTW:=zH (qdg wrOk ws)
  have HBB:=zH (fun k h=>@qgD _ TX bs k h)
  have HBW:=zH (fun k h=>@qgD _ wrOk ws k h)
  have HE1:Hid (bs.take bs.length=bs):=zH (List.take_length)
  have HE2:Hid (ws.take ws.length=ws):=zH (List.take_length)
  obtain⟨b1,o1,rfl,hb1⟩:=hA1 (by omega)
  clear hb hw hA1
  have hsm:bs.length<1000:=by omega
  replace hn1:=zH hn1
  have hd1:((bs.length:Int) != 256)=false:=by rw[bne_eq_false_iff_eq,hn1.out];rfl
  have hd2:decide ((ws.length:Int)>4096)=false:=decide_eq_false (by omega)
  go_enter Tryz.func119,Tryz.ntmps119
  go_wp2
  generalize hw1:(World.alloc _ _)=w1
  have x1:Ext w w1:=by rw[←hw1];exact zN _ _
  have r1:w1.heap[w.heap.size]?=some (.cells #[.slice (some ⟨b1,o1,none⟩) bs.length c1,.slice A2 ws.length c2] 25 (0,0)):=by rw[←hw1];exact zI _ _ _ rfl
  clear hw1
  go_loopw [20] (fun i wr=>∃ k:Nat,k≤bs.length∧i=.int .i64 (k:Int)∧(bs.take k).all TX=true∧Ext w1 wr) (fun i _=>bs.length-(intOf i).toNat)
  case atStart=>exact⟨0,by omega,rfl,rfl,Ext.refl _⟩
  case round =>
   obtain⟨k,hk,rfl,hok,hE⟩:=hrel
   have hEw:=x1.trans hE
   by_cases hlt:k<bs.length
   ·have hlt':=hlt
    obtain⟨A',c',hc,_⟩:=((HB.out.below hEw).more hEw.size).get k hlt
    have ht:=HTB.out k hlt
    have hbd:=HBB.out k hlt
    rw[hok,Bool.true_and] at ht
    replace ht:=zH ht
    replace hbd:=zH hbd
    have hbo:TX bs[k]=decide (bs[k].length=128):=rfl
    replace hbo:=zH hbo
    generalize TX bs[k]=q at *
    generalize bs[k].length=m at *
    by_cases hm:m=128
    ·obtain rfl:q=true:=by rw[hbo.out,decide_eq_true hm]
     subst hm
     go_wp2
     go_roundw
     case rel=>exact⟨k+1,by omega,by go_num,ht.out,hE⟩
     case measure=>simp[intOf];omega
    ·obtain rfl:q=false:=by rw[hbo.out,decide_eq_false hm]
     have hne:((m:Int) != 128)=true:=by rw[bne_iff_ne];omega
     have hf:=hbd.out rfl
     go_wp2
     go_ret
     exact⟨by first|rfl|(rw[hf];rfl),hEw⟩
   ·obtain rfl:k=bs.length:=by omega
    rw[HE1.out] at hok
    rw[hok]
    have rr:=qb r1 hE
    have kr:=qa rr
    clear HB HTB HBB r1 hd1 hd2
    go_wp2
    clear kr
    go_loopw [31] (fun i wq=>∃ k:Nat,k≤ws.length∧i=.int .i64 (k:Int)∧(ws.take k).all wrOk=true∧Ext wr wq) (fun i _=>ws.length-(intOf i).toNat)
    case atStart=>exact⟨0,by omega,rfl,rfl,Ext.refl _⟩
    case round =>
     obtain⟨j,hj,rfl,hok2,hE2⟩:=hrel
     have hEq:=hEw.trans hE2
     by_cases hlt2:j<ws.length
     ·have hlt2':=hlt2
      obtain⟨b2,o2,rfl,hb2⟩:=hA2 (by omega)
      obtain⟨A',c',hca,hcb,_⟩:=((HW.out.below hEq).more hEq.size).get j hlt2
      have ht:=HTW.out j hlt2
      have hbd:=HBW.out j hlt2
      rw[hok2,Bool.true_and] at ht
      replace ht:=zH ht
      replace hbd:=zH hbd
      have hbo:wrOk ws[j]=decide (0≤ws[j].1∧ws[j].1<256∧ws[j].2.length=128):=rfl
      replace hbo:=zH hbo
      generalize wrOk ws[j]=q at *
      generalize ws[j].1=a at *
      generalize ws[j].2.length=m at *
      by_cases hm:0≤a∧a<256∧m=128
      ·obtain rfl:q=true:=by rw[hbo.out,decide_eq_true hm]
       obtain⟨ha1,ha2,rfl⟩:=hm
       have hda:decide (a<0)=false:=decide_eq_false (by omega)
       have hdb:decide (a≥256)=false:=decide_eq_false (by omega)
       go_wp2
       go_roundw
       case rel=>exact⟨j+1,by omega,by go_num,ht.out,hE2.trans (zN _ _)⟩
       case measure=>simp[intOf];omega
      ·obtain rfl:q=false:=by rw[hbo.out,decide_eq_false hm]
       have hf:=hbd.out rfl
       have hfin:Below w.heap.size w _:=hEq
       go_wp2
       all_goals try simp only[beq_iff_eq,beq_eq_false_iff_ne,ne_eq,bne_iff_ne,bne_eq_false_iff_eq] at *
       all_goals first
        |(exfalso;omega)
        |(go_ret
          exact⟨by first|rfl|(rw[hf];rfl),Below.alloc hEq (by have:=hEq.size;omega) _⟩)
     ·obtain rfl:j=ws.length:=by omega
      rw[HE2.out] at hok2
      go_wp2
      go_ret
      exact⟨by first|rfl|(rw[hok];rfl)|(rw[hok2];rfl)|(rw[hok,hok2];rfl),hEq⟩
def Qj (t:List UInt8):Bool:=decide (t.length=256) && kE (t.take 8)
theorem Bys.take {w:World} {B:Nat} {A:Option Addr} {m c:Nat} {l:List UInt8} (h:Bys w B (.slice A m c) l) {k:Nat} (hk:k≤l.length):Bys w B (.slice A k c) (l.take k):=by
 obtain⟨A',c',e,hc,hm,hr⟩:=h
 cases e
 have hl:(l.take k).length=k:=by simp;omega
 refine⟨_,_,by rw[hl],by rw[hl];omega,hm,?_⟩
 rw[hl]
 have:=hr.take hk
 rwa [Nat.mul_one,←List.map_take] at this
theorem Xc (v:Value) (t:List UInt8) (w:World) (h:Bys w w.heap.size v t) :
  Calls Tryz.prog 120 #[v] w (Ret (.int .i64 (jX (Qj t))) w):=by
 obtain⟨A,m,c,rfl⟩:∃ A m c,v=.slice A m c:=by obtain⟨A,c,e,_⟩:=h;exact⟨_,_,_,e⟩
 obtain⟨e1,hc,hm,hA⟩:=h.at_
 subst e1
 by_cases h256:t.length=256
 ·have hT:Qj t=kE (t.take 8):=by unfold Qj;rw[decide_eq_true h256,Bool.true_and]
  rw[hT]
  have HM:=zH (fun W (hW:Ext w W)=>qeD (.slice A 8 c) (t.take 8) (by simp;omega) (by simp;omega) W (((h.take (k:=8) (by omega)).below hW).more hW.size))
  have hz:=GF (t.take 8)
  have hml:=qco (t.take 8)
  generalize KU (t.take 8)=mx at *
  generalize kE (t.take 8)=z at *
  clear hT h
  have hc8:(8:Int)≤(c:Int):=by omega
  have hd1:((t.length:Int) != 256)=false:=by rw[bne_eq_false_iff_eq];omega
  clear h256
  go_enter Tryz.func120,Tryz.ntmps120
  go_wp2_with fail
  refine(HM.out _ (Ext.refl _)).mono ?_
  rintro e w2 ⟨rfl,hB⟩
  clear HM
  cases z
  ·have hm0:0<mx:=by simpa using hz
   go_wp2
   go_ret
   exact⟨rfl,hB⟩
  ·obtain rfl:mx=0:=by simpa using hz
   go_wp2
   go_ret
   exact⟨rfl,hB⟩
 ·have hT:Qj t=false:=by unfold Qj;rw[decide_eq_false h256];rfl
  rw[hT]
  have hn1:((t.length:Int) != 256)=true:=by rw[bne_iff_ne];omega
  go_enter Tryz.func120,Tryz.ntmps120
  go_wp2
  go_ret
  exact⟨rfl,Below.refl _ _⟩
end Go.Proofs.YtpbniokljofedaaGreat
