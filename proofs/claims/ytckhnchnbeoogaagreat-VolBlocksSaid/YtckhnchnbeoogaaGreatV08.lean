/- Texts Vol, FreeS, Volm, joined. -/
import Derived.Test.YtckhnchnbeoogaaGreatV06
import Derived.Test.YtckhnchnbeoogaaGreatV07
set_option linter.unusedSimpArgs false
set_option linter.unusedVariables false
namespace Go.Proofs.YtckhnchnbeoogaaGreat
open Go.RowKit
structure Vol where
 id:Int
 root:Int
 fz:Bool
 frm:Int
deriving DecidableEq
def QZ (v:Vol):List UInt8:=qy v.root.toNat 2++[if v.fz then 1 else 0]++qy v.frm.toNat 4
theorem jn (v:Vol):(QZ v).length=7:=by simp[QZ,zM]
def Qq (x:It):Vol:=⟨x.i,Qx x.val 0 2,decide ((x.val[2]?.getD 0).toNat=1),Qx x.val 3 4⟩
def jF (x:It):Bool:=decide (x.val.length=7) && VG 1 x.i 0 0 x.k x.i x.o x.r (QZ (Qq x)) x.val
abbrev XQ (v:Vol):Value:=.agg #[.int .u32 v.id,.int .i64 v.root,.bool v.fz,.int .u32 v.frm]
def VolOk (v:Vol):Prop:=(0≤v.id∧v.id<4294967296)∧(0≤v.root∧v.root<65536)∧(0≤v.frm∧v.frm<4294967296)
def Vu (lo n:Nat) (ty:TypeId) (φ:List Value→World→Prop):qT:=⟨Nat,fun b=>.slice (some ⟨b,0,none⟩) n n,fun b W=>lo≤b∧∃ cs:Array Value,cs.size=n∧W.heap[b]?=some (.cells cs ty (0,0))∧φ cs.toList W⟩
theorem zF (lo n:Nat) (ty:TypeId) (φ:List Value→World→Prop) (b:Nat):(Vu lo n ty φ).f b=.slice (some ⟨b,0,none⟩) n n:=rfl
theorem VQ {lo n:Nat} {ty:TypeId} {φ:List Value→World→Prop} (hφ:∀ l,QI (φ l)):∀ p,QI ((Vu lo n ty φ).φ p):=fun p W W' he ⟨h1,cs,h2,h3,h4⟩ =>
 ⟨h1,cs,h2,(Below.block he p (zG.1 h3).1).trans h3,hφ _ _ _ he h4⟩
theorem XB {P:Program} {o:Oper} {a:Act} {W:World} {lo' n':Nat} {ty:TypeId} {φ:List Value→World→Prop} {cs:Array Value} (hr:(execOp a.eval o).run P W=.ok (.value (.slice (some ⟨W.heap.size,0,none⟩) n' n')) (W.alloc (.cells cs ty)))
  (hlo:lo'≤W.heap.size) (hn:cs.size=n') (hφ:φ cs.toList (W.alloc (.cells cs ty))):jx P o a W (Vu lo' n' ty φ):=by
 unfold jx;rw[hr];exact⟨W.heap.size,rfl,⟨hlo,cs,hn,World.alloc_heap_at _ _ _ rfl,hφ⟩,Ext.alloc _ _⟩
def VF (ls:List (List UInt8)) (vs:List Value) (W:World):Prop:=vs.length=ls.length∧∀ (i:Nat) (v:Value) (l:List UInt8),vs[i]?=some v→ls[i]?=some l→Bys W W.heap.size v l
theorem VF.stable (ls:List (List UInt8)) (vs:List Value):QI (VF ls vs):=fun _ _ he h=>⟨h.1,fun i v l h1 h2=>((h.2 i v l h1 h2).below he).more he.size⟩
theorem Bys.lit {W:World} {b:Nat} {l:List UInt8} {ty:TypeId} (h:W.heap[b]?=some (.cells (l.map bv).toArray ty (0,0))) (hl:l.length≤maxLen):Bys W W.heap.size (.slice (some ⟨b,0,none⟩) l.length l.length) l:=
 ⟨_,_,rfl,Nat.le_refl _,hl,by simp,fun _=>⟨b,0,rfl,(zG.1 h).1,fun j u hu=>by rw[qa h];simpa using hu⟩⟩
theorem Rd.row {W:World} {b:Nat} {cs:Array Value} {ty:TypeId} (h:W.heap[b]?=some (.cells cs ty (0,0))) (n:Nat) (hn:cs.size=n):Rd W W.heap.size 1 (some ⟨b,0,none⟩) n cs.toList:=
 ⟨by simp[hn],fun _=>⟨b,0,rfl,(zG.1 h).1,fun j u hu=>by rw[qa h];simpa using hu⟩⟩
set_option maxHeartbeats 4000000 in
set_option maxRecDepth 100000 in
theorem one_any (v:Vol) (hv:VolOk v) (w:World) :
  Calls Tryz.prog 138 #[XQ v] w (zE (IsI w.heap.size 1 v.id 0 0 (QZ v)) w):=by
 obtain⟨vi,vr,vf,vm⟩:=v
 obtain⟨⟨hi1,hi2⟩,⟨hr1,hr2⟩,⟨hm1,hm2⟩⟩:=hv
 dsimp only at *
 obtain⟨r,rfl⟩:=Int.eq_ofNat_of_zero_le hr1
 obtain⟨m,rfl⟩:=Int.eq_ofNat_of_zero_le hm1
 have HB:Hid (QZ ⟨vi,r,vf,m⟩=[qy r 2,[if vf then 1 else 0],qy m 4].flatten):=by
  refine zH ?_
  simp[QZ]
 have HL:Hid ((QZ ⟨vi,r,vf,m⟩).length=7):=zH (jn _)
 have l2:=zM 2 r
 have l4:=zM 4 m
 replace l2:=zH l2
 replace l4:=zH l4
 generalize QZ ⟨vi,r,vf,m⟩=vb at *
 cases vf
 ·go_enter Tryz.func138,Tryz.ntmps138
  go_wp2_with fail
  generalize hw1:(World.alloc (World.alloc _ _) _)=w1
  have b1:Ext w w1:=by rw[←hw1];exact(Ext.alloc _ _).trans (Ext.alloc _ _)
  have r1:w1.heap[w.heap.size]?=some (.cells #[.int .u32 vi,.int .i64 r,.bool false,.int .u32 m] 70 (0,0)):=by rw[←hw1];exact(Below.heap_alloc _ _ _ (by simp)).trans (World.alloc_heap_at _ _ _ rfl)
  have q1:w1.heap[w.heap.size+1]?=some (.cells #[.int .u8 0,.int .u32 0,.int .u32 0,.int .i64 0,.slice none 0 0] 38 (0,0)):=by rw[←hw1];exact World.alloc_heap_at _ _ _ (by simp)
  clear hw1
  refine(qdG r (by omega) _).mono ?_
  rintro e w2 ⟨u,rfl,⟨u2,rfl,A2,c2,rfl,hb2,hf2⟩,hB⟩
  have b2:Ext w w2:=Ext.trans b1 hB
  have r2:=qc r1 hB
  have q2:=qc q1 hB
  have k2:=qa r2
  have s2:w.heap.size+1<w2.heap.size:=(zG.1 q2).1
  clear hB b1 r1 q1
  go_wp2
  have hE:∀ W,Ext w2 W→∀ j,W.cell? ⟨w.heap.size,j,none⟩=#[.int .u32 vi,.int .i64 r,.bool false,.int .u32 m][j]?:=fun W h=>qa (qc r2 h)
  clear k2
  refine qG (qE [(5,jd w2.heap.size 1 5 #[.int .u8 0]),(8,ZA w2.heap.size 4 (qy m 4)),(9,Vu w2.heap.size 3 26 (VF [qy r 2,[0],qy m 4])),(10,ZA w2.heap.size 7 vb)]) 12 (by kernel_rfl) (by kernel_rfl) (by kernel_rfl) (by decide) (by kernel_rfl) (by kernel_rfl) ?st ?walk
  case st=>exact qJ (by simp only[List.forall_mem_cons];exact⟨vG _ _ _ _,ZG _ _ _,VQ (VF.stable _),ZG _ _ _,fun _ h=>by cases h⟩)
  case walk =>
   intro K hK
   dsimp only[List.take]
   repeat ((first|(refine ql ?_ (by rfl) (by rfl) (fun W hW _=>⟨W,?_,Ext.refl W⟩) ?_;rotate_left;(first|(go_simp;with_reducible rfl)|(go_simp;done)))|(refine qt (by rfl) ?_));try simp only[Act.put,qi,qe,qb,qg,qY,zF,Qt,zA,zB,zC])
   refine qZ (jd w2.heap.size 1 5 #[.int .u8 0]) (by rfl) (by rfl) (fun W hW _=>?_) (fun (p5:Nat)=>?_)
   ·refine Uo ?_ hW.size
    go_simp
   simp only[Act.put,qi,qe,qb,qg,qY,zF,Qt,zA,zB,zC]
   repeat ((first|(refine ql ?_ (by rfl) (by rfl) (fun W hW _=>⟨W,?_,Ext.refl W⟩) ?_;rotate_left;(first|(go_simp;with_reducible rfl)|(go_simp;done)))|(refine qt (by rfl) ?_));try simp only[Act.put,qi,qe,qb,qg,qY,zF,Qt,zA,zB,zC])
   refine qZ (ZA w2.heap.size 4 (qy m 4)) (by rfl) (by rfl) (fun W hW _=>?_) (fun p8=>?_)
   ·refine Qb ?_ ((qaV m (by omega) W).mono fun e w' h=>?_)
    ·go_simp
    obtain⟨u,rfl,⟨A,c,rfl,h1,h2⟩,h3⟩:=h
    exact⟨(A,c),rfl,⟨h1,h2.mono hW.size⟩,h3⟩
   obtain⟨A8,c8⟩:=p8
   simp only[Act.put,qi,qe,qb,qg,qY,zF,Qt,zA,zB,zC]
   refine qZ (Vu w2.heap.size 3 26 (VF [qy r 2,[0],qy m 4])) (by rfl) (by rfl) (fun W hW hp=>?_) (fun (p9:Nat)=>?_)
   ·have f5:=(hp 5 (by decide)).1
    have f8:=(hp 8 (by decide)).1
    obtain⟨f5,_⟩:W.heap[p5]?=some (.cells #[.int .u8 0] 5 (0,0))∧w2.heap.size≤p5:=f5
    obtain⟨f8,_⟩:Bys W W.heap.size (.slice A8 4 c8) (qy m 4)∧_:=f8
    have hR:VF [qy r 2,[0],qy m 4] [.slice A2 2 c2,.slice (some ⟨p5,0,none⟩) 1 1,.slice A8 4 c8] W:=by
     refine⟨rfl,fun i v l hv hl=>?_⟩
     have hlit:Bys W W.heap.size (.slice (some ⟨p5,0,none⟩) 1 1) [(0:UInt8)]:=Bys.lit (l:=[(0:UInt8)]) f5 (by simp[maxLen])
     rcases i with _|_|_|i
     ·simp at hv hl;subst hv;subst hl;exact(hb2.below hW).more hW.size
     ·simp at hv hl;subst hv;subst hl;exact hlit
     ·simp at hv hl;subst hv;subst hl;exact f8
     ·simp at hv
    refine XB (cs:=#[.slice A2 2 c2,.slice (some ⟨p5,0,none⟩) 1 1,.slice A8 4 c8]) ?_ hW.size rfl ?_
    ·go_simp
    ·exact VF.stable _ _ _ _ (Ext.alloc _ _) hR
   simp only[Act.put,qi,qe,qb,qg,qY,zF,Qt,zA,zB,zC]
   refine qZ (ZA w2.heap.size 7 vb) (by rfl) (by rfl) (fun W hW hp=>?_) (fun p10=>?_)
   ·obtain⟨_,cs,hcs,hrow,hR⟩:=(hp 9 (by decide)).1
    have hlen:[qy r 2,[(0:UInt8)],qy m 4].flatten.length=7:=by simp[l2.out,l4.out]
    refine Qb ?_ ((Xm (some ⟨p9,0,none⟩) 3 3 cs.toList [qy r 2,[0],qy m 4] (by simpa using hcs) rfl W (Rd.row hrow 3 hcs) (fun i v l h1 h2=>hR.2 i v l h1 h2) (by omega) (by omega)).mono fun e w' h=>?_)
    ·go_simp
    rw[hlen] at h
    obtain⟨p,h1,h2,h3⟩:=Jc h hW.size
    have HB':=HB.out
    simp only[Bool.false_eq_true,if_false,if_true] at HB'
    rw[←HB'] at h1 h2
    exact⟨p,h1,h2,h3⟩
   obtain⟨A10,c10⟩:=p10
   simp only[Act.put,qi,qe,qb,qg,qY,zF,Qt,zA,zB,zC]
   repeat ((first|(refine ql ?_ (by rfl) (by rfl) (fun W hW _=>⟨W,?_,Ext.refl W⟩) ?_;rotate_left;(first|(go_simp;with_reducible rfl)|(go_simp;done)))|(refine qt (by rfl) ?_));try simp only[Act.put,qi,qe,qb,qg,qY,zF,Qt,zA,zB,zC])
   refine qP (hK _ _ fun W hW hF=>?_)
   obtain⟨f10,g10⟩:Bys W W.heap.size (.slice A10 7 c10) vb∧QD w2.heap.size (.slice A10 7 c10):=(hF 10).1
   clear hF hK hE
   have b3:Ext w W:=b2.trans hW
   have q3:=qc q2 hW
   have kq:=qa q3
   have fq:=qd q3
   dsimp only[List.drop]
   go_wp2
   have hgt:w.heap.size+1<w2.heap.size:=s2
   have hby:=((((f10.setCell g10 (p:=⟨w.heap.size+1,0,none⟩) hgt (.int .u8 1)).setCell g10 (p:=⟨w.heap.size+1,1,none⟩) hgt (.int .u32 vi)).setCell g10 (p:=⟨w.heap.size+1,2,none⟩) hgt (.int .u32 0)).setCell g10 (p:=⟨w.heap.size+1,3,none⟩) hgt (.int .i64 0)).setCell g10 (p:=⟨w.heap.size+1,4,none⟩) hgt (.slice A10 7 c10)
   have rf:=qh (qh (qh (qh (qh q3 0 (.int .u8 1)) 1 (.int .u32 vi)) 2 (.int .u32 0)) 3 (.int .i64 0)) 4 (.slice A10 7 c10)
   have b3':Below w.heap.size w W:=b3
   have bf:Below w.heap.size w (((((W.setCell ⟨w.heap.size+1,0,none⟩ (.int .u8 1)).setCell ⟨w.heap.size+1,1,none⟩ (.int .u32 vi)).setCell ⟨w.heap.size+1,2,none⟩ (.int .u32 0)).setCell ⟨w.heap.size+1,3,none⟩ (.int .i64 0)).setCell ⟨w.heap.size+1,4,none⟩ (.slice A10 7 c10)):=(by repeat' (first|with_reducible exact Below.refl _ _|with_reducible assumption|with_reducible apply Below.drew|with_reducible apply qp|with_reducible refine Below.alloc ?_ ?_ _|with_reducible refine Below.setCell ?_ ?_ _|(simp;done)|(simp;omega)|omega))
   have hsz:(((((W.setCell ⟨w.heap.size+1,0,none⟩ (.int .u8 1)).setCell ⟨w.heap.size+1,1,none⟩ (.int .u32 vi)).setCell ⟨w.heap.size+1,2,none⟩ (.int .u32 0)).setCell ⟨w.heap.size+1,3,none⟩ (.int .i64 0)).setCell ⟨w.heap.size+1,4,none⟩ (.slice A10 7 c10)).heap.size=W.heap.size:=by simp
   generalize hwf:(World.setCell (World.setCell (World.setCell (World.setCell (World.setCell W _ _) _ _) _ _) _ _) _ _)=wf at *
   have kf:=qa rf
   rw[←hsz] at hby
   exact bodyPost_ret (v:=ZM 1 vi 0 0 A10 7 c10) (by simp[results,Tryz.results138,go_sem,kf]) rfl ⟨_,rfl,⟨A10,c10,by rw[HL.out],by rw[HL.out];exact hby,by rw[HL.out];exact g10.mono (by omega)⟩,bf⟩
 ·go_enter Tryz.func138,Tryz.ntmps138
  go_wp2_with fail
  generalize hw1:(World.alloc (World.alloc _ _) _)=w1
  have b1:Ext w w1:=by rw[←hw1];exact(Ext.alloc _ _).trans (Ext.alloc _ _)
  have r1:w1.heap[w.heap.size]?=some (.cells #[.int .u32 vi,.int .i64 r,.bool true,.int .u32 m] 70 (0,0)):=by rw[←hw1];exact(Below.heap_alloc _ _ _ (by simp)).trans (World.alloc_heap_at _ _ _ rfl)
  have q1:w1.heap[w.heap.size+1]?=some (.cells #[.int .u8 0,.int .u32 0,.int .u32 0,.int .i64 0,.slice none 0 0] 38 (0,0)):=by rw[←hw1];exact World.alloc_heap_at _ _ _ (by simp)
  clear hw1
  refine(qdG r (by omega) _).mono ?_
  rintro e w2 ⟨u,rfl,⟨u2,rfl,A2,c2,rfl,hb2,hf2⟩,hB⟩
  have b2:Ext w w2:=Ext.trans b1 hB
  have r2:=qc r1 hB
  have q2:=qc q1 hB
  have k2:=qa r2
  have s2:w.heap.size+1<w2.heap.size:=(zG.1 q2).1
  clear hB b1 r1 q1
  go_wp2
  have hE:∀ W,Ext w2 W→∀ j,W.cell? ⟨w.heap.size,j,none⟩=#[.int .u32 vi,.int .i64 r,.bool true,.int .u32 m][j]?:=fun W h=>qa (qc r2 h)
  clear k2
  refine qG (qE [(5,jd w2.heap.size 1 5 #[.int .u8 1]),(8,ZA w2.heap.size 4 (qy m 4)),(9,Vu w2.heap.size 3 26 (VF [qy r 2,[1],qy m 4])),(10,ZA w2.heap.size 7 vb)]) 12 (by kernel_rfl) (by kernel_rfl) (by kernel_rfl) (by decide) (by kernel_rfl) (by kernel_rfl) ?st ?walk
  case st=>exact qJ (by simp only[List.forall_mem_cons];exact⟨vG _ _ _ _,ZG _ _ _,VQ (VF.stable _),ZG _ _ _,fun _ h=>by cases h⟩)
  case walk =>
   intro K hK
   dsimp only[List.take]
   repeat ((first|(refine ql ?_ (by rfl) (by rfl) (fun W hW _=>⟨W,?_,Ext.refl W⟩) ?_;rotate_left;(first|(go_simp;with_reducible rfl)|(go_simp;done)))|(refine qt (by rfl) ?_));try simp only[Act.put,qi,qe,qb,qg,qY,zF,Qt,zA,zB,zC])
   refine qZ (jd w2.heap.size 1 5 #[.int .u8 1]) (by rfl) (by rfl) (fun W hW _=>?_) (fun (p5:Nat)=>?_)
   ·refine Uo ?_ hW.size
    go_simp
   simp only[Act.put,qi,qe,qb,qg,qY,zF,Qt,zA,zB,zC]
   repeat ((first|(refine ql ?_ (by rfl) (by rfl) (fun W hW _=>⟨W,?_,Ext.refl W⟩) ?_;rotate_left;(first|(go_simp;with_reducible rfl)|(go_simp;done)))|(refine qt (by rfl) ?_));try simp only[Act.put,qi,qe,qb,qg,qY,zF,Qt,zA,zB,zC])
   refine qZ (ZA w2.heap.size 4 (qy m 4)) (by rfl) (by rfl) (fun W hW _=>?_) (fun p8=>?_)
   ·refine Qb ?_ ((qaV m (by omega) W).mono fun e w' h=>?_)
    ·go_simp
    obtain⟨u,rfl,⟨A,c,rfl,h1,h2⟩,h3⟩:=h
    exact⟨(A,c),rfl,⟨h1,h2.mono hW.size⟩,h3⟩
   obtain⟨A8,c8⟩:=p8
   simp only[Act.put,qi,qe,qb,qg,qY,zF,Qt,zA,zB,zC]
   refine qZ (Vu w2.heap.size 3 26 (VF [qy r 2,[1],qy m 4])) (by rfl) (by rfl) (fun W hW hp=>?_) (fun (p9:Nat)=>?_)
   ·have f5:=(hp 5 (by decide)).1
    have f8:=(hp 8 (by decide)).1
    obtain⟨f5,_⟩:W.heap[p5]?=some (.cells #[.int .u8 1] 5 (0,0))∧w2.heap.size≤p5:=f5
    obtain⟨f8,_⟩:Bys W W.heap.size (.slice A8 4 c8) (qy m 4)∧_:=f8
    have hR:VF [qy r 2,[1],qy m 4] [.slice A2 2 c2,.slice (some ⟨p5,0,none⟩) 1 1,.slice A8 4 c8] W:=by
     refine⟨rfl,fun i v l hv hl=>?_⟩
     have hlit:Bys W W.heap.size (.slice (some ⟨p5,0,none⟩) 1 1) [(1:UInt8)]:=Bys.lit (l:=[(1:UInt8)]) f5 (by simp[maxLen])
     rcases i with _|_|_|i
     ·simp at hv hl;subst hv;subst hl;exact(hb2.below hW).more hW.size
     ·simp at hv hl;subst hv;subst hl;exact hlit
     ·simp at hv hl;subst hv;subst hl;exact f8
     ·simp at hv
    refine XB (cs:=#[.slice A2 2 c2,.slice (some ⟨p5,0,none⟩) 1 1,.slice A8 4 c8]) ?_ hW.size rfl ?_
    ·go_simp
    ·exact VF.stable _ _ _ _ (Ext.alloc _ _) hR
   simp only[Act.put,qi,qe,qb,qg,qY,zF,Qt,zA,zB,zC]
   refine qZ (ZA w2.heap.size 7 vb) (by rfl) (by rfl) (fun W hW hp=>?_) (fun p10=>?_)
   ·obtain⟨_,cs,hcs,hrow,hR⟩:=(hp 9 (by decide)).1
    have hlen:[qy r 2,[(1:UInt8)],qy m 4].flatten.length=7:=by simp[l2.out,l4.out]
    refine Qb ?_ ((Xm (some ⟨p9,0,none⟩) 3 3 cs.toList [qy r 2,[1],qy m 4] (by simpa using hcs) rfl W (Rd.row hrow 3 hcs) (fun i v l h1 h2=>hR.2 i v l h1 h2) (by omega) (by omega)).mono fun e w' h=>?_)
    ·go_simp
    rw[hlen] at h
    obtain⟨p,h1,h2,h3⟩:=Jc h hW.size
    have HB':=HB.out
    simp only[Bool.false_eq_true,if_false,if_true] at HB'
    rw[←HB'] at h1 h2
    exact⟨p,h1,h2,h3⟩
   obtain⟨A10,c10⟩:=p10
   simp only[Act.put,qi,qe,qb,qg,qY,zF,Qt,zA,zB,zC]
   repeat ((first|(refine ql ?_ (by rfl) (by rfl) (fun W hW _=>⟨W,?_,Ext.refl W⟩) ?_;rotate_left;(first|(go_simp;with_reducible rfl)|(go_simp;done)))|(refine qt (by rfl) ?_));try simp only[Act.put,qi,qe,qb,qg,qY,zF,Qt,zA,zB,zC])
   refine qP (hK _ _ fun W hW hF=>?_)
   obtain⟨f10,g10⟩:Bys W W.heap.size (.slice A10 7 c10) vb∧QD w2.heap.size (.slice A10 7 c10):=(hF 10).1
   clear hF hK hE
   have b3:Ext w W:=b2.trans hW
   have q3:=qc q2 hW
   have kq:=qa q3
   have fq:=qd q3
   dsimp only[List.drop]
   go_wp2
   have hgt:w.heap.size+1<w2.heap.size:=s2
   have hby:=((((f10.setCell g10 (p:=⟨w.heap.size+1,0,none⟩) hgt (.int .u8 1)).setCell g10 (p:=⟨w.heap.size+1,1,none⟩) hgt (.int .u32 vi)).setCell g10 (p:=⟨w.heap.size+1,2,none⟩) hgt (.int .u32 0)).setCell g10 (p:=⟨w.heap.size+1,3,none⟩) hgt (.int .i64 0)).setCell g10 (p:=⟨w.heap.size+1,4,none⟩) hgt (.slice A10 7 c10)
   have rf:=qh (qh (qh (qh (qh q3 0 (.int .u8 1)) 1 (.int .u32 vi)) 2 (.int .u32 0)) 3 (.int .i64 0)) 4 (.slice A10 7 c10)
   have b3':Below w.heap.size w W:=b3
   have bf:Below w.heap.size w (((((W.setCell ⟨w.heap.size+1,0,none⟩ (.int .u8 1)).setCell ⟨w.heap.size+1,1,none⟩ (.int .u32 vi)).setCell ⟨w.heap.size+1,2,none⟩ (.int .u32 0)).setCell ⟨w.heap.size+1,3,none⟩ (.int .i64 0)).setCell ⟨w.heap.size+1,4,none⟩ (.slice A10 7 c10)):=(by repeat' (first|with_reducible exact Below.refl _ _|with_reducible assumption|with_reducible apply Below.drew|with_reducible apply qp|with_reducible refine Below.alloc ?_ ?_ _|with_reducible refine Below.setCell ?_ ?_ _|(simp;done)|(simp;omega)|omega))
   have hsz:(((((W.setCell ⟨w.heap.size+1,0,none⟩ (.int .u8 1)).setCell ⟨w.heap.size+1,1,none⟩ (.int .u32 vi)).setCell ⟨w.heap.size+1,2,none⟩ (.int .u32 0)).setCell ⟨w.heap.size+1,3,none⟩ (.int .i64 0)).setCell ⟨w.heap.size+1,4,none⟩ (.slice A10 7 c10)).heap.size=W.heap.size:=by simp
   generalize hwf:(World.setCell (World.setCell (World.setCell (World.setCell (World.setCell W _ _) _ _) _ _) _ _) _ _)=wf at *
   have kf:=qa rf
   rw[←hsz] at hby
   exact bodyPost_ret (v:=ZM 1 vi 0 0 A10 7 c10) (by simp[results,Tryz.results138,go_sem,kf]) rfl ⟨_,rfl,⟨A10,c10,by rw[HL.out],by rw[HL.out];exact hby,by rw[HL.out];exact g10.mono (by omega)⟩,bf⟩
def qu:Rel where
 rel:=Ext
 refl':=Ext.refl
 trans':=Ext.trans
 drew':=Ext.drew
theorem zD {φ:World→Prop} (h:QI φ):qF qu φ:=fun W W' he=>h W W' he
theorem vu {P:Program} {o:Oper} {a:Act} {W:World} {lo':Nat} {ty:TypeId} {cs:Array Value} (hr:(execOp a.eval o).run P W=.ok (.value (.pointer (some ⟨W.heap.size,0,none⟩))) (W.alloc (.cells cs ty)))
  (hlo:lo'≤W.heap.size):Qp qu P o a W (vk lo' ty cs):=by
 unfold Qp;rw[hr];exact⟨W.heap.size,rfl,⟨World.alloc_heap_at _ _ _ rfl,hlo⟩,Ext.alloc _ _⟩
def Vz (B:Nat) (ty:TypeId) (vs:Nat→Option Value):Rel where
 rel W W':=W.grownBy W' (some B)∧∀ cs,W.heap[B]?=some (.cells cs ty (0,0))→∃ cs',W'.heap[B]?=some (.cells cs' ty (0,0))∧cs'.size=cs.size∧∀ j,cs'[j]?=cs[j]?∨(vs j≠none∧cs'[j]?=vs j)
 refl' W:=⟨World.grownBy.refl _ _,fun cs h=>⟨cs,h,rfl,fun _=>.inl rfl⟩⟩
 trans' h k:=⟨h.1.trans k.1,fun cs hc=>by
  obtain⟨c1,h1,h2,h3⟩:=h.2 cs hc
  obtain⟨c2,k1,k2,k3⟩:=k.2 c1 h1
  refine⟨c2,k1,k2.trans h2,fun j=>?_⟩
  rcases k3 j with e|e
  ·rw[e];exact h3 j
  ·exact .inr e⟩
 drew' W:=⟨⟨rfl,rfl,rfl,Nat.le_refl _,fun _ _ _=>rfl⟩,fun cs h=>⟨cs,h,rfl,fun _=>.inl rfl⟩⟩
section
variable {B:Nat} {ty:TypeId} {vs:Nat→Option Value}
theorem Yz {W W':World} (h:(Vz B ty vs).r W W') {p:Addr} {u:Value} (hp:p.block≠B) (hc:W.cell? p=some u):W'.cell? p=some u:=
 World.grownBy.cell h.1 hc (fun x=>hp (by simpa using x))
theorem qbd {W W':World} (h:(Vz B ty vs).r W W') {b:Nat} {o:Obj} (hp:b≠B) (hc:W.heap[b]?=some o):W'.heap[b]?=some o:=
 (h.1.block b (zG.1 hc).1 (fun x=>hp (by simpa using x))).trans hc
theorem qbq {W:World} {cs:Array Value} {j:Nat} {v:Value} (h:W.heap[B]?=some (.cells cs ty (0,0))) (hv:vs j=some v) (hj:j<cs.size) :
  (Vz B ty vs).r W (W.setCell ⟨B,j,none⟩ v)∧(W.setCell ⟨B,j,none⟩ v).cell? ⟨B,j,none⟩=some v:=by
 have hr:=qh h j v
 refine⟨⟨⟨rfl,rfl,rfl,by simp,fun k _ hk=>Below.heap_setCell _ _ _ _ (fun e=>hk (by simp at e;rw[e]))⟩,fun cs' hc=>?_⟩,?_⟩
 ·rw[h] at hc
  simp only[Option.some.injEq,Obj.cells.injEq,and_true] at hc
  subst hc
  refine⟨_,hr,by simp,fun k=>?_⟩
  by_cases hk:j=k
  ·subst hk
   exact .inr ⟨by rw[hv];simp,by rw[hv];simp[hj]⟩
  ·exact .inl (by simp[hk])
 ·rw[qa hr]
  simp[hj]
end
def Vv (B:Nat) (ty:TypeId) (j:Nat) (v:Value):qT:=⟨Unit,fun _=>undef,fun _ W=>∃ cs,W.heap[B]?=some (.cells cs ty (0,0))∧cs[j]?=some v⟩
theorem Zx (B:Nat) (ty:TypeId) (j:Nat) (v:Value) (u:Unit):(Vv B ty j v).f u=undef:=rfl
theorem vI {B:Nat} {ty:TypeId} {vs:Nat→Option Value} {j:Nat} {v:Value} (hv:vs j=some v):∀ p,qF (Vz B ty vs) ((Vv B ty j v).φ p):=by
 intro p W W' he ⟨cs,h1,h2⟩
 obtain⟨c',k1,_,k3⟩:=he.2 cs h1
 refine⟨c',k1,?_⟩
 rcases k3 j with e|e
 ·rw[e];exact h2
 ·rw[e.2];exact hv
theorem KL {P:Program} {o:Oper} {a:Act} {w W:World} {B:Nat} {ty:TypeId} {vs:Nat→Option Value} {j:Nat} {v:Value} {cs:Array Value} (h0:w.heap[B]?=some (.cells cs ty (0,0))) (hW:(Vz B ty vs).r w W) (hv:vs j=some v) (hj:j<cs.size)
  (hr:(∀ i,W.frozen? ⟨B,i,none⟩=false)→(∃ u,W.cell? ⟨B,j,none⟩=some u)→(execOp a.eval o).run P W=.ok .skip (W.setCell ⟨B,j,none⟩ v)):Qp (Vz B ty vs) P o a W (Vv B ty j v):=by
 obtain⟨c',k1,k2,k3⟩:=hW.2 cs h0
 obtain⟨g1,g2⟩:=qbq (vs:=vs) k1 hv (by omega)
 refine Vt (hr (qd k1) ⟨_,by rw[qa k1,Array.getElem?_eq_getElem (by omega)]⟩) ⟨(),rfl,?_,g1⟩
 exact⟨_,qh k1 j v,by rw[Array.getElem?_setIfInBounds];simp[k2,hj]⟩
def ja (B:Nat) (ty:TypeId) (cs:Array Value):Rel where
 rel W W':=W.grownBy W' (some B)∧(B<W.heap.size→W'.heap[B]?=W.heap[B]?∨W'.heap[B]?=some (.cells cs ty (0,0)))
 refl' W:=⟨World.grownBy.refl _ _,fun _=>.inl rfl⟩
 trans' h k:=⟨h.1.trans k.1,fun hb=>by
  rcases k.2 (Nat.lt_of_lt_of_le hb h.1.size) with e|e
  ·rw[e];exact h.2 hb
  ·exact .inr e⟩
 drew' W:=⟨⟨rfl,rfl,rfl,Nat.le_refl _,fun _ _ _=>rfl⟩,fun _=>.inl rfl⟩
section
variable {B:Nat} {ty:TypeId} {cs:Array Value}
theorem Uj {W W':World} (h:Ext W W'):(ja B ty cs).r W W':=⟨Qo h _,fun hb=>.inl (h.block B hb)⟩
theorem qbJ {W W':World} (h:(ja B ty cs).r W W') {p:Addr} {u:Value} (hp:p.block≠B) (hc:W.cell? p=some u):W'.cell? p=some u:=
 World.grownBy.cell h.1 hc (fun x=>hp (by simpa using x))
theorem ZZ {W W':World} (h:(ja B ty cs).r W W') {b:Nat} {o:Obj} (hp:b≠B) (hc:W.heap[b]?=some o):W'.heap[b]?=some o:=
 (h.1.block b (zG.1 hc).1 (fun x=>hp (by simpa using x))).trans hc
theorem Vx {W W':World} (h:(ja B ty cs).r W W') {o:Obj} (hc:W.heap[B]?=some o):W'.heap[B]?=some o∨W'.heap[B]?=some (.cells cs ty (0,0)):=by
 have:=h.2 (zG.1 hc).1
 rwa [hc] at this
theorem Ui {W W':World} (h:(ja B ty cs).r W W') {u:Value} {l:List UInt8} (hb:Bys W W.heap.size u l) (hB:∀ a n c,u=.slice (some a) n c→0<n→a.block≠B):Bys W' W'.heap.size u l:=
 hb.grown h.1 fun a n c e hn hx=>hB a n c e hn (by simpa using hx.symm)
theorem Vw {W W':World} {B0:Nat} (h:(ja B ty cs).r W W') (h1:B0≤B) (h2:B0≤W.heap.size):Below B0 W W':=(Below.refl _ _).grown h.1 h2 (fun g hg=>by simp at hg;omega)
end
def jA (B:Nat) (ty:TypeId) (cs:Array Value):qT:=⟨Unit,fun _=>undef,fun _ W=>W.heap[B]?=some (.cells cs ty (0,0))⟩
theorem Qm (B:Nat) (ty:TypeId) (cs:Array Value) (u:Unit):(jA B ty cs).f u=undef:=rfl
theorem JT {B:Nat} {ty:TypeId} {cs:Array Value}:∀ p,qF (ja B ty cs) ((jA B ty cs).φ p):=by
 intro p W W' he h
 rcases Vx he h with e|e <;> exact e
theorem kL {P:Program} {o:Oper} {a:Act} {W w':World} {B:Nat} {ty:TypeId} {cs:Array Value} (hr:(execOp a.eval o).run P W=.ok .skip w') (hg:W.grownBy w' (some B)) (hw:w'.heap[B]?=some (.cells cs ty (0,0))):Qp (ja B ty cs) P o a W (jA B ty cs):=
 Vt hr ⟨(),rfl,hw,hg,fun _=>.inr hw⟩
theorem qk {w:World} {b j:Nat} {v:Value}:w.grownBy (w.setCell ⟨b,j,none⟩ v) (some b):=⟨rfl,rfl,rfl,by simp,fun k _ hk=>Below.heap_setCell _ _ _ _ (fun e=>hk (by simp at e;rw[e]))⟩
theorem qaB {B:Nat} {ty:TypeId} {cs:Array Value} {k i o r:Int} {n:Nat} {l:List UInt8} {lo:Nat} (hB:B<lo):∀ p,qF (ja B ty cs) (fun W=>(outI k i o r n l).φ p W∧QD lo (.slice p.1 n p.2)):=by
 intro p W W' he h
 refine⟨Ui he h.1 (fun a n c e hn hx=>?_),h.2⟩
 have:=h.2 a n c e
 omega
def outIF (lo:Nat) (k i o r:Int) (n:Nat) (l:List UInt8):qT:=⟨Option Addr×Nat,fun p=>.agg #[.int .u8 k,.int .u32 i,.int .u32 o,.int .i64 r,.slice p.1 n p.2],fun p W=>Bys W W.heap.size (.slice p.1 n p.2) l∧QD lo (.slice p.1 n p.2)⟩
theorem Vm (lo:Nat) (k i o r:Int) (n:Nat) (l:List UInt8) (A:Option Addr) (c:Nat):(outIF lo k i o r n l).f (A,c)=.agg #[.int .u8 k,.int .u32 i,.int .u32 o,.int .i64 r,.slice A n c]:=rfl
theorem GT {B:Nat} {ty:TypeId} {cs:Array Value} {k i o r:Int} {n:Nat} {l:List UInt8} {lo:Nat} (hB:B<lo):∀ p,qF (ja B ty cs) ((outIF lo k i o r n l).φ p):=qaB (k:=k) (i:=i) (o:=o) (r:=r) hB
theorem JB {w:World} {b j:Nat} {v:Value} {cs:Array Value} {ty:TypeId} (h:w.heap[b]?=some (.cells cs ty (0,0))) (hv:cs[j]?=some v):Ext w (w.setCell ⟨b,j,none⟩ v):=by
 refine⟨rfl,rfl,rfl,by simp,fun k _=>?_⟩
 by_cases hk:k=b
 ·subst hk
  rw[qh h j v,h]
  obtain⟨hj,e⟩:=zG.1 hv
  have:cs.setIfInBounds j v=cs:=by
   apply Array.ext_getElem?
   intro i
   rw[Array.getElem?_setIfInBounds]
   split
   ·rename_i hi;rw[←hi];simp[hj,e]
   ·rfl
  rw[this]
 ·exact Below.heap_setCell _ _ _ _ hk
def VolP (x:It) (u:Value) (_:World):Prop:=∃ v',u=.tuple #[XQ v',.bool (jF x)]∧(jF x=true→v'=Qq x)
theorem XC {x:It} (h:x.val.length<7):jF x=false:=by unfold jF;rw[decide_eq_false (by omega)];rfl
theorem TX {x:It} (h:7≤x.val.length):jF x=VG 1 x.i 0 0 x.k x.i x.o x.r (QZ (Qq x)) x.val:=by
 unfold jF
 by_cases h7:x.val.length=7
 ·rw[decide_eq_true h7,Bool.true_and]
 ·rw[decide_eq_false h7,Bool.false_and]
  symm
  unfold VG
  rw[decide_eq_false]
  rintro ⟨_,_,_,_,e⟩
  have:=congrArg List.length e
  rw[jn] at this
  omega
theorem qba {x:It} (hx:Yk x) (h:7≤x.val.length):VolOk (Qq x):=by
 have r0:=Ja (l:=x.val) (a:=0) (k:=2) (by omega)
 have r3:=Ja (l:=x.val) (a:=3) (k:=4) (by omega)
 exact⟨hx.2.1,⟨r0.1,r0.2⟩,⟨r3.1,r3.2⟩⟩
set_option maxHeartbeats 4000000 in
set_option maxRecDepth 100000 in
theorem qdk (x:It) (hx:Yk x) (A:Option Addr) (c:Nat) (w:World) (h:Bys w w.heap.size (.slice A x.val.length c) x.val) :
  Calls Tryz.prog 114 #[ZM x.k x.i x.o x.r A x.val.length c] w (zE (VolP x) w):=by
 have H2:∀ W,Ext w W→_:=fun W hW=>TH _ x.val 0 (by omega) W ((h.below hW).more hW.size)
 have H4:∀ W,Ext w W→_:=fun W hW=>vq _ x.val 3 (by omega) W ((h.below hW).more hW.size)
 replace H2:=zH H2
 replace H4:=zH H4
 have HV:=zH h
 have hcat:=h.at_
 clear h
 have hcell:∀ j,(hj:j<x.val.length)→∃ b off,A=some ⟨b,off,none⟩∧w.cell? ⟨b,off+j,none⟩=some (.int .u8 (x.val[j].toNat:Int)):=by
  intro j hj
  obtain⟨A',c',e,_,_,hr⟩:=HV.out
  cases e
  obtain⟨b,off,rfl,hb,hc⟩:=hr.2 (by omega)
  exact⟨b,off,rfl,hc j _ (by rw[List.getElem?_map,List.getElem?_eq_getElem hj];rfl)⟩
 replace hcell:=zH hcell
 have HN2:Hid (Jp x.val 0 2=if 2≤x.val.length then 0 else 8):=zH (by unfold Jp;rw[Nat.zero_add])
 have HN4:Hid (Jp x.val 3 4=if 7≤x.val.length then 0 else 8):=zH (by unfold Jp;rfl)
 have HVA:Hid (Qq x=⟨x.i,Qx x.val 0 2,decide ((x.val[2]?.getD 0).toNat=1),Qx x.val 3 4⟩):=rfl
 have HP0:Hid (x.val.length<7→∀ W,VolP x (.tuple #[XQ ⟨0,0,false,0⟩,.bool false]) W):=zH (fun h W=>⟨_,by rw[XC h],fun h'=>by rw[XC h] at h';cases h'⟩)
 have HP1:Hid (7≤x.val.length→∀ W,VolP x (.tuple #[XQ (Qq x),.bool (VG 1 x.i 0 0 x.k x.i x.o x.r (QZ (Qq x)) x.val)]) W):=zH (fun h W=>⟨_,by rw[TX h],fun _=>rfl⟩)
 have HON:=zH (fun h=>one_any (Qq x) (qba hx h))
 replace hx:=zH hx
 generalize hva:Qq x=va at *
 replace hva:=zH hva
 generalize Qx x.val 0 2=n2 at *
 generalize Qx x.val 3 4=n4 at *
 generalize Jp x.val 0 2=e2 at *
 generalize Jp x.val 3 4=e4 at *
 go_enter Tryz.func114,Tryz.ntmps114
 go_wp2_with fail
 generalize hw1:(World.alloc (World.alloc _ _) _)=w1
 have b1:Ext w w1:=by rw[←hw1];exact(Ext.alloc _ _).trans (Ext.alloc _ _)
 have r1:w1.heap[w.heap.size]?=some (.cells #[.int .u8 x.k,.int .u32 x.i,.int .u32 x.o,.int .i64 x.r,.slice A x.val.length c] 38 (0,0)):=by rw[←hw1];exact(Below.heap_alloc _ _ _ (by simp)).trans (World.alloc_heap_at _ _ _ rfl)
 have q1:w1.heap[w.heap.size+1]?=some (.cells #[.int .u32 x.i,.int .i64 0,.bool false,.int .u32 0] 70 (0,0)):=by rw[←hw1];exact World.alloc_heap_at _ _ _ (by simp)
 clear hw1
 refine(H2.out _ b1).mono ?_
 rintro e w2 ⟨rfl,hB⟩
 have b2:Ext w w2:=Ext.trans b1 hB
 have r2:=qc r1 hB
 have q2:=qc q1 hB
 have k2:=qa r2
 clear hB b1 r1 q1 H2
 go_wp2_with fail
 clear k2
 refine(H4.out _ b2).mono ?_
 rintro e w3 ⟨rfl,hB⟩
 have b3:Ext w w3:=Ext.trans b2 hB
 have r3:=qc r2 hB
 have q3:=qc q2 hB
 have s3:w.heap.size+1<w3.heap.size:=(zG.1 q3).1
 have k3:=qa r3
 have kq3:=qa q3
 have fq3:=qd q3
 clear hB b2 r2 q2 H4
 by_cases h7:7≤x.val.length
 ·obtain rfl:e2=0:=by rw[HN2.out,if_pos (by omega)]
  obtain rfl:e4=0:=by rw[HN4.out,if_pos h7]
  obtain⟨b,off,rfl,hc2⟩:=hcell.out 2 (by omega)
  have e2':(x.val[2]?.getD 0).toNat=x.val[2].toNat:=by rw[List.getElem?_eq_getElem (by omega)];rfl
  rw[e2'] at HVA
  clear HN2 HN4 HP0 hcell e2'
  generalize x.val[2].toNat=p2 at *
  have hcat':=hcat.2
  go_wp2
  obtain⟨RR,hRR⟩:∃ RR:Rel,RR=Vz (w.heap.size+1) 70 (fun j=>if j=1 then some (.int .i64 n2) else if j=2 then some (.bool (decide (p2=1))) else if j=3 then some (.int .u32 n4) else none):=⟨_,rfl⟩
  replace hRR:=zH hRR
  have g1:∀ W,RR.r w3 W→W.cell? ⟨w.heap.size,4,none⟩=some (.slice (some ⟨b,off,none⟩) x.val.length c):=fun W h=>Yz (hRR.out ▸ h) (by simp) (by rw[k3];rfl)
  have hbw:b≠w.heap.size+1:=by have:=World.block_lt_of_cell? w _ hc2;simp at this;omega
  have g2:∀ W,RR.r w3 W→W.cell? ⟨b,off+2,none⟩=some (.int .u8 (p2:Int)):=fun W h=>Yz (hRR.out ▸ h) hbw (Ext.cell b3 hc2)
  have hq1:((p2:Int) == 1)=decide (p2=1):=by rw[Bool.eq_iff_iff];simp;omega
  have i2:(2:Int)<(x.val.length:Int):=by omega
  refine qv (by kernel_rfl) ?_
  refine QH (w:=w3) RR (qE [(8,Vv (w.heap.size+1) 70 1 (.int .i64 n2)),(10,Vv (w.heap.size+1) 70 2 (.bool (decide (p2=1)))),(12,Vv (w.heap.size+1) 70 3 (.int .u32 n4))])
   [true,true,true,true,true,true,true,true,true,true,true,true,true] 0 (by kernel_rfl) (by kernel_rfl) (by kernel_rfl) (by kernel_rfl) (by kernel_rfl) (by kernel_rfl) ?st (Rel.drew _ _) ?walk
  case st=>rw[hRR.out];exact qm (by simp only[List.forall_mem_cons];exact⟨vI rfl,vI rfl,vI rfl,fun _ h=>by cases h⟩)
  case walk =>
   intro K hK
   dsimp only[qz]
   repeat ((first|(refine qf ?_ (by rfl) (by rfl) (fun W hW _=>⟨W,?_,Rel.refl _ W⟩) ?_;rotate_left;(first|(go_simp;with_reducible rfl)|(go_simp;done)))|(refine qj (by rfl) ?_));try simp only[Act.put,qi,qe,qb,qg,Zx,zA,zB,zC])
   refine qA (Vv (w.heap.size+1) 70 1 (.int .i64 n2)) (by rfl) (by rfl) (fun W hW _=>?_) (fun p=>?_)
   ·rw[hRR.out] at hW ⊢
    refine KL (j:=1) q3 hW rfl (by simp) (fun hf hu=>?_)
    obtain⟨u,hu⟩:=hu
    go_simp
   cases p
   simp only[Act.put,qi,qe,qb,qg,Zx,zA,zB,zC]
   repeat ((first|(refine qf ?_ (by rfl) (by rfl) (fun W hW _=>⟨W,?_,Rel.refl _ W⟩) ?_;rotate_left;(first|(go_simp;with_reducible rfl)|(go_simp;done)))|(refine qj (by rfl) ?_));try simp only[Act.put,qi,qe,qb,qg,Zx,zA,zB,zC])
   refine qA (Vv (w.heap.size+1) 70 2 (.bool (decide (p2=1)))) (by rfl) (by rfl) (fun W hW _=>?_) (fun p=>?_)
   ·rw[hRR.out] at hW ⊢
    refine KL (j:=2) q3 hW rfl (by simp) (fun hf hu=>?_)
    obtain⟨u,hu⟩:=hu
    go_simp
   cases p
   simp only[Act.put,qi,qe,qb,qg,Zx,zA,zB,zC]
   repeat ((first|(refine qf ?_ (by rfl) (by rfl) (fun W hW _=>⟨W,?_,Rel.refl _ W⟩) ?_;rotate_left;(first|(go_simp;with_reducible rfl)|(go_simp;done)))|(refine qj (by rfl) ?_));try simp only[Act.put,qi,qe,qb,qg,Zx,zA,zB,zC])
   refine qA (Vv (w.heap.size+1) 70 3 (.int .u32 n4)) (by rfl) (by rfl) (fun W hW _=>?_) (fun p=>?_)
   ·rw[hRR.out] at hW ⊢
    refine KL (j:=3) q3 hW rfl (by simp) (fun hf hu=>?_)
    obtain⟨u,hu⟩:=hu
    go_simp
   cases p
   simp only[Act.put,qi,qe,qb,qg,Zx,zA,zB,zC]
   repeat ((first|(refine qf ?_ (by rfl) (by rfl) (fun W hW _=>⟨W,?_,Rel.refl _ W⟩) ?_;rotate_left;(first|(go_simp;with_reducible rfl)|(go_simp;done)))|(refine qj (by rfl) ?_));try simp only[Act.put,qi,qe,qb,qg,Zx,zA,zB,zC])
   refine qD (hK _ _ fun W0 hW hF=>?_)
   have f1:=(hF 8).1
   have f2:=(hF 10).1
   have f3:=(hF 12).1
   clear hF hK g1 g2
   rw[hRR.out] at hW
   have r4:=qbd hW (by simp) r3
   obtain⟨cs,q4,hcs,hcv⟩:=hW.2 _ q3
   obtain rfl:cs=#[.int .u32 x.i,.int .i64 n2,.bool (decide (p2=1)),.int .u32 n4]:=by
    have e0:=hcv 0
    simp at e0
    obtain⟨c1,h1,h1'⟩:=f1
    obtain⟨c2,h2,h2'⟩:=f2
    obtain⟨c3,h3,h3'⟩:=f3
    rw[q4] at h1 h2 h3
    simp only[Option.some.injEq,Obj.cells.injEq,and_true] at h1 h2 h3
    subst h1
    subst h2
    apply Array.ext_getElem?
    intro j
    rcases j with _|_|_|_|j
    ·rw[e0];rfl
    ·exact h1'
    ·exact h2'
    ·rw[←h3] at h3';exact h3'
    ·rw[Array.getElem?_eq_none (by rw[hcs];simp),Array.getElem?_eq_none (by simp)]
   have bW:Below w.heap.size w W0:=Below.trans b3 ((Below.refl _ _).grown hW.1 (by omega) (fun g hg=>by simp at hg;omega))
   dsimp only[List.drop,List.length_cons,List.length_nil]
   go_wp2
   refine Qw ?_
   go_wp2
   have HO:=zH (HON.out h7)
   have HP:=HP1.out h7
   have hvbl:=jn va
   have hvx:=(HV.out.below bW).more bW.size
   have ea:=HVA.out
   clear HON HP1 HVA hva HV
   subst ea
   dsimp only at HO HP
   generalize QZ _=vb at *
   replace HO:=zH HO.out
   have HSM:=zH (fun A c W (hA:Bys W W.heap.size (.slice A 7 c) vb) (hW2:Ext W0 W)=>qeO 1 x.i 0 0 x.k x.i x.o x.r A (some ⟨b,off,none⟩) 7 c x.val.length _ vb x.val W hA ((hvx.below hW2).more hW2.size))
   generalize VG 1 x.i 0 0 x.k x.i x.o x.r vb x.val=S at *
   have hr5:∀ W',Ext W0 W'→∀ j,W'.cell? ⟨w.heap.size,j,none⟩=#[.int .u8 x.k,.int .u32 x.i,.int .u32 x.o,.int .i64 x.r,.slice (some ⟨b,off,none⟩) x.val.length c][j]?:=fun W' h=>qa (qc r4 h)
   have hq5:∀ W',Ext W0 W'→∀ j,W'.cell? ⟨w.heap.size+1,j,none⟩=#[.int .u32 x.i,.int .i64 n2,.bool (decide (p2=1)),.int .u32 n4][j]?:=fun W' h=>qa (qc q4 h)
   replace HP:=zH HP
   generalize hdp:decide (p2=1)=fz at *
   clear hdp
   refine qv (by kernel_rfl) ?_
   refine QH (w:=W0) qu (qE [(2,outI 1 x.i 0 0 7 vb),(4,one (.bool S)),(5,one undef)])
    [true,true,true,true,true,true] 1 (by kernel_rfl) (by kernel_rfl) (by kernel_rfl) (by kernel_rfl) (by kernel_rfl) (by kernel_rfl) ?st (Rel.drew _ _) ?walk
   case st=>exact qm (by simp only[List.forall_mem_cons];exact⟨fun p=>zD (qbo _ _ _ _ _ _ p),fun p=>zD (Qz _ p),fun p=>zD (Qz _ p),fun _ h=>by cases h⟩)
   case walk =>
    intro K hK
    dsimp only[qz]
    have hr6:∀ W',qu.r W0 W'→∀ j,W'.cell? ⟨w.heap.size,j,none⟩=#[.int .u8 x.k,.int .u32 x.i,.int .u32 x.o,.int .i64 x.r,.slice (some ⟨b,off,none⟩) x.val.length c][j]?:=hr5
    have hq6:∀ W',qu.r W0 W'→∀ j,W'.cell? ⟨w.heap.size+1,j,none⟩=#[.int .u32 x.i,.int .i64 n2,.bool fz,.int .u32 n4][j]?:=hq5
    repeat ((first|(refine qf ?_ (by rfl) (by rfl) (fun W hW _=>⟨W,?_,Rel.refl _ W⟩) ?_;rotate_left;(first|(go_simp;with_reducible rfl)|(go_simp;done)))|(refine qj (by rfl) ?_));try simp only[Act.put,qi,qe,qb,qg,Zx,zA,zB,zC])
    refine qA (outI 1 x.i 0 0 7 vb) (by rfl) (by rfl) (fun W hW _=>?_) (fun p=>?_)
    ·refine Qg ?_ ((HO.out W).mono fun e w' h=>?_)
     ·go_simp
     ·obtain⟨u,rfl,⟨A,c,rfl,h1,h2⟩,h3⟩:=h
      rw[hvbl] at h1 ⊢
      exact⟨(A,c),rfl,h1,h3⟩
    obtain⟨A2,c2⟩:=p
    simp only[Act.put,qi,qe,qb,qg,Zx,zA,zB,zC]
    repeat ((first|(refine qf ?_ (by rfl) (by rfl) (fun W hW _=>⟨W,?_,Rel.refl _ W⟩) ?_;rotate_left;(first|(go_simp;with_reducible rfl)|(go_simp;done)))|(refine qj (by rfl) ?_));try simp only[Act.put,qi,qe,qb,qg,Zx,zA,zB,zC])
    refine qA (one (.bool S)) (by rfl) (by rfl) (fun W hW hp=>?_) (fun p=>?_)
    ·have f2:Bys W W.heap.size (.slice A2 7 c2) vb:=(hp 2 (by decide)).1
     refine Qg ?_ ((HSM.out A2 c2 W f2 hW).mono fun e w' h=>⟨(),h.1,trivial,h.2⟩)
     go_simp
    cases p
    simp only[Act.put,qi,qe,qb,qg,Zx,zA,zB,zC]
    refine qA (one undef) (by rfl) (by rfl) (fun W hW hp=>?_) (fun p=>?_)
    ·have q5:=qc q4 hW
     have k5:=qa q5
     have f5:=qd q5
     have e0:=JB q5 (j:=0) rfl
     have e1:=JB (qc q5 e0) (j:=1) rfl
     have e2:=JB (qc (qc q5 e0) e1) (j:=2) rfl
     have e3:=JB (qc (qc (qc q5 e0) e1) e2) (j:=3) rfl
     refine Vt (w':=(((W.setCell ⟨w.heap.size+1,0,none⟩ (.int .u32 x.i)).setCell ⟨w.heap.size+1,1,none⟩ (.int .i64 n2)).setCell ⟨w.heap.size+1,2,none⟩ (.bool fz)).setCell ⟨w.heap.size+1,3,none⟩ (.int .u32 n4)) ?_ ⟨(),rfl,trivial,e0.trans (e1.trans (e2.trans e3))⟩
     go_simp
    cases p
    simp only[Act.put,qi,qe,qb,qg,Zx,zA,zB,zC]
    refine qD (hK _ _ fun W hW hF=>?_)
    clear hF hK hr6 hq6 hr5 hq5
    have hW':Ext W0 W:=hW
    have q5:=qc q4 hW'
    have k5:=qa q5
    dsimp only[List.drop,List.length_cons,List.length_nil]
    go_wp2
    refine Qw ?_
    go_wp2
    exact bodyPost_ret (v:=.tuple #[XQ ⟨x.i,n2,fz,n4⟩,.bool S]) (by simp[results,Tryz.results114,go_sem,k5]) rfl ⟨_,rfl,HP.out W,Below.trans bW (Below.mono hW' (by have:=bW.size;omega))⟩
 ·have h4:e4=8:=by rw[HN4.out,if_neg h7]
  have h2:e2=0∨e2=8:=by rw[HN2.out];split <;> simp
  have hp:=HP0.out (by omega)
  replace hp:=zH hp
  subst h4
  clear HN2 HN4 HP0 HP1 HON hcell HVA
  have b3':Below w.heap.size w w3:=b3
  rcases h2 with rfl|rfl
  ·go_wp2
   have rf:=qh (qh (qh (qh q3 0 (.int .u32 0)) 1 (.int .i64 0)) 2 (.bool false)) 3 (.int .u32 0)
   have bf:Below w.heap.size w ((((w3.setCell ⟨w.heap.size+1,0,none⟩ (.int .u32 0)).setCell ⟨w.heap.size+1,1,none⟩ (.int .i64 0)).setCell ⟨w.heap.size+1,2,none⟩ (.bool false)).setCell ⟨w.heap.size+1,3,none⟩ (.int .u32 0)):=(by repeat' (first|with_reducible exact Below.refl _ _|with_reducible assumption|with_reducible apply Below.drew|with_reducible apply qp|with_reducible refine Below.alloc ?_ ?_ _|with_reducible refine Below.setCell ?_ ?_ _|(simp;done)|(simp;omega)|omega))
   generalize hwf:(World.setCell (World.setCell (World.setCell (World.setCell w3 _ _) _ _) _ _) _ _)=wf at *
   have kf:=qa rf
   exact bodyPost_ret (v:=.tuple #[XQ ⟨0,0,false,0⟩,.bool false]) (by simp[results,Tryz.results114,go_sem,kf]) rfl ⟨_,rfl,hp.out wf,bf⟩
  ·go_wp2
   have rf:=qh (qh (qh (qh q3 0 (.int .u32 0)) 1 (.int .i64 0)) 2 (.bool false)) 3 (.int .u32 0)
   have bf:Below w.heap.size w ((((w3.setCell ⟨w.heap.size+1,0,none⟩ (.int .u32 0)).setCell ⟨w.heap.size+1,1,none⟩ (.int .i64 0)).setCell ⟨w.heap.size+1,2,none⟩ (.bool false)).setCell ⟨w.heap.size+1,3,none⟩ (.int .u32 0)):=(by repeat' (first|with_reducible exact Below.refl _ _|with_reducible assumption|with_reducible apply Below.drew|with_reducible apply qp|with_reducible refine Below.alloc ?_ ?_ _|with_reducible refine Below.setCell ?_ ?_ _|(simp;done)|(simp;omega)|omega))
   generalize hwf:(World.setCell (World.setCell (World.setCell (World.setCell w3 _ _) _ _) _ _) _ _)=wf at *
   have kf:=qa rf
   exact bodyPost_ret (v:=.tuple #[XQ ⟨0,0,false,0⟩,.bool false]) (by simp[results,Tryz.results114,go_sem,kf]) rfl ⟨_,rfl,hp.out wf,bf⟩
end Go.Proofs.YtckhnchnbeoogaaGreat
