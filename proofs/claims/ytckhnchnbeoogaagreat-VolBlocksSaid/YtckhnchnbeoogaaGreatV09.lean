/- Texts Volr, Volmr, Disk, DiskR, joined. -/
import Derived.Test.YtckhnchnbeoogaaGreatV08
set_option linter.unusedSimpArgs false
set_option linter.unusedVariables false
namespace Go.Proofs.YtckhnchnbeoogaaGreat
open Go.RowKit
theorem YA {base:Nat} {e:TypeId} {size lo lo' n':Nat} {v:Value} {n:Nat} {xs:List Value} {m:Nat} {ys:List Value} {l:List UInt8} (hlo:∀ g,v.ownBlock=some g→g<lo'):∀ p,qF (jI base e size lo v n xs m ys) ((ZA lo' n' l).φ p):=by
 intro p W W' he h
 refine⟨h.1.grown he.1 (fun a n c e hn hx=>?_),h.2⟩
 have h1:=hlo _ hx
 have h2:=h.2 a n c e
 omega
def jX (base:Nat) (e:TypeId) (size lo:Nat) (v:Value) (m:Nat) (ys:List Value):qT:=⟨Option Addr×Nat,fun p=>.slice p.1 m p.2,fun p W=>XT base e size lo v m ys (.slice p.1 m p.2) W⟩
theorem QO (base:Nat) (e:TypeId) (size lo:Nat) (v:Value) (m:Nat) (ys:List Value) (A:Option Addr) (c:Nat):(jX base e size lo v m ys).f (A,c)=.slice A m c:=rfl
theorem Jr {base:Nat} {e:TypeId} {size lo:Nat} {v:Value} {n:Nat} {xs:List Value} {m:Nat} {ys:List Value}:∀ p,qF (jI base e size lo v n xs m ys) ((jX base e size lo v m ys).φ p):=fun p _ _ he h=>he.2.2 _ h
theorem Bys.adds {w:World} {B:Nat} {A:Option Addr} {n c:Nat} {l:List UInt8} (h:Bys w B (.slice A n c) l) (hn:0<n):∃ a,A=some a∧∀ j u,(l.map bv)[j]?=some u→w.cell? (a.add j)=some u:=by
 obtain⟨A',c',e,_,_,hr⟩:=h
 cases e
 obtain⟨b,off,rfl,_,_⟩:=hr.2 hn
 exact⟨_,rfl,hr.adds hn⟩
set_option maxHeartbeats 4000000 in
set_option maxRecDepth 100000 in
theorem qeA (v:Vol) (hv:VolOk v) (w:World) :
  Calls Tryz.prog 121 #[XQ v] w (zE (IsI w.heap.size 1 v.id 0 0 (QZ v)) w):=by
 obtain⟨i0,hi,hz0,hz1,hz2⟩:=info_parts Tryz.info_u8
 obtain⟨vi,vr,vf,vm⟩:=v
 obtain⟨⟨hi1,hi2⟩,⟨hr1,hr2⟩,⟨hm1,hm2⟩⟩:=hv
 dsimp only at *
 obtain⟨r,rfl⟩:=Int.eq_ofNat_of_zero_le hr1
 obtain⟨m,rfl⟩:=Int.eq_ofNat_of_zero_le hm1
 have HB:Hid (QZ ⟨vi,r,vf,m⟩=qy r 2++[if vf then 1 else 0]++qy m 4):=by
  refine zH ?_
  simp[QZ]
 have HL:Hid ((QZ ⟨vi,r,vf,m⟩).length=7):=zH (jn _)
 generalize QZ ⟨vi,r,vf,m⟩=vb at *
 cases vf
 ·simp only[Bool.false_eq_true,if_false,if_true] at HB
  go_enter Tryz.func121,Tryz.ntmps121
  go_wp2_with fail
  generalize hw1:(World.alloc (World.alloc _ _) _)=w1
  have b1:Ext w w1:=by rw[←hw1];exact(Ext.alloc _ _).trans (Ext.alloc _ _)
  have r1:w1.heap[w.heap.size]?=some (.cells #[.int .u32 vi,.int .i64 r,.bool false,.int .u32 m] 70 (0,0)):=by rw[←hw1];exact(Below.heap_alloc _ _ _ (by simp)).trans (World.alloc_heap_at _ _ _ rfl)
  have q1:w1.heap[w.heap.size+1]?=some (.cells #[.int .u8 0,.int .u32 0,.int .u32 0,.int .i64 0,.slice none 0 0] 38 (0,0)):=by rw[←hw1];exact World.alloc_heap_at _ _ _ (by simp)
  have z1:w1.heap.size=w.heap.size+2:=by rw[←hw1];simp
  clear hw1
  refine(Kc r 2 (by omega) (by omega) _).mono ?_
  rintro e w2 ⟨u,rfl,hu,hB⟩
  rw[z1] at hu
  have b2:Ext w w2:=Ext.trans b1 hB
  have r2:=qc r1 hB
  have q2:=qc q1 hB
  have k2:=qa r2
  have s2:w.heap.size+2≤w2.heap.size:=by have:=hB.size;omega
  clear hB b1 r1 q1 z1
  go_wp2_with (at_builtin;refine qI ?_)
  refine Qc.go (QP _ rfl (.tmp 10) (.tmp 12) 26 rfl (w.heap.size+2) 5 i0 (.int .u8 0) 1 1 Tryz.underlying26 hi hz0 hz1 hz2 rfl (by decide) _ _ _ rfl hu #[.int .u8 0] rfl rfl (by simp[Value.oneCell']) (by omega) (by decide) s2 ?_)
  intro v3 w3 o3 _hg hb3 _hx
  clear _hg _hx
  have o3:w3.ownsRow (w.heap.size+2) 5 1 v3 3 ((qy r 2++[(0:UInt8)]).map bv):=by
   rw[List.map_append];exact o3
  have r3:=zO r2 (by omega) hb3
  have q3:=zO q2 (by omega) hb3
  have b3:Ext w w3:=Below.trans b2 (Below.mono hb3 (by omega))
  have k3:=qa r3
  clear k2 r2 q2 hu hb3
  go_wp2
  have hvl:=zY o3
  obtain⟨RR,hRR⟩:∃ RR:Rel,RR=jI (w.heap.size+2) 5 1 w3.heap.size v3 3 ((qy r 2++[(0:UInt8)]).map bv) 7 ((qy r 2++[(0:UInt8)]).map bv++(qy m 4).map bv):=⟨_,rfl⟩
  replace hRR:=zH hRR
  have hv0:v3.ownBlock≠some w.heap.size:=fun h=>by have:=hvl _ h;omega
  have hv1:v3.ownBlock≠some (w.heap.size+1):=fun h=>by have:=hvl _ h;omega
  have g0:∀ W,RR.r w3 W→W.cell? ⟨w.heap.size,0,none⟩=some (.int .u32 vi):=fun W h=>zy (hRR.out ▸ h) hv0 (by rw[k3];rfl)
  have g3:∀ W,RR.r w3 W→W.cell? ⟨w.heap.size,3,none⟩=some (.int .u32 m):=fun W h=>zy (hRR.out ▸ h) hv0 (by rw[k3];rfl)
  clear k3
  refine qv (by kernel_rfl) ?_
  refine QH (w:=w3) RR (qE [(6,ZA w3.heap.size 4 (qy m 4)),(7,jX (w.heap.size+2) 5 1 w3.heap.size v3 7 ((qy r 2++[(0:UInt8)]).map bv++(qy m 4).map bv))])
   [true,true,true,true,true,true,true,true,true] 1 (by kernel_rfl) (by kernel_rfl) (by kernel_rfl) (by kernel_rfl) (by kernel_rfl) (by kernel_rfl) ?st (Rel.drew _ _) ?walk
  case st=>rw[hRR.out];exact qm (by simp only[List.forall_mem_cons];exact⟨YA (fun g hg=>(hvl g hg).2),Jr,fun _ h=>by cases h⟩)
  case walk =>
   intro K hK
   dsimp only[qz]
   repeat ((first|(refine qf ?_ (by rfl) (by rfl) (fun W hW _=>⟨W,?_,Rel.refl _ W⟩) ?_;rotate_left;(first|(go_simp;with_reducible rfl)|(go_simp;done)))|(refine qj (by rfl) ?_));try simp only[Act.put,qi,qe,qb,qg,QO,zA,zB,zC])
   refine qA (ZA w3.heap.size 4 (qy m 4)) (by rfl) (by rfl) (fun W hW _=>?_) (fun p6=>?_)
   ·rw[hRR.out] at hW ⊢
    refine Qg ?_ ((Kd m (by omega) W).mono fun e w' h=>?_)
    ·go_simp
    obtain⟨p,h1,h2,h3⟩:=Jc h hW.1.size
    exact⟨p,h1,h2,JZ h3⟩
   obtain⟨A6,c6⟩:=p6
   simp only[Act.put,qi,qe,qb,qg,QO,zA,zB,zC]
   refine qA (jX (w.heap.size+2) 5 1 w3.heap.size v3 7 ((qy r 2++[(0:UInt8)]).map bv++(qy m 4).map bv)) (by rfl) (by rfl) (fun W hW hp=>?_) (fun p7=>?_)
   ·rw[hRR.out] at hW ⊢
    have f6:Bys W W.heap.size (.slice A6 4 c6) (qy m 4):=(hp 6 (by decide)).1.1
    obtain⟨a6,rfl,hadd⟩:=f6.adds (by omega)
    obtain⟨v',w',hrun,hD,hR'⟩:=ZY (P:=Tryz.prog) (lo:=w3.heap.size) W 26 26 i0 (.int .u8 0) 1 Tryz.underlying26 hi hz0 hz1 hz2 rfl (by decide) (hW.2.1 o3) a6 4 c6 ((qy m 4).map bv) (by simp[zM]) hadd (zT _) (by omega) (by decide) (by have:=hW.1.size;have:=(zG.1 q3).1;omega) hW.1.size
    obtain⟨A',c',rfl,_,_⟩:=qw hD.1
    refine Qa (u:=.slice A' 7 c') (w':=w') ?_ ⟨(A',c'),rfl,hD,hR'⟩
    exact QQ (s:=.tmp 17) (x:=.tmp 20) rfl rfl rfl hrun
   obtain⟨A7,c7⟩:=p7
   simp only[Act.put,qi,qe,qb,qg,QO,zA,zB,zC]
   repeat ((first|(refine qf ?_ (by rfl) (by rfl) (fun W hW _=>⟨W,?_,Rel.refl _ W⟩) ?_;rotate_left;(first|(go_simp;with_reducible rfl)|(go_simp;done)))|(refine qj (by rfl) ?_));try simp only[Act.put,qi,qe,qb,qg,QO,zA,zB,zC])
   refine qD (hK _ _ fun W hW hF=>?_)
   have hD:XT _ _ _ _ _ _ _ (.slice A7 7 c7) W:=(hF 7).1
   clear hF hK g0 g3
   rw[hRR.out] at hW
   dsimp only[List.drop,List.length_cons,List.length_nil]
   have qW:=jb hW hv1 q3
   have kW:=qa qW
   have fW:=qd qW
   have hown:W.ownsRow (w.heap.size+2) 5 1 (.slice A7 7 c7) 7 (vb.map bv):=by
    rw[HB.out,List.map_append];exact hD.1
   have hby:=Bys.of_own hown
   have hfr:QD (w.heap.size+2) (.slice A7 7 c7):=QD.of_own hown
   have hBW:Below w.heap.size w W:=Below.trans b3 ((Below.refl _ _).grown hW.1 (by have:=b3.size;omega) (fun g hg=>by have:=hvl g hg;omega))
   go_wp2
   refine Qw ?_
   go_wp2
   have hgt:w.heap.size+1<w.heap.size+2:=by omega
   have hby2:=((((hby.setCell hfr (p:=⟨w.heap.size+1,0,none⟩) hgt (.int .u8 1)).setCell hfr (p:=⟨w.heap.size+1,1,none⟩) hgt (.int .u32 vi)).setCell hfr (p:=⟨w.heap.size+1,2,none⟩) hgt (.int .u32 0)).setCell hfr (p:=⟨w.heap.size+1,3,none⟩) hgt (.int .i64 0)).setCell hfr (p:=⟨w.heap.size+1,4,none⟩) hgt (.slice A7 7 c7)
   have rf:=qh (qh (qh (qh (qh qW 0 (.int .u8 1)) 1 (.int .u32 vi)) 2 (.int .u32 0)) 3 (.int .i64 0)) 4 (.slice A7 7 c7)
   have bf:Below w.heap.size w (((((W.setCell ⟨w.heap.size+1,0,none⟩ (.int .u8 1)).setCell ⟨w.heap.size+1,1,none⟩ (.int .u32 vi)).setCell ⟨w.heap.size+1,2,none⟩ (.int .u32 0)).setCell ⟨w.heap.size+1,3,none⟩ (.int .i64 0)).setCell ⟨w.heap.size+1,4,none⟩ (.slice A7 7 c7)):=(by repeat' (first|with_reducible exact Below.refl _ _|with_reducible assumption|with_reducible apply Below.drew|with_reducible apply qp|with_reducible refine Below.alloc ?_ ?_ _|with_reducible refine Below.setCell ?_ ?_ _|(simp;done)|(simp;omega)|omega))
   have hsz:(((((W.setCell ⟨w.heap.size+1,0,none⟩ (.int .u8 1)).setCell ⟨w.heap.size+1,1,none⟩ (.int .u32 vi)).setCell ⟨w.heap.size+1,2,none⟩ (.int .u32 0)).setCell ⟨w.heap.size+1,3,none⟩ (.int .i64 0)).setCell ⟨w.heap.size+1,4,none⟩ (.slice A7 7 c7)).heap.size=W.heap.size:=by simp
   generalize hwf:(World.setCell (World.setCell (World.setCell (World.setCell (World.setCell W _ _) _ _) _ _) _ _) _ _)=wf at *
   have kf:=qa rf
   rw[←hsz] at hby2
   exact bodyPost_ret (v:=ZM 1 vi 0 0 A7 7 c7) (by simp[results,Tryz.results121,go_sem,kf]) rfl ⟨_,rfl,⟨A7,c7,by rw[HL.out],by rw[HL.out];exact hby2,by rw[HL.out];exact hfr.mono (by omega)⟩,bf⟩
 ·simp only[Bool.false_eq_true,if_false,if_true] at HB
  go_enter Tryz.func121,Tryz.ntmps121
  go_wp2_with fail
  generalize hw1:(World.alloc (World.alloc _ _) _)=w1
  have b1:Ext w w1:=by rw[←hw1];exact(Ext.alloc _ _).trans (Ext.alloc _ _)
  have r1:w1.heap[w.heap.size]?=some (.cells #[.int .u32 vi,.int .i64 r,.bool true,.int .u32 m] 70 (0,0)):=by rw[←hw1];exact(Below.heap_alloc _ _ _ (by simp)).trans (World.alloc_heap_at _ _ _ rfl)
  have q1:w1.heap[w.heap.size+1]?=some (.cells #[.int .u8 0,.int .u32 0,.int .u32 0,.int .i64 0,.slice none 0 0] 38 (0,0)):=by rw[←hw1];exact World.alloc_heap_at _ _ _ (by simp)
  have z1:w1.heap.size=w.heap.size+2:=by rw[←hw1];simp
  clear hw1
  refine(Kc r 2 (by omega) (by omega) _).mono ?_
  rintro e w2 ⟨u,rfl,hu,hB⟩
  rw[z1] at hu
  have b2:Ext w w2:=Ext.trans b1 hB
  have r2:=qc r1 hB
  have q2:=qc q1 hB
  have k2:=qa r2
  have s2:w.heap.size+2≤w2.heap.size:=by have:=hB.size;omega
  clear hB b1 r1 q1 z1
  go_wp2_with (at_builtin;refine qI ?_)
  refine Qc.go (QP _ rfl (.tmp 10) (.tmp 12) 26 rfl (w.heap.size+2) 5 i0 (.int .u8 0) 1 1 Tryz.underlying26 hi hz0 hz1 hz2 rfl (by decide) _ _ _ rfl hu #[.int .u8 1] rfl rfl (by simp[Value.oneCell']) (by omega) (by decide) s2 ?_)
  intro v3 w3 o3 _hg hb3 _hx
  clear _hg _hx
  have o3:w3.ownsRow (w.heap.size+2) 5 1 v3 3 ((qy r 2++[(1:UInt8)]).map bv):=by
   rw[List.map_append];exact o3
  have r3:=zO r2 (by omega) hb3
  have q3:=zO q2 (by omega) hb3
  have b3:Ext w w3:=Below.trans b2 (Below.mono hb3 (by omega))
  have k3:=qa r3
  clear k2 r2 q2 hu hb3
  go_wp2
  have hvl:=zY o3
  obtain⟨RR,hRR⟩:∃ RR:Rel,RR=jI (w.heap.size+2) 5 1 w3.heap.size v3 3 ((qy r 2++[(1:UInt8)]).map bv) 7 ((qy r 2++[(1:UInt8)]).map bv++(qy m 4).map bv):=⟨_,rfl⟩
  replace hRR:=zH hRR
  have hv0:v3.ownBlock≠some w.heap.size:=fun h=>by have:=hvl _ h;omega
  have hv1:v3.ownBlock≠some (w.heap.size+1):=fun h=>by have:=hvl _ h;omega
  have g0:∀ W,RR.r w3 W→W.cell? ⟨w.heap.size,0,none⟩=some (.int .u32 vi):=fun W h=>zy (hRR.out ▸ h) hv0 (by rw[k3];rfl)
  have g3:∀ W,RR.r w3 W→W.cell? ⟨w.heap.size,3,none⟩=some (.int .u32 m):=fun W h=>zy (hRR.out ▸ h) hv0 (by rw[k3];rfl)
  clear k3
  refine qv (by kernel_rfl) ?_
  refine QH (w:=w3) RR (qE [(6,ZA w3.heap.size 4 (qy m 4)),(7,jX (w.heap.size+2) 5 1 w3.heap.size v3 7 ((qy r 2++[(1:UInt8)]).map bv++(qy m 4).map bv))])
   [true,true,true,true,true,true,true,true,true] 1 (by kernel_rfl) (by kernel_rfl) (by kernel_rfl) (by kernel_rfl) (by kernel_rfl) (by kernel_rfl) ?st (Rel.drew _ _) ?walk
  case st=>rw[hRR.out];exact qm (by simp only[List.forall_mem_cons];exact⟨YA (fun g hg=>(hvl g hg).2),Jr,fun _ h=>by cases h⟩)
  case walk =>
   intro K hK
   dsimp only[qz]
   repeat ((first|(refine qf ?_ (by rfl) (by rfl) (fun W hW _=>⟨W,?_,Rel.refl _ W⟩) ?_;rotate_left;(first|(go_simp;with_reducible rfl)|(go_simp;done)))|(refine qj (by rfl) ?_));try simp only[Act.put,qi,qe,qb,qg,QO,zA,zB,zC])
   refine qA (ZA w3.heap.size 4 (qy m 4)) (by rfl) (by rfl) (fun W hW _=>?_) (fun p6=>?_)
   ·rw[hRR.out] at hW ⊢
    refine Qg ?_ ((Kd m (by omega) W).mono fun e w' h=>?_)
    ·go_simp
    obtain⟨p,h1,h2,h3⟩:=Jc h hW.1.size
    exact⟨p,h1,h2,JZ h3⟩
   obtain⟨A6,c6⟩:=p6
   simp only[Act.put,qi,qe,qb,qg,QO,zA,zB,zC]
   refine qA (jX (w.heap.size+2) 5 1 w3.heap.size v3 7 ((qy r 2++[(1:UInt8)]).map bv++(qy m 4).map bv)) (by rfl) (by rfl) (fun W hW hp=>?_) (fun p7=>?_)
   ·rw[hRR.out] at hW ⊢
    have f6:Bys W W.heap.size (.slice A6 4 c6) (qy m 4):=(hp 6 (by decide)).1.1
    obtain⟨a6,rfl,hadd⟩:=f6.adds (by omega)
    obtain⟨v',w',hrun,hD,hR'⟩:=ZY (P:=Tryz.prog) (lo:=w3.heap.size) W 26 26 i0 (.int .u8 0) 1 Tryz.underlying26 hi hz0 hz1 hz2 rfl (by decide) (hW.2.1 o3) a6 4 c6 ((qy m 4).map bv) (by simp[zM]) hadd (zT _) (by omega) (by decide) (by have:=hW.1.size;have:=(zG.1 q3).1;omega) hW.1.size
    obtain⟨A',c',rfl,_,_⟩:=qw hD.1
    refine Qa (u:=.slice A' 7 c') (w':=w') ?_ ⟨(A',c'),rfl,hD,hR'⟩
    exact QQ (s:=.tmp 17) (x:=.tmp 20) rfl rfl rfl hrun
   obtain⟨A7,c7⟩:=p7
   simp only[Act.put,qi,qe,qb,qg,QO,zA,zB,zC]
   repeat ((first|(refine qf ?_ (by rfl) (by rfl) (fun W hW _=>⟨W,?_,Rel.refl _ W⟩) ?_;rotate_left;(first|(go_simp;with_reducible rfl)|(go_simp;done)))|(refine qj (by rfl) ?_));try simp only[Act.put,qi,qe,qb,qg,QO,zA,zB,zC])
   refine qD (hK _ _ fun W hW hF=>?_)
   have hD:XT _ _ _ _ _ _ _ (.slice A7 7 c7) W:=(hF 7).1
   clear hF hK g0 g3
   rw[hRR.out] at hW
   dsimp only[List.drop,List.length_cons,List.length_nil]
   have qW:=jb hW hv1 q3
   have kW:=qa qW
   have fW:=qd qW
   have hown:W.ownsRow (w.heap.size+2) 5 1 (.slice A7 7 c7) 7 (vb.map bv):=by
    rw[HB.out,List.map_append];exact hD.1
   have hby:=Bys.of_own hown
   have hfr:QD (w.heap.size+2) (.slice A7 7 c7):=QD.of_own hown
   have hBW:Below w.heap.size w W:=Below.trans b3 ((Below.refl _ _).grown hW.1 (by have:=b3.size;omega) (fun g hg=>by have:=hvl g hg;omega))
   go_wp2
   refine Qw ?_
   go_wp2
   have hgt:w.heap.size+1<w.heap.size+2:=by omega
   have hby2:=((((hby.setCell hfr (p:=⟨w.heap.size+1,0,none⟩) hgt (.int .u8 1)).setCell hfr (p:=⟨w.heap.size+1,1,none⟩) hgt (.int .u32 vi)).setCell hfr (p:=⟨w.heap.size+1,2,none⟩) hgt (.int .u32 0)).setCell hfr (p:=⟨w.heap.size+1,3,none⟩) hgt (.int .i64 0)).setCell hfr (p:=⟨w.heap.size+1,4,none⟩) hgt (.slice A7 7 c7)
   have rf:=qh (qh (qh (qh (qh qW 0 (.int .u8 1)) 1 (.int .u32 vi)) 2 (.int .u32 0)) 3 (.int .i64 0)) 4 (.slice A7 7 c7)
   have bf:Below w.heap.size w (((((W.setCell ⟨w.heap.size+1,0,none⟩ (.int .u8 1)).setCell ⟨w.heap.size+1,1,none⟩ (.int .u32 vi)).setCell ⟨w.heap.size+1,2,none⟩ (.int .u32 0)).setCell ⟨w.heap.size+1,3,none⟩ (.int .i64 0)).setCell ⟨w.heap.size+1,4,none⟩ (.slice A7 7 c7)):=(by repeat' (first|with_reducible exact Below.refl _ _|with_reducible assumption|with_reducible apply Below.drew|with_reducible apply qp|with_reducible refine Below.alloc ?_ ?_ _|with_reducible refine Below.setCell ?_ ?_ _|(simp;done)|(simp;omega)|omega))
   have hsz:(((((W.setCell ⟨w.heap.size+1,0,none⟩ (.int .u8 1)).setCell ⟨w.heap.size+1,1,none⟩ (.int .u32 vi)).setCell ⟨w.heap.size+1,2,none⟩ (.int .u32 0)).setCell ⟨w.heap.size+1,3,none⟩ (.int .i64 0)).setCell ⟨w.heap.size+1,4,none⟩ (.slice A7 7 c7)).heap.size=W.heap.size:=by simp
   generalize hwf:(World.setCell (World.setCell (World.setCell (World.setCell (World.setCell W _ _) _ _) _ _) _ _) _ _)=wf at *
   have kf:=qa rf
   rw[←hsz] at hby2
   exact bodyPost_ret (v:=ZM 1 vi 0 0 A7 7 c7) (by simp[results,Tryz.results121,go_sem,kf]) rfl ⟨_,rfl,⟨A7,c7,by rw[HL.out],by rw[HL.out];exact hby2,by rw[HL.out];exact hfr.mono (by omega)⟩,bf⟩
set_option maxHeartbeats 4000000 in
set_option maxRecDepth 100000 in
theorem qbu (x:It) (hx:Yk x) (A:Option Addr) (c:Nat) (w:World) (h:Bys w w.heap.size (.slice A x.val.length c) x.val) :
  Calls Tryz.prog 93 #[ZM x.k x.i x.o x.r A x.val.length c] w (zE (VolP x) w):=by
 have hcat:=h.at_
 have HV:=zH h
 have HON:=zH (fun h=>qeA (Qq x) (qba hx h))
 replace hx:=zH hx
 by_cases h7:x.val.length=7
 case neg =>
  have hs:jF x=false:=by unfold jF;rw[decide_eq_false h7];rfl
  have HP:∀ W,VolP x (.tuple #[XQ ⟨0,0,false,0⟩,.bool false]) W:=fun W=>⟨_,by rw[hs],fun h'=>by rw[hs] at h';cases h'⟩
  have hn1:((x.val.length:Int) != 7)=true:=by rw[bne_iff_ne];omega
  replace HP:=zH HP
  clear hs HON h h7
  go_enter Tryz.func93,Tryz.ntmps93
  go_wp2
  generalize hwf:(World.alloc _ _)=wf
  have rf:wf.heap[w.heap.size+1]?=some (.cells #[.int .u32 0,.int .i64 0,.bool false,.int .u32 0] 70 (0,0)):=by rw[←hwf];exact World.alloc_heap_at _ _ _ (by simp)
  have bf:Below w.heap.size w wf:=by rw[←hwf];exact(by repeat' (first|with_reducible exact Below.refl _ _|with_reducible assumption|with_reducible apply Below.drew|with_reducible apply qp|with_reducible refine Below.alloc ?_ ?_ _|with_reducible refine Below.setCell ?_ ?_ _|(simp;done)|(simp;omega)|omega))
  have kf:=qa rf
  exact bodyPost_ret (v:=.tuple #[XQ ⟨0,0,false,0⟩,.bool false]) (by simp[results,Tryz.results93,go_sem,kf]) rfl ⟨_,rfl,HP.out wf,bf⟩
 case pos =>
  have hc2:∃ b off,A=some ⟨b,off,none⟩∧b<w.heap.size∧w.cell? ⟨b,off+2,none⟩=some (.int .u8 ((x.val[2]?.getD 0).toNat:Int)):=by
   obtain⟨A',c',e,_,_,hr⟩:=HV.out
   cases e
   obtain⟨b,off,rfl,hb,hc⟩:=hr.2 (by omega)
   exact⟨b,off,rfl,hb,hc 2 _ (by rw[List.getElem?_map,List.getElem?_eq_getElem (by omega)];rfl)⟩
  obtain⟨b,off,rfl,hbl,hc2⟩:=hc2
  have H2:∀ W,Ext w W→_:=fun W hW=>Xq _ x.val 0 (by omega) (by omega) W ((HV.out.below hW).more hW.size)
  have H4:∀ W,Ext w W→_:=fun W hW=>JK _ x.val 3 (by omega) (by omega) W ((HV.out.below hW).more hW.size)
  have e2:Jp x.val 0 2=0:=by unfold Jp;rw[if_pos (by omega)]
  have e4:Jp x.val 3 4=0:=by unfold Jp;rw[if_pos (by omega)]
  rw[e2] at H2
  rw[e4] at H4
  replace H2:=zH H2
  replace H4:=zH H4
  have HP:∀ W,VolP x (.tuple #[XQ (Qq x),.bool (VG 1 x.i 0 0 x.k x.i x.o x.r (QZ (Qq x)) x.val)]) W:=fun W=>⟨_,by rw[TX (by omega)],fun _=>rfl⟩
  have HO:=HON.out (by omega)
  have HSM:=fun A' (c':Nat) (W:World) (vb:List UInt8) (hA:Bys W W.heap.size (.slice A' 7 c') vb) hx'=>qes 1 x.i 0 0 x.k x.i x.o x.r A' (some ⟨b,off,none⟩) 7 c' x.val.length c vb x.val W hA hx'
  have hvbl:=jn (Qq x)
  have ea:Qq x=⟨x.i,Qx x.val 0 2,decide ((x.val[2]?.getD 0).toNat=1),Qx x.val 3 4⟩:=rfl
  rw[ea] at HP HO hvbl
  dsimp only at HP HO
  replace HSM:=HSM
  generalize QZ ⟨x.i,Qx x.val 0 2,decide ((x.val[2]?.getD 0).toNat=1),Qx x.val 3 4⟩=vb at *
  replace HSM:=fun A' c' W=>HSM A' c' W vb
  generalize VG 1 x.i 0 0 x.k x.i x.o x.r vb x.val=S at *
  replace HP:=zH HP
  replace HO:=zH HO
  replace HSM:=zH HSM
  replace hvbl:=zH hvbl
  clear e2 e4 HON h ea
  generalize Qx x.val 0 2=n2 at *
  generalize Qx x.val 3 4=n4 at *
  generalize (x.val[2]?.getD 0).toNat=p2 at *
  rw[h7] at *
  go_enter Tryz.func93,Tryz.ntmps93
  go_wp2
  generalize hw1:(World.alloc (World.alloc _ _) _)=w1
  have b1:Ext w w1:=by rw[←hw1];exact(Ext.alloc _ _).trans (Ext.alloc _ _)
  have r1:w1.heap[w.heap.size]?=some (.cells #[.int .u8 x.k,.int .u32 x.i,.int .u32 x.o,.int .i64 x.r,.slice (some ⟨b,off,none⟩) 7 c] 38 (0,0)):=by rw[←hw1];exact(Below.heap_alloc _ _ _ (by simp)).trans (World.alloc_heap_at _ _ _ rfl)
  have q1:w1.heap[w.heap.size+1]?=some (.cells #[.int .u32 0,.int .i64 0,.bool false,.int .u32 0] 70 (0,0)):=by rw[←hw1];exact World.alloc_heap_at _ _ _ (by simp)
  clear hw1
  have g1:∀ W,qu.r w1 W→W.cell? ⟨w.heap.size,4,none⟩=some (.slice (some ⟨b,off,none⟩) 7 c):=fun W h=>by rw[qa (qc r1 h)];rfl
  have g2:∀ W,qu.r w1 W→W.cell? ⟨w.heap.size,1,none⟩=some (.int .u32 x.i):=fun W h=>by rw[qa (qc r1 h)];rfl
  have g3:∀ W,qu.r w1 W→W.cell? ⟨b,off+2,none⟩=some (.int .u8 (p2:Int)):=fun W h=>Ext.cell (b1.trans h) hc2
  have hq1:((p2:Int) == 1)=decide (p2=1):=by rw[Bool.eq_iff_iff];simp;omega
  refine qv (by kernel_rfl) ?_
  refine QH (w:=w1) qu (qE [(9,vk w1.heap.size 70 #[.int .u32 0,.int .i64 0,.bool false,.int .u32 0])])
   [true,true,true,true,true,true,true,true,true,true] 1 (by kernel_rfl) (by kernel_rfl) (by kernel_rfl) (by kernel_rfl) (by kernel_rfl) (by kernel_rfl) ?st (Rel.drew _ _) ?walk
  case st=>exact qm (by simp only[List.forall_mem_cons];exact⟨fun p=>zD (jR _ _ _ p),fun _ h=>by cases h⟩)
  case walk =>
   intro K hK
   dsimp only[qz]
   repeat ((first|(refine qf ?_ (by rfl) (by rfl) (fun W hW _=>⟨W,?_,Rel.refl _ W⟩) ?_;rotate_left;(first|(go_simp;with_reducible rfl)|(go_simp;done)))|(refine qj (by rfl) ?_));try simp only[Act.put,qi,qe,qb,qg,Vm,Qm,zA,zB,zC])
   refine qA (vk w1.heap.size 70 #[.int .u32 0,.int .i64 0,.bool false,.int .u32 0]) (by rfl) (by rfl) (fun W hW _=>?_) (fun (p9:Nat)=>?_)
   ·refine vu ?_ (Below.size hW)
    go_simp
   simp only[Act.put,qi,qe,qb,qg,Vm,Qm,zA,zB,zC]
   refine qD (hK _ _ fun W hW hF=>?_)
   obtain⟨f9,hlo⟩:W.heap[p9]?=some (.cells #[.int .u32 0,.int .i64 0,.bool false,.int .u32 0] 70 (0,0))∧w1.heap.size≤p9:=(hF 9).1
   clear hF hK g1 g2 g3
   have hW':Ext w1 W:=hW
   have r2:=qc r1 hW'
   have q2:=qc q1 hW'
   have b2:Ext w W:=b1.trans hW'
   have s1:w.heap.size+1<w1.heap.size:=(zG.1 q1).1
   have k9:=qa f9
   have h9:=qd f9
   dsimp only[List.drop,List.length_cons,List.length_nil]
   go_wp2
   refine Qw ?_
   have k2:=qa r2
   have hp9:p9≠w.heap.size:=by omega
   have hp9':p9≠w.heap.size+1:=by omega
   have hp8:p9<W.heap.size:=(zG.1 f9).1
   have b2':Below w.heap.size w W:=b2
   have q3:((((W.setCell ⟨p9,0,none⟩ (.int .u32 x.i)).setCell ⟨p9,1,none⟩ (.int .i64 0)).setCell ⟨p9,2,none⟩ (.bool (decide (p2=1)))).setCell ⟨p9,3,none⟩ (.int .u32 0)).heap[p9]?=some (.cells #[.int .u32 x.i,.int .i64 0,.bool (decide (p2=1)),.int .u32 0] 70 (0,0)):=qh (qh (qh (qh f9 0 _) 1 _) 2 _) 3 _
   have b3:Ext w1 ((((W.setCell ⟨p9,0,none⟩ (.int .u32 x.i)).setCell ⟨p9,1,none⟩ (.int .i64 0)).setCell ⟨p9,2,none⟩ (.bool (decide (p2=1)))).setCell ⟨p9,3,none⟩ (.int .u32 0)):=
    Below.setCell (Below.setCell (Below.setCell (Below.setCell hW' (p:=⟨p9,0,none⟩) hlo _) (p:=⟨p9,1,none⟩) hlo _) (p:=⟨p9,2,none⟩) hlo _) (p:=⟨p9,3,none⟩) hlo _
   generalize hw3:(World.setCell (World.setCell (World.setCell (World.setCell W _ _) _ _) _ _) _ _)=w3 at *
   have r3:=qc r1 b3
   have q13:=qc q1 b3
   have k3:=qa r3
   have bw3:Ext w w3:=b1.trans b3
   clear k9 h9 k2 r2 q2 f9 hw3 hW hW' b2 b2' hp8
   generalize hfz:decide (p2=1)=fz at *
   clear hfz
   go_wp2_with fail
   refine(H2.out _ bw3).mono ?_
   rintro e w4 ⟨rfl,hB⟩
   have r4:=qc r3 hB
   have q4:=qc q3 hB
   have q14:=qc q13 hB
   have bw4:Ext w w4:=bw3.trans hB
   have b14:Ext w1 w4:=b3.trans hB
   have k4:=qa q4
   have f4:=qd q4
   have kr4:=qa r4
   clear k3 r3 q3 q13 bw3 b3 hB H2
   go_wp2_with fail
   generalize hw5:(World.setCell _ _ _)=w5
   have q5:w5.heap[p9]?=some (.cells #[.int .u32 x.i,.int .i64 n2,.bool fz,.int .u32 0] 70 (0,0)):=by rw[←hw5];exact qh q4 1 _
   have b15:Ext w1 w5:=by rw[←hw5];exact Below.setCell b14 (p:=⟨p9,1,none⟩) hlo _
   have bw5:Ext w w5:=b1.trans b15
   clear hw5 k4 f4 kr4 r4 q4 q14 bw4 b14
   refine(H4.out _ bw5).mono ?_
   rintro e w6 ⟨rfl,hB⟩
   have b16:Ext w1 w6:=b15.trans hB
   have q6:=qc q5 hB
   have k6:=qa q6
   have f6:=qd q6
   clear q5 b15 bw5 hB H4
   go_wp2_with fail
   generalize hw7:(World.setCell _ _ _)=w7
   have q7:w7.heap[p9]?=some (.cells #[.int .u32 x.i,.int .i64 n2,.bool fz,.int .u32 n4] 70 (0,0)):=by rw[←hw7];exact qh q6 3 _
   have b17:Ext w1 w7:=by rw[←hw7];exact Below.setCell b16 (p:=⟨p9,3,none⟩) hlo _
   have bw7:Ext w w7:=b1.trans b17
   have r7:=qc r1 b17
   have t7:=qc q1 b17
   clear hw7 k6 f6 q6 b16
   obtain⟨RR,hRR⟩:∃ RR:Rel,RR=ja (w.heap.size+1) 70 #[.int .u32 x.i,.int .i64 n2,.bool fz,.int .u32 n4]:=⟨_,rfl⟩
   replace hRR:=zH hRR
   have hr6:∀ W',RR.r w7 W'→∀ j,W'.cell? ⟨w.heap.size,j,none⟩=#[.int .u8 x.k,.int .u32 x.i,.int .u32 x.o,.int .i64 x.r,.slice (some ⟨b,off,none⟩) 7 c][j]?:=fun W' h=>qa (ZZ (hRR.out ▸ h) (by simp) r7)
   have hq6:∀ W',RR.r w7 W'→∀ j,W'.cell? ⟨p9,j,none⟩=#[.int .u32 x.i,.int .i64 n2,.bool fz,.int .u32 n4][j]?:=fun W' h=>qa (ZZ (hRR.out ▸ h) hp9' q7)
   have hv7:∀ W',RR.r w7 W'→Bys W' W'.heap.size (.slice (some ⟨b,off,none⟩) 7 c) x.val:=fun W' h=>Ui (hRR.out ▸ h) ((HV.out.below bw7).more bw7.size) (fun a n c e hn=>by simp at e;rw[←e.1];simp;omega)
   replace hv7:=zH hv7
   refine qv (by kernel_rfl) ?_
   refine QH (w:=w7) RR (qE [(2,outIF w1.heap.size 1 x.i 0 0 7 vb),(4,one (.bool S)),(5,jA (w.heap.size+1) 70 #[.int .u32 x.i,.int .i64 n2,.bool fz,.int .u32 n4])])
    [true,true,true,true,true,true] 1 (by kernel_rfl) (by kernel_rfl) (by kernel_rfl) (by kernel_rfl) (by kernel_rfl) (by kernel_rfl) ?st (Rel.drew _ _) ?walk
   case st=>rw[hRR.out];exact qm (by simp only[List.forall_mem_cons];exact⟨GT s1,qaR _,JT,fun _ h=>by cases h⟩)
   case walk =>
    intro K hK
    dsimp only[qz]
    repeat ((first|(refine qf ?_ (by rfl) (by rfl) (fun W hW _=>⟨W,?_,Rel.refl _ W⟩) ?_;rotate_left;(first|(go_simp;with_reducible rfl)|(go_simp;done)))|(refine qj (by rfl) ?_));try simp only[Act.put,qi,qe,qb,qg,Vm,Qm,zA,zB,zC])
    refine qA (outIF w1.heap.size 1 x.i 0 0 7 vb) (by rfl) (by rfl) (fun W hW _=>?_) (fun p=>?_)
    ·rw[hRR.out] at hW ⊢
     refine Qg ?_ ((HO.out W).mono fun e w' h=>?_)
     ·go_simp
     ·obtain⟨u,rfl,⟨A,c,rfl,h1,h2⟩,h3⟩:=h
      rw[hvbl.out] at h1 h2 ⊢
      exact⟨(A,c),rfl,⟨h1,h2.mono (Nat.le_trans b17.size hW.1.size)⟩,Uj h3⟩
    obtain⟨A2,c2⟩:=p
    simp only[Act.put,qi,qe,qb,qg,Vm,Qm,zA,zB,zC]
    repeat ((first|(refine qf ?_ (by rfl) (by rfl) (fun W hW _=>⟨W,?_,Rel.refl _ W⟩) ?_;rotate_left;(first|(go_simp;with_reducible rfl)|(go_simp;done)))|(refine qj (by rfl) ?_));try simp only[Act.put,qi,qe,qb,qg,Vm,Qm,zA,zB,zC])
    refine qA (one (.bool S)) (by rfl) (by rfl) (fun W hW hp=>?_) (fun p=>?_)
    ·have f2:Bys W W.heap.size (.slice A2 7 c2) vb:=(hp 2 (by decide)).1.1
     have hvW:=hv7.out W hW
     rw[hRR.out] at hW ⊢
     refine Qg ?_ ((HSM.out A2 c2 W f2 hvW).mono fun e w' h=>⟨(),h.1,trivial,Uj h.2⟩)
     go_simp
    cases p
    simp only[Act.put,qi,qe,qb,qg,Vm,Qm,zA,zB,zC]
    refine qA (jA (w.heap.size+1) 70 #[.int .u32 x.i,.int .i64 n2,.bool fz,.int .u32 n4]) (by rfl) (by rfl) (fun W hW hp=>?_) (fun p=>?_)
    ·rw[hRR.out] at hW ⊢
     rcases Vx hW t7 with t8|t8
     all_goals
      have k8:=qa t8
      have f8:=qd t8
      refine kL (w':=(((W.setCell ⟨w.heap.size+1,0,none⟩ (.int .u32 x.i)).setCell ⟨w.heap.size+1,1,none⟩ (.int .i64 n2)).setCell ⟨w.heap.size+1,2,none⟩ (.bool fz)).setCell ⟨w.heap.size+1,3,none⟩ (.int .u32 n4)) ?_ (qk.trans (qk.trans (qk.trans qk))) (qh (qh (qh (qh t8 0 _) 1 _) 2 _) 3 _)
      go_simp
    cases p
    simp only[Act.put,qi,qe,qb,qg,Vm,Qm,zA,zB,zC]
    refine qD (hK _ _ fun W hW hF=>?_)
    have t8:W.heap[w.heap.size+1]?=some (.cells #[.int .u32 x.i,.int .i64 n2,.bool fz,.int .u32 n4] 70 (0,0)):=(hF 5).1
    clear hF hK hr6 hq6
    rw[hRR.out] at hW
    have bW:Below w.heap.size w W:=Below.trans bw7 (Vw hW (by omega) bw7.size)
    have k8:=qa t8
    dsimp only[List.drop,List.length_cons,List.length_nil]
    go_wp2
    refine Qw ?_
    go_wp2
    exact bodyPost_ret (v:=.tuple #[XQ ⟨x.i,n2,fz,n4⟩,.bool S]) (by simp[results,Tryz.results93,go_sem,k8]) rfl ⟨_,rfl,HP.out W,bW⟩
def Bls (w:World) (B:Nat) (v:Value) (bs:List (List UInt8)):Prop:=
 ∃ vs A c,v=.slice A bs.length c∧bs.length≤c∧c≤maxLen∧Rd w B 1 A bs.length vs∧∀ (i:Nat) (u:Value) (l:List UInt8),vs[i]?=some u→bs[i]?=some l→Bys w B u l
theorem Bls.below {w w':World} {B:Nat} {v:Value} {bs:List (List UInt8)} (h:Bls w B v bs) (hb:Below B w w'):Bls w' B v bs:=by
 obtain⟨vs,A,c,e,h1,h2,h3,h4⟩:=h
 exact⟨vs,A,c,e,h1,h2,h3.below hb,fun i u l hu hl=>(h4 i u l hu hl).below hb⟩
theorem Bls.more {w:World} {B B':Nat} {v:Value} {bs:List (List UInt8)} (h:Bls w B v bs) (hb:B≤B'):Bls w B' v bs:=by
 obtain⟨vs,A,c,e,h1,h2,h3,h4⟩:=h
 exact⟨vs,A,c,e,h1,h2,h3.more hb,fun i u l hu hl=>(h4 i u l hu hl).more hb⟩
theorem Bls.at_ {w:World} {B:Nat} {A:Option Addr} {n c:Nat} {bs:List (List UInt8)} (h:Bls w B (.slice A n c) bs):n=bs.length∧n≤c∧c≤maxLen∧(0<n→∃ b off,A=some ⟨b,off,none⟩∧b<B):=by
 obtain⟨vs,A',c',e,h1,h2,h3,_⟩:=h
 cases e
 refine⟨rfl,h1,h2,fun hn=>?_⟩
 obtain⟨b,off,e,hb,_⟩:=h3.2 hn
 exact⟨b,off,e,hb⟩
theorem Bls.get {w:World} {B b off n c:Nat} {bs:List (List UInt8)} (h:Bls w B (.slice (some ⟨b,off,none⟩) n c) bs) (i:Nat) (hi:i<bs.length):∃ A' c',w.cell? ⟨b,off+i,none⟩=some (.slice A' bs[i].length c')∧Bys w B (.slice A' bs[i].length c') bs[i]:=by
 obtain⟨vs,A',c',e,h1,h2,h3,h4⟩:=h
 cases e
 have hv:i<vs.length:=by rw[h3.len1];exact hi
 obtain⟨b',off',e,hb,hc⟩:=h3.2 (by omega)
 cases e
 have hby:=h4 i vs[i] bs[i] (List.getElem?_eq_getElem hv) (List.getElem?_eq_getElem hi)
 obtain⟨A2,c2,e2,g1,g2,g3⟩:=hby
 exact⟨A2,c2,by rw[←e2];exact hc i _ (List.getElem?_eq_getElem hv),A2,c2,rfl,g1,g2,g3⟩
def QE:List ((Int×List UInt8)×Value)→List Value
 | []=>[]
 |p :: r=>.int .i64 p.1.1 :: p.2 :: QE r
theorem jL (ps:List ((Int×List UInt8)×Value)):(QE ps).length=ps.length*2:=by
 induction ps with
 |nil=>rfl
 |cons p r ih=>simp[QE,ih];omega
theorem JM (ps:List ((Int×List UInt8)×Value)):∀ i (h:i<ps.length),(QE ps)[i*2]?=some (.int .i64 ps[i].1.1)∧(QE ps)[i*2+1]?=some ps[i].2:=by
 induction ps with
 |nil=>intro i h;simp at h
 |cons p r ih =>
  intro i h
  rcases i with _|i
  ·simp[QE]
  ·have:=ih i (by simpa using h)
   rw[show (i+1)*2=i*2+2 by omega]
   simpa [QE] using this
def Wrs (w:World) (B:Nat) (v:Value) (ws:List (Int×List UInt8)):Prop:=
 ∃ ps:List ((Int×List UInt8)×Value),ps.map (·.1)=ws∧(∃ A c,v=.slice A ws.length c∧ws.length≤c∧c≤maxLen∧Rd w B 2 A ws.length (QE ps))∧∀ p∈ps,(∃ A c,p.2=.slice A p.1.2.length c)∧Bys w B p.2 p.1.2
theorem Wrs.below {w w':World} {B:Nat} {v:Value} {ws:List (Int×List UInt8)} (h:Wrs w B v ws) (hb:Below B w w'):Wrs w' B v ws:=by
 obtain⟨ps,e,⟨A,c,e1,e2,e3,hr⟩,hp⟩:=h
 exact⟨ps,e,⟨A,c,e1,e2,e3,hr.below hb⟩,fun p h=>⟨(hp p h).1,(hp p h).2.below hb⟩⟩
theorem Wrs.more {w:World} {B B':Nat} {v:Value} {ws:List (Int×List UInt8)} (h:Wrs w B v ws) (hb:B≤B'):Wrs w B' v ws:=by
 obtain⟨ps,e,⟨A,c,e1,e2,e3,hr⟩,hp⟩:=h
 exact⟨ps,e,⟨A,c,e1,e2,e3,hr.more hb⟩,fun p h=>⟨(hp p h).1,(hp p h).2.more hb⟩⟩
theorem Wrs.at_ {w:World} {B:Nat} {A:Option Addr} {n c:Nat} {ws:List (Int×List UInt8)} (h:Wrs w B (.slice A n c) ws):n=ws.length∧n≤c∧c≤maxLen∧(0<n→∃ b off,A=some ⟨b,off,none⟩∧b<B):=by
 obtain⟨ps,e,⟨A',c',e1,e2,e3,hr⟩,hp⟩:=h
 cases e1
 refine⟨rfl,e2,e3,fun hn=>?_⟩
 obtain⟨b,off,e,hb,_⟩:=hr.2 hn
 exact⟨b,off,e,hb⟩
theorem Wrs.get {w:World} {B b off n c:Nat} {ws:List (Int×List UInt8)} (h:Wrs w B (.slice (some ⟨b,off,none⟩) n c) ws) (i:Nat) (hi:i<ws.length):∃ A' c',w.cell? ⟨b,off+i*2,none⟩=some (.int .i64 ws[i].1)∧w.cell? ⟨b,off+i*2+1,none⟩=some (.slice A' ws[i].2.length c')∧Bys w B (.slice A' ws[i].2.length c') ws[i].2:=by
 obtain⟨ps,e,⟨A,c',e1,e2,e3,hr⟩,hp⟩:=h
 cases e1
 subst e
 have hi':i<ps.length:=by simpa using hi
 obtain⟨b',off',e,hb,hc⟩:=hr.2 (by omega)
 cases e
 obtain⟨c0,c1⟩:=JM ps i hi'
 obtain⟨⟨A',c',e5⟩,hby⟩:=hp ps[i] (List.getElem_mem hi')
 rw[e5] at c1 hby
 refine⟨A',c',?_⟩
 simp only[List.getElem_map]
 exact⟨hc _ _ c0,by rw[Nat.add_assoc];exact hc _ _ c1,hby⟩
def vB (l:List UInt8):Bool:=decide (l.length=128)
def KK (x:Int×List UInt8):Bool:=decide (0≤x.1∧x.1<256∧x.2.length=128)
def headD (n m:Nat):Bool:=decide (n=256∧m≤4096)
def Qe (bs:List (List UInt8)) (ws:List (Int×List UInt8)):Bool:=headD bs.length ws.length && (bs.all vB && ws.all KK)
theorem JR {α:Type} (f:α→Bool) (l:List α) (k:Nat) (h:k<l.length):(l.take (k+1)).all f=((l.take k).all f && f l[k]):=by
 rw[List.take_succ_eq_append_getElem h,List.all_append];simp only[List.all_cons,List.all_nil,Bool.and_true]
theorem Kf {α:Type} {f:α→Bool} {l:List α} {k:Nat} (h:k<l.length) (hf:f l[k]=false):l.all f=false:=by
 rw[List.all_eq_false];exact⟨_,List.getElem_mem h,by simp[hf]⟩
abbrev Zw (A1:Option Addr) (n1 c1:Nat) (A2:Option Addr) (n2 c2:Nat):Value:=.agg #[.slice A1 n1 c1,.slice A2 n2 c2]
set_option maxHeartbeats 4000000 in
theorem TD (A1:Option Addr) (n1 c1:Nat) (A2:Option Addr) (n2 c2:Nat) (bs:List (List UInt8)) (ws:List (Int×List UInt8)) (w:World) (hb:Bls w w.heap.size (.slice A1 n1 c1) bs) (hw:Wrs w w.heap.size (.slice A2 n2 c2) ws) :
  Calls Tryz.prog 101 #[Zw A1 n1 c1 A2 n2 c2] w (Ret (.int .i64 (kl (Qe bs ws))) w):=by
 obtain⟨e1,hc1,hm1,hA1⟩:=hb.at_
 obtain⟨e2,hc2,hm2,hA2⟩:=hw.at_
 subst e1
 subst e2
 by_cases hh:headD bs.length ws.length=true
 case neg =>
  have hM:Qe bs ws=false:=by unfold Qe;rw[show headD bs.length ws.length=false by simpa using hh];rfl
  rw[hM]
  have hh':¬(bs.length=256∧ws.length≤4096):=by simpa [headD] using hh
  clear hM hb hw hA1 hA2 hh
  generalize bs.length=n1 at *
  generalize ws.length=n2 at *
  go_enter Tryz.func101,Tryz.ntmps101
  go_wp2
  all_goals try simp only[beq_iff_eq,beq_eq_false_iff_ne,ne_eq,bne_iff_ne,bne_eq_false_iff_eq] at *
  all_goals first|(exfalso;omega)|skip
  all_goals go_ret
  all_goals exact⟨rfl,(by repeat' (first|with_reducible exact Below.refl _ _|with_reducible assumption|with_reducible apply Below.drew|with_reducible apply qp|with_reducible refine Below.alloc ?_ ?_ _|with_reducible refine Below.setCell ?_ ?_ _|(simp;done)|(simp;omega)|omega))⟩
 case pos =>
  have hM:Qe bs ws=(bs.all vB && ws.all KK):=by unfold Qe;rw[hh];rfl
  have hh':bs.length=256∧ws.length≤4096:=by simpa [headD] using hh
  obtain⟨hn1,hn2⟩:=hh'
  rw[hM]
  clear hM hh
  have HB:=zH hb
  have HW:=zH hw
  have HTB:=zH (JR vB bs)
  have HTW:=zH (JR KK ws)
  have HBB:=zH (fun k h=>@Kf _ vB bs k h)
  have HBW:=zH (fun k h=>@Kf _ KK ws k h)
  have HE1:Hid (bs.take bs.length=bs):=zH (List.take_length)
  have HE2:Hid (ws.take ws.length=ws):=zH (List.take_length)
  obtain⟨b1,o1,rfl,hb1⟩:=hA1 (by omega)
  clear hb hw hA1
  have hsm:bs.length<1000:=by omega
  replace hn1:=zH hn1
  have hd1:((bs.length:Int) != 256)=false:=by rw[bne_eq_false_iff_eq,hn1.out];rfl
  have hd2:decide ((ws.length:Int)>4096)=false:=decide_eq_false (by omega)
  go_enter Tryz.func101,Tryz.ntmps101
  go_wp2
  generalize hw1:(World.alloc _ _)=w1
  have x1:Ext w w1:=by rw[←hw1];exact Ext.alloc _ _
  have r1:w1.heap[w.heap.size]?=some (.cells #[.slice (some ⟨b1,o1,none⟩) bs.length c1,.slice A2 ws.length c2] 25 (0,0)):=by rw[←hw1];exact World.alloc_heap_at _ _ _ rfl
  clear hw1
  go_loopw [20] (fun i wr=>∃ k:Nat,k≤bs.length∧i=.int .i64 (k:Int)∧(bs.take k).all vB=true∧Ext w1 wr) (fun i _=>bs.length-(intOf i).toNat)
  case atStart=>exact⟨0,by omega,rfl,rfl,Ext.refl _⟩
  case round =>
   obtain⟨k,hk,rfl,hok,hE⟩:=hrel
   have hEw:=x1.trans hE
   by_cases hlt:k<bs.length
   ·have hlt':=hlt
    obtain⟨A',c',hc,_⟩:=((HB.out.below hEw).more hEw.size).get k hlt
    have ht:=HTB.out k hlt
    have hbd:=HBB.out k hlt
    rw[hok,Bool.true_and] at ht
    replace ht:=zH ht
    replace hbd:=zH hbd
    have hbo:vB bs[k]=decide (bs[k].length=128):=rfl
    replace hbo:=zH hbo
    generalize vB bs[k]=q at *
    generalize bs[k].length=m at *
    by_cases hm:m=128
    ·obtain rfl:q=true:=by rw[hbo.out,decide_eq_true hm]
     subst hm
     go_wp2
     go_roundw
     case rel=>exact⟨k+1,by omega,by go_num,ht.out,hE⟩
     case measure=>simp[intOf];omega
    ·obtain rfl:q=false:=by rw[hbo.out,decide_eq_false hm]
     have hne:((m:Int) != 128)=true:=by rw[bne_iff_ne];omega
     have hf:=hbd.out rfl
     go_wp2
     go_ret
     exact⟨by first|rfl|(rw[hf];rfl),hEw⟩
   ·obtain rfl:k=bs.length:=by omega
    rw[HE1.out] at hok
    rw[hok]
    have rr:=qc r1 hE
    have kr:=qa rr
    clear HB HTB HBB r1 hd1 hd2
    go_wp2
    clear kr
    go_loopw [31] (fun i wq=>∃ k:Nat,k≤ws.length∧i=.int .i64 (k:Int)∧(ws.take k).all KK=true∧Ext wr wq) (fun i _=>ws.length-(intOf i).toNat)
    case atStart=>exact⟨0,by omega,rfl,rfl,Ext.refl _⟩
    case round =>
     obtain⟨j,hj,rfl,hok2,hE2⟩:=hrel
     have hEq:=hEw.trans hE2
     by_cases hlt2:j<ws.length
     ·have hlt2':=hlt2
      obtain⟨b2,o2,rfl,hb2⟩:=hA2 (by omega)
      obtain⟨A',c',hca,hcb,_⟩:=((HW.out.below hEq).more hEq.size).get j hlt2
      have ht:=HTW.out j hlt2
      have hbd:=HBW.out j hlt2
      rw[hok2,Bool.true_and] at ht
      replace ht:=zH ht
      replace hbd:=zH hbd
      have hbo:KK ws[j]=decide (0≤ws[j].1∧ws[j].1<256∧ws[j].2.length=128):=rfl
      replace hbo:=zH hbo
      generalize KK ws[j]=q at *
      generalize ws[j].1=a at *
      generalize ws[j].2.length=m at *
      by_cases hm:0≤a∧a<256∧m=128
      ·obtain rfl:q=true:=by rw[hbo.out,decide_eq_true hm]
       obtain⟨ha1,ha2,rfl⟩:=hm
       have hda:decide (a<0)=false:=decide_eq_false (by omega)
       have hdb:decide (a≥256)=false:=decide_eq_false (by omega)
       go_wp2
       go_roundw
       case rel=>exact⟨j+1,by omega,by go_num,ht.out,hE2.trans (Ext.alloc _ _)⟩
       case measure=>simp[intOf];omega
      ·obtain rfl:q=false:=by rw[hbo.out,decide_eq_false hm]
       have hf:=hbd.out rfl
       have hfin:Below w.heap.size w _:=hEq
       go_wp2
       all_goals try simp only[beq_iff_eq,beq_eq_false_iff_ne,ne_eq,bne_iff_ne,bne_eq_false_iff_eq] at *
       all_goals first
        |(exfalso;omega)
        |(go_ret
          exact⟨by first|rfl|(rw[hf];rfl),Below.alloc hEq (by have:=hEq.size;omega) _⟩)
     ·obtain rfl:j=ws.length:=by omega
      rw[HE2.out] at hok2
      go_wp2
      go_ret
      exact⟨by first|rfl|(rw[hok];rfl)|(rw[hok2];rfl)|(rw[hok,hok2];rfl),hEq⟩
set_option maxHeartbeats 4000000 in
theorem dmay_any (A1:Option Addr) (n1 c1:Nat) (A2:Option Addr) (n2 c2:Nat) (bs:List (List UInt8)) (ws:List (Int×List UInt8)) (w:World) (hb:Bls w w.heap.size (.slice A1 n1 c1) bs) (hw:Wrs w w.heap.size (.slice A2 n2 c2) ws) :
  Calls Tryz.prog 131 #[Zw A1 n1 c1 A2 n2 c2] w (Ret (.bool (Qe bs ws)) w):=by
 obtain⟨e1,hc1,hm1,hA1⟩:=hb.at_
 obtain⟨e2,hc2,hm2,hA2⟩:=hw.at_
 subst e1
 subst e2
 by_cases hh:headD bs.length ws.length=true
 case neg =>
  have hM:Qe bs ws=false:=by unfold Qe;rw[show headD bs.length ws.length=false by simpa using hh];rfl
  rw[hM]
  have hh':¬(bs.length=256∧ws.length≤4096):=by simpa [headD] using hh
  clear hM hb hw hA1 hA2 hh
  generalize bs.length=n1 at *
  generalize ws.length=n2 at *
  go_enter Tryz.func131,Tryz.ntmps131
  go_wp2
  all_goals try simp only[beq_iff_eq,beq_eq_false_iff_ne,ne_eq,bne_iff_ne,bne_eq_false_iff_eq] at *
  all_goals first|(exfalso;omega)|skip
  all_goals go_ret
  all_goals exact⟨rfl,(by repeat' (first|with_reducible exact Below.refl _ _|with_reducible assumption|with_reducible apply Below.drew|with_reducible apply qp|with_reducible refine Below.alloc ?_ ?_ _|with_reducible refine Below.setCell ?_ ?_ _|(simp;done)|(simp;omega)|omega))⟩
 case pos =>
  have hM:Qe bs ws=(bs.all vB && ws.all KK):=by unfold Qe;rw[hh];rfl
  have hh':bs.length=256∧ws.length≤4096:=by simpa [headD] using hh
  obtain⟨hn1,hn2⟩:=hh'
  rw[hM]
  clear hM hh
  have HB:=zH hb
  have HW:=zH hw
  have HTB:=zH (JR vB bs)
  have HTW:=zH (JR KK ws)
  have HBB:=zH (fun k h=>@Kf _ vB bs k h)
  have HBW:=zH (fun k h=>@Kf _ KK ws k h)
  have HE1:Hid (bs.take bs.length=bs):=zH (List.take_length)
  have HE2:Hid (ws.take ws.length=ws):=zH (List.take_length)
  obtain⟨b1,o1,rfl,hb1⟩:=hA1 (by omega)
  clear hb hw hA1
  have hsm:bs.length<1000:=by omega
  replace hn1:=zH hn1
  have hd1:((bs.length:Int) != 256)=false:=by rw[bne_eq_false_iff_eq,hn1.out];rfl
  have hd2:decide ((ws.length:Int)>4096)=false:=decide_eq_false (by omega)
  go_enter Tryz.func131,Tryz.ntmps131
  go_wp2
  generalize hw1:(World.alloc _ _)=w1
  have x1:Ext w w1:=by rw[←hw1];exact Ext.alloc _ _
  have r1:w1.heap[w.heap.size]?=some (.cells #[.slice (some ⟨b1,o1,none⟩) bs.length c1,.slice A2 ws.length c2] 25 (0,0)):=by rw[←hw1];exact World.alloc_heap_at _ _ _ rfl
  clear hw1
  go_loopw [3] (fun i wr=>∃ k:Nat,k≤bs.length∧i=.int .i64 (k:Int)∧(bs.take k).all vB=true∧Ext w1 wr) (fun i _=>bs.length-(intOf i).toNat)
  case atStart=>exact⟨0,by omega,rfl,rfl,Ext.refl _⟩
  case round =>
   obtain⟨k,hk,rfl,hok,hE⟩:=hrel
   have hEw:=x1.trans hE
   have rr:=qc r1 hE
   have kr:=qa rr
   by_cases hlt:k<bs.length
   ·have hlt':=hlt
    obtain⟨A',c',hc,_⟩:=((HB.out.below hEw).more hEw.size).get k hlt
    have ht:=HTB.out k hlt
    have hbd:=HBB.out k hlt
    rw[hok,Bool.true_and] at ht
    replace ht:=zH ht
    replace hbd:=zH hbd
    have hbo:vB bs[k]=decide (bs[k].length=128):=rfl
    replace hbo:=zH hbo
    generalize vB bs[k]=q at *
    generalize bs[k].length=m at *
    by_cases hm:m=128
    ·obtain rfl:q=true:=by rw[hbo.out,decide_eq_true hm]
     subst hm
     go_wp2
     go_roundw
     case rel=>exact⟨k+1,by omega,by go_num,ht.out,hE⟩
     case measure=>simp[intOf];omega
    ·obtain rfl:q=false:=by rw[hbo.out,decide_eq_false hm]
     have hne:((m:Int) != 128)=true:=by rw[bne_iff_ne];omega
     have hf:=hbd.out rfl
     go_wp2
     go_ret
     exact⟨by first|rfl|(rw[hf];rfl),hEw⟩
   ·obtain rfl:k=bs.length:=by omega
    rw[HE1.out] at hok
    rw[hok]
    clear HB HTB HBB r1 hd1 hd2
    go_wp2
    clear kr
    go_loopw [4] (fun i wq=>∃ k:Nat,k≤ws.length∧i=.int .i64 (k:Int)∧(ws.take k).all KK=true∧Ext wr wq) (fun i _=>ws.length-(intOf i).toNat)
    case atStart=>exact⟨0,by omega,rfl,rfl,Ext.refl _⟩
    case round =>
     obtain⟨j,hj,rfl,hok2,hE2⟩:=hrel
     have hEq:=hEw.trans hE2
     have kr:=qa (qc rr hE2)
     by_cases hlt2:j<ws.length
     ·have hlt2':=hlt2
      obtain⟨b2,o2,rfl,hb2⟩:=hA2 (by omega)
      obtain⟨A',c',hca,hcb,_⟩:=((HW.out.below hEq).more hEq.size).get j hlt2
      have ht:=HTW.out j hlt2
      have hbd:=HBW.out j hlt2
      rw[hok2,Bool.true_and] at ht
      replace ht:=zH ht
      replace hbd:=zH hbd
      have hbo:KK ws[j]=decide (0≤ws[j].1∧ws[j].1<256∧ws[j].2.length=128):=rfl
      replace hbo:=zH hbo
      generalize KK ws[j]=q at *
      generalize ws[j].1=a at *
      generalize ws[j].2.length=m at *
      by_cases hm:0≤a∧a<256∧m=128
      ·obtain rfl:q=true:=by rw[hbo.out,decide_eq_true hm]
       obtain⟨ha1,ha2,rfl⟩:=hm
       have hda:decide (a<0)=false:=decide_eq_false (by omega)
       have hdb:decide (a≥256)=false:=decide_eq_false (by omega)
       go_wp2
       go_roundw
       case rel=>exact⟨j+1,by omega,by go_num,ht.out,hE2⟩
       case measure=>simp[intOf];omega
      ·obtain rfl:q=false:=by rw[hbo.out,decide_eq_false hm]
       have hf:=hbd.out rfl
       go_wp2
       all_goals try simp only[beq_iff_eq,beq_eq_false_iff_ne,ne_eq,bne_iff_ne,bne_eq_false_iff_eq] at *
       all_goals first
        |(exfalso;omega)
        |(go_ret
          exact⟨by first|rfl|(rw[hf];rfl),hEq⟩)
     ·obtain rfl:j=ws.length:=by omega
      rw[HE2.out] at hok2
      go_wp2
      go_ret
      exact⟨by first|rfl|(rw[hok];rfl)|(rw[hok2];rfl)|(rw[hok,hok2];rfl),hEq⟩
def QJ (t:List UInt8):Bool:=decide (t.length=256) && ZE (t.take 8)
theorem Bys.take {w:World} {B:Nat} {A:Option Addr} {m c:Nat} {l:List UInt8} (h:Bys w B (.slice A m c) l) {k:Nat} (hk:k≤l.length):Bys w B (.slice A k c) (l.take k):=by
 obtain⟨A',c',e,hc,hm,hr⟩:=h
 cases e
 have hl:(l.take k).length=k:=by simp;omega
 refine⟨_,_,by rw[hl],by rw[hl];omega,hm,?_⟩
 rw[hl]
 have:=hr.take hk
 rwa [Nat.mul_one,←List.map_take] at this
set_option maxHeartbeats 1000000 in
theorem KO (v:Value) (t:List UInt8) (w:World) (h:Bys w w.heap.size v t) :
  Calls Tryz.prog 102 #[v] w (Ret (.int .i64 (kl (QJ t))) w):=by
 obtain⟨A,m,c,rfl⟩:∃ A m c,v=.slice A m c:=by obtain⟨A,c,e,_⟩:=h;exact⟨_,_,_,e⟩
 obtain⟨e1,hc,hm,hA⟩:=h.at_
 subst e1
 by_cases h256:t.length=256
 ·have hT:QJ t=ZE (t.take 8):=by unfold QJ;rw[decide_eq_true h256,Bool.true_and]
  rw[hT]
  have HM:=zH (fun W (hW:Ext w W)=>qbS (.slice A 8 c) (t.take 8) (by simp;omega) (by simp;omega) W (((h.take (k:=8) (by omega)).below hW).more hW.size))
  have hz:=TS (t.take 8)
  have hml:=qaA (t.take 8)
  generalize kD (t.take 8)=mx at *
  generalize ZE (t.take 8)=z at *
  clear hT h
  have hc8:(8:Int)≤(c:Int):=by omega
  have hd1:((t.length:Int) != 256)=false:=by rw[bne_eq_false_iff_eq];omega
  clear h256
  go_enter Tryz.func102,Tryz.ntmps102
  go_wp2_with fail
  refine(HM.out _ (Ext.refl _)).mono ?_
  rintro e w2 ⟨rfl,hB⟩
  clear HM
  cases z
  ·have hm0:0<mx:=by simpa using hz
   go_wp2
   go_ret
   exact⟨rfl,hB⟩
  ·obtain rfl:mx=0:=by simpa using hz
   go_wp2
   go_ret
   exact⟨rfl,hB⟩
 ·have hT:QJ t=false:=by unfold QJ;rw[decide_eq_false h256];rfl
  rw[hT]
  have hn1:((t.length:Int) != 256)=true:=by rw[bne_iff_ne];omega
  go_enter Tryz.func102,Tryz.ntmps102
  go_wp2
  go_ret
  exact⟨rfl,Below.refl _ _⟩
set_option maxHeartbeats 1000000 in
theorem qby (v:Value) (t:List UInt8) (w:World) (h:Bys w w.heap.size v t) :
  Calls Tryz.prog 132 #[v] w (Ret (.bool (QJ t)) w):=by
 obtain⟨A,m,c,rfl⟩:∃ A m c,v=.slice A m c:=by obtain⟨A,c,e,_⟩:=h;exact⟨_,_,_,e⟩
 obtain⟨e1,hc,hm,hA⟩:=h.at_
 subst e1
 by_cases h256:t.length=256
 ·have hT:QJ t=ZE (t.take 8):=by unfold QJ;rw[decide_eq_true h256,Bool.true_and]
  rw[hT]
  obtain⟨A',c',e,_,_,hr⟩:=h
  cases e
  obtain⟨b,off,rfl,hb,hcell⟩:=hr.2 (by omega)
  have HC:=zH (fun k (hk:k<t.length)=>hcell k (.int .u8 (t[k].toNat:Int)) (by rw[List.getElem?_map,List.getElem?_eq_getElem hk];rfl))
  have HS:=zH (fun k (hk:k<t.length)=>JR (· == (0:UInt8)) t k hk)
  have HBad:Hid (∀ k (hk:k<t.length),k<8→(t[k] == (0:UInt8))=false→ZE (t.take 8)=false):=zH (fun k hk h8 hx=>by
   unfold ZE
   rw[List.all_eq_false]
   refine⟨t[k],?_,by simpa using hx⟩
   exact List.mem_take_iff_getElem.2 ⟨k,by omega,rfl⟩)
  have HZ:Hid (ZE (t.take 8)=(t.take 8).all (· == (0:UInt8))):=rfl
  have hd1:((t.length:Int) != 256)=false:=by rw[bne_eq_false_iff_eq];omega
  have hsm:256≤t.length:=by omega
  clear hcell hr hT h256
  go_enter Tryz.func132,Tryz.ntmps132
  go_wp2
  go_loopw [3] (fun i wr=>∃ k:Nat,k≤8∧i=.int .i64 (k:Int)∧(t.take k).all (· == (0:UInt8))=true∧Ext w wr) (fun i _=>8-(intOf i).toNat)
  case atStart=>exact⟨0,by omega,rfl,rfl,Ext.refl _⟩
  case round =>
   obtain⟨k,hk,rfl,hok,hE⟩:=hrel
   by_cases hlt:k<8
   ·have hlt':=hlt
    have hkt:k<t.length:=by omega
    have hcl:=Ext.cell hE (HC.out k hkt)
    have ht:=HS.out k hkt
    rw[hok,Bool.true_and] at ht
    have hbad:=HBad.out k hkt hlt
    replace ht:=zH ht
    replace hbad:=zH hbad
    have hx0:(t[k] == (0:UInt8))=decide (t[k].toNat=0):=by
     rw[Bool.eq_iff_iff]
     simp
     constructor
     ·intro h;rw[h];rfl
     ·intro h;exact UInt8.toNat.inj h
    rw[hx0] at ht hbad
    clear hx0
    generalize t[k].toNat=x at *
    by_cases hx:x=0
    ·subst hx
     go_wp2
     go_roundw
     case rel=>exact⟨k+1,by omega,by go_num,by rw[ht.out];rfl,hE⟩
     case measure=>simp[intOf];omega
    ·have hne:((x:Int) != 0)=true:=by rw[bne_iff_ne];omega
     have hf:=hbad.out (decide_eq_false hx)
     go_wp2
     go_ret
     exact⟨by first|rfl|(rw[hf];rfl),hE⟩
   ·obtain rfl:k=8:=by omega
    go_wp2
    go_ret
    exact⟨by rw[HZ.out,hok];rfl,hE⟩
 ·have hT:QJ t=false:=by unfold QJ;rw[decide_eq_false h256];rfl
  rw[hT]
  have hn1:((t.length:Int) != 256)=true:=by rw[bne_iff_ne];omega
  go_enter Tryz.func132,Tryz.ntmps132
  go_wp2
  go_ret
  exact⟨rfl,Below.refl _ _⟩
end Go.Proofs.YtckhnchnbeoogaaGreat
