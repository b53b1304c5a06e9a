/- Texts NewD, NewP, NewF, DMake, NewOk, FVols, DLeave, joined. -/
import Derived.Test.YtpbniokljofedaaGreatZF04
import Derived.Test.YtpbniokljofedaaGreatZF05
import Derived.Test.YtpbniokljofedaaGreatZF12
import Derived.Test.YtpbniokljofedaaGreatZF17
import Derived.Test.YtpbniokljofedaaGreatZF23
import Derived.Test.YtpbniokljofedaaGreatZF25
import Derived.Test.YtpbniokljofedaaGreatZF28
set_option linter.unusedSimpArgs false
set_option linter.unusedVariables false
set_option maxHeartbeats 8000000
namespace Go.Proofs.YtpbniokljofedaaGreat
open Go.RowKit
def ZH (n:Nat):List UInt8:=List.replicate n 0
theorem Zd (n:Nat):(ZH n).length=n:=by simp[ZH]
theorem qgz (n:Nat):madeCells #[.int .u8 0] n=((ZH n).map bv).toArray:=by
 apply Array.ext_getElem?
 intro i
 unfold madeCells ZH
 rw[Array.getElem?_map,Array.getElem?_range,List.getElem?_toArray,List.getElem?_map,List.getElem?_replicate]
 by_cases h:i<n
 ·rw[if_pos h,if_pos h]
  simp[Nat.mod_one,bv]
 ·rw[if_neg h,if_neg h]
  rfl
theorem qhi {n:Nat} (hn:n<1000000) (w:World):(Instr.makeSlice 26 (.int .i64 (n:Int)) (.int .i64 (n:Int))).run Tryz.prog w=.ok (.slice (some ⟨w.heap.size,0,none⟩) n n) (w.alloc (.cells ((ZH n).map bv).toArray 5)):=by
 obtain⟨i0,hi,hz0,hz1,hz2⟩:=info_parts Tryz.info_u8
 have h:=run_make (P:=Tryz.prog) w 26 5 i0 _ Tryz.underlying26 hi hz0 .i64 .i64 (n:Int) (n:Int) (by omega) (by omega) (by rw[hz2];omega) (by omega)
 rw[hz1,Int.toNat_natCast,Nat.mul_one] at h
 rw[←qgz]
 exact h
theorem qdA (w:World):Calls Tryz.prog 94 #[] w (zo (fun u W=>u=.slice (some ⟨w.heap.size,0,none⟩) 256 256∧W.heap[w.heap.size]?=some (.cells ((ZH 256).map bv).toArray 5 (0,0))) w):=by
 have hmk:∀ w,(Instr.makeSlice 26 (.int .i64 256) (.int .i64 256)).run Tryz.prog w=.ok (.slice (some ⟨w.heap.size,0,none⟩) 256 256) (w.alloc (.cells ((ZH 256).map bv).toArray 5)):=fun w=>qhi (n:=256) (by omega) w
 go_enter Tryz.func94,Tryz.ntmps94
 go_wp2
 go_ret
 exact⟨_,rfl,⟨rfl,zI _ _ _ rfl⟩,zN _ _⟩
structure NewI (w2:World) (BB:Nat) (i:Value) (wr:World):Prop where
 ex:∃ (k:Nat) (cs:Array Value),k≤256∧i=.int .i64 (k:Int)∧Below BB w2 wr∧BB<wr.heap.size∧wr.heap[BB]?=some (.cells cs 26 (0,0))∧cs.size=256 ∧
  wr.heap[BB+1]?=some (.cells #[.slice (some ⟨BB,0,none⟩) 256 256,.slice none 0 0] 25 (0,0))∧∀ i,i<k→∃ b,cs[i]?=some (.slice (some ⟨b,0,none⟩) 128 128)∧BB<b∧wr.heap[b]?=some (.cells ((ZH 128).map bv).toArray 5 (0,0))
def Ji:List (List UInt8):=List.replicate 256 (ZH 128)
set_option maxRecDepth 100000 in
theorem dnew_any (w:World):Calls Tryz.prog 93 #[] w (zo (fun u W=>∃ BB,u=KJ (some ⟨BB,0,none⟩) 256 256 none 0 0∧∀ W2:World,(∀ q:Addr,w.heap.size≤q.block→q.block<W.heap.size→W2.cell? q=W.cell? q)→Bls W2 W.heap.size (.slice (some ⟨BB,0,none⟩) 256 256) Ji) w):=by
 have hmk:∀ w,(Instr.makeSlice 26 (.int .i64 128) (.int .i64 128)).run Tryz.prog w=.ok (.slice (some ⟨w.heap.size,0,none⟩) 128 128) (w.alloc (.cells ((ZH 128).map bv).toArray 5)):=fun w=>qhi (n:=128) (by omega) w
 have hmk2:∀ w,(Instr.makeSlice 22 (.int .i64 256) (.int .i64 256)).run Tryz.prog w=.ok (.slice (some ⟨w.heap.size,0,none⟩) 256 256) (w.alloc (.cells (madeCells #[.slice none 0 0] 256) 26)):=fun w=>Tk (n:=256) (by omega) w
 go_enter Tryz.func93,Tryz.ntmps93
 go_wp2_with fail
 generalize hw2:(World.alloc (World.alloc (World.alloc _ _) _) _)=w2
 have x2:Ext w w2:=by rw[←hw2];exact((zN _ _).trans (zN _ _)).trans (zN _ _)
 have q2:w2.heap[w.heap.size]?=some (.cells #[.slice none 0 0,.slice none 0 0] 25 (0,0)):=by rw[←hw2];exact(zK _ _ _ (by simp;omega)).trans ((zK _ _ _ (by simp)).trans (zI _ _ _ rfl))
 have b2:w2.heap[w.heap.size+1]?=some (.cells (madeCells #[.slice none 0 0] 256) 26 (0,0)):=by rw[←hw2];exact(zK _ _ _ (by simp)).trans (zI _ _ _ (by simp))
 have d2:w2.heap[w.heap.size+1+1]?=some (.cells #[.slice (some ⟨w.heap.size+1,0,none⟩) 256 256,.slice none 0 0] 25 (0,0)):=by rw[←hw2];exact zI _ _ _ (by simp)
 have I0:NewI w2 (w.heap.size+1) (.int .i64 0) w2:=⟨0,_,by omega,rfl,Below.refl _ _,(zG.1 b2).1,b2,size_madeCells _ _,d2,fun i hi=>by omega⟩
 have kd:=qa d2
 replace I0:=zH I0
 clear hw2 hmk2 b2 d2
 go_wp2_with fail
 go_loopw [8] (fun i wr=>NewI w2 (w.heap.size+1) i wr) (fun i _=>256-(intOf i).toNat)
 case atStart=>exact I0.out
 case round =>
  obtain⟨k,cs,hk,rfl,hE,hz,hrow,hsz,hd,hcs⟩:=hrel.ex
  clear hrel I0 kd
  have xw:Below w.heap.size w wr:=Below.trans x2 (Below.mono hE (by omega))
  by_cases hlt:k<256
  ·have hlt':=hlt
   have g1:∀ W,ql.r wr W→∀ i,W.cell? ⟨w.heap.size+1+1,i,none⟩=#[.slice (some ⟨w.heap.size+1,0,none⟩) 256 256,.slice none 0 0][i]?:=fun W h=>qa (qb hd h)
   have hwk:=zH (IntWalk.wrap64_in ((k:Int)+1) (by omega))
   have hEh:=zH hE
   have hcsh:=zH hcs
   have hrowh:=zH hrow
   have hdh:=zH hd
   clear hE hcs hrow hd
   go_wp2_with fail
   refine qo (by kernel_rfl) ?_
   refine qO (w:=wr) ql (qF [(3,Ut wr.heap.size 128 128 5 ((ZH 128).map bv).toArray)]) [true,true,true,true,true] 1 (by kernel_rfl) (by kernel_rfl) (by kernel_rfl) (by kernel_rfl) (by kernel_rfl) (by kernel_rfl) (by kernel_rfl) ?st (Rel.drew _ _) ?walk
   case st=>exact qk (by simp only[List.forall_mem_cons];exact⟨Ke _ _ _ _ _,fun _ h=>by cases h⟩)
   case walk =>
    intro K hK
    dsimp only[qp]
    repeat ((first|(refine qe ?_ (by rfl) (by rfl) (fun W hW _=>⟨W,?_,Rel.refl _ W⟩) ?_;rotate_left;(go_simp<;>with_reducible rfl))|(refine qh (by rfl) ?_));try simp only[Act.put,qj,qf,qc,qg,QX,zA,zB,zC])
    refine qy (Ut wr.heap.size 128 128 5 ((ZH 128).map bv).toArray) (by rfl) (by rfl) (fun W hW _=>?_) (fun (b:Nat)=>?_)
    ·have hW:Ext wr W:=hW
     refine ZW (u:=.slice (some ⟨W.heap.size,0,none⟩) 128 128) (w':=W.alloc (.cells ((ZH 128).map bv).toArray 5)) ?_ ⟨W.heap.size,rfl,⟨zI _ _ _ rfl,hW.size⟩,zN _ _⟩
     go_simp
    simp only[Act.put,qj,qf,qc,qg,QX,zA,zB,zC]
    repeat ((first|(refine qe ?_ (by rfl) (by rfl) (fun W hW _=>⟨W,?_,Rel.refl _ W⟩) ?_;rotate_left;(go_simp<;>with_reducible rfl))|(refine qh (by rfl) ?_));try simp only[Act.put,qj,qf,qc,qg,QX,zA,zB,zC])
    first
     |(refine qe (.pointer (some ⟨w.heap.size+1,0+k,none⟩)) (by rfl) (by rfl) (fun W hW _=>⟨W,?_,Rel.refl _ W⟩) ?_
       ·go_simp
        rw[IntWalk.i64_in (k:Int) (by omega),if_pos (by omega)]
        simp
       simp only[Act.put,qj,qf,qc,qg,QX,zA,zB,zC])
     |skip
    repeat ((first|(refine qe ?_ (by rfl) (by rfl) (fun W hW _=>⟨W,?_,Rel.refl _ W⟩) ?_;rotate_left;(go_simp<;>with_reducible rfl))|(refine qh (by rfl) ?_));try simp only[Act.put,qj,qf,qc,qg,QX,zA,zB,zC])
    refine qt (hK _ _ fun W hW hF=>?_)
    have hb:W.heap[b]?=some (.cells ((ZH 128).map bv).toArray 5 (0,0))∧wr.heap.size≤b:=(hF 3).1
    have hW:Ext wr W:=hW
    clear hF hK g1 hmk
    dsimp only[List.drop,List.length_cons,List.length_nil]
    have rB:=qb hrowh.out hW
    have kB:=qa rB k
    have fB:=qd rB k
    rw[Array.getElem?_eq_getElem (by omega)] at kB
    have IR:NewI w2 (w.heap.size+1) (.int .i64 ((k:Int)+1)) (W.setCell ⟨w.heap.size+1,k,none⟩ (.slice (some ⟨b,0,none⟩) 128 128)):=⟨k+1,_,by omega,rfl,Below.setCell (Below.trans hEh.out (Below.mono hW (by omega))) (p:=⟨w.heap.size+1,k,none⟩) (zM _) _,by have:=hW.size;simp;omega,qi rB k _,by simpa using hsz,
     (zJ _ _ _ _ (by show _≠w.heap.size+1;omega)).trans (qb hdh.out hW),fun i hi=>by
      rw[Array.getElem?_setIfInBounds]
      by_cases e:k=i
      ·subst e
       rw[if_pos rfl,if_pos (by omega)]
       exact⟨b,rfl,by omega,(zJ _ _ _ _ (by show _≠w.heap.size+1;omega)).trans hb.1⟩
      ·rw[if_neg e]
       obtain⟨b',e1,e2,e3⟩:=hcsh.out i (by omega)
       exact⟨b',e1,e2,(zJ _ _ _ _ (by show _≠w.heap.size+1;omega)).trans (qb e3 hW)⟩⟩
    replace IR:=zH IR
    generalize cs[k]=u0 at *
    clear hb hW rB
    go_wp2
    refine Qm ?_
    go_wp2_with fail
    try rw[hwk.out]
    refine⟨IR.out,?_⟩
    simp[intOf]
    omega
  ·obtain rfl:k=256:=by omega
   have qq:=(hE.block w.heap.size (by omega)).trans q2
   have kq:=qa qq
   have fq:=qd qq
   have kd:=qa hd
   have rf:=qi (qi qq 0 (.slice (some ⟨w.heap.size+1,0,none⟩) 256 256)) 1 (.slice none 0 0)
   have kf:=qa rf
   have bf:Below w.heap.size w ((wr.setCell ⟨w.heap.size,0,none⟩ (.slice (some ⟨w.heap.size+1,0,none⟩) 256 256)).setCell ⟨w.heap.size,1,none⟩ (.slice none 0 0)):=Below.setCell (Below.setCell xw (p:=⟨w.heap.size,0,none⟩) (zM _) _) (p:=⟨w.heap.size,1,none⟩) (zM _) _
   have DF:∀ W2:World,(∀ q:Addr,w.heap.size≤q.block→q.block<((wr.setCell ⟨w.heap.size,0,none⟩ (.slice (some ⟨w.heap.size+1,0,none⟩) 256 256)).setCell ⟨w.heap.size,1,none⟩ (.slice none 0 0)).heap.size→W2.cell? q=((wr.setCell ⟨w.heap.size,0,none⟩ (.slice (some ⟨w.heap.size+1,0,none⟩) 256 256)).setCell ⟨w.heap.size,1,none⟩ (.slice none 0 0)).cell? q)→Bls W2 ((wr.setCell ⟨w.heap.size,0,none⟩ (.slice (some ⟨w.heap.size+1,0,none⟩) 256 256)).setCell ⟨w.heap.size,1,none⟩ (.slice none 0 0)).heap.size (.slice (some ⟨w.heap.size+1,0,none⟩) 256 256) Ji:=by
    have st:∀ b,b≠w.heap.size→((wr.setCell ⟨w.heap.size,0,none⟩ (.slice (some ⟨w.heap.size+1,0,none⟩) 256 256)).setCell ⟨w.heap.size,1,none⟩ (.slice none 0 0)).heap[b]?=wr.heap[b]?:=fun b hb=>(zJ _ _ _ _ hb).trans (zJ _ _ _ _ hb)
    generalize World.setCell (World.setCell wr _ _) _ _=wf at *
    intro W2 hk
    have rB:=(st (w.heap.size+1) (by omega)).trans hrow
    have zB:=(zG.1 rB).1
    refine⟨cs.toList,some ⟨w.heap.size+1,0,none⟩,256,by simp[Ji],by simp[Ji],by unfold maxLen;omega,⟨by simp[Ji,hsz],fun _=>⟨w.heap.size+1,0,rfl,zB,fun j u hu=>?_⟩⟩,fun i u l hu hl=>?_⟩
    ·rw[hk ⟨w.heap.size+1,0+j,none⟩ (by show w.heap.size≤w.heap.size+1;omega) zB,Nat.zero_add,qa rB]
     simpa using hu
    have hi:i<256:=by
     have:=(List.getElem?_eq_some_iff.1 hl).1
     simpa [Ji] using this
    have e0:cs.toList[i]?=cs[i]?:=by simp
    obtain⟨b,e1,e2,e3⟩:=hcs i hi
    rw[e0,e1] at hu
    cases hu
    have hl2:l=ZH 128:=by
     have:Ji[i]?=some (ZH 128):=by unfold Ji;rw[List.getElem?_replicate,if_pos hi]
     rw[this] at hl
     cases hl
     rfl
    subst hl2
    have e4:=(st b (by omega)).trans e3
    have zb:=(zG.1 e4).1
    refine⟨_,128,by rw[Zd],by rw[Zd];omega,by unfold maxLen;omega,by simp,fun _=>⟨b,0,rfl,zb,fun j u hu=>?_⟩⟩
    rw[hk ⟨b,0+j,none⟩ (by show w.heap.size≤b;omega) zb,Nat.zero_add,qa e4]
    simpa using hu
   replace kf:=zH kf
   replace bf:=zH bf
   replace DF:=zH DF
   clear rf hE hrow hcs hd
   go_wp2
   have kf:=kf.out
   exact bodyPost_ret (v:=KJ (some ⟨w.heap.size+1,0,none⟩) 256 256 none 0 0) (by simp[results,Tryz.results93,go_sem,kf]) rfl ⟨_,rfl,⟨w.heap.size+1,rfl,DF.out⟩,bf.out⟩
def newS:Sto:=⟨Ji,[],ZH 256,ZH 256⟩
def qH:Sto:=⟨Ji,[(8,jh (zP 0 []))],(ZH 256).set 8 1,ZH 256⟩
theorem newS_may:qm newS=true:=by decide +kernel
theorem Wrs.nil (w:World) (B:Nat):Wrs w B (.slice none 0 0) []:=⟨[],rfl,⟨none,0,rfl,zM _,by simp[maxLen],Rd.none_⟩,fun p h=>by cases h⟩
set_option maxRecDepth 100000 in
theorem Je:Xx qH:=by
 have h1:Ji.length=256:=by unfold Ji;rw[List.length_replicate]
 have h2:∀ l∈Ji,l.length<1000000:=fun l hl=>by
  unfold Ji at hl
  rw[List.mem_replicate] at hl
  rw[hl.2,Zd]
  omega
 have h3:(jh (zP 0 [])).length=128:=vK (by decide)
 refine⟨by show Ji.length<_;omega,by show 1<1000000;omega,h2,fun p hp=>?_,by show ((ZH 256).set 8 1).length<_;rw[List.length_set,Zd];omega,by show (ZH 256).length<_;rw[Zd];omega⟩
 have:p=(8,jh (zP 0 [])):=by simpa [qH] using hp
 rw[this]
 show (jh (zP 0 [])).length<_
 omega
set_option maxRecDepth 100000 in
theorem rnew_any (w:World):Calls Tryz.prog 52 #[] w (zo (fun u W=>∃ B n1 n2,u=qX (some ⟨B,0,none⟩) 256 256 none 0 0 (some ⟨n1,0,none⟩) 256 256 (some ⟨n2,0,none⟩) 256 256∧qP W W.heap.size (.slice (some ⟨B,0,none⟩) 256 256) (.slice none 0 0) (.slice (some ⟨n1,0,none⟩) 256 256) (.slice (some ⟨n2,0,none⟩) 256 256) newS) w):=by
 go_enter Tryz.func52,Tryz.ntmps52
 go_wp2_with fail
 generalize hw1:World.alloc _ _=w1
 have x1:Ext w w1:=by rw[←hw1];exact zN _ _
 have q1:w1.heap[w.heap.size]?=some (.cells #[.slice none 0 0,.slice none 0 0,.slice none 0 0,.slice none 0 0] 28 (0,0)):=by rw[←hw1];exact zI _ _ _ (by simp)
 have z0:w1.heap.size=w.heap.size+1:=by rw[←hw1];simp
 clear hw1
 refine(dnew_any w1).mono ?_
 rintro e w2 ⟨u,rfl,⟨B,rfl,hbs⟩,hB⟩
 have hB:Ext w1 w2:=hB
 have x2:=x1.trans hB
 have q2:=qb q1 hB
 have hx12:=hB
 clear q1 hB x1
 go_wp2_with fail
 refine(qdA w2).mono ?_
 rintro e w3 ⟨u,rfl,⟨rfl,hn1⟩,hB⟩
 have hB3:Ext w2 w3:=hB
 have x3:=x2.trans hB3
 have q3:=qb q2 hB3
 clear q2 hB
 go_wp2_with fail
 refine(qdA w3).mono ?_
 rintro e w4 ⟨u,rfl,⟨rfl,hn2⟩,hB⟩
 have hB4:Ext w3 w4:=hB
 have x4:=x3.trans hB4
 have q4:=qb q3 hB4
 have hn14:=qb hn1 hB4
 have kq:=qa q4
 have fq:=qd q4
 have zq:=(zG.1 q4).1
 have z2:=x2.size
 have z3:=x3.size
 have z1:w1.heap.size=w.heap.size+1:=z0
 have z23:=hB3.size
 have z34:=hB4.size
 have z2':=hx12.size
 have P5:∀ wx:World,wx=Vb w4 w.heap.size 0 [.slice (some ⟨B,0,none⟩) 256 256,.slice none 0 0,.slice (some ⟨w2.heap.size,0,none⟩) 256 256,.slice (some ⟨w3.heap.size,0,none⟩) 256 256] →
   wx.heap[w.heap.size]?=some (.cells #[.slice (some ⟨B,0,none⟩) 256 256,.slice none 0 0,.slice (some ⟨w2.heap.size,0,none⟩) 256 256,.slice (some ⟨w3.heap.size,0,none⟩) 256 256] 28 (0,0))∧Below w.heap.size w wx ∧
    qP wx wx.heap.size (.slice (some ⟨B,0,none⟩) 256 256) (.slice none 0 0) (.slice (some ⟨w2.heap.size,0,none⟩) 256 256) (.slice (some ⟨w3.heap.size,0,none⟩) 256 256) newS:=fun wx e=>by
  have hk:∀ b,b≠w.heap.size→wx.heap[b]?=w4.heap[b]?:=fun b h1=>by rw[e];exact ZQ h1 _ _ _
  have hs:wx.heap.size=w4.heap.size:=by rw[e,jv]
  have h1:=Bys.lit ((hk _ (by omega)).trans hn14) (by rw[Zd];unfold maxLen;omega)
  have h2:=Bys.lit ((hk _ (by omega)).trans hn2) (by rw[Zd];unfold maxLen;omega)
  rw[Zd] at h1 h2
  refine⟨by rw[e];refine(jV _ _ _ _ q4).trans ?_;simp[Yd],by rw[e];exact ZP (zM _) _ _ _ x4,?_,Wrs.nil _ _,h1,h2⟩
  refine(hbs wx fun q h1 h2=>?_).more (by omega)
  refine(World.cell?_of_block (hk q.block (by omega))).trans ((World.cell?_of_block (hB4.block q.block (by omega))).trans (World.cell?_of_block (hB3.block q.block h2)))
 replace P5:=zH P5
 clear hbs hn1 hn2 hn14 q4 q3
 go_wp2_with fail
 have P5:=P5.out
 generalize hw5:World.setCell (World.setCell (World.setCell (World.setCell w4 _ _) _ _) _ _) _ _=w5
 obtain⟨r5,x5,h5⟩:=P5 w5 hw5.symm
 clear P5 hw5
 have k5:=qa r5
 exact bodyPost_ret (v:=qX (some ⟨B,0,none⟩) 256 256 none 0 0 (some ⟨w2.heap.size,0,none⟩) 256 256 (some ⟨w3.heap.size,0,none⟩) 256 256) (by simp[results,Tryz.results52,go_sem,k5]) rfl ⟨_,rfl,⟨B,_,_,rfl,h5⟩,x5⟩
set_option maxRecDepth 100000 in
theorem qfp (A1:Option Addr) (c1:Nat) (A3:Option Addr) (c3:Nat) (A4:Option Addr) (c4:Nat) (w:World) (h:qP w w.heap.size (.slice A1 256 c1) (.slice none 0 0) (.slice A3 256 c3) (.slice A4 256 c4) newS) :
  Calls Tryz.prog 92 #[qX A1 256 c1 none 0 0 A3 256 c3 A4 256 c4,jg 0 none 0 0] w (zo (fun u W=>∃ v,u=.tuple #[v,.int .i64 8,.int .i64 0]∧QC w.heap.size qH v W) w):=by
 have HC:=zH (fun W (hW:Ext w W)=>jU A1 256 c1 none 0 0 A3 256 c3 A4 256 c4 newS W (h.ext hW))
 rw[newS_may,show jX true=0 from rfl] at HC
 have HN:=zH (fun W=>vW 0 none 0 0 [] W (Its.nil W W.heap.size))
 rw[show Qe 0 []=true from rfl,show jX true=0 from rfl] at HN
 have HO:=zH (fun W (hW:Ext w W)=>qct A1 256 c1 none 0 0 A3 256 c3 A4 256 c4 newS (by show (ZH 256).length<_;rw[Zd];omega) W (h.ext hW))
 replace h:=zH h
 go_enter Tryz.func92,Tryz.ntmps92
 go_wp2_with fail
 generalize hw1:World.alloc (World.alloc (World.alloc _ _) _) _=w1
 have x1:Ext w w1:=by rw[←hw1];exact((zN _ _).trans (zN _ _)).trans (zN _ _)
 have r1:w1.heap[w.heap.size]?=some (.cells #[.slice A1 256 c1,.slice none 0 0,.slice A3 256 c3,.slice A4 256 c4] 28 (0,0)):=by rw[←hw1];exact(zK _ _ _ (by simp;omega)).trans ((zK _ _ _ (by simp)).trans (zI _ _ _ rfl))
 have p1:w1.heap[w.heap.size+1]?=some (.cells #[.int .i64 0,.slice none 0 0] 49 (0,0)):=by rw[←hw1];exact(zK _ _ _ (by simp)).trans (zI _ _ _ (by simp))
 have q1:w1.heap[w.heap.size+1+1]?=some (.cells #[.slice none 0 0,.slice none 0 0,.slice none 0 0,.slice none 0 0] 28 (0,0)):=by rw[←hw1];exact zI _ _ _ (by simp)
 clear hw1
 refine(HC.out w1 x1).mono ?_
 rintro e w2 ⟨rfl,hB⟩
 have x2:Ext w w2:=x1.trans hB
 have r2:=qb r1 hB
 have p2:=qb p1 hB
 have q2:=qb q1 hB
 have kp:=qa p2
 clear r1 p1 q1 x1 hB HC
 go_wp2_with fail
 refine(HN.out w2).mono ?_
 rintro e w3 ⟨rfl,hB⟩
 have x3:Ext w w3:=x2.trans hB
 have r3:=qb r2 hB
 have p3:=qb p2 hB
 have q3:=qb q2 hB
 have kr:=qa r3
 clear r2 p2 q2 x2 hB HN kp
 go_wp2_with fail
 refine(HO.out w3 x3).mono ?_
 rintro e w4 ⟨u,rfl,⟨b,B3,d3,rfl,hlo,hrow,hown⟩,hB⟩
 have hB4:Ext w3 w4:=hB
 have x4:Ext w w4:=x3.trans hB4
 have p4:=qb p3 hB4
 have q4:=qb q3 hB4
 have kp:=qa p4
 have z3:=x3.size
 obtain⟨g,rfl⟩:∃ g,B3=some ⟨g,0,none⟩:=by
  obtain⟨h1,h2⟩:=hown
  rcases h2 with ⟨_,h0⟩|⟨g,_,_,e,_⟩
  ·cases h0
  ·cases e;exact⟨g,rfl⟩
 have hb4:Bls w4 w3.heap.size (.slice A1 256 c1) Ji:=(h.out.bs.below x4).more z3
 have q3z:=q3
 have ha4:Bys w4 w3.heap.size (.slice A4 256 c4) (ZH 256):=(h.out.last.below x4).more z3
 have HM:=qff b w3.heap.size A1 256 c1 g d3 A4 c4 Ji (ZH 256) (ZH 256) (Zd _) (Zd _) (by decide) (by decide) w4 hlo hrow hown hb4 ha4
 replace HM:=zH HM
 clear r3 p3 q3 hB kr hb4 ha4 hown hrow HO
 go_wp2_with fail
 refine HM.out.mono ?_
 rintro e w5 ⟨rfl,hB5,A2,c2,hrow5,hS5⟩
 have x5:Below w.heap.size w w5:=Below.trans x4 (Below.mono hB5 z3)
 have z34:=hB4.size
 have zq:=(zG.1 q3z).1
 have q5:=(hB5.block (w.heap.size+1+1) zq).trans q4
 have HT:=zH (kG b A1 256 c1 A2 1 c2 (some ⟨g,0,none⟩) 256 d3 A4 256 c4 qH Je w5 hrow5 hS5)
 clear HM hrow5 hS5 kp p4 q4
 go_wp2_with fail
 refine HT.out.mono ?_
 rintro e w6 ⟨u,rfl,hT,hB⟩
 have hB6:Ext w5 w6:=hB
 have x6:Below w.heap.size w w6:=Below.trans x5 (Below.mono hB6 x5.size)
 have q6:=qb q5 hB6
 have kq:=qa q6
 have fq:=qd q6
 have z56:=hB6.size
 have z45:=hB5.size
 obtain⟨BB,WW,gg,B3,e3,B4,e4,rfl,hD,hN,hL⟩:=hT
 have P5:∀ wx:World,wx=Vb w6 (w.heap.size+1+1) 0 [.slice (some ⟨BB,0,none⟩) qH.bs.length qH.bs.length,.slice (some ⟨WW,0,none⟩) qH.ws.length (qH.ws.length+1),.slice B3 qH.now.length e3,.slice B4 qH.last.length e4] →
   wx.heap[w.heap.size+1+1]?=some (.cells #[.slice (some ⟨BB,0,none⟩) qH.bs.length qH.bs.length,.slice (some ⟨WW,0,none⟩) qH.ws.length (qH.ws.length+1),.slice B3 qH.now.length e3,.slice B4 qH.last.length e4] 28 (0,0))∧Below w.heap.size w wx ∧
    QC w.heap.size qH (qX (some ⟨BB,0,none⟩) qH.bs.length qH.bs.length (some ⟨WW,0,none⟩) qH.ws.length (qH.ws.length+1) B3 qH.now.length e3 B4 qH.last.length e4) wx:=fun wx e=>by
  have hk:∀ b,w5.heap.size≤b→b<w6.heap.size→wx.heap[b]?=w6.heap[b]?:=fun b h1 _=>by rw[e];exact ZQ (by omega) _ _ _
  have hs:w6.heap.size≤wx.heap.size:=by rw[e,jv];exact zM _
  refine⟨by rw[e];refine(jV _ _ _ _ q6).trans ?_;simp[Yd],by rw[e];exact ZP (by omega) _ _ _ x6,BB,WW,gg,B3,e3,B4,e4,rfl,hD.keep x5.size hs hk,QF (Zi hN hk) x5.size,QF (Zi hL hk) x5.size⟩
 replace P5:=zH P5
 clear hD hN hL q6 hB q5
 go_wp2_with fail
 have P5:=P5.out
 generalize hw5:World.setCell (World.setCell (World.setCell (World.setCell w6 _ _) _ _) _ _) _ _=w7
 obtain⟨r5,x7,h5⟩:=P5 w7 hw5.symm
 clear P5 hw5
 have k5:=qa r5
 exact bodyPost_ret (v:=.tuple #[qX (some ⟨BB,0,none⟩) qH.bs.length qH.bs.length (some ⟨WW,0,none⟩) qH.ws.length (qH.ws.length+1) B3 qH.now.length e3 B4 qH.last.length e4,.int .i64 8,.int .i64 0]) (by simp[results,Tryz.results92,go_sem,k5]) rfl ⟨_,rfl,⟨_,rfl,h5⟩,x7⟩
def UO (lo:Nat) (u:Value) (W:World):Prop:=∃ BB WW g A3 c3 A4 c4,u=.agg (qC (.slice (some ⟨BB,0,none⟩) 256 256) (.slice (some ⟨WW,0,none⟩) 1 2) (.slice A3 256 c3) (.slice A4 256 c4) 0 8 1 (.slice none 0 0))∧jW lo qH.bs qH.ws BB WW g W ∧
 W.ownsRow lo 5 1 (.slice A3 256 c3) 256 (qH.now.map bv)∧W.ownsRow lo 5 1 (.slice A4 256 c4) 256 (qH.last.map bv)
theorem KK:qH.bs.length=256∧qH.ws.length=1∧qH.now.length=256∧qH.last.length=256:=by
 refine⟨?_,rfl,?_,Zd _⟩
 ·show Ji.length=256
  unfold Ji
  rw[List.length_replicate]
 ·show ((ZH 256).set 8 1).length=256
  rw[List.length_set,Zd]
theorem UO.sto {lo:Nat} {u:Value} {W:World} (h:UO lo u W):∃ A1 c1 A2 c2 A3 c3 A4 c4,u=.agg (qC (.slice A1 256 c1) (.slice A2 1 c2) (.slice A3 256 c3) (.slice A4 256 c4) 0 8 1 (.slice none 0 0))∧qP W W.heap.size (.slice A1 256 c1) (.slice A2 1 c2) (.slice A3 256 c3) (.slice A4 256 c4) qH:=by
 obtain⟨BB,WW,g,A3,c3,A4,c4,e,hD,hN,hL⟩:=h
 obtain⟨l1,l2,l3,l4⟩:=KK
 obtain⟨k1,k2⟩:=hD.reads Je.bs Je.ws Je.be Je.we W (fun _ _ _=>rfl)
 rw[l1] at k1
 rw[l2] at k2
 exact⟨_,_,_,_,A3,c3,A4,c4,e,k1,k2,Bys.of_own hN,Bys.of_own hL⟩
set_option maxRecDepth 100000 in
theorem qid (A1:Option Addr) (c1:Nat) (A3:Option Addr) (c3:Nat) (A4:Option Addr) (c4:Nat) (w:World) (h:qP w w.heap.size (.slice A1 256 c1) (.slice none 0 0) (.slice A3 256 c3) (.slice A4 256 c4) newS) :
  Calls Tryz.prog 51 #[qX A1 256 c1 none 0 0 A3 256 c3 A4 256 c4] w (zo (fun u W=>∃ v,u=.tuple #[v,.int .i64 8,.int .i64 0]∧QC w.heap.size qH v W) w):=by
 have HM:=zH (fun W (hW:Ext w W)=>qfp A1 c1 A3 c3 A4 c4 W (h.ext hW))
 clear h
 go_enter Tryz.func51,Tryz.ntmps51
 go_wp2_with fail
 generalize hw1:World.alloc (World.alloc _ _) _=w1
 have x1:Ext w w1:=by rw[←hw1];exact(zN _ _).trans (zN _ _)
 have q1:w1.heap[w.heap.size+1]?=some (.cells #[.slice none 0 0,.slice none 0 0,.slice none 0 0,.slice none 0 0] 28 (0,0)):=by rw[←hw1];exact zI _ _ _ (by simp)
 clear hw1
 refine(HM.out w1 x1).mono ?_
 rintro e w6 ⟨u,rfl,⟨v,rfl,hT⟩,hB⟩
 have hB6:Ext w1 w6:=hB
 have x6:Below w.heap.size w w6:=x1.trans hB6
 have q6:=qb q1 hB6
 have kq:=qa q6
 have fq:=qd q6
 have z1:=(zG.1 q1).1
 have z16:=hB6.size
 obtain⟨BB,WW,gg,B3,e3,B4,e4,rfl,hD,hN,hL⟩:=hT
 have P5:∀ wx:World,wx=Vb w6 (w.heap.size+1) 0 [.slice (some ⟨BB,0,none⟩) qH.bs.length qH.bs.length,.slice (some ⟨WW,0,none⟩) qH.ws.length (qH.ws.length+1),.slice B3 qH.now.length e3,.slice B4 qH.last.length e4] →
   wx.heap[w.heap.size+1]?=some (.cells #[.slice (some ⟨BB,0,none⟩) qH.bs.length qH.bs.length,.slice (some ⟨WW,0,none⟩) qH.ws.length (qH.ws.length+1),.slice B3 qH.now.length e3,.slice B4 qH.last.length e4] 28 (0,0))∧Below w.heap.size w wx ∧
    QC w.heap.size qH (qX (some ⟨BB,0,none⟩) qH.bs.length qH.bs.length (some ⟨WW,0,none⟩) qH.ws.length (qH.ws.length+1) B3 qH.now.length e3 B4 qH.last.length e4) wx:=fun wx e=>by
  have hk:∀ b,w1.heap.size≤b→b<w6.heap.size→wx.heap[b]?=w6.heap[b]?:=fun b h1 _=>by rw[e];exact ZQ (by omega) _ _ _
  have hs:w6.heap.size≤wx.heap.size:=by rw[e,jv];exact zM _
  refine⟨by rw[e];refine(jV _ _ _ _ q6).trans ?_;simp[Yd],by rw[e];exact ZP (by omega) _ _ _ x6,BB,WW,gg,B3,e3,B4,e4,rfl,hD.keep x1.size hs hk,QF (Zi hN hk) x1.size,QF (Zi hL hk) x1.size⟩
 replace P5:=zH P5
 clear hD hN hL q6 hB q1
 go_wp2_with fail
 have P5:=P5.out
 generalize hw5:World.setCell (World.setCell (World.setCell (World.setCell w6 _ _) _ _) _ _) _ _=w7
 obtain⟨r5,x7,h5⟩:=P5 w7 hw5.symm
 clear P5 hw5
 have k5:=qa r5
 exact bodyPost_ret (v:=.tuple #[qX (some ⟨BB,0,none⟩) qH.bs.length qH.bs.length (some ⟨WW,0,none⟩) qH.ws.length (qH.ws.length+1) B3 qH.now.length e3 B4 qH.last.length e4,.int .i64 8,.int .i64 0]) (by simp[results,Tryz.results51,go_sem,k5]) rfl ⟨_,rfl,⟨_,rfl,h5⟩,x7⟩
set_option maxRecDepth 100000 in
theorem fnew_any (w:World):Calls Tryz.prog 23 #[] w (zo (UO w.heap.size) w):=by
 obtain⟨l1,l2,l3,l4⟩:=KK
 go_enter Tryz.func23,Tryz.ntmps23
 go_wp2_with fail
 generalize hw1:World.alloc _ _=w1
 have x1:Ext w w1:=by rw[←hw1];exact zN _ _
 have q1:w1.heap[w.heap.size]?=some (.cells (qC (.slice none 0 0) (.slice none 0 0) (.slice none 0 0) (.slice none 0 0) 0 0 0 (.slice none 0 0)) 32 (0,0)):=by rw[←hw1];exact zI _ _ _ (by simp)
 clear hw1
 refine(rnew_any w1).mono ?_
 rintro e w2 ⟨u,rfl,⟨B,n1,n2,rfl,hS⟩,hB⟩
 have hB2:Ext w1 w2:=hB
 have x2:Ext w w2:=x1.trans hB2
 have q2:=qb q1 hB2
 have z1:=(zG.1 q1).1
 have z12:=hB2.size
 clear hB q1
 have HP:=zH (qid _ _ _ _ _ _ w2 hS)
 clear hS
 go_wp2_with fail
 refine HP.out.mono ?_
 rintro e w6 ⟨u,rfl,⟨v,rfl,hT⟩,hB⟩
 have hB6:Ext w2 w6:=hB
 have x6:Ext w w6:=x2.trans hB6
 have q6:=qb q2 hB6
 obtain⟨BB,WW,gg,B3,e3,B4,e4,rfl,hD,hN,hL⟩:=hT
 rw[l1,l2,l3,l4]
 rw[l3] at hN
 rw[l4] at hL
 clear q2 hB HP
 have kq:=qa q6
 have fq:=qd q6
 have zq:=(zG.1 q6).1
 have z26:=hB6.size
 have P5:∀ wx:World,wx=Vb w6 w.heap.size 0 [.slice (some ⟨BB,0,none⟩) 256 256,.slice (some ⟨WW,0,none⟩) 1 2,.slice B3 256 e3,.slice B4 256 e4,.int .u32 0,.int .i64 8,.int .u32 1,.slice none 0 0]→∀ o:Obj,
   (wx.alloc o).heap[w.heap.size]?=some (.cells (qC (.slice (some ⟨BB,0,none⟩) 256 256) (.slice (some ⟨WW,0,none⟩) 1 2) (.slice B3 256 e3) (.slice B4 256 e4) 0 8 1 (.slice none 0 0)) 32 (0,0))∧Below w.heap.size w (wx.alloc o) ∧
    UO w.heap.size (.agg (qC (.slice (some ⟨BB,0,none⟩) 256 256) (.slice (some ⟨WW,0,none⟩) 1 2) (.slice B3 256 e3) (.slice B4 256 e4) 0 8 1 (.slice none 0 0))) (wx.alloc o):=fun wx e o=>by
  have hs:wx.heap.size=w6.heap.size:=by rw[e,jv]
  have hk:∀ b,w2.heap.size≤b→b<w6.heap.size→(wx.alloc o).heap[b]?=w6.heap[b]?:=fun b h1 h2=>(zK _ _ _ (by omega)).trans (by rw[e];exact ZQ (by omega) _ _ _)
  have hs2:w6.heap.size≤(wx.alloc o).heap.size:=by simp;omega
  refine⟨(zK _ _ _ (by omega)).trans (by rw[e];refine(jV _ _ _ _ q6).trans ?_;simp[Yd,qC]),Below.alloc (by rw[e];exact ZP (zM _) _ _ _ x6) (by omega) _,BB,WW,gg,B3,e3,B4,e4,rfl,hD.keep x2.size hs2 hk,QF (Zi hN hk) x2.size,QF (Zi hL hk) x2.size⟩
 replace P5:=zH P5
 clear hD hN hL q6
 go_wp2_with fail
 have P5:=P5.out
 generalize hw5:World.setCell (World.setCell (World.setCell (World.setCell (World.setCell (World.setCell (World.setCell (World.setCell w6 _ _) _ _) _ _) _ _) _ _) _ _) _ _) _ _=w7
 obtain⟨r5,x7,h5⟩:=P5 w7 hw5.symm (.cells #[.slice (some ⟨BB,0,none⟩) 256 256,.slice (some ⟨WW,0,none⟩) 1 2,.slice B3 256 e3,.slice B4 256 e4] 28)
 clear P5 hw5
 have k5:=qa r5
 exact bodyPost_ret (v:=.agg (qC (.slice (some ⟨BB,0,none⟩) 256 256) (.slice (some ⟨WW,0,none⟩) 1 2) (.slice B3 256 e3) (.slice B4 256 e4) 0 8 1 (.slice none 0 0))) (by simp[results,Tryz.results23,go_sem,k5]) rfl ⟨_,rfl,h5,x7⟩
def Kb (S:Sto):Except Int (Nat×Sto):=if qm S=true then zX S 0 [] else .error 8
def MadeQ (lo:Nat) (q:Except Int (Nat×Sto)) (u:Value) (W:World):Prop:=match q with
 | .error e=>u=.tuple #[qX none 0 0 none 0 0 none 0 0 none 0 0,.int .i64 0,.int .i64 e]
 | .ok (r,S')=>∃ v,u=.tuple #[v,.int .i64 (r:Int),.int .i64 0]∧QC lo S' v W
theorem Vk.nil (X:Nat→Prop) (w:World):Vk X w (.slice none 0 0) []:=fun C _=>Its.nil C _
theorem XV {S S':Sto} {r:Nat} (h:Kb S=.ok (r,S')):qm S=true∧zX S 0 []=.ok (r,S')∧qm S'=true∧8≤r∧r<256:=by
 unfold Kb at h
 split at h
 ·rename_i hS
  obtain⟨h1,h2,h3,_⟩:=Yq (fun x hx=>by cases hx) hS h
  exact⟨hS,h,h1,h2,h3⟩
 ·cases h
theorem Tz {R:Ending→World→Prop} {a:Act} {W:World} {b:Nat} {x0 x1 x2 x3 u v:Value} (h4:a.tmps[4]?.getD undef=.pointer (some ⟨b,0,none⟩)) (h5:a.tmps[5]?.getD undef=u) (h6:a.tmps[6]?.getD undef=v) (hd:a.defers=[])
  (hrow:W.heap[b]?=some (.cells #[x0,x1,x2,x3] 28 (0,0))) (hR:R (.returned (.tuple #[.agg #[x0,x1,x2,x3],u,v])) W):bodyPost Tryz.prog Tryz.f92 R .ret a W:=by
 refine bodyPost_ret (v:=.tuple #[.agg #[x0,x1,x2,x3],u,v]) ?_ hd hR
 have k:=qa hrow
 simp[results,Tryz.results92,go_sem,h4,h5,h6,k]
theorem qen {R:Ending→World→Prop} {a:Act} {W:World} {b:Nat} {x0 x1 x2 x3 u v:Value} (h4:a.tmps[2]?.getD undef=.pointer (some ⟨b,0,none⟩)) (h5:a.tmps[3]?.getD undef=u) (h6:a.tmps[4]?.getD undef=v) (hd:a.defers=[])
  (hrow:W.heap[b]?=some (.cells #[x0,x1,x2,x3] 28 (0,0))) (hR:R (.returned (.tuple #[.agg #[x0,x1,x2,x3],u,v])) W):bodyPost Tryz.prog Tryz.f51 R .ret a W:=by
 refine bodyPost_ret (v:=.tuple #[.agg #[x0,x1,x2,x3],u,v]) ?_ hd hR
 have k:=qa hrow
 simp[results,Tryz.results51,go_sem,h4,h5,h6,k]
set_option maxRecDepth 100000 in
theorem qhE (A1:Option Addr) (n1 c1:Nat) (A2:Option Addr) (n2 c2:Nat) (A3:Option Addr) (n3 c3:Nat) (A4:Option Addr) (n4 c4:Nat) (S:Sto) (w:World) (h:qP w w.heap.size (.slice A1 n1 c1) (.slice A2 n2 c2) (.slice A3 n3 c3) (.slice A4 n4 c4) S) :
  Calls Tryz.prog 92 #[qX A1 n1 c1 A2 n2 c2 A3 n3 c3 A4 n4 c4,jg 0 none 0 0] w (zo (MadeQ w.heap.size (Kb S)) w):=by
 have HC:=zH (fun W (hW:Ext w W)=>jU A1 n1 c1 A2 n2 c2 A3 n3 c3 A4 n4 c4 S W (h.ext hW))
 have HN:=zH (fun W=>vW 0 none 0 0 [] W (Its.nil W W.heap.size))
 rw[show Qe 0 []=true from rfl,show jX true=0 from rfl] at HN
 have HO:=zH (fun (hS:qm S=true) W (hW:Ext w W)=>qct A1 n1 c1 A2 n2 c2 A3 n3 c3 A4 n4 c4 S (by have:=(qU hS).2.2.1;omega) W (h.ext hW))
 replace h:=zH h
 go_enter Tryz.func92,Tryz.ntmps92
 go_wp2_with fail
 generalize hw1:World.alloc (World.alloc (World.alloc _ _) _) _=w1
 have x1:Ext w w1:=by rw[←hw1];exact((zN _ _).trans (zN _ _)).trans (zN _ _)
 have r1:w1.heap[w.heap.size]?=some (.cells #[.slice A1 n1 c1,.slice A2 n2 c2,.slice A3 n3 c3,.slice A4 n4 c4] 28 (0,0)):=by rw[←hw1];exact(zK _ _ _ (by simp;omega)).trans ((zK _ _ _ (by simp)).trans (zI _ _ _ rfl))
 have p1:w1.heap[w.heap.size+1]?=some (.cells #[.int .i64 0,.slice none 0 0] 49 (0,0)):=by rw[←hw1];exact(zK _ _ _ (by simp)).trans (zI _ _ _ (by simp))
 have q1:w1.heap[w.heap.size+1+1]?=some (.cells #[.slice none 0 0,.slice none 0 0,.slice none 0 0,.slice none 0 0] 28 (0,0)):=by rw[←hw1];exact zI _ _ _ (by simp)
 clear hw1
 refine(HC.out w1 x1).mono ?_
 rintro e w2 ⟨rfl,hB⟩
 have x2:Ext w w2:=x1.trans hB
 have r2:=qb r1 hB
 have p2:=qb p1 hB
 have q2:=qb q1 hB
 have kp:=qa p2
 have kq:=qa q2
 have fq:=qd q2
 have zq2:w.heap.size+1+1<w2.heap.size:=(zG.1 q2).1
 clear r1 p1 q1 x1 hB HC
 rcases hS:qm S with _|_
 ·have hq:=zH (show Kb S=.error 8 by unfold Kb;rw[hS];rfl)
  rw[jL rfl]
  replace hS:=zH hS
  go_wp2_with fail
  exact Tz (b:=w.heap.size+2) rfl rfl rfl rfl (vz q2 _ _ _ _) ⟨_,rfl,by rw[hq.out];rfl,zy x2 (by omega) _ _ _ _⟩
 ·have hq:=zH (show Kb S=zX S 0 [] by unfold Kb;rw[if_pos hS])
  rw[Jf rfl]
  have HOS:=zH (HO.out hS)
  replace hS:=zH hS
  clear HO
  go_wp2_with fail
  refine(HN.out w2).mono ?_
  rintro e w3 ⟨rfl,hB⟩
  have x3:Ext w w3:=x2.trans hB
  have r3:=qb r2 hB
  have p3:=qb p2 hB
  have q3:=qb q2 hB
  have kr:=qa r3
  clear r2 p2 q2 x2 hB HN kp kq fq zq2
  go_wp2_with fail
  refine(HOS.out w3 x3).mono ?_
  rintro e w4 ⟨u,rfl,⟨b,P3,d3,rfl,hlo,hrow,hown⟩,hB⟩
  have hB4:Ext w3 w4:=hB
  have x4:Ext w w4:=x3.trans hB4
  have p4:=qb p3 hB4
  have q4:=qb q3 hB4
  have kp:=qa p4
  have z3:=x3.size
  have zq3:w.heap.size+1+1<w3.heap.size:=(zG.1 q3).1
  obtain⟨g,hbch⟩:=Bch.of_on (B:=w.heap.size) z3 hS.out (h.out.below x4) hlo hrow hown
  have HM:=zH (qbc (fun _=>False) w.heap.size w3.heap.size b g none S 0 none 0 0 [] (fun x hx=>by cases hx) (qU hS.out).2.1 w4 hbch (Vk.nil _ _))
  replace hbch:=zH hbch
  clear hB hrow hown r3 p3 q3 kr HOS
  go_wp2_with fail
  refine HM.out.mono ?_
  clear HM
  rintro e w5 ⟨hkb,hcase⟩
  have nB:∀ {q cs ty fr},w4.heap[q]?=some (.cells cs ty fr)→ty≠191→ty≠5→ty≠130→¬B3 b g none q:=fun hr h1 h2 h3=>hbch.out.notB3 hr h1 h2 h3
  have q5:=hkb.row q4 (nB q4 (by decide) (by decide) (by decide))
  have x5:Below w.heap.size w w5:=Below.trans (B:=w.heap.size) x4 (Below.mono hkb.below z3)
  have kq:=qa q5
  have fq:=qd q5
  have zq5:w.heap.size+1+1<w5.heap.size:=(zG.1 q5).1
  have z35:w3.heap.size≤w5.heap.size:=Nat.le_trans hB4.size hkb.below.size
  clear nB hkb kp p4 q4
  rcases hmx:zX S 0 [] with er|⟨f,S'⟩
  ·rw[hmx] at hcase
   obtain rfl:=hcase
   have hne0:(er != 0)=true:=by rw[bne_iff_ne];exact Yp hmx
   replace hmx:=zH hmx
   go_wp2_with fail
   exact Tz (b:=w.heap.size+2) rfl rfl rfl rfl (vz q5 _ _ _ _) ⟨_,rfl,by rw[hq.out,hmx.out];rfl,zy x5 (by omega) _ _ _ _⟩
  ·rw[hmx] at hcase
   obtain⟨rfl,k',D',hNk,hND,hbc⟩:=hcase
   have hsh:Xx S':=QY (Yq (fun x hx=>by cases hx) hS.out hmx).1
   obtain⟨E1,m1,e1,E2,m2,e2,e3,E4,e4,hrb,hsb⟩:=hbc.sto
   have HT:=zH (kG b E1 m1 e1 E2 m2 e2 (some ⟨g,0,none⟩) 256 e3 E4 256 e4 S' hsh w5 hrb hsb)
   replace hmx:=zH hmx
   clear hbc hrb hsb hsh kq fq hNk hND
   go_wp2_with fail
   refine HT.out.mono ?_
   rintro e w6 ⟨u,rfl,hT,hB⟩
   have hB6:Ext w5 w6:=hB
   have x6:Below w.heap.size w w6:=x5.trans (Below.mono hB6 x5.size)
   have q6:=qb q5 hB6
   have kq:=qa q6
   have fq:=qd q6
   have zq6:w.heap.size+1+1<w6.heap.size:=(zG.1 q6).1
   obtain⟨BB,WW,gg,B3,d3',B4,d4,rfl,-⟩:=id hT
   replace hT:=zH hT
   clear HT hB q5
   go_wp2_with fail
   refine Tz (b:=w.heap.size+2) rfl rfl rfl rfl (vz q6 _ _ _ _) ⟨_,rfl,?_,zy x6 (by omega) _ _ _ _⟩
   rw[hq.out,hmx.out]
   exact⟨_,rfl,QC.set4 hT.out (by omega) (by omega) _ _ _ _⟩
set_option maxRecDepth 100000 in
theorem pnew_any (A1:Option Addr) (n1 c1:Nat) (A2:Option Addr) (n2 c2:Nat) (A3:Option Addr) (n3 c3:Nat) (A4:Option Addr) (n4 c4:Nat) (S:Sto) (w:World) (h:qP w w.heap.size (.slice A1 n1 c1) (.slice A2 n2 c2) (.slice A3 n3 c3) (.slice A4 n4 c4) S) :
  Calls Tryz.prog 51 #[qX A1 n1 c1 A2 n2 c2 A3 n3 c3 A4 n4 c4] w (zo (MadeQ w.heap.size (Kb S)) w):=by
 have HM:=zH (fun W (hW:Ext w W)=>qhE A1 n1 c1 A2 n2 c2 A3 n3 c3 A4 n4 c4 S W (h.ext hW))
 clear h
 go_enter Tryz.func51,Tryz.ntmps51
 go_wp2_with fail
 generalize hw1:World.alloc (World.alloc _ _) _=w1
 have x1:Ext w w1:=by rw[←hw1];exact(zN _ _).trans (zN _ _)
 have q1:w1.heap[w.heap.size+1]?=some (.cells #[.slice none 0 0,.slice none 0 0,.slice none 0 0,.slice none 0 0] 28 (0,0)):=by rw[←hw1];exact zI _ _ _ (by simp)
 clear hw1
 refine(HM.out w1 x1).mono ?_
 clear HM
 rintro e w6 ⟨u,rfl,hu,hB⟩
 have hB6:Ext w1 w6:=hB
 have x6:Below w.heap.size w w6:=x1.trans hB6
 have q6:=qb q1 hB6
 have kq:=qa q6
 have fq:=qd q6
 have z1:=(zG.1 q1).1
 have z16:=hB6.size
 have zq6:w.heap.size+1<w6.heap.size:=(zG.1 q6).1
 rcases hq:Kb S with er|⟨r,S'⟩
 ·rw[hq] at hu
  obtain rfl:u=_:=hu
  replace hq:=zH hq
  clear hB q1
  go_wp2_with fail
  exact qen (b:=w.heap.size+1) rfl rfl rfl rfl (vz q6 _ _ _ _) ⟨_,rfl,by rw[hq.out];rfl,zy x6 (by omega) _ _ _ _⟩
 ·rw[hq] at hu
  obtain⟨v,rfl,hT⟩:=hu
  obtain⟨BB,WW,gg,B3,d3',B4,d4,rfl,-⟩:=id hT
  replace hT:=zH hT
  replace hq:=zH hq
  clear hB q1
  go_wp2_with fail
  refine qen (b:=w.heap.size+1) rfl rfl rfl rfl (vz q6 _ _ _ _) ⟨_,rfl,?_,zy x6 (by omega) _ _ _ _⟩
  rw[hq.out]
  exact⟨_,rfl,QC.set4 hT.out (by omega) (by omega) _ _ _ _⟩
theorem qir (S:Sto) (a:Nat) (data:List UInt8):Jl (Kp S a data) a=data:=by
 have h:jC (S.ws++[((a:Int),data)]) (a:Int)=some data:=by
  unfold jC
  rw[List.reverse_append,List.reverse_singleton,List.singleton_append,List.find?_cons]
  simp
 unfold Jl Kp
 simp only
 rw[h]
theorem node_put {S:Sto} {a:Nat} (ha:a<S.now.length) (data:List UInt8):qu (Kp S a data) a=QE data:=by
 unfold qu
 rw[qir]
 have:(Kp S a data).now[a]?=some 1:=by
  show (S.now.set a 1)[a]?=some 1
  rw[List.getElem?_set_self ha]
 rw[this]
 rfl
theorem qfq:QE (jh (zP 0 []))=some (0,[]):=by decide +kernel
theorem new_node {S S':Sto} {r:Nat} (h:Kb S=.ok (r,S')):qu S' r=some (0,[]):=by
 obtain⟨hS,hm,_,h8,h256⟩:=XV h
 obtain⟨t,_,_,_,_,_,_,rfl,ht⟩:=qdX hS hm
 rw[node_put (by show r<t.length;rw[qal ht];exact h256),qfq]
theorem new_tree {S S':Sto} {r:Nat} (h:Kb S=.ok (r,S')):okL S' (-1) (r:Int)=true:=by
 obtain⟨_,_,_,h8,h256⟩:=XV h
 unfold okL
 rw[if_pos (by omega),Int.toNat_natCast,new_node h]
 rfl
def qeW (S:Sto) (root next:Int) (dead:List Int) (w:World) (e:Ending) (w':World):Prop:=Below w.heap.size w w' ∧
 ((e=.returned (.tuple #[.slice none 0 0,.int .i64 8])∧∀ vs,Ql S root next dead vs→∃ refs nodes,qR S (Qw root dead vs) refs nodes∧¬QD S refs) ∨
  ∃ vs refs nodes cb ca vv lo,e=.returned (.tuple #[vv,.int .i64 0])∧w.heap.size≤lo∧Taken S root next dead vs refs nodes lo cb ca vv w')
theorem qbl {R:Ending→World→Prop} {a:Act} {W:World} {u v:Value} (h2:a.tmps[2]?.getD undef=u) (h3:a.tmps[3]?.getD undef=v) (hd:a.defers=[]) (hR:R (.returned (.tuple #[u,v])) W):bodyPost Tryz.prog Tryz.f17 R .ret a W:=by
 refine bodyPost_ret (v:=.tuple #[u,v]) ?_ hd hR
 simp[results,Tryz.results17,go_sem,h2,h3]
set_option maxRecDepth 100000 in
theorem qbk (A1:Option Addr) (n1 c1:Nat) (A2:Option Addr) (n2 c2:Nat) (A3:Option Addr) (n3 c3:Nat) (A4:Option Addr) (n4 c4:Nat) (gen root next:Int) (A5:Option Addr) (c5:Nat) (S:Sto) (dead:List Int) (w:World)
  (h:qP w w.heap.size (.slice A1 n1 c1) (.slice A2 n2 c2) (.slice A3 n3 c3) (.slice A4 n4 c4) S) (hd:Zn w w.heap.size (.slice A5 dead.length c5) dead) :
  Calls Tryz.prog 17 #[.agg (qC (.slice A1 n1 c1) (.slice A2 n2 c2) (.slice A3 n3 c3) (.slice A4 n4 c4) gen root next (.slice A5 dead.length c5))] w (qeW S root next dead w):=by
 have HT:=zH (fun W (hx:Ext w W)=>kh A1 n1 c1 A2 n2 c2 A3 n3 c3 A4 n4 c4 gen root next A5 c5 S dead W (h.ext hx) (by
  obtain⟨A,c,e,q1,q2,q3⟩:=hd
  exact⟨A,c,e,q1,q2,(q3.below hx).more hx.size⟩))
 clear h hd
 go_enter Tryz.func17,Tryz.ntmps17
 go_wp2_with fail
 generalize hw1:World.alloc w _=w1
 have x1:Ext w w1:=by rw[←hw1];exact zN _ _
 clear hw1
 refine(HT.out w1 x1).mono ?_
 rintro e w2 ⟨hB,hQ⟩
 have x2:Below w.heap.size w w2:=Ext.trans x1 hB
 rcases hQ with ⟨rfl,hno⟩|⟨vs,refs,nodes,cb,ca,vv,rfl,hT⟩
 ·have HB:qeW S root next dead w (.returned (.tuple #[.slice none 0 0,.int .i64 8])) w2:=⟨x2,.inl ⟨rfl,hno⟩⟩
  replace HB:=zH HB
  clear hno hB
  go_wp2_with fail
  exact qbl rfl rfl rfl HB.out
 ·have kc:w2.cell? ⟨cb,518,none⟩=some vv:=by rw[qa hT.row];exact hT.ar.vol
  obtain⟨AV,cV,rfl,-,-⟩:=qv hT.own
  have HB:qeW S root next dead w (.returned (.tuple #[.slice AV vs.length cV,.int .i64 0])) w2:=⟨x2,.inr ⟨vs,refs,nodes,cb,ca,_,_,rfl,x1.size,hT⟩⟩
  replace HB:=zH HB
  clear hT hB
  go_wp2_with fail
  exact qbl rfl rfl rfl HB.out
def vT (S:Sto) (a:Nat):Except Int Sto:=match QH S (-1) S.now a with
 |none=>.error 8
 |some t=>.ok (qw S t)
def jQ (S:Sto) (a:Int):Except Int Sto:=if Jd S a=0 then vT S a.toNat else .error (Jd S a)
theorem qdU {S:Sto} {a:Nat} (h:QH S (-1) S.now a=none):vT S a=.error 8:=by unfold vT;rw[h]
theorem qdV {S:Sto} {a:Nat} {t:List UInt8} (h:QH S (-1) S.now a=some t):vT S a=.ok (qw S t):=by unfold vT;rw[h]
def StoE (q:Except Int Sto) (lo:Nat) (u:Value) (W:World):Prop:=match q with
 | .error e=>u=.tuple #[qX none 0 0 none 0 0 none 0 0 none 0 0,.int .i64 e]
 | .ok S'=>∃ v,u=.tuple #[v,.int .i64 0]∧QC lo S' v W
theorem qfL {S:Sto} {a:Int} (h:Jd S a≠0):jQ S a=.error (Jd S a):=by unfold jQ;rw[if_neg h]
theorem qhU {S:Sto} {a:Nat} (h:Jd S a=0):jQ S a=vT S a:=by unfold jQ;rw[if_pos h,Int.toNat_natCast]
theorem Xg {R:Ending→World→Prop} {a:Act} {W:World} {b:Nat} {x0 x1 x2 x3 v:Value} (h4:a.tmps[4]?.getD undef=.pointer (some ⟨b,0,none⟩)) (h5:a.tmps[5]?.getD undef=v) (hd:a.defers=[])
  (hrow:W.heap[b]?=some (.cells #[x0,x1,x2,x3] 28 (0,0))) (hR:R (.returned (.tuple #[.agg #[x0,x1,x2,x3],v])) W):bodyPost Tryz.prog Tryz.f75 R .ret a W:=by
 refine bodyPost_ret (v:=.tuple #[.agg #[x0,x1,x2,x3],v]) ?_ hd hR
 have k:=qa hrow
 simp[results,Tryz.results75,go_sem,h4,h5,k]
set_option maxRecDepth 100000 in
theorem qdD (D:Nat→Prop) (B lo b g:Nat) (k:Option Nat) (S:Sto) (hS:qm S=true) (a:Nat) (ha:8≤a) (ha2:a<256) (bat:Nat) (w:World) (hat:w.heap[bat]?=some (.cells #[.int .i64 (a:Int)] 3 (0,0))) (h:Bch D B lo b g k S w) :
  Calls Tryz.prog 131 #[.pointer (some ⟨b,0,none⟩),.pointer (some ⟨bat,0,none⟩)] w (jk D B lo b g k S a w):=by
 have HB:=zH (Gg D B lo b g k S hS a ha ha2 w h)
 have ka:=qa hat
 clear h
 go_enter Tryz.func131,Tryz.ntmps131
 go_wp2_with fail
 refine HB.out.mono ?_
 clear HB
 intro e W hQ
 obtain⟨er,rfl⟩:∃ er,e=.returned (.int .i64 er):=by
  obtain⟨_,hc⟩:=hQ
  split at hc
  ·exact⟨_,hc⟩
  ·exact⟨_,hc.1⟩
 replace hQ:=zH hQ
 go_wp2_with fail
 go_ret
 exact hQ.out
set_option maxRecDepth 100000 in
theorem qfn (A1:Option Addr) (n1 c1:Nat) (A2:Option Addr) (n2 c2:Nat) (A3:Option Addr) (n3 c3:Nat) (A4:Option Addr) (n4 c4:Nat) (S:Sto) (hS:qm S=true) (a:Nat) (ha:8≤a) (ha2:a<256) (bat:Nat) (w:World) (hat:w.heap[bat]?=some (.cells #[.int .i64 (a:Int)] 3 (0,0))) (h:qP w w.heap.size (.slice A1 n1 c1) (.slice A2 n2 c2) (.slice A3 n3 c3) (.slice A4 n4 c4) S) :
  Calls Tryz.prog 130 #[qX A1 n1 c1 A2 n2 c2 A3 n3 c3 A4 n4 c4,.func (.func 131) #[] #[.pointer (some ⟨bat,0,none⟩)]] w (zo (StoE (vT S a) w.heap.size) w):=by
 obtain⟨q,hq⟩:∃ q,vT S a=q:=⟨_,rfl⟩
 rw[hq]
 replace hq:=zH hq
 have HON:=zH (fun W (hx:Ext w W)=>qct A1 n1 c1 A2 n2 c2 A3 n3 c3 A4 n4 c4 S (by have:=(qU hS).2.2.1;omega) W (h.ext hx))
 replace h:=zH h
 replace hS:=zH hS
 go_enter Tryz.func130,Tryz.ntmps130
 go_wp2_with fail
 generalize hw1:(World.alloc (World.alloc w _) _)=w1
 have x1:Ext w w1:=by rw[←hw1];exact(zN _ _).trans (zN _ _)
 have ro1:w1.heap[w.heap.size+1]?=some (.cells #[.slice none 0 0,.slice none 0 0,.slice none 0 0,.slice none 0 0] 28 (0,0)):=by rw[←hw1];exact zI _ _ _ (by simp)
 clear hw1
 refine(HON.out w1 x1).mono ?_
 clear HON
 rintro e w2 ⟨u,rfl,⟨b,P3,d3,rfl,hlo,hrow,hown⟩,hB⟩
 have x12:Ext w1 w2:=hB
 have x2:Ext w w2:=x1.trans x12
 have ro2:=qb ro1 x12
 have hs1:w.heap.size+1<w1.heap.size:=(zG.1 ro1).1
 obtain⟨g,hbch⟩:=Bch.of_on (B:=w.heap.size) x1.size hS.out (h.out.below x2) hlo hrow hown
 have HL:=zH (qdD (fun _=>False) w.heap.size w1.heap.size b g none S hS.out a ha ha2 bat w2 (qb hat x2) hbch)
 have nB:¬B3 b g none (w.heap.size+1):=hbch.notB3 ro2 (by decide) (by decide) (by decide)
 replace hbch:=zH hbch
 clear hB ro1 hrow hown
 go_wp2_with fail
 refine HL.out.mono ?_
 clear HL
 rintro e w3 ⟨hK,hQ⟩
 have ro3:=hK.row ro2 nB
 have x3:Below w.heap.size w w3:=Below.trans x2 (Below.mono hK.below x1.size)
 have zo3:=(zG.1 ro3).1
 have ko3:=qa ro3
 have fo3:=qd ro3
 clear hK nB ro2 hbch
 rcases hl:QH S (-1) S.now a with _|t
 ·rw[hl] at hQ
  obtain rfl:=hQ
  obtain rfl:q=.error 8:=by rw[←hq.out,qdU hl]
  clear hl hq
  go_wp2_with fail
  exact qbh (b:=w.heap.size+1) rfl rfl rfl (vz ro3 _ _ _ _) ⟨_,rfl,rfl,zy x3 (by omega) _ _ _ _⟩
 ·rw[hl] at hQ
  obtain⟨rfl,hb3⟩:=hQ
  have hq2:=zH (show q=.ok (qw S t) by rw[←hq.out,qdV hl])
  obtain⟨E1,m1,e1,E2,m2,e2,e3,E4,e4,hrb,hsb⟩:=hb3.sto
  have hsh:Xx (qw S t):=QY (qz.2 ⟨(qz.1 hS.out).1,kZ ha (qz.1 hS.out).2.1 hl,(qz.1 hS.out).2.2⟩)
  have HT:=zH (kG b E1 m1 e1 E2 m2 e2 (some ⟨g,0,none⟩) 256 e3 E4 256 e4 (qw S t) hsh w3 hrb hsb)
  replace hl:=zH hl
  clear hb3 hrb hsb hsh ko3 fo3
  go_wp2_with fail
  refine HT.out.mono ?_
  clear HT
  rintro e w4 ⟨u,rfl,hu,hB⟩
  have hB4:Ext w3 w4:=hB
  have x4:Below w.heap.size w w4:=x3.trans (Below.mono hB4 x3.size)
  have ro4:=qb ro3 hB4
  have ko4:=qa ro4
  have fo4:=qd ro4
  have hK:=fun x0 x1 x2 x3'=>hu.set4 (b:=w.heap.size+1) (show w.heap.size≤w3.heap.size by omega) zo3 x0 x1 x2 x3'
  obtain⟨BB,WW,gg,B3,d3,B4,d4,rfl,-⟩:=id hu
  replace hK:=zH hK
  replace hu:=zH hu
  clear hB ro3 x3
  go_wp2_with fail
  exact qbh (b:=w.heap.size+1) rfl rfl rfl (vz ro4 _ _ _ _) ⟨_,rfl,by rw[hq2.out];exact⟨_,rfl,hK.out _ _ _ _⟩,zy x4 (by omega) _ _ _ _⟩
set_option maxRecDepth 100000 in
theorem qfo (A1:Option Addr) (n1 c1:Nat) (A2:Option Addr) (n2 c2:Nat) (A3:Option Addr) (n3 c3:Nat) (A4:Option Addr) (n4 c4:Nat) (S:Sto) (a:Int) (w:World) (h:qP w w.heap.size (.slice A1 n1 c1) (.slice A2 n2 c2) (.slice A3 n3 c3) (.slice A4 n4 c4) S) :
  Calls Tryz.prog 75 #[qX A1 n1 c1 A2 n2 c2 A3 n3 c3 A4 n4 c4,.int .i64 a] w (zo (StoE (jQ S a) w.heap.size) w):=by
 have HA:=zH (fun W (hx:Ext w W)=>qdF A1 n1 c1 A2 n2 c2 A3 n3 c3 A4 n4 c4 S a W (h.ext hx))
 obtain⟨q,hq⟩:∃ q,jQ S a=q:=⟨_,rfl⟩
 rw[hq]
 replace hq:=zH hq
 replace h:=zH h
 go_enter Tryz.func75,Tryz.ntmps75
 go_wp2_with fail
 generalize hw1:(World.alloc (World.alloc (World.alloc w _) _) _)=w1
 have x1:Ext w w1:=by rw[←hw1];exact((zN _ _).trans (zN _ _)).trans (zN _ _)
 have rs1:w1.heap[w.heap.size]?=some (.cells #[.slice A1 n1 c1,.slice A2 n2 c2,.slice A3 n3 c3,.slice A4 n4 c4] 28 (0,0)):=by rw[←hw1];exact(zK _ _ _ (by simp;try omega)).trans ((zK _ _ _ (by simp)).trans (zI _ _ _ rfl))
 have ra1:w1.heap[w.heap.size+1]?=some (.cells #[.int .i64 a] 3 (0,0)):=by rw[←hw1];exact(zK _ _ _ (by simp)).trans (zI _ _ _ (by simp))
 have ro1:w1.heap[w.heap.size+2]?=some (.cells #[.slice none 0 0,.slice none 0 0,.slice none 0 0,.slice none 0 0] 28 (0,0)):=by rw[←hw1];exact zI _ _ _ (by simp)
 have kk1:=qa ra1
 have ks1:=qa rs1
 clear hw1
 go_wp2_with fail
 refine(HA.out w1 x1).mono ?_
 clear HA
 rintro e w2 ⟨rfl,hB⟩
 have x2:Ext w w2:=x1.trans hB
 have rs2:=qb rs1 hB
 have ra2:=qb ra1 hB
 have ro2:=qb ro1 hB
 clear hB rs1 ro1 x1 ks1 kk1 ra1
 by_cases h0:Jd S a=0
 ·obtain⟨hS,m,rfl,hm8,hm256,hnz⟩:=Yi h0
  have HD:=qfn A1 n1 c1 A2 n2 c2 A3 n3 c3 A4 n4 c4 S hS m hm8 hm256 (w.heap.size+1) w2 ra2 (h.out.ext x2)
  have ks2:=qa rs2
  rw[(show vT S m=q by rw[←hq.out,qhU h0])] at HD
  rw[h0]
  replace hS:=zH hS
  clear hnz h0 hq
  go_wp2_with fail
  refine HD.mono ?_
  clear HD
  rintro e w3 ⟨u,rfl,hT,hB⟩
  have x3:Ext w w3:=x2.trans hB
  have ro3:=qb ro2 hB
  have zo2:w.heap.size+2<w2.heap.size:=(zG.1 ro2).1
  have ko3:=qa ro3
  have fo3:=qd ro3
  clear hB ks2 rs2 ra2 ro2 x2
  rcases q with er|S'
  ·obtain rfl:=hT
   go_wp2_with fail
   exact Xg (b:=w.heap.size+2) rfl rfl rfl (vz ro3 _ _ _ _) ⟨_,rfl,rfl,zy x3 (by omega) _ _ _ _⟩
  ·obtain⟨v,rfl,hT⟩:=hT
   have hK:=fun x0 x1 x2 x3'=>hT.set4 (b:=w.heap.size+2) (show w.heap.size≤w2.heap.size by omega) zo2 x0 x1 x2 x3'
   obtain⟨BB,WW,gg,B3,d3,B4,d4,rfl,hD,hN,hL⟩:=hT
   replace hK:=zH hK
   clear hD hN hL
   go_wp2_with fail
   exact Xg (b:=w.heap.size+2) rfl rfl rfl (vz ro3 _ _ _ _) ⟨_,rfl,⟨_,rfl,hK.out _ _ _ _⟩,zy x3 (by omega) _ _ _ _⟩
 ·obtain⟨er,her⟩:∃ er,Jd S a=er:=⟨_,rfl⟩
  obtain rfl:q=.error er:=by rw[←hq.out,qfL h0,her]
  rw[her] at h0 ⊢
  have he:(er != 0)=true:=by rw[bne_iff_ne];exact h0
  have ko2:=qa ro2
  have fo2:=qd ro2
  clear her hq h0
  go_wp2_with fail
  exact Xg (b:=w.heap.size+2) rfl rfl rfl (vz ro2 _ _ _ _) ⟨_,rfl,rfl,zy x2 (by omega) _ _ _ _⟩
end Go.Proofs.YtpbniokljofedaaGreat
