/- scionrylaw14.ForestCounts is true of every pool, and leaves its argument as it was; no condition. -/
import Derived.Deep.CutBlock
import Derived.Test.YtpbniokljofedaaGreatZA18
import Derived.Test.YtpbniokljofedaaGreatZA20
import Derived.Test.YtpbniokljofedaaGreatZA24
import Derived.Test.YtpbniokljofedaaGreatZA27
import Derived.Test.YtpbniokljofedaaGreatZA28
set_option linter.unusedSimpArgs false
set_option linter.unusedVariables false
namespace Go.Proofs.YtpbniokljofedaaGreat
open Go.RowKit
theorem qq {R:Ending→World→Prop} {a:Act} {W:World} {u:Value} (h4:a.tmps[2]?.getD undef=u) (hd:a.defers=[]) (hR:R (.returned u) W):bodyPost Tryz.prog Tryz.f4 R .ret a W:=by
 refine bodyPost_ret (v:=u) ?_ hd hR
 simp[results,Tryz.results4,go_sem,h4]
theorem meas2 {n k:Nat} (h:k<n):n-(intOf (.int .i64 ((k:Int)+1))).toNat<n-(intOf (.int .i64 (k:Int))).toNat:=by simp[intOf];omega
def qs (lvl:Int) (n:Nat):qO:=⟨Option Addr×Nat,fun p=>.tuple #[ZA lvl p.1 n p.2,.int .i64 0],fun _ _=>True⟩
theorem qn (lvl:Int) (n:Nat) (A:Option Addr) (c:Nat):(qs lvl n).f (A,c)=.tuple #[ZA lvl A n c,.int .i64 0]:=rfl
theorem qx {W C:World} {b:Nat} {ty:TypeId} {u0 u1 x0 x1:Value} (h:W.heap[b]?=some (.cells #[u0,u1] ty (0,0))) (hC:C=(W.setCell ⟨b,0,none⟩ x0).setCell ⟨b,1,none⟩ x1) :
  C.heap[b]?=some (.cells #[x0,x1] ty (0,0))∧(∀ k,k≠b→C.heap[k]?=W.heap[k]?)∧C.heap.size=W.heap.size∧∀ {B:Nat} {w0:World},B≤b→Below B w0 W→Below B w0 C:=by
 subst hC
 exact⟨qj (qj h 0 x0) 1 x1,fun k hk=>(Below.heap_setCell _ _ _ _ hk).trans (Below.heap_setCell _ _ _ _ hk),by simp,fun hb h0=>Below.setCell (Below.setCell h0 (p:=⟨b,0,none⟩) hb _) (p:=⟨b,1,none⟩) hb _⟩
set_option maxHeartbeats 8000000 in
set_option maxRecDepth 100000 in
theorem qr (A1:Option Addr) (n1 c1:Nat) (A2:Option Addr) (n2 c2:Nat) (A3:Option Addr) (n3 c3:Nat) (A4:Option Addr) (n4 c4:Nat) (gen root next:Int) (A5:Option Addr) (c5:Nat) (S:Sto) (dead:List Int) (w:World)
  (h:Qc w w.heap.size (.slice A1 n1 c1) (.slice A2 n2 c2) (.slice A3 n3 c3) (.slice A4 n4 c4) S) (hd:Zu w w.heap.size (.slice A5 dead.length c5) dead) :
  Calls Tryz.prog 4 #[.agg (Qo (.slice A1 n1 c1) (.slice A2 n2 c2) (.slice A3 n3 c3) (.slice A4 n4 c4) gen root next (.slice A5 dead.length c5))] w (Ret (.bool true) w):=by
 have HG:=zH (fun W (hx:Ext w W)=>great14_any A1 n1 c1 A2 n2 c2 A3 n3 c3 A4 n4 c4 gen root next A5 dead.length c5 S W (h.ext hx))
 have HC:=zH (fun W (hx:Ext w W)=>qcq A1 n1 c1 A2 n2 c2 A3 n3 c3 A4 n4 c4 gen root next A5 c5 S dead W (h.ext hx) (hd.ext_ hx))
 have HV:=zH (fun W (hx:Ext w W)=>fvols_any A1 n1 c1 A2 n2 c2 A3 n3 c3 A4 n4 c4 gen root next A5 c5 S dead W (h.ext hx) (hd.ext_ hx))
 have HR:=zH (fun W (hx:Ext w W)=>refs_any A1 n1 c1 A2 n2 c2 A3 n3 c3 A4 n4 c4 gen root next A5 c5 S dead W (h.ext hx) (hd.ext_ hx))
 have HN:=zH (fun W (hx:Ext w W)=>nodes_any A1 n1 c1 A2 n2 c2 A3 n3 c3 A4 n4 c4 gen root next A5 c5 S dead W (h.ext hx) (hd.ext_ hx))
 have HD:=zH (fun (a:Nat) W (hx:Ext w W)=>qez A1 n1 c1 A2 n2 c2 A3 n3 c3 A4 n4 c4 S (a:Int) W (h.ext hx))
 replace h:=zH h
 replace hd:=zH hd
 go_enter Tryz.func4,Tryz.ntmps4
 go_wp2_with fail
 generalize hw1:World.alloc w _=w1
 have x1:Ext w w1:=by rw[←hw1];exact Ext.alloc _ _
 have rp1:w1.heap[w.heap.size]?=some (.cells (Qo (.slice A1 n1 c1) (.slice A2 n2 c2) (.slice A3 n3 c3) (.slice A4 n4 c4) gen root next (.slice A5 dead.length c5)) 32 (0,0)):=by rw[←hw1];exact World.alloc_heap_at _ _ _ rfl
 clear hw1
 refine(alive14_any w1).mono ?_
 rintro e w2 ⟨rfl,hB⟩
 have x2:Ext w w2:=x1.trans hB
 have rp2:=qc rp1 hB
 have kp2:=qa rp2
 clear hB rp1 x1
 go_wp2_with fail
 refine(HG.out w2 x2).mono ?_
 clear HG
 rintro e w3 ⟨rfl,hB⟩
 have x3:Ext w w3:=x2.trans hB
 have rp3:=qc rp2 hB
 have kp3:=qa rp3
 clear hB rp2 x2 kp2
 cases hgr:greatP S dead.length
 case true =>
  go_wp2_with fail
  exact qq rfl rfl ⟨rfl,x3⟩
 case false =>
  replace hgr:=zH hgr
  go_wp2_with fail
  refine(HC.out w3 x3).mono ?_
  clear HC
  rintro e w4 ⟨hB,hQ⟩
  have x4:Ext w w4:=x3.trans hB
  have rp4:=qc rp3 hB
  have kp4:=qa rp4
  clear hB rp3 x3 kp3
  rcases hQ with ⟨rfl,-⟩|⟨rfl,vs,refs,nodes,hp,hc,he⟩
  ·go_wp2_with fail
   exact qq rfl rfl ⟨rfl,x4⟩
  ·replace hp:=zH hp
   replace hc:=zH hc
   replace he:=zH he
   go_wp2_with fail
   refine(HR.out w4 x4).mono ?_
   clear HR
   rintro e w5 ⟨hB,hQ⟩
   have x5:Ext w w5:=x4.trans hB
   have rp5:=qc rp4 hB
   have kp5:=qa rp5
   clear hB rp4 x4 kp4
   rcases hQ with ⟨rfl,hbad⟩|⟨vs',refs',nodes2,cb,ca,vv,lo,rfl,hlo,hT⟩
   case inl=>exact(vH.no hbad hp.out hc.out he.out).elim
   case inr =>
    obtain⟨rfl,rfl,-⟩:=QT.unique hp.out hc.out hT.pool hT.cnt
    have hrc:Hid (∀ a,a<256→w5.cell? ⟨cb,6+a,none⟩=some (.int .i64 (refs' a:Int))):=zH fun a ha=>(qa hT.row (6+a)).trans (hT.ar.ref a ha)
    clear hT hlo
    go_wp2_with fail
    refine(HN.out w5 x5).mono ?_
    clear HN
    rintro e w6 ⟨hB,hQ⟩
    have x56:Ext w5 w6:=hB
    have x6:Ext w w6:=x5.trans hB
    have rp6:=qc rp5 hB
    have kp6:=qa rp6
    clear hB rp5 x5 kp5
    rcases hQ with ⟨rfl,hbad⟩|⟨vs,refs,nodes3,vn,lo2,rfl,hlo2,hp3,hc3,he3,hown⟩
    case inl=>exact(vH.no hbad hp.out hc.out he.out).elim
    case inr =>
     obtain⟨rfl,rfl,-⟩:=QT.unique hp.out hc.out hp3 hc3
     have hmt:=zH (fun a (ha:a∈JR nodes3 256)=>met_tree hp3 hc3 (metTo_mem ha).2)
     have hms:=zH (metTo_rise nodes3 256)
     have hml:=qeL nodes3 256
     have hmi:=zH (fun a (ha:a∈JR nodes3 256)=>(metTo_mem ha).1)
     generalize JR nodes3 256=met at *
     obtain⟨AN,cN,rfl,hcn1,hcn2⟩:=qJ hown
     have hrn:=zH (Rd.of_own hown)
     clear hcn1 hcn2 hown hp3 hc3 he3 hlo2
     go_wp2_with fail
     refine(HV.out w6 x6).mono ?_
     clear HV
     rintro e w7 ⟨hB,hQ⟩
     have x67:Ext w6 w7:=hB
     have x7:Ext w w7:=x6.trans hB
     have rp7:=qc rp6 hB
     have kp7:=qa rp7
     clear hB rp6 x6 kp6
     rcases hQ with ⟨rfl,hbad⟩|⟨vs',refs',nodes4,cb4,ca4,vv4,lo4,rfl,hlo4,hT4⟩
     case inl=>exact(vH.no hbad hp.out hc.out he.out).elim
     case inr =>
      obtain⟨rfl,rfl,-⟩:=QT.unique hp.out hc.out hT4.pool hT4.cnt
      have hlaw:=pool_lawV hp.out hc.out he.out
      have hl16:=hlaw.len
      have hmay:=zH hp.out.may
      obtain⟨r0,rfl,hr8,hr256,hr1⟩:=hlaw.top
      obtain⟨AV,cV,rfl,hcv1,hcv2⟩:=qJ hT4.own
      have hrv:=zH (Rd.of_own hT4.own)
      clear hcv1 hcv2 hT4 hlo4
      replace hlaw:=zH hlaw
      have d1:decide ((vs'.length:Int)>16)=false:=decide_eq_false (by omega)
      have d2:decide (16<vs'.length)=false:=decide_eq_false (by omega)
      obtain⟨b3,o3,cc3,e3,hb3,hcell⟩:=qdd hmay.out h.out.now
      simp only[Value.slice.injEq] at e3
      obtain⟨rfl,rfl,rfl⟩:=e3
      have hnow:=zH (fun (a:Nat) (ha:a<256) W (hW:Ext w7 W)=>Ext.cell (x7.trans hW) (hcell a ha))
      have hrcr:=zH (fun (a:Nat) (ha:a<256) W (hW:Ext w7 W)=>Ext.cell ((x56.trans x67).trans hW) (hrc.out a ha))
      clear hcell hrc
      go_wp2_with fail
      go_loopw [10] (fun i wr=>∃ j:Nat,j≤256∧i=.int .i64 (j:Int)∧Ext w7 wr) (fun i _=>256-(intOf i).toNat)
      case atStart=>exact⟨0,by omega,rfl,Ext.refl _⟩
      case round =>
       obtain⟨j,hj,rfl,xj⟩:=hrel
       have rpj:=qc rp7 xj
       by_cases hlt:j<256
       ·have gP:∀ W,ql.r wr W→∀ i,W.cell? ⟨w.heap.size,i,none⟩=(Qo (.slice A1 n1 c1) (.slice A2 n2 c2) (.slice (some ⟨b3,o3,none⟩) 256 c3) (.slice A4 n4 c4) gen (r0:Int) next (.slice A5 dead.length c5))[i]?:=fun W h=>qa (qc rpj h)
        have gN:∀ W,ql.r wr W→W.cell? ⟨b3,o3+j,none⟩=some (.int .u8 (Zx S j:Int)):=fun W h=>hnow.out j hlt W (xj.trans h)
        have gR:∀ W,ql.r wr W→W.cell? ⟨cb,6+j,none⟩=some (.int .i64 (refs' j:Int)):=fun W h=>hrcr.out j hlt W (xj.trans h)
        have hle:refs' j≤Zx S j:=hlaw.out.now j hlt
        have hwn2:IntKind.i64.wrap (Zx S j:Int)=(Zx S j:Int):=by rw[IntKind.wrap_i64];have:=(S.now[j]?.getD 0).toNat_lt;unfold Zx;omega
        generalize Zx S j=nw at *
        generalize refs' j=rf at *
        have f1:decide ((rf:Int)>(nw:Int))=false:=decide_eq_false (by omega)
        have f2:decide (nw<rf)=false:=decide_eq_false (by omega)
        have f3:decide ((rf:Int)<0)=false:=decide_eq_false (by omega)
        replace hle:=zH hle
        have hwk:=zH (IntWalk.wrap64_in ((j:Int)+1) (by omega))
        go_upto_region 14 with fail
        refine qm (by kernel_rfl) ?_
        refine qR (w:=wr) ql (qG []) (List.replicate 19 true) 0 (by kernel_rfl) (by kernel_rfl) (by kernel_rfl) (by kernel_rfl) (by kernel_rfl) (by kernel_rfl) (by kernel_rfl) ?st (Rel.drew _ _) ?walk
        case st=>exact qk (fun _ h=>by cases h)
        case walk =>
         intro K hK
         dsimp only[qp,List.replicate]
         repeat ((first|(refine qd ?_ (by rfl) (by rfl) (fun W hW _=>⟨W,?_,Rel.refl _ W⟩) ?_;rotate_left;(first|(go_simp;with_reducible rfl)|(go_simp;done)))|(refine qh (by rfl) ?_));try simp only[Act.put,qi,qe,qb,qf,qb,qn,zA,zB,zC])
         first
          |(refine qd (.pointer (some ⟨cb,6+j,none⟩)) (by rfl) (by rfl) (fun W hW _=>⟨W,?_,Rel.refl _ W⟩) ?_
            ·go_simp
             intro hge
             exfalso
             omega
            simp only[Act.put,qi,qe,qb,qf,qb,qn,zA,zB,zC])
          |skip
         repeat ((first|(refine qd ?_ (by rfl) (by rfl) (fun W hW _=>⟨W,?_,Rel.refl _ W⟩) ?_;rotate_left;(first|(go_simp;with_reducible rfl)|(go_simp;done)))|(refine qh (by rfl) ?_));try simp only[Act.put,qi,qe,qb,qf,qb,qn,zA,zB,zC])
         first
          |(refine qd (.pointer (some ⟨cb,6+j,none⟩)) (by rfl) (by rfl) (fun W hW _=>⟨W,?_,Rel.refl _ W⟩) ?_
            ·go_simp
             intro hge
             exfalso
             omega
            simp only[Act.put,qi,qe,qb,qf,qb,qn,zA,zB,zC])
          |skip
         repeat ((first|(refine qd ?_ (by rfl) (by rfl) (fun W hW _=>⟨W,?_,Rel.refl _ W⟩) ?_;rotate_left;(first|(go_simp;with_reducible rfl)|(go_simp;done)))|(refine qh (by rfl) ?_));try simp only[Act.put,qi,qe,qb,qf,qb,qn,zA,zB,zC])
         first
          |(refine qd (.pointer (some ⟨b3,o3+j,none⟩)) (by rfl) (by rfl) (fun W hW _=>⟨W,?_,Rel.refl _ W⟩) ?_
            ·go_simp
             intro hge
             exfalso
             omega
            simp only[Act.put,qi,qe,qb,qf,qb,qn,zA,zB,zC])
          |skip
         repeat ((first|(refine qd ?_ (by rfl) (by rfl) (fun W hW _=>⟨W,?_,Rel.refl _ W⟩) ?_;rotate_left;(first|(go_simp;with_reducible rfl)|(go_simp;done)))|(refine qh (by rfl) ?_));try simp only[Act.put,qi,qe,qb,qf,qb,qn,zA,zB,zC])
         refine qt (hK _ _ fun Z hZ hF=>?_)
         clear hF hK gP gN gR
         have hZ:Ext wr Z:=hZ
         try dsimp only[List.drop,List.length_cons,List.length_nil,Nat.reduceAdd,Nat.reduceSub]
         have xZ:=xj.trans hZ
         clear hZ
         replace xZ:=zH xZ
         go_wp2
         refine Qn ?_
         go_wp2_with fail
         exact⟨⟨j+1,hlt,rfl,xZ.out⟩,meas2 hlt⟩
       ·obtain rfl:j=256:=by omega
        generalize hwm:wr=wm at *
        clear hwm hj hlt
        have xm:Ext w7 wm:=xj
        go_wp2_with fail
        refine wp_loop_mix ([false,false,true]++List.replicate 8 false++List.replicate 3 true++List.replicate 70 false++List.replicate 44 true) met.length (fun n g wr=>∃ j:Nat,n=met.length-j∧j≤met.length∧g 11=.int .i64 (j:Int)∧Ext wm wr) ⟨0,by omega,by omega,rfl,Ext.refl _⟩ (by kernel_rfl) ?_
        ·intro nn g wr K0 hrel hK0
         replace hK0:=zH hK0
         obtain⟨j,hnn,hj,hgj,xj⟩:=hrel
         replace hnn:=zH hnn
         dsimp only[mixL,List.replicate,List.cons_append,List.nil_append,List.append_assoc,cond_true,cond_false,List.append_eq,Nat.reduceAdd]
         rw[hgj]
         clear hgj
         have rpr:=qc rpj xj
         by_cases hlt:j<met.length
         ·obtain⟨bn,on,rfl,hbn,hcn⟩:=hrn.out.2 (by omega)
          have hcj:∀ j (hj:j<met.length) W,Ext wm W→W.cell? ⟨bn,on+j,none⟩=some (.int .i64 (met[j]:Int)):=fun j hj W hW=>Ext.cell ((x67.trans xm).trans hW) (hcn j _ (by unfold Vi;rw[List.getElem?_map,List.getElem?_eq_getElem hj];rfl))
          have hprev:j=0∨∃ j' pa:Nat,j=j'+1∧(∀ W,Ext wm W→W.cell? ⟨bn,on+j',none⟩=some (.int .i64 (pa:Int)))∧pa<met[j]:=by
           rcases Nat.eq_zero_or_pos j with h0|h0
           ·exact .inl h0
           ·obtain⟨j',rfl⟩:∃ j',j=j'+1:=⟨j-1,by omega⟩
            exact .inr ⟨j',met[j'],rfl,hcj j' (by omega),List.pairwise_iff_getElem.1 hms.out j' (j'+1) (by omega) hlt (by omega)⟩
          have hc0:=hcj j hlt
          obtain⟨ht,hra⟩:=hmt.out _ (List.getElem_mem hlt)
          have ha256:=hmi.out _ (List.getElem_mem hlt)
          generalize met[j]=a at *
          obtain⟨lvl,xs,hread⟩:=tree_read hmay.out ht
          have HDa:=zH (fun W (hx:Ext wr W)=>(by have:=HD.out a W (((x7.trans xm).trans xj).trans hx);rw[hread] at this;exact this))
          have gRa:=zH (fun W (hx:Ext wm W)=>hrcr.out a ha256 W (xm.trans hx))
          generalize refs' a=rf at *
          clear hcj hcn ht hread
          have gP:∀ W,ql.r wr W→∀ i,W.cell? ⟨w.heap.size,i,none⟩=(Qo (.slice A1 n1 c1) (.slice A2 n2 c2) (.slice (some ⟨b3,o3,none⟩) 256 c3) (.slice A4 n4 c4) gen (r0:Int) next (.slice A5 dead.length c5))[i]?:=fun W h=>qa (qc rpr h)
          have g0:∀ W,ql.r wr W→W.cell? ⟨bn,on+j,none⟩=some (.int .i64 (a:Int)):=fun W h=>hc0 W (xj.trans h)
          have hc0H:=zH hc0
          clear hc0
          go_upto_region 19 with fail
          refine qm (by kernel_rfl) ?_
          refine Yg 11 9 (by exact rfl) (by kernel_rfl) rfl rfl (by kernel_rfl) (by kernel_rfl) (by kernel_rfl) (by kernel_rfl) ?_
          dsimp only[ZY,Array.push,List.push_toArray,List.concat_eq_append]
          refine qR (w:=wr) ql (qG [(6,qs (lvl:Int) xs.length),(10,jg wr.heap.size 49 #[.int .i64 0,.slice none 0 0])]) (List.replicate 11 true) 2 (by kernel_rfl) (by kernel_rfl) (by kernel_rfl) (by kernel_rfl) (by kernel_rfl) (by kernel_rfl) (by kernel_rfl) ?st (Rel.drew _ _) ?walk
          case st=>exact qk (by simp only[List.forall_mem_cons];exact⟨fun _ _ _ _ _=>trivial,fun p=>Qw (Zt _ _ _ p),fun _ h=>by cases h⟩)
          case walk =>
           intro K hK
           dsimp only[qp,List.replicate]
           repeat ((first|(refine qd ?_ (by rfl) (by rfl) (fun W hW _=>⟨W,?_,Rel.refl _ W⟩) ?_;rotate_left;(first|(go_simp;with_reducible rfl)|(go_simp;done)))|(refine qh (by rfl) ?_));try simp only[Act.put,qi,qe,qb,qf,qb,qn,zA,zB,zC])
           refine qy (qs (lvl:Int) xs.length) (by rfl) (by rfl) (fun W hW _=>?_) (fun p=>?_)
           ·have hW:Ext wr W:=hW
            refine Qe ?_ ((HDa.out W hW).mono fun e w' h=>?_)
            ·go_simp
            obtain⟨u,rfl,⟨A,c,rfl,_⟩,hB⟩:=h
            exact⟨(A,c),rfl,trivial,hB⟩
           obtain⟨A9,c9⟩:=p
           simp only[Act.put,qi,qe,qb,qf,qb,qn,zA,zB,zC]
           repeat ((first|(refine qd ?_ (by rfl) (by rfl) (fun W hW _=>⟨W,?_,Rel.refl _ W⟩) ?_;rotate_left;(first|(go_simp;with_reducible rfl)|(go_simp;done)))|(refine qh (by rfl) ?_));try simp only[Act.put,qi,qe,qb,qf,qb,qn,zA,zB,zC])
           refine qy (jg wr.heap.size 49 #[.int .i64 0,.slice none 0 0]) (by rfl) (by rfl) (fun W hW _=>?_) (fun (p11:Nat)=>?_)
           ·refine jh ?_ (Below.size hW)
            go_simp
           simp only[Act.put,qi,qe,qb,qf,qb,qn,zA,zB,zC]
           repeat ((first|(refine qd ?_ (by rfl) (by rfl) (fun W hW _=>⟨W,?_,Rel.refl _ W⟩) ?_;rotate_left;(first|(go_simp;with_reducible rfl)|(go_simp;done)))|(refine qh (by rfl) ?_));try simp only[Act.put,qi,qe,qb,qf,qb,qn,zA,zB,zC])
           refine qt (hK _ _ fun W hW hF=>?_)
           obtain⟨f11,hlo⟩:W.heap[p11]?=some (.cells #[.int .i64 0,.slice none 0 0] 49 (0,0))∧wr.heap.size≤p11:=(hF 10).1
           clear hF hK gP g0 HDa
           have hW:Ext wr W:=hW
           dsimp only[List.drop,List.length_cons,List.length_nil,Nat.reduceAdd,Nat.reduceSub]
           have k11:=qa f11
           have h11:=qg f11
           have z11:=(zG.1 f11).1
           go_wp2
           refine Qn ?_
           generalize hw9:World.setCell (World.setCell W _ _) _ _=w9
           obtain⟨r9,o9,z9,b9⟩:=qx f11 hw9.symm
           clear hw9 k11 h11 f11
           have x9:Ext wr w9:=b9 hlo hW
           have xm9:=xj.trans x9
           have gD0:∀ W,ql.r w9 W→W.cell? ⟨bn,on+j,none⟩=some (.int .i64 (a:Int)):=fun W h=>hc0H.out W (xm9.trans h)
           have gRf:∀ W,ql.r w9 W→W.cell? ⟨cb,6+a,none⟩=some (.int .i64 (rf:Int)):=fun W h=>gRa.out W (xm9.trans h)
           have e1:((rf:Int) == 0)=false:=by rw[beq_eq_false_iff_ne];omega
           have e2:decide (rf=0)=false:=decide_eq_false (by omega)
           have hP2:(decide ((j:Int)>0)=false∧decide (0<j)=false)∨∃ (k pa:Nat),decide ((j:Int)>0)=true∧decide (0<j)=true∧IntKind.i64.wrap ((j:Int)-1)=(k:Int)∧k<met.length∧(∀ W,ql.r w9 W→W.cell? ⟨bn,on+k,none⟩=some (.int .i64 (pa:Int)))∧decide ((a:Int)≤(pa:Int))=false∧decide (a≤pa)=false:=by
            rcases hprev with h0|⟨k,pa,hk,hpc,hpl⟩
            ·exact .inl ⟨decide_eq_false (by omega),decide_eq_false (by omega)⟩
            ·refine .inr ⟨k,pa,decide_eq_true (by omega),decide_eq_true (by omega),?_,by omega,fun W h=>hpc W (xm9.trans h),decide_eq_false (by omega),decide_eq_false (by omega)⟩
             rw[IntKind.wrap_i64];omega
           have hltH:=zH hlt
           have hwk:=zH (IntWalk.wrap64_in ((j:Int)+1) (by omega))
           clear hprev rpr x9 hW o9 b9 z9
           go_upto_region 20 with fail
           rcases hP2 with ⟨e3,e4⟩|⟨k,pa,e3,e4,e5,e6,e7,e8,e9⟩
           all_goals
            refine qm (by kernel_rfl) ?_
            refine qR (w:=w9) ql (qG []) (List.replicate 28 true) 0 (by kernel_rfl) (by kernel_rfl) (by kernel_rfl) (by kernel_rfl) (by kernel_rfl) (by kernel_rfl) (by kernel_rfl) ?st (Rel.drew _ _) ?walk
            case st=>exact qk (fun _ h=>by cases h)
            case walk =>
             intro K hK
             dsimp only[qp,List.replicate]
             repeat ((first|(refine qd ?_ (by rfl) (by rfl) (fun W hW _=>⟨W,?_,Rel.refl _ W⟩) ?_;rotate_left;(first|(go_simp;with_reducible rfl)|(go_simp;done)))|(refine qh (by rfl) ?_));try simp only[Act.put,qi,qe,qb,qf,qb,qn,zA,zB,zC])
             first
              |(refine qd (.pointer (some ⟨cb,6+a,none⟩)) (by rfl) (by rfl) (fun W hW _=>⟨W,?_,Rel.refl _ W⟩) ?_
                ·go_simp
                 intro hge
                 exfalso
                 omega
                simp only[Act.put,qi,qe,qb,qf,qb,qn,zA,zB,zC])
              |skip
             repeat ((first|(refine qd ?_ (by rfl) (by rfl) (fun W hW _=>⟨W,?_,Rel.refl _ W⟩) ?_;rotate_left;(first|(go_simp;with_reducible rfl)|(go_simp;done)))|(refine qh (by rfl) ?_));try simp only[Act.put,qi,qe,qb,qf,qb,qn,zA,zB,zC])
             refine qt (hK _ _ fun Z hZ hF=>?_)
             clear hF hK gD0 gRf
             have hZ:Ext w9 Z:=hZ
             try dsimp only[List.drop,List.length_cons,List.length_nil,Nat.reduceAdd,Nat.reduceSub]
             have xZ:=zH (xm9.trans hZ)
             clear hZ
             go_wp2
             refine Qn ?_
             go_wp2_with fail
             exact mix_end hK0.out (met.length-(j+1)) (by rw[hnn.out];have:=hltH.out;omega) (by kernel_rfl) ⟨j+1,rfl,hltH.out,rfl,xZ.out⟩
         ·obtain rfl:j=met.length:=by omega
          generalize hwm2:wr=wn at *
          clear hwm2 hK0 hnn hj hlt
          have xn:Ext w7 wn:=xm.trans xj
          go_wp2_with fail
          go_loopw [14] (fun i wr=>∃ j:Nat,j≤vs'.length∧i=.int .i64 (j:Int)∧Ext wn wr) (fun i _=>vs'.length-(intOf i).toNat)
          case atStart=>exact⟨0,by omega,rfl,Ext.refl _⟩
          case round =>
           obtain⟨k,hk,rfl,xk⟩:=hrel
           have rpk:=qc rpr xk
           by_cases hlt:k<vs'.length
           ·obtain⟨bv,offv,rfl,hbv,hcel⟩:=hrv.out.2 (by omega)
            obtain⟨d0,d1',-,-⟩:=kY vs' k hlt
            replace d0:=Ext.cell (xn.trans xk) (hcel _ _ d0)
            replace d1':=Ext.cell (xn.trans xk) (hcel _ _ d1')
            have hprev:k=0∨∃ k' pid,k=k'+1∧wr.cell? ⟨bv,offv+k'*4,none⟩=some (.int .u32 pid)∧pid<vs'[k].id:=by
             rcases Nat.eq_zero_or_pos k with h0|h0
             ·exact .inl h0
             ·obtain⟨k',rfl⟩:∃ k',k=k'+1:=⟨k-1,by omega⟩
              exact .inr ⟨k',vs'[k'].id,rfl,Ext.cell (xn.trans xk) (hcel _ _ (kY vs' k' (by omega)).1),List.pairwise_iff_getElem.1 hlaw.out.rise k' (k'+1) (by omega) hlt (by omega)⟩
            obtain⟨hn1,hn2⟩:=hlaw.out.num _ (List.getElem_mem hlt)
            obtain⟨rk,hrk,hk8,hk256,hkr⟩:=hlaw.out.at_ _ (List.getElem_mem hlt)
            generalize vs'[k]=u at *
            obtain⟨ui,ur,uf,um⟩:=u
            simp only at hrk hn1 hn2 d0 d1' hprev
            subst hrk
            rw[←Nat.add_assoc] at d1'
            have gP:∀ W,ql.r wr W→∀ i,W.cell? ⟨w.heap.size,i,none⟩=(Qo (.slice A1 n1 c1) (.slice A2 n2 c2) (.slice (some ⟨b3,o3,none⟩) 256 c3) (.slice A4 n4 c4) gen (r0:Int) next (.slice A5 dead.length c5))[i]?:=fun W h=>qa (qc rpk h)
            have gD0:∀ W,ql.r wr W→W.cell? ⟨bv,offv+k*4,none⟩=some (.int .u32 ui):=fun W h=>Ext.cell h d0
            have gD1:∀ W,ql.r wr W→W.cell? ⟨bv,offv+k*4+1,none⟩=some (.int .i64 (rk:Int)):=fun W h=>Ext.cell h d1'
            have gK:∀ W,ql.r wr W→W.cell? ⟨cb,6+rk,none⟩=some (.int .i64 (refs' rk:Int)):=fun W h=>hrcr.out rk hk256 W ((xn.trans xk).trans h)
            generalize refs' rk=rr at *
            have c1':((rr:Int) == 0)=false:=by rw[beq_eq_false_iff_ne];omega
            have c2':decide (rr=0)=false:=decide_eq_false (by omega)
            have c3':(ui == 0)=false:=by rw[beq_eq_false_iff_ne];omega
            have c4':decide (ui=0)=false:=decide_eq_false (by omega)
            have c5':decide (ui≥next)=false:=decide_eq_false (by omega)
            have c6':decide (next≤ui)=false:=decide_eq_false (by omega)
            have hP2:(decide ((k:Int)>0)=false∧decide (0<k)=false)∨∃ (j:Nat) (pid:Int),decide ((k:Int)>0)=true∧decide (0<k)=true∧IntKind.i64.wrap ((k:Int)-1)=(j:Int)∧j<vs'.length∧(∀ W,ql.r wr W→W.cell? ⟨bv,offv+j*4,none⟩=some (.int .u32 pid))∧decide (ui≤pid)=false:=by
             rcases hprev with h0|⟨j,pid,hj,hpc,hpl⟩
             ·exact .inl ⟨decide_eq_false (by omega),decide_eq_false (by omega)⟩
             ·refine .inr ⟨j,pid,decide_eq_true (by omega),decide_eq_true (by omega),?_,by omega,fun W h=>Ext.cell h hpc,decide_eq_false (by omega)⟩
              rw[IntKind.wrap_i64];omega
            have hltH:=zH hlt
            replace hn1:=zH hn1
            replace hn2:=zH hn2
            clear hprev hkr
            go_upto_region 25 with fail
            rcases hP2 with ⟨e3,e4⟩|⟨j,pid,e3,e4,e5,e6,e7,e8⟩
            all_goals
             refine qm (by kernel_rfl) ?_
             refine qR (w:=wr) ql (qG []) (List.replicate 45 true) 0 (by kernel_rfl) (by kernel_rfl) (by kernel_rfl) (by kernel_rfl) (by kernel_rfl) (by kernel_rfl) (by kernel_rfl) ?st (Rel.drew _ _) ?walk
             case st=>exact qk (fun _ h=>by cases h)
             case walk =>
              intro K hK
              dsimp only[qp,List.replicate]
              repeat ((first|(refine qd ?_ (by rfl) (by rfl) (fun W hW _=>⟨W,?_,Rel.refl _ W⟩) ?_;rotate_left;(first|(go_simp;with_reducible rfl)|(go_simp;done)))|(refine qh (by rfl) ?_));try simp only[Act.put,qi,qe,qb,qf,qb,qn,zA,zB,zC])
              first
               |(refine qd (.pointer (some ⟨cb,6+rk,none⟩)) (by rfl) (by rfl) (fun W hW _=>⟨W,?_,Rel.refl _ W⟩) ?_
                 ·go_simp
                  intro hge
                  exfalso
                  omega
                 simp only[Act.put,qi,qe,qb,qf,qb,qn,zA,zB,zC])
               |skip
              repeat ((first|(refine qd ?_ (by rfl) (by rfl) (fun W hW _=>⟨W,?_,Rel.refl _ W⟩) ?_;rotate_left;(first|(go_simp;with_reducible rfl)|(go_simp;done)))|(refine qh (by rfl) ?_));try simp only[Act.put,qi,qe,qb,qf,qb,qn,zA,zB,zC])
              refine qt (hK _ _ fun Z hZ hF=>?_)
              clear hF hK gP gD0 gD1 gK
              have hZ:Ext wr Z:=hZ
              try dsimp only[List.drop,List.length_cons,List.length_nil,Nat.reduceAdd,Nat.reduceSub]
              have xZ:=zH (xk.trans hZ)
              clear hZ
              go_wp2
              refine Qn ?_
              go_wp2_with fail
              exact⟨⟨k+1,hltH.out,rfl,xZ.out⟩,meas2 hltH.out⟩
           ·obtain rfl:k=vs'.length:=by omega
            have hrr:=hrcr.out r0 hr256 wr (xn.trans xk)
            have kpk:=qa rpk
            have f1:decide ((refs' r0:Int)>0)=true:=decide_eq_true (by omega)
            have f2:decide (0<refs' r0)=true:=decide_eq_true (by omega)
            have xw:=zH ((x7.trans xn).trans xk)
            go_wp2_with fail
            exact qq rfl rfl ⟨rfl,xw.out⟩
end Go.Proofs.YtpbniokljofedaaGreat
namespace Go.Proofs.YtpbniokljofedaaGreat.forestCounts
set_option linter.unusedSimpArgs false
set_option linter.unusedVariables false
open Go.ChangeShapes Go.WideShapes Go.ChangeAt Go.RowKit
theorem own:ownKnob Tryz.prog.godebug=none:=by kernel_rfl
theorem laidOut:laidOutB Tryz.prog=true:=by kernel_rfl
set_option maxHeartbeats 1000000 in
set_option maxRecDepth 100000 in
theorem lifted (os:Os) (started:os.Started) (H:Type) (enc:TypeId×Value→H) :
  ReturnsInHanded {} Tryz.checked os 4 .any (Rows.forestCountsSpec.pre6 enc Tryz.prog Tryz.f4 Rows.forestCountsRow.domain false) (Rows.forestCountsSpec.post enc Tryz.prog Tryz.f4 false true false false):=by
 refine returnsInHanded_of_change (C:=Tryz.checked) own started (by kernel_rfl) Tryz.func4
  (ChangeSpec.witness6 (enc:=enc) (C:=Tryz.checked) false ⟨#[],#[.agg (Qo (.slice none 0 0) (.slice none 0 0) (.slice none 0 0) (.slice none 0 0) 0 0 0 (.slice none 0 0))],[]⟩ 8 (by kernel_rfl) (by kernel_rfl) (by kernel_rfl) (by kernel_rfl)) ?_
 intro W base args ds gs before hval0 hW hcnd _
 have hval:∀ (j:Nat) t v,Tryz.f4.params[j]?=some t→args[j]?=some v→Value.okWide Tryz.prog W .any base t v:=hval0
 have hW':=hW
 have hlt:∀ x∈before,x.block<W.heap.size:=fun x hx=>hW.lt x hx
 obtain⟨p,q,hA0,hV,rfl,hfz,hnd⟩:=hW
 have hA:DataW.TrodAll enc Tryz.prog W 0 (fun _=>true) true Tryz.f4.params.toList args.toList ds p:=hA0
 rw[Tryz.params4] at hA hval
 obtain⟨v0,vs0,d0,ds0,p0,q0,hargs,rfl,rfl,h0,r0⟩:=trodAll_cons hA
 obtain⟨rfl,rfl,rfl⟩:=trodAll_nil r0
 obtain rfl:args=#[v0]:=by cases args;simp_all
 obtain⟨rfl,rfl⟩:=trodVars_none hV
 obtain⟨cs0,rfl,_⟩:=okWide_struct Tryz.underlying32 (hval 0 32 v0 rfl rfl)
 obtain⟨n0,h0⟩:=h0
 obtain⟨A1,c1,A2,c2,A3,c3,A4,c4,gen,root,next,A5,c5,S,dead,e0,hS,hd,_,_,_,_⟩:=rd_pool h0 (fun x hx=>hlt x (by simp[hx]))
 have e0':cs0=Qo (.slice A1 S.bs.length c1) (.slice A2 S.ws.length c2) (.slice A3 S.now.length c3) (.slice A4 S.last.length c4) gen root next (.slice A5 dead.length c5):=by
  obtain⟨cs0⟩:=cs0
  have:cs0=_:=e0
  rw[this]
 subst e0'
 have walk:Calls Tryz.prog 4 #[.agg (Qo (.slice A1 S.bs.length c1) (.slice A2 S.ws.length c2) (.slice A3 S.now.length c3) (.slice A4 S.last.length c4) gen root next (.slice A5 dead.length c5))] W (Ret (.bool true) W):=qr A1 _ c1 A2 _ c2 A3 _ c3 A4 _ c4 gen root next A5 c5 S dead W hS hd
 refine walk.mono fun e W' ⟨he,hB⟩=>?_
 subst he
 exact⟨_,rfl,law_post rfl laidOut rfl Tryz.underlying4 (by
  intro t ht
  have:t=32:=by rw[Tryz.params4] at ht;simpa using ht
  subst this
  exact⟨by kernel_rfl,of_decide_eq_true (by kernel_rfl)⟩) hW' rfl hB⟩
theorem over:Rows.forestCountsRow.holds Tryz.pinned (OpenSpec.ofChange Rows.forestCountsSpec):=
 OpenClaim.holds_of_wide 4 Tryz.f4 rfl rfl rfl rfl rfl rfl rfl ⟨rfl,rfl,rfl,rfl,rfl⟩ rfl rfl rfl rfl rfl (by kernel_rfl) Tryz.func4 (by kernel_rfl)
  (of_decide_eq_true (by kernel_rfl)) (by unfold Func.isWrapper;first|(rw[if_pos (by decide +kernel)];kernel_rfl)|(rw[if_neg (by decide +kernel)];exact⟨rfl,rfl⟩))
  (fun os started H enc _=>lifted os started H enc)
theorem proved:Rows.ForestCountsSaid:=over
end Go.Proofs.YtpbniokljofedaaGreat.forestCounts
