/- Lemmas of the proof. -/
import Derived.Lib.AppendZerosOnto
import Derived.Lib.Walk
import Derived.Test.YtmeadnlmepcmbaaGreatZN02
set_option linter.all false
set_option maxHeartbeats 8000000
open Go.Proofs.Tryz
namespace Go.Proofs.YtmeadnlmepcmbaaGreat
open Go.RowKit
theorem Tz {above:Bool} {xs:List It} {i:Nat} (hi:i<xs.length):GT above xs i=(itB xs[i].r xs[i].val.length && (decide (i=0) || (match xs[i-1]? with|some y=>qez y xs[i]|none=>true)) && !(above && (decide (xs[i].r=0) || decide (0<xs[i].val.length)))):=by unfold GT;rw[zL hi];rfl
theorem qfM {above:Bool} {xs:List It} {i:Nat} (hi:i<xs.length) (h:itB xs[i].r xs[i].val.length=false):GT above xs i=false:=by rw[Tz hi,h];rfl
set_option maxRecDepth 100000 in
theorem qid (lvl:Int) (A n c) (xs:List It) (w:World) (hx:Its w w.heap.size (.slice A n c) xs) (h:Jq lvl n=true):Calls prog 182 #[jU lvl A n c] w (Ret (.int .i64 (Jz (Qn lvl xs))) w):=by
 obtain⟨hn,hnc,hcm,hA⟩:=hx.at_;have h':0<=lvl/\lvl<6/\n<=5/\(0<lvl->n≠0):=by unfold Jq at h;exact of_decide_eq_true h
 have hM:Qn lvl xs=KV (decide (0<lvl)) xs xs.length:=by unfold Qn;rw[<-hn,h];rfl
 rw[hM];clear hM h;subst hn;have HX:=zH hx;clear hx;obtain⟨h1,h2,h3,h4⟩:=h';by_cases hab:0<lvl
 ·rw[decide_eq_true hab];go_enter func182,ntmps182;go_wp2;all_goals simp only[beq_eq_false_iff_ne,ne_eq] at *
  all_goals first|(exfalso;omega)|skip
  generalize hw1:(World.alloc _ _)=w1;have b1:Ext w w1:=by rw[<-hw1];exact zN _ _
  have r1:w1.heap[w.heap.size]?=some (.cells #[.int .i64 lvl,.slice A xs.length c] 113 (0,0)):=by rw[<-hw1];exact zI _ _ _ rfl
  clear hw1;go_loopw [36] (fun i wr=>∃ k:Nat,k<=xs.length/\i=.int .i64 (k:Int)/\KV true xs k=true/\Ext w1 wr) (fun i _=>xs.length-(intOf i).toNat)
  case atStart=>exact⟨0,zO,rfl,rfl,Ext.refl _⟩
  case round =>
   obtain⟨k,hk,rfl,hck,hE⟩:=hrel;by_cases hlt:k<xs.length
   ·have hCJ:=hlt;obtain⟨b,off,rfl,hb⟩:=hA zO;have b2:Ext w wr:=b1.trans hE;obtain⟨A',c',c0,c1,c2,c3,c4,hby⟩:=(HX.out.ext b2).item k hCJ;have HCK:=zH (Tz (above:=true) hCJ);have HBAD:=zH (qbc (above:=true) hCJ);have HBI:=zH (qfM (above:=true) hCJ);have HSU:=zH (GS true xs k);generalize hx:xs[k]=x at *;go_wp2_with fail;generalize hw3:(World.alloc _ _)=w3;have b3:Ext wr w3:=by rw[<-hw3];exact zN _ _
    have r3:w3.heap[wr.heap.size]?=some (.cells #[.int .u8 x.k,.int .u32 x.i,.int .u32 x.o,.int .i64 x.r,.slice A' x.val.length c'] 51 (0,0)):=by rw[<-hw3];exact zI _ _ _ rfl
    clear hw3;refine(JL x.k x.i x.o x.r A' x.val.length c' _).mono ?_;rintro e w4 ⟨rfl,hB⟩;have b4:Ext wr w4:=b3.trans hB;have r4:=qb r3 hB;clear hB r3 b3;by_cases hok:itB x.r x.val.length=true
    ·rw[JG hok];go_wp2;have b5:Ext w1 w4:=hE.trans b4;have rn:=qb r1 b5;have n1:∀ W,Ext w4 W->W.cell? ⟨w.heap.size,1,none⟩=some (.slice (some ⟨b,off,none⟩) xs.length c):=fun W h=>by rw[qa (qb rn h)];rfl
     have i0:∀ W,Ext w4 W->W.cell? ⟨wr.heap.size,0,none⟩=some (.int .u8 x.k):=fun W h=>by rw[qa (qb r4 h)];rfl
     have i1:∀ W,Ext w4 W->W.cell? ⟨wr.heap.size,1,none⟩=some (.int .u32 x.i):=fun W h=>by rw[qa (qb r4 h)];rfl
     have i2:∀ W,Ext w4 W->W.cell? ⟨wr.heap.size,2,none⟩=some (.int .u32 x.o):=fun W h=>by rw[qa (qb r4 h)];rfl
     have i3:∀ W,Ext w4 W->W.cell? ⟨wr.heap.size,3,none⟩=some (.int .i64 x.r):=fun W h=>by rw[qa (qb r4 h)];rfl
     have i4:∀ W,Ext w4 W->W.cell? ⟨wr.heap.size,4,none⟩=some (.slice A' x.val.length c'):=fun W h=>by rw[qa (qb r4 h)];rfl
     rcases k with _|j
     ·refine zj (qM [(12,one (.bool true))]) 29 zQ zQ zQ zD zQ zQ ?st ?walk
      case st=>exact zv (by simp only[List.forall_mem_cons];exact⟨jg _,fun _ h=>by cases h⟩)
      case walk =>
       intro K hK;dsimp only[List.take];by_cases hr0:x.r=0
       ·have hr1:(x.r == 0)=true:=by simpa using hr0
        refine zB0 ?_;refine Zz (hK _ _ fun W hW hF=>?_);clear hF hK;have b7:Ext wr W:=b4.trans hW;dsimp only[List.drop];go_wp2;all_goals first
         |(go_ret
           exact⟨by rw[HBAD.out (by rw[HCK.out,hok];simp[*])];rfl,Ext.trans b2 b7⟩)
         |(go_roundw
           case rel=>exact⟨0+1,zO,by go_num,by rw[HSU.out,hck,HCK.out,hok];simp[*],hE.trans b7⟩
           case measure=>simp[intOf];omega)
       ·have hr1:(x.r == 0)=false:=by simpa using hr0
        refine zB0 ?_;refine Zz (hK _ _ fun W hW hF=>?_);clear hF hK;have b7:Ext wr W:=b4.trans hW;dsimp only[List.drop];go_wp2;all_goals first
         |(go_ret
           exact⟨by rw[HBAD.out (by rw[HCK.out,hok];simp[*])];rfl,Ext.trans b2 b7⟩)
         |(go_roundw
           case rel=>exact⟨0+1,zO,by go_num,by rw[HSU.out,hck,HCK.out,hok];simp[*],hE.trans b7⟩
           case measure=>simp[intOf];omega)
     ·have hjl:j<xs.length:=zO;obtain⟨A2,c2',d0,d1,d2,d3,d4,_⟩:=(HX.out.ext (b2.trans b4)).item j hjl;have wKO:xs[j+1-1]?=some xs[j]:=by rw[Nat.add_sub_cancel,zL hjl]
      have HP:=zH wKO;clear wKO;generalize xs[j]=y at *;have p0:∀ W,Ext w4 W->W.cell? ⟨b,off+j*5,none⟩=some (.int .u8 y.k):=fun W h=>Ext.cell h d0;have p1:∀ W,Ext w4 W->W.cell? ⟨b,off+j*5+1,none⟩=some (.int .u32 y.i):=fun W h=>Ext.cell h d1;have p2:∀ W,Ext w4 W->W.cell? ⟨b,off+j*5+2,none⟩=some (.int .u32 y.o):=fun W h=>Ext.cell h d2;clear d0 d1 d2 d3 d4;have HL:=zH (fun W=>Xf y.k y.i y.o x.k x.i x.o W);have HLE:Hid (qez y x=KC y.k y.i y.o x.k x.i x.o):=rfl;generalize KC y.k y.i y.o x.k x.i x.o=L at *;refine zj (qM [(12,one (.bool L))]) 29 zQ zQ zQ zD zQ zQ ?st ?walk
      case st=>exact zv (by simp only[List.forall_mem_cons];exact⟨jg _,fun _ h=>by cases h⟩)
      case walk =>
       intro K hK;dsimp only[List.take];refine zB0 ?_;refine qO (.pointer (some ⟨b,off+j*5,none⟩)) zA0 zA0 (fun W hW _=>⟨W,?_,Ext.refl W⟩) ?_
       ·go_simp;rw[IntWalk.i64_in (j:Int) zO,if_pos zO];simp
       refine zB0 ?_;refine QC (one (.bool L)) zA0 zA0 (fun W hW _=>?_) (fun p=>?_)
       ·refine QP ?_ ((HL.out W).mono fun e w' h=>⟨(),h.1,trivial,h.2⟩);go_simp
       cases p;simp only[Act.put,qk,qc,qg,zA,zB,zC];cases L
       ·repeat ((first|(refine qO ?_ zA0 zA0 (fun W hW _=>⟨W,?_,Ext.refl W⟩) ?_;rotate_left;(go_simp<;>with_reducible rfl))|(refine Qc zA0 ?_));try simp only[Act.put,qk,qf,qc,qg,zA,zB,zC])
        refine Zz (hK _ _ fun W hW hF=>?_);clear hF hK HL;have b7:Ext wr W:=b4.trans hW;dsimp only[List.drop];go_wp2;all_goals first
         |(go_ret
           exact⟨by rw[HBAD.out (by rw[HCK.out,hok,HP.out];simp[HLE.out, *])];rfl,Ext.trans b2 b7⟩)
         |(go_roundw
           case rel=>exact⟨j+1+1,zO,by go_num,by rw[HSU.out,hck,HCK.out,hok,HP.out];simp[HLE.out, *],hE.trans b7⟩
           case measure=>simp[intOf];omega)
       ·by_cases hr0:x.r=0
        ·have hr1:(x.r == 0)=true:=by simpa using hr0
         refine zB0 ?_;refine Zz (hK _ _ fun W hW hF=>?_);clear hF hK HL;have b7:Ext wr W:=b4.trans hW;dsimp only[List.drop];go_wp2;all_goals first
          |(go_ret
            exact⟨by rw[HBAD.out (by rw[HCK.out,hok,HP.out];simp[HLE.out, *])];rfl,Ext.trans b2 b7⟩)
          |(go_roundw
            case rel=>exact⟨j+1+1,zO,by go_num,by rw[HSU.out,hck,HCK.out,hok,HP.out];simp[HLE.out, *],hE.trans b7⟩
            case measure=>simp[intOf];omega)
        ·have hr1:(x.r == 0)=false:=by simpa using hr0
         refine zB0 ?_;refine Zz (hK _ _ fun W hW hF=>?_);clear hF hK HL;have b7:Ext wr W:=b4.trans hW;dsimp only[List.drop];go_wp2;all_goals first
          |(go_ret
            exact⟨by rw[HBAD.out (by rw[HCK.out,hok,HP.out];simp[HLE.out, *])];rfl,Ext.trans b2 b7⟩)
          |(go_roundw
            case rel=>exact⟨j+1+1,zO,by go_num,by rw[HSU.out,hck,HCK.out,hok,HP.out];simp[HLE.out, *],hE.trans b7⟩
            case measure=>simp[intOf];omega)
    ·have wTH:itB x.r x.val.length=false:=by simpa using hok
     have hCI:=HBAD.out (HBI.out wTH);rw[Jl wTH];clear HCK HBAD HBI HSU;go_wp2;go_ret;exact⟨by rw[hCI];rfl,Ext.trans b2 b4⟩
   ·obtain rfl:k=xs.length:=zO;go_wp2;go_ret;exact⟨by rw[hck];rfl,b1.trans hE⟩
 ·rw[decide_eq_false hab];go_enter func182,ntmps182;go_wp2;all_goals simp only[beq_eq_false_iff_ne,ne_eq] at *
  all_goals first|(exfalso;omega)|skip
  generalize hw1:(World.alloc _ _)=w1;have b1:Ext w w1:=by rw[<-hw1];exact zN _ _
  have r1:w1.heap[w.heap.size]?=some (.cells #[.int .i64 lvl,.slice A xs.length c] 113 (0,0)):=by rw[<-hw1];exact zI _ _ _ rfl
  clear hw1;go_loopw [36] (fun i wr=>∃ k:Nat,k<=xs.length/\i=.int .i64 (k:Int)/\KV false xs k=true/\Ext w1 wr) (fun i _=>xs.length-(intOf i).toNat)
  case atStart=>exact⟨0,zO,rfl,rfl,Ext.refl _⟩
  case round =>
   obtain⟨k,hk,rfl,hck,hE⟩:=hrel;by_cases hlt:k<xs.length
   ·have hCJ:=hlt;obtain⟨b,off,rfl,hb⟩:=hA zO;have b2:Ext w wr:=b1.trans hE;obtain⟨A',c',c0,c1,c2,c3,c4,hby⟩:=(HX.out.ext b2).item k hCJ;have HCK:=zH (Tz (above:=false) hCJ);have HBAD:=zH (qbc (above:=false) hCJ);have HBI:=zH (qfM (above:=false) hCJ);have HSU:=zH (GS false xs k);generalize hx:xs[k]=x at *;go_wp2_with fail;generalize hw3:(World.alloc _ _)=w3;have b3:Ext wr w3:=by rw[<-hw3];exact zN _ _
    have r3:w3.heap[wr.heap.size]?=some (.cells #[.int .u8 x.k,.int .u32 x.i,.int .u32 x.o,.int .i64 x.r,.slice A' x.val.length c'] 51 (0,0)):=by rw[<-hw3];exact zI _ _ _ rfl
    clear hw3;refine(JL x.k x.i x.o x.r A' x.val.length c' _).mono ?_;rintro e w4 ⟨rfl,hB⟩;have b4:Ext wr w4:=b3.trans hB;have r4:=qb r3 hB;clear hB r3 b3;by_cases hok:itB x.r x.val.length=true
    ·rw[JG hok];go_wp2;have b5:Ext w1 w4:=hE.trans b4;have rn:=qb r1 b5;have n1:∀ W,Ext w4 W->W.cell? ⟨w.heap.size,1,none⟩=some (.slice (some ⟨b,off,none⟩) xs.length c):=fun W h=>by rw[qa (qb rn h)];rfl
     have i0:∀ W,Ext w4 W->W.cell? ⟨wr.heap.size,0,none⟩=some (.int .u8 x.k):=fun W h=>by rw[qa (qb r4 h)];rfl
     have i1:∀ W,Ext w4 W->W.cell? ⟨wr.heap.size,1,none⟩=some (.int .u32 x.i):=fun W h=>by rw[qa (qb r4 h)];rfl
     have i2:∀ W,Ext w4 W->W.cell? ⟨wr.heap.size,2,none⟩=some (.int .u32 x.o):=fun W h=>by rw[qa (qb r4 h)];rfl
     rcases k with _|j
     ·refine zj (qM [(12,one (.bool true))]) 29 zQ zQ zQ zD zQ zQ ?st ?walk
      case st=>exact zv (by simp only[List.forall_mem_cons];exact⟨jg _,fun _ h=>by cases h⟩)
      case walk =>
       intro K hK;dsimp only[List.take];by_cases hr0:x.r=0
       ·have hr1:(x.r == 0)=true:=by simpa using hr0
        refine zB0 ?_;refine Zz (hK _ _ fun W hW hF=>?_);clear hF hK;have b7:Ext wr W:=b4.trans hW;dsimp only[List.drop];go_wp2;all_goals first
         |(go_ret
           exact⟨by rw[HBAD.out (by rw[HCK.out,hok];simp[*])];rfl,Ext.trans b2 b7⟩)
         |(go_roundw
           case rel=>exact⟨0+1,zO,by go_num,by rw[HSU.out,hck,HCK.out,hok];simp[*],hE.trans b7⟩
           case measure=>simp[intOf];omega)
       ·have hr1:(x.r == 0)=false:=by simpa using hr0
        refine zB0 ?_;refine Zz (hK _ _ fun W hW hF=>?_);clear hF hK;have b7:Ext wr W:=b4.trans hW;dsimp only[List.drop];go_wp2;all_goals first
         |(go_ret
           exact⟨by rw[HBAD.out (by rw[HCK.out,hok];simp[*])];rfl,Ext.trans b2 b7⟩)
         |(go_roundw
           case rel=>exact⟨0+1,zO,by go_num,by rw[HSU.out,hck,HCK.out,hok];simp[*],hE.trans b7⟩
           case measure=>simp[intOf];omega)
     ·have hjl:j<xs.length:=zO;obtain⟨A2,c2',d0,d1,d2,d3,d4,_⟩:=(HX.out.ext (b2.trans b4)).item j hjl;have wKO:xs[j+1-1]?=some xs[j]:=by rw[Nat.add_sub_cancel,zL hjl]
      have HP:=zH wKO;clear wKO;generalize xs[j]=y at *;have p0:∀ W,Ext w4 W->W.cell? ⟨b,off+j*5,none⟩=some (.int .u8 y.k):=fun W h=>Ext.cell h d0;have p1:∀ W,Ext w4 W->W.cell? ⟨b,off+j*5+1,none⟩=some (.int .u32 y.i):=fun W h=>Ext.cell h d1;have p2:∀ W,Ext w4 W->W.cell? ⟨b,off+j*5+2,none⟩=some (.int .u32 y.o):=fun W h=>Ext.cell h d2;clear d0 d1 d2 d3 d4;have HL:=zH (fun W=>Xf y.k y.i y.o x.k x.i x.o W);have HLE:Hid (qez y x=KC y.k y.i y.o x.k x.i x.o):=rfl;generalize KC y.k y.i y.o x.k x.i x.o=L at *;refine zj (qM [(12,one (.bool L))]) 29 zQ zQ zQ zD zQ zQ ?st ?walk
      case st=>exact zv (by simp only[List.forall_mem_cons];exact⟨jg _,fun _ h=>by cases h⟩)
      case walk =>
       intro K hK;dsimp only[List.take];refine zB0 ?_;refine qO (.pointer (some ⟨b,off+j*5,none⟩)) zA0 zA0 (fun W hW _=>⟨W,?_,Ext.refl W⟩) ?_
       ·go_simp;rw[IntWalk.i64_in (j:Int) zO,if_pos zO];simp
       refine zB0 ?_;refine QC (one (.bool L)) zA0 zA0 (fun W hW _=>?_) (fun p=>?_)
       ·refine QP ?_ ((HL.out W).mono fun e w' h=>⟨(),h.1,trivial,h.2⟩);go_simp
       cases p;simp only[Act.put,qk,qc,qg,zA,zB,zC];cases L
       ·repeat ((first|(refine qO ?_ zA0 zA0 (fun W hW _=>⟨W,?_,Ext.refl W⟩) ?_;rotate_left;(go_simp<;>with_reducible rfl))|(refine Qc zA0 ?_));try simp only[Act.put,qk,qf,qc,qg,zA,zB,zC])
        refine Zz (hK _ _ fun W hW hF=>?_);clear hF hK HL;have b7:Ext wr W:=b4.trans hW;dsimp only[List.drop];go_wp2;all_goals first
         |(go_ret
           exact⟨by rw[HBAD.out (by rw[HCK.out,hok,HP.out];simp[HLE.out, *])];rfl,Ext.trans b2 b7⟩)
         |(go_roundw
           case rel=>exact⟨j+1+1,zO,by go_num,by rw[HSU.out,hck,HCK.out,hok,HP.out];simp[HLE.out, *],hE.trans b7⟩
           case measure=>simp[intOf];omega)
       ·by_cases hr0:x.r=0
        ·have hr1:(x.r == 0)=true:=by simpa using hr0
         refine zB0 ?_;refine Zz (hK _ _ fun W hW hF=>?_);clear hF hK HL;have b7:Ext wr W:=b4.trans hW;dsimp only[List.drop];go_wp2;all_goals first
          |(go_ret
            exact⟨by rw[HBAD.out (by rw[HCK.out,hok,HP.out];simp[HLE.out, *])];rfl,Ext.trans b2 b7⟩)
          |(go_roundw
            case rel=>exact⟨j+1+1,zO,by go_num,by rw[HSU.out,hck,HCK.out,hok,HP.out];simp[HLE.out, *],hE.trans b7⟩
            case measure=>simp[intOf];omega)
        ·have hr1:(x.r == 0)=false:=by simpa using hr0
         refine zB0 ?_;refine Zz (hK _ _ fun W hW hF=>?_);clear hF hK HL;have b7:Ext wr W:=b4.trans hW;dsimp only[List.drop];go_wp2;all_goals first
          |(go_ret
            exact⟨by rw[HBAD.out (by rw[HCK.out,hok,HP.out];simp[HLE.out, *])];rfl,Ext.trans b2 b7⟩)
          |(go_roundw
            case rel=>exact⟨j+1+1,zO,by go_num,by rw[HSU.out,hck,HCK.out,hok,HP.out];simp[HLE.out, *],hE.trans b7⟩
            case measure=>simp[intOf];omega)
    ·have wTH:itB x.r x.val.length=false:=by simpa using hok
     have hCI:=HBAD.out (HBI.out wTH);rw[Jl wTH];clear HCK HBAD HBI HSU;go_wp2;go_ret;exact⟨by rw[hCI];rfl,Ext.trans b2 b4⟩
   ·obtain rfl:k=xs.length:=zO;go_wp2;go_ret;exact⟨by rw[hck];rfl,b1.trans hE⟩

def QV (l:List UInt8):Nat->Option (List It×List UInt8)
 |0=>some ([],l)
 |k+1=>match QV l k with
  |none=>none
  |some (xs,r)=>match Zd r with
   |none=>none
   |some (x,n)=>some (xs++[x],r.drop n)
def QG (l:List UInt8):Option (Int×List It):=
 if l.length=128/\qaq l=true/\(l[4]?.getD 0)=78/\(l[6]?.getD 0).toNat<=5 then
  match QV (l.drop 7) (l[6]?.getD 0).toNat with
  |none=>none
  |some (xs,r)=>if Qn (l[5]?.getD 0).toNat xs=true/\Vs r=true then some (((l[5]?.getD 0).toNat:Int),xs) else none
 else none
theorem GZ {l:List UInt8}:∀ {k:Nat} {xs:List It} {r:List UInt8},QV l k=some (xs,r)->xs.length=k:=by
 intro k;induction k with
 |zero=>intro xs r h;simp[QV] at h;simp[<-h.1]
 |succ k ih =>
  intro xs r h;unfold QV at h;split at h
  ·cases h
  ·rename_i ys q hq;split at h
   ·cases h
   ·simp at h;rw[<-h.1];simp[ih hq]
def zy (x:It):Prop:=(0<=x.k/\x.k<256)/\(0<=x.i/\x.i<4294967296)/\(0<=x.o/\x.o<4294967296)/\(0<=x.r/\x.r<256)/\x.val.length<=12
def ZB (x:It):List UInt8:=UInt8.ofNat x.k.toNat :: (qH x.i.toNat 4++(qH x.o.toNat 4++(qH x.r.toNat 2++(UInt8.ofNat x.val.length :: x.val))))
theorem Xc (x:It):(ZB x).length=12+x.val.length:=by simp[ZB,QK];omega
theorem Xi {l:List UInt8} {a k:Nat} (h:a+k<=l.length):qH (Zr l a k).toNat k=(l.drop a).take k:=by unfold Zr;rw[if_pos h];have hl:((l.drop a).take k).length=k:=zA1;have:=qcJ ((l.drop a).take k);rw[hl] at this;simpa using this
theorem Vd {l:List UInt8} {a k:Nat} (h:a+k<=l.length):0<=Zr l a k/\Zr l a k<256 ^ k:=by unfold Zr;rw[if_pos h];have:=qbI ((l.drop a).take k);have hl:((l.drop a).take k).length=k:=zA1;rw[hl] at this;refine⟨Int.natCast_nonneg _,?_⟩;have h2:((JU ((l.drop a).take k):Nat):Int)<((256 ^ k:Nat):Int):=Int.ofNat_lt.2 this;rw[Int.natCast_pow] at h2;exact h2
theorem kG (l:List UInt8) (a b:Nat):l.take (a+b)=l.take a++(l.drop a).take b:=by rw[List.take_add]
theorem Te {l:List UInt8} {x:It} {n:Nat} (h:Zd l=some (x,n)):ZB x=l.take n/\n<=l.length/\n=12+x.val.length/\zy x/\itB x.r x.val.length=true:=by
 unfold Zd at h;split at h
 ·cases h
 ·rename_i hl;split at h
  ·rename_i hb;simp only[Option.some.injEq,Prod.mk.injEq] at h;obtain⟨rfl,rfl⟩:=h;have hs:vM l=12+(l[11]?.getD 0).toNat:=rfl;have hv:(qaA l).val.length=vM l-12:=by simp[qaA];omega
   have u0:=(l[0]?.getD 0).toNat_lt;have u11:=(l[11]?.getD 0).toNat_lt;have r1:=Vd (l:=l) (a:=1) (k:=4) zO;have r5:=Vd (l:=l) (a:=5) (k:=4) zO;have r9:=Vd (l:=l) (a:=9) (k:=2) zO;have hb':=hb;simp only[itB,decide_eq_true_eq] at hb';refine⟨?_,zO,by rw[hv];omega,⟨⟨by simp[qaA],by simp[qaA];omega⟩,⟨r1.1,r1.2⟩,⟨r5.1,r5.2⟩,⟨?_,?_⟩,by rw[hv];omega⟩,by rw[hv];exact hb⟩
   ·have e1:l.take 1=[l[0]?.getD 0]:=by
     rcases l with _|⟨a,l⟩
     ·simp at hl
     ·simp
    have e11:(l.drop 11).take 1=[l[11]?.getD 0]:=by rw[List.drop_eq_getElem_cons zO,zL zO];rfl
    have:l.take (vM l)=l.take 1++((l.drop 1).take 4++((l.drop 5).take 4++((l.drop 9).take 2++((l.drop 11).take 1++(l.drop 12).take (vM l-12))))):=by
     conv=>lhs;rw[show vM l=1+(4+(4+(2+(1+(vM l-12))))) by omega]
     rw[kG l 1,kG (l.drop 1) 4,List.drop_drop,kG (l.drop (1+4)) 4,List.drop_drop,kG (l.drop (1+4+4)) 2,List.drop_drop,kG (l.drop (1+4+4+2)) 1,List.drop_drop]
    rw[this,e1,e11];unfold ZB;rw[hv];simp only[qaA];rw[Xi zO,Xi zO,Xi zO];rw[hs,Nat.add_sub_cancel_left];simp
   ·exact r9.1
   ·rcases hb'.1 with h0|h0 <;> omega
  ·cases h
def QT (xs:List It):List UInt8:=xs.flatMap ZB
theorem qcM (xs:List It) (x:It):QT (xs++[x])=QT xs++ZB x:=by simp[QT]
theorem Uf {l:List UInt8}:∀ {k:Nat} {xs:List It} {r:List UInt8},QV l k=some (xs,r)->l=QT xs++r/\∀ x∈xs,zy x/\itB x.r x.val.length=true:=by
 intro k;induction k with
 |zero=>intro xs r h;simp only[QV,Option.some.injEq,Prod.mk.injEq] at h;obtain⟨rfl,rfl⟩:=h;exact⟨rfl,fun _ h=>by cases h⟩
 |succ k ih =>
  intro xs r h;unfold QV at h;split at h
  ·cases h
  ·rename_i ys q hq;split at h
   ·cases h
   ·rename_i x n hx;simp only[Option.some.injEq,Prod.mk.injEq] at h;obtain⟨rfl,rfl⟩:=h;obtain⟨h1,h2⟩:=ih hq;obtain⟨g1,g2,g3,g4,g5⟩:=Te hx;refine⟨?_,?_⟩
    ·rw[qcM,g1,List.append_assoc,List.take_append_drop];exact h1
    ·intro y hy;rcases List.mem_append.1 hy with hy|hy
     ·exact h2 y hy
     ·obtain rfl:y=x:=by simpa using hy
      exact⟨g4,g5⟩
theorem Yc (xs:List It) (h:∀ x∈xs,zy x):(QT xs).length<=24*xs.length:=by
 induction xs with
 |nil=>simp[QT]
 |cons x r ih =>
  have h1:=ih fun y hy=>h y (by simp[hy]);have h2:=Xc x;have h3:=(h x zA2).2.2.2.2;simp only[QT,List.flatMap_cons,List.length_append,List.length_cons] at h1 ⊢;omega
def Qv (lvl:Int) (xs:List It):List UInt8:=78 :: UInt8.ofNat lvl.toNat :: UInt8.ofNat xs.length :: QT xs
theorem QR {w w':World} {base n size:Nat} {e:TypeId} {v:Value} {xs:List Value} (h:w.ownsRow base e size v n xs) (hx:Ext w w'):w'.ownsRow base e size v n xs:=by
 refine⟨h.1,?_⟩;rcases h.2 with h0|⟨g,cap,cur,hv,hb,hg,rest⟩
 ·exact .inl h0
 ·exact .inr ⟨g,cap,cur,hv,hb,qb hg hx,rest⟩
theorem Qz {w:World} {base base' n size:Nat} {e:TypeId} {v:Value} {xs:List Value} (h:w.ownsRow base e size v n xs) (hb:base'<=base):w.ownsRow base' e size v n xs:=by
 refine⟨h.1,?_⟩;rcases h.2 with h0|⟨g,cap,cur,hv,hb',rest⟩
 ·exact .inl h0
 ·exact .inr ⟨g,cap,cur,hv,Nat.le_trans hb hb',rest⟩
theorem qdR {w w':World} {B b:Nat} {o:Obj} (h:w.heap[b]?=some o) (hb:b<B) (hx:Below B w w'):w'.heap[b]?=some o:=(hx.block b hb).trans h
def Done (base:Nat) (e:TypeId) (size lo:Nat) (v:Value) (m:Nat) (ys:List Value) (v':Value) (W:World):Prop:=
 W.ownsRow base e size v' m ys/\(v'.ownBlock=v.ownBlock\/∃ g,v'.ownBlock=some g/\lo<=g)
def Kk (base:Nat) (e:TypeId) (size lo:Nat) (v:Value) (n:Nat) (xs:List Value) (m:Nat) (ys:List Value):Rel where
 rel W W':=W.grownBy W' v.ownBlock/\(W.ownsRow base e size v n xs->W'.ownsRow base e size v n xs)/\∀ v',Done base e size lo v m ys v' W->Done base e size lo v m ys v' W'
 refl' W:=⟨World.grownBy.refl _ _,id,fun _=>id⟩
 trans' h k:=⟨h.1.trans k.1,fun x=>k.2.1 (h.2.1 x),fun v' x=>k.2.2 v' (h.2.2 v' x)⟩
 drew' W:=⟨⟨rfl,rfl,rfl,zM _,fun _ _ _=>rfl⟩,fun h=>h.drew,fun v' h=>⟨h.1.drew,h.2⟩⟩
section
variable {base:Nat} {e:TypeId} {size lo:Nat} {v:Value} {n:Nat} {xs:List Value} {m:Nat} {ys:List Value}
theorem Zk {W W':World} (h:Ext W W') (row:Option Nat):W.grownBy W' row:=⟨h.os,h.tape,h.output,h.size,fun k hk _=>h.block k hk⟩
theorem Tr {W W':World} (h:Ext W W'):(Kk base e size lo v n xs m ys).r W W':=
 ⟨Zk h _,fun x=>QR x h,fun _ x=>⟨QR x.1 h,x.2⟩⟩
theorem jZ {W W':World} (h:(Kk base e size lo v n xs m ys).r W W') {p:Addr} {u:Value} (hp:v.ownBlock≠some p.block) (hc:W.cell? p=some u):W'.cell? p=some u:=
 World.grownBy.cell h.1 hc (fun x=>hp x.symm)
theorem VO {W W':World} (h:(Kk base e size lo v n xs m ys).r W W') {b:Nat} {o:Obj} (hp:v.ownBlock≠some b) (hc:W.heap[b]?=some o):W'.heap[b]?=some o:=
 (h.1.block b (zG.1 hc).1 (fun x=>hp x.symm)).trans hc
theorem Yp {w:World} {g cap m:Nat} {news:List Value} (h:w.ownsRow base e size (.slice (some ⟨g,0,none⟩) (n+m) cap) (n+m) (xs++news)) (hx:xs.length=n*size):w.ownsRow base e size (.slice (some ⟨g,0,none⟩) n cap) n xs:=by
 refine⟨hx,?_⟩;rcases h.2 with ⟨h0,_⟩|⟨g',cap',cur,hv,hb,hg,hnc,hcm,hcs,htk⟩
 ·simp at h0
 ·simp only[Value.slice.injEq,Option.some.injEq,Addr.mk.injEq,and_true,true_and] at hv;obtain⟨rfl,rfl⟩:=hv;refine .inr ⟨g,cap,cur,rfl,hb,hg,zO,hcm,hcs,?_⟩;have:cur.toList.take (n*size)=(cur.toList.take ((n+m)*size)).take (n*size):=by rw[List.take_take,Nat.min_eq_left (Nat.mul_le_mul_right _ (Nat.le_add_right _ _))]
  rw[this,htk,<-hx,List.take_left]
theorem YF {P:Program} (W:World) (t ty:TypeId) (i:TypeInfo) (z:Value) (bytes:Nat) (ht:P.underlying t=some (.slice e)) (hi:P.info? e=some i) (hz:i.zero=some z) (hLX:i.size=size) (hby:i.bytes=bytes) (hzs:z.cells.size=size) (hsz:0<size) (hBQ:W.ownsRow base e size v n xs) (a:Addr) (k c:Nat) (news:List Value) (hl:news.length=k*size) (wCE:∀ j u,news[j]?=some u->W.cell? (a.add j)=some u) (h1:∀ u∈news,u.oneCell'=true) (hn:n+k<1073741824) (hNC:bytes<=65536) (hUC:base<=W.heap.size) (hlo:lo<=W.heap.size) : ∃ v' w',(Builtin.append_ #[t,t] ty #[v,.slice (some a) k c]).run P W=.ok v' w'/\Done base e size lo v (n+k) (xs++news) v' w'/\(Kk base e size lo v n xs (n+k) (xs++news)).r W w':=by
 have hb:(n+k)*bytes<=140737488355328:=Nat.le_trans (Nat.mul_le_mul_left _ hNC) zO;have hm:n+k<=maxLen:=zA6;obtain⟨v',w',hr,h2,h3,_,h5⟩:=run_append_own_at (P:=P) W base t ty e i z size bytes ht hi hz hLX hby hzs hsz v n xs hBQ a k c news hl wCE h1 hm hb hUC;have hD:Done base e size lo v (n+k) (xs++news) v' w':=⟨h2,h5.imp id fun e=>⟨_,e,hlo⟩⟩
 rcases hBQ.2 with ⟨rfl,rfl⟩|⟨g,cap,cur,rfl,hbg,hg,hnc,hcm,hcs,htk⟩
 ·exact⟨v',w',hr,hD,Tr ⟨h3.os,h3.tape,h3.output,h3.size,fun k hk=>h3.block k hk (by simp[Value.ownBlock])⟩⟩
 ·by_cases hroom:n+k<=cap
  ·obtain⟨w2,hr2,g2,g3⟩:=run_append_fits (P:=P) W base t ty e i size ht hi hLX g n cap xs hBQ a k c news hl wCE h1 hroom;refine⟨_,w2,hr2,⟨g2,.inl rfl⟩,g3,fun _=>Yp g2 hBQ.1,fun u hu=>⟨?_,hu.2⟩⟩;rcases hu.1.2 with h0|⟨g',cap',cur',rfl,wZM,hg',xAT,wZT,wSG,xBI⟩
   ·exact⟨hu.1.1,.inl h0⟩
   ·by_cases hgg:g'=g
    ·subst hgg;rw[hg] at hg';simp only[Option.some.injEq,Obj.cells.injEq] at hg';obtain⟨rfl,_⟩:=hg';obtain rfl:cap'=cap:=by
      have:cap'*size=cap*size:=by rw[<-wSG,<-hcs]
      exact Nat.eq_of_mul_eq_mul_right hsz this
     exact g2
    ·exact⟨hu.1.1,.inr ⟨g',cap',cur',rfl,wZM,(g3.block g' (zG.1 hg').1 (by simpa using hgg)).trans hg',xAT,wZT,wSG,xBI⟩⟩
  ·have holds:∀ j u,xs[j]?=some u->W.cell? ((⟨g,0,none⟩:Addr).add j)=some u:=hBQ.cells (g:=g) rfl;subst hLX;subst hby;have hr':=run_append_grow (P:=P) W t ty e i z ht hi hz ⟨g,0,none⟩ n cap xs hBQ.1 holds a k c news hl wCE zO (by unfold maxLen at hm;omega) (growslice_fits zO hb);rw[hr] at hr';cases hr';exact⟨_,_,hr,hD,Tr ((Ext.drew W).trans (zN _ _))⟩
def UA (base:Nat) (e:TypeId) (size lo:Nat) (v:Value) (m:Nat) (ys:List Value):Qe:=⟨Value,fun u=>u,fun u W=>Done base e size lo v m ys u W⟩
theorem QJ (base:Nat) (e:TypeId) (size lo:Nat) (v:Value) (m:Nat) (ys:List Value) (u:Value):(UA base e size lo v m ys).f u=u:=rfl
theorem qbN:∀ p,qJ (Kk base e size lo v n xs m ys) ((UA base e size lo v m ys).φ p):=fun p _ _ he h=>he.2.2 p h
def jh (lo n:Nat) (ty:TypeId) (cs:Array Value):Qe:=⟨Nat,fun b=>.slice (some ⟨b,0,none⟩) n n,fun b W=>W.heap[b]?=some (.cells cs ty (0,0))/\lo<=b⟩
theorem qv (lo n:Nat) (ty:TypeId) (cs:Array Value) (b:Nat):(jh lo n ty cs).f b=.slice (some ⟨b,0,none⟩) n n:=rfl
theorem jP (lo n:Nat) (ty:TypeId) (cs:Array Value):∀ p,QW ((jh lo n ty cs).φ p):=fun p W W' he h =>
 ⟨(Below.block he p (zG.1 h.1).1).trans h.1,h.2⟩
theorem Xk {lo' n':Nat} {ty:TypeId} {cs:Array Value} (hlo:∀ g,v.ownBlock=some g->g<lo'):∀ p,qJ (Kk base e size lo v n xs m ys) ((jh lo' n' ty cs).φ p):=fun p _ _ he h =>
 ⟨VO he (fun x=>by have:=hlo p x;have:=h.2;omega) h.1,h.2⟩
theorem KZ {P:Program} {o:Oper} {a:Act} {W:World} {lo' n':Nat} {ty:TypeId} {cs:Array Value} (hr:(execOp a.eval o).run P W=.ok (.value (.slice (some ⟨W.heap.size,0,none⟩) n' n')) (W.alloc (.cells cs ty))) (hlo:lo'<=W.heap.size):vc P o a W (jh lo' n' ty cs):=by
 unfold vc;rw[hr];exact⟨W.heap.size,rfl,⟨zI _ _ _ rfl,hlo⟩,zN _ _⟩
theorem GW {P:Program} {o:Oper} {a:Act} {W:World} {lo' n':Nat} {ty:TypeId} {cs:Array Value} (hr:(execOp a.eval o).run P W=.ok (.value (.slice (some ⟨W.heap.size,0,none⟩) n' n')) (W.alloc (.cells cs ty))) (hlo:lo'<=W.heap.size):QA (Kk base e size lo v n xs m ys) P o a W (jh lo' n' ty cs):=by
 unfold QA;rw[hr];exact⟨W.heap.size,rfl,⟨zI _ _ _ rfl,hlo⟩,Tr (zN _ _)⟩
theorem qcc {W:World} {b:Nat} {cs:Array Value} {t:TypeId} (h:W.heap[b]?=some (.cells cs t (0,0))):∀ j u,cs.toList[j]?=some u->W.cell? ((⟨b,0,none⟩:Addr).add j)=some u:=by
 intro j u hj;have h2:W.cell? ⟨b,0+j,none⟩=some u:=by rw[qa h];simpa using hj
 rw[<-h2];unfold Addr.add;split
 ·subst_vars;rfl
 ·rfl
theorem jE {w:World} {base n size:Nat} {e:TypeId} {v:Value} {xs:List Value} (h:w.ownsRow base e size v n xs) {p:Addr} (hp:p.block<base) (u:Value):(w.setCell p u).ownsRow base e size v n xs:=by
 refine⟨h.1,?_⟩;rcases h.2 with h0|⟨g,cap,cur,hv,hb,hg,rest⟩
 ·exact .inl h0
 ·exact .inr ⟨g,cap,cur,hv,hb,(zJ _ _ _ _ zO).trans hg,rest⟩
end
def vB (v u:Value):Prop:=∀ a n c,u=.slice (some a) n c->0<n->v.ownBlock≠some a.block
theorem Bys.grown {w w':World} {u:Value} {l:List UInt8} {row:Option Nat} (h:Bys w w.heap.size u l) (hg:w.grownBy w' row) (ha:∀ a n c,u=.slice (some a) n c->0<n->row≠some a.block):Bys w' w'.heap.size u l:=by obtain⟨A,c,e,hc,hm,hr⟩:=h;refine⟨A,c,e,hc,hm,hr.1,fun hn=>?_⟩;obtain⟨b,off,rfl,hb,hBX⟩:=hr.2 hn;refine⟨b,off,rfl,Nat.lt_of_lt_of_le hb hg.size,fun j x hx=>?_⟩;exact World.grownBy.cell hg (hBX j x hx) (fun x=>ha _ _ _ e hn x.symm)
theorem vB.of_from {v u:Value} {lo:Nat} (hf:Zv lo u) (hv:∀ g,v.ownBlock=some g->g<lo):vB v u:=by intro a n c e _ hx;have:=hv _ hx;have:=hf a n c e;omega
theorem QZ {w:World} {base n size:Nat} {e:TypeId} {v:Value} {xs:List Value} (h:w.ownsRow base e size v n xs):∀ g,v.ownBlock=some g->base<=g/\g<w.heap.size:=by
 intro g hg;rcases h.2 with ⟨rfl,_⟩|⟨g',cap,cur,rfl,hb,hg',_⟩
 ·simp[Value.ownBlock] at hg
 ·simp only[Value.ownBlock,Option.some.injEq] at hg;subst hg;exact⟨hb,(zG.1 hg').1⟩
theorem qB {w:World} {base n size:Nat} {e:TypeId} {v:Value} {xs:List Value} (h:w.ownsRow base e size v n xs):∃ A c,v=.slice A n c/\n<=c/\c<=maxLen:=by
 rcases h.2 with ⟨rfl,h0⟩|⟨g,cap,cur,rfl,_,_,hnc,hcm,_⟩
 ·exact⟨none,0,by rw[h0],zO,by simp[maxLen]⟩
 ·exact⟨_,cap,rfl,hnc,hcm⟩
def je (lo:Nat) (w:World) (v:Value) (xs:List It):Prop:=
 ∃ ps:List (It×Value),ps.map (·.1)=xs/\(∃ A c,v=.slice A xs.length c/\xs.length<=c/\c<=maxLen/\Rd w w.heap.size 5 A xs.length (Qd ps))/\(∀ p∈ps,(∃ A c,p.2=.slice A p.1.val.length c)/\Bys w w.heap.size p.2 p.1.val)/\Zv lo v/\∀ p∈ps,Zv lo p.2
theorem je.its {lo:Nat} {w:World} {v:Value} {xs:List It} (h:je lo w v xs):Its w w.heap.size v xs:=by obtain⟨ps,h1,h2,h3,_⟩:=h;exact⟨ps,h1,h2,h3⟩
theorem je.mono {lo lo':Nat} {w:World} {v:Value} {xs:List It} (h:je lo w v xs) (hl:lo'<=lo):je lo' w v xs:=by obtain⟨ps,h1,h2,h3,h4,h5⟩:=h;exact⟨ps,h1,h2,h3,h4.mono hl,fun p hp=>(h5 p hp).mono hl⟩
theorem je.keep {lo:Nat} {w w':World} {v:Value} {xs:List It} (h:je lo w v xs) (hs:w.heap.size<=w'.heap.size) (hk:∀ p:Addr,lo<=p.block->p.block<w.heap.size->w'.cell? p=w.cell? p):je lo w' v xs:=by
 have key:∀ {size n:Nat} {A:OA} {us:List Value} {c:Nat},Rd w w.heap.size size A n us->Zv lo (.slice A n c)->Rd w' w'.heap.size size A n us:=by intro size n A us c hr hf;refine⟨hr.1,fun hn=>?_⟩;obtain⟨b,off,rfl,hb,hBX⟩:=hr.2 hn;exact⟨b,off,rfl,Nat.lt_of_lt_of_le hb hs,fun j x hx=>(hk ⟨b,off+j,none⟩ (hf ⟨b,off,none⟩ _ _ rfl) hb).trans (hBX j x hx)⟩
 obtain⟨ps,h1,⟨A,c,e,h2,h3,h4⟩,h5,h6,h7⟩:=h;refine⟨ps,h1,⟨A,c,e,h2,h3,key h4 (by rw[<-e];exact h6)⟩,fun p hp=>⟨(h5 p hp).1,?_⟩,h6,h7⟩;obtain⟨_,A',c',e',g2,g3,g4⟩:=h5 p hp;exact⟨A',c',e',g2,g3,key g4 (by rw[<-e'];exact h7 p hp)⟩
theorem je.ext {lo:Nat} {w w':World} {v:Value} {xs:List It} (h:je lo w v xs) (hx:Ext w w'):je lo w' v xs:=h.keep hx.size fun _ _ hp=>Below.cell hx hp
abbrev qbu (x:It) (u:Value):List Value:=[.int .u8 x.k,.int .u32 x.i,.int .u32 x.o,.int .i64 x.r,u]
theorem qfJ (ps:List (It×Value)) (x:It) (u:Value):Qd (ps++[(x,u)])=Qd ps++qbu x u:=by rw[vQ];rfl
def YI (base lo:Nat) (w:World) (v:Value) (ps:List (It×Value)):Prop:=
 w.ownsRow base 51 5 v ps.length (Qd ps)/\∀ p∈ps,((∃ A c,p.2=.slice A p.1.val.length c)/\Zv lo p.2)/\Bys w w.heap.size p.2 p.1.val/\vB v p.2
theorem YI.nil (base lo:Nat) (w:World):YI base lo w (.slice none 0 0) []:=⟨World.ownsRow_nil _ _ _ _,fun _ h=>by cases h⟩
theorem YI.ext {base lo:Nat} {w w':World} {v:Value} {ps:List (It×Value)} (h:YI base lo w v ps) (hx:Ext w w'):YI base lo w' v ps:=
 ⟨QR h.1 hx,fun p hp=>⟨(h.2 p hp).1,((h.2 p hp).2.1.below hx).more hx.size,(h.2 p hp).2.2⟩⟩
theorem YI.push {base lo lo2:Nat} {w W:World} {v v':Value} {ps:List (It×Value)} (h:YI base lo w v ps) (x:It) (A c) (hb:Bys w w.heap.size (.slice A x.val.length c) x.val) (hf:Zv lo (.slice A x.val.length c)) (ha:vB v (.slice A x.val.length c)) (hl:lo2=w.heap.size) (hD:Done base 51 5 lo2 v (ps.length+1) (Qd ps++qbu x (.slice A x.val.length c)) v' W) (hg:w.grownBy W v.ownBlock):YI base lo W v' (ps++[(x,.slice A x.val.length c)]):=by
 subst hl;refine⟨by rw[qfJ,List.length_append];exact hD.1,?_⟩;have key:∀ u l,Bys w w.heap.size u l->vB v u->Bys W W.heap.size u l/\vB v' u:=by
  intro u l hu hau;refine⟨hu.grown hg hau,fun a n c e hn=>?_⟩;rcases hD.2 with h1|⟨g,h1,h2⟩
  ·rw[h1];exact hau a n c e hn
  ·rw[h1];intro hx;simp only[Option.some.injEq] at hx;obtain⟨A',c',e',_,_,hr⟩:=hu;rw[e] at e';simp only[Value.slice.injEq] at e';obtain⟨e1,e2,_⟩:=e';obtain⟨b,off,e3,hbb,_⟩:=hr.2 zO;rw[<-e1] at e3;simp only[Option.some.injEq] at e3;rw[e3] at hx;simp at hx;omega
 intro p hp;rcases List.mem_append.1 hp with hp|hp
 ·have:=h.2 p hp;exact⟨this.1,key _ _ this.2.1 this.2.2⟩
 ·obtain rfl:p=(x,.slice A x.val.length c):=by simpa using hp
  exact⟨⟨⟨_,_,rfl⟩,hf⟩,key _ _ hb ha⟩
theorem YI.setCell {base lo:Nat} {w:World} {v:Value} {ps:List (It×Value)} (h:YI base lo w v ps) {p:Addr} (hp:p.block<base) (hl:p.block<lo) (u:Value):YI base lo (w.setCell p u) v ps:=
 ⟨jE h.1 hp u,fun q hq=>⟨(h.2 q hq).1,by simpa using (h.2 q hq).2.1.setCell (h.2 q hq).1.2 hl u,(h.2 q hq).2.2⟩⟩
theorem YI.its {base lo:Nat} {w:World} {v:Value} {ps:List (It×Value)} (h:YI base lo w v ps) (hl:lo<=base):je lo w v (ps.map (·.1))/\∃ A c,v=.slice A ps.length c:=by
 have hf:Zv base v:=Zv.of_own h.1;obtain⟨A,c,e,h1,h2⟩:∃ A c,v=.slice A ps.length c/\ps.length<=c/\c<=maxLen:=by
  rcases h.1.2 with ⟨rfl,h0⟩|⟨g,cap,cur,rfl,_,_,hnc,hcm,_⟩
  ·exact⟨none,0,by rw[h0],zO,by simp[maxLen]⟩
  ·exact⟨_,cap,rfl,hnc,hcm⟩
 refine⟨⟨ps,rfl,⟨A,c,by rw[List.length_map];exact e,by rw[List.length_map];exact h1,h2,?_⟩,fun p hp=>⟨(h.2 p hp).1.1,(h.2 p hp).2.1⟩,hf.mono hl,fun p hp=>(h.2 p hp).1.2⟩,A,c,e⟩;rw[List.length_map];have:=h.1;rw[e] at this;exact Rd.of_own this
theorem Uh {w:World} {lo:Nat} {xs:List It} {A:OA} {n' c':Nat} (h:je lo w (.slice A n' c') xs) (b off n c:Nat) (j:Nat) (e:(Value.slice A n' c')=.slice (some ⟨b,off,none⟩) n c) (hn:0<n):lo<=(⟨b,j,none⟩:Addr).block:=by obtain⟨ps,h1,h2,h3,h4,h5⟩:=h;exact h4 ⟨b,off,none⟩ _ _ e
theorem qew {l:List UInt8} {k:Nat} (h:QV l k=none):∀ m,k<=m->QV l m=none:=by
 intro m hm;induction m with
 |zero =>
  obtain rfl:k=0:=zO;exact h
 |succ m ih =>
  rcases Nat.lt_or_ge k (m+1) with h'|h'
  ·unfold QV;rw[ih zO]
  ·obtain rfl:k=m+1:=zO;exact h
theorem Ug {l r:List UInt8} {k:Nat} {xs:List It} (h:QV l k=some (xs,r)):QV l (k+1)=match Zd r with|none=>none|some (x,n)=>some (xs++[x],r.drop n):=by
 conv=>lhs;unfold QV
 rw[h] <;> rfl
theorem qgi {l r:List UInt8} {k:Nat} {xs:List It} (h:QV l k=some (xs,r)) (hr:Zd r=none):∀ m,k<m->QV l m=none:=by
 intro m hm;have:QV l (k+1)=none:=by rw[Ug h,hr]
 exact qew this m zO
theorem Ue {l r:List UInt8} {k n:Nat} {xs:List It} {x:It} (h:QV l k=some (xs,r)) (hr:Zd r=some (x,n)):QV l (k+1)=some (xs++[x],r.drop n):=by rw[Ug h,hr]
def Yk (p0 p1 p2:Nat) (l7:List UInt8):Option (Int×List It):=
 if p0=78/\p2<=5 then
  match QV l7 p2 with
  |none=>none
  |some (xs,r)=>if Qn p1 xs=true/\Vs r=true then some ((p1:Int),xs) else none
 else none
theorem qai {l:List UInt8} (hl:l.length=128) (hs:qaq l=true):QG l=Yk (l[4]?.getD 0).toNat (l[5]?.getD 0).toNat (l[6]?.getD 0).toNat (l.drop 7):=by
 unfold QG Yk;have:(l[4]?.getD 0)=78↔(l[4]?.getD 0).toNat=78:=by
  constructor
  ·intro h;rw[h];rfl
  ·intro h;exact UInt8.toNat.inj h
 simp only[hl,hs,this,true_and] <;> rfl
theorem qgv {p0 p1 p2:Nat} {l7:List UInt8} (h:¬(p0=78/\p2<=5)):Yk p0 p1 p2 l7=none:=by unfold Yk;rw[if_neg h]
theorem qgw {p1 p2:Nat} {l7:List UInt8} (h:QV l7 p2=none):Yk 78 p1 p2 l7=none:=by
 unfold Yk;split
 ·rw[h]
 ·rfl
theorem qah {p1 p2:Nat} {l7 r:List UInt8} {xs:List It} (h2:p2<=5) (h:QV l7 p2=some (xs,r)):Yk 78 p1 p2 l7=if Qn p1 xs=true/\Vs r=true then some ((p1:Int),xs) else none:=by unfold Yk;rw[if_pos ⟨rfl,h2⟩,h]
theorem Yd {l r:List UInt8} {k:Nat} {xs:List It} (h:QV l k=some (xs,r)) (hk:k<=5) (hl:l.length=121):0<r.length/\r.length<=121:=by
 obtain⟨e,hx⟩:=Uf h;have h1:=Yc xs fun x hx'=>(hx x hx').1;have h2:=GZ h;have h3:l.length=(QT xs).length+r.length:=by rw[e,List.length_append]
 omega
def qdk (lo:Nat) (q:Option (Int×List It)) (u:Value) (W:World):Prop:=
 match q with
 |none=>∃ e:Int,e≠0/\u=.tuple #[jU 0 none 0 0,.int .i64 e]
 |some (lvl,xs)=>∃ A c,u=.tuple #[jU lvl A xs.length c,.int .i64 0]/\je lo W (.slice A xs.length c) xs
def NzI (W:World) (v:Value):Prop:=∀ b off n c i u,v=.slice (some ⟨b,off,none⟩) n c->i<n->W.cell? ⟨b,off+i*5+4,none⟩=some u->Nz W u
theorem NzI.keep {W W':World} {v:Value} (h:NzI W v) (hc:∀ b off n c,v=.slice (some ⟨b,off,none⟩) n c->0<n->∀ j,W'.cell? ⟨b,j,none⟩=W.cell? ⟨b,j,none⟩) (hn:∀ u,Nz W u->Nz W' u):NzI W' v:=fun b off n c i u e hi hu =>
 hn u (h b off n c i u e hi (by rw[<-hc b off n c e zO];exact hu))
theorem NzI.ext {W W':World} {v:Value} (h:NzI W v) (hx:Ext W W') (hb:∀ b off n c,v=.slice (some ⟨b,off,none⟩) n c->0<n->b<W.heap.size):NzI W' v:=
 h.keep (fun b off n c e hn j=>Below.cell hx (p:=⟨b,j,none⟩) (hb b off n c e hn)) fun u hu=>hu.ext hx
theorem YI.nzi {base lo:Nat} {w:World} {v:Value} {ps:List (It×Value)} (h:YI base lo w v ps) (hz:∀ p∈ps,Nz w p.2):NzI w v:=fun b off n c i u e hi hu=>by subst e;obtain⟨A,c',e',-⟩:=qB h.1;simp only[Value.slice.injEq] at e';obtain⟨rfl,rfl,rfl⟩:=e';have h1:=(Rd.of_own h.1).2 zO;obtain⟨b',off',e,-,hBX⟩:=h1;simp only[Option.some.injEq,Addr.mk.injEq,and_true] at e;obtain⟨rfl,rfl⟩:=e;have h2:=hBX (i*5+4) _ (VG ps i hi).2.2.2.2;rw[<-Nat.add_assoc,hu] at h2;rw[Option.some.inj h2];exact hz _ (List.getElem_mem hi)
theorem nz_push {w W:World} {v:Value} {ps:List (It×Value)} {base lo:Nat} (h:YI base lo w v ps) (hz:∀ p∈ps,Nz w p.2) {x:It} {u:Value} (hu:Nz w u) (ha:vB v u) (hg:w.grownBy W v.ownBlock) (q:Addr) (t:Value):∀ p∈ps++[(x,u)],Nz (W.setCell q t) p.2:=by
 have key:∀ u,Nz w u->vB v u->Nz (W.setCell q t) u:=fun u hu hau=>Nz.setCell (fun a n c e hn=>by obtain⟨cs,ty,hr⟩:=hu a n c e hn;exact⟨cs,ty,(hg.block a.block (zG.1 hr).1 (fun x=>hau a n c e hn x.symm)).trans hr⟩) q t;intro p hp;rcases List.mem_append.1 hp with hp|hp
 ·exact key _ (hz p hp) (h.2 p hp).2.2
 ·obtain rfl:p=(x,u):=by simpa using hp
  exact key _ hu ha
def GJ (lo:Nat) (q:Option (Int×List It)) (u:Value) (W:World):Prop:=
 match q with
 |none=>∃ e:Int,e≠0/\u=.tuple #[jU 0 none 0 0,.int .i64 e]
 |some (lvl,xs)=>∃ A c,u=.tuple #[jU lvl A xs.length c,.int .i64 0]/\je lo W (.slice A xs.length c) xs/\NzI W (.slice A xs.length c)
theorem GJ.nodeP {lo:Nat} {q:Option (Int×List It)} {u:Value} {W:World} (h:GJ lo q u W):qdk lo q u W:=by
 rcases q with _|⟨lvl,xs⟩
 ·exact h
 ·obtain⟨A,c,h1,h2,-⟩:=h;exact⟨A,c,h1,h2⟩
theorem VV (lvl:Int) (A n c) (xs:List It) (w:World) (hx:Its w w.heap.size (.slice A n c) xs):Calls prog 182 #[jU lvl A n c] w (Ret (.int .i64 (Jz (Qn lvl xs))) w):=by
 by_cases h:Jq lvl n=true
 ·exact qid lvl A n c xs w hx h
 ·have hn:n=xs.length:=hx.at_.1;have h':Jq lvl n=false:=by simpa using h
  have:Qn lvl xs=false:=by unfold Qn;rw[<-hn,h'];rfl
  rw[this];exact qgu lvl A n c h' w
theorem Tryz.info_item:(Tryz.prog.info? 51).map (fun i=>(i.zero,i.size,i.bytes))=some (some (.agg #[.int .u8 0,.int .u32 0,.int .u32 0,.int .i64 0,.slice none 0 0]),5,48):=zQ
abbrev Vu (e:Int):Value:=.tuple #[jU 0 none 0 0,.int .i64 e]
set_option maxRecDepth 100000 in
theorem qbG (v:Value) (l:List UInt8) (w:World) (h:Bys w w.heap.size v l):Calls prog 136 #[v] w (zF (GJ w.heap.size (QG l)) w):=by
 by_cases hl:l.length=128
 case neg =>
  have hq:QG l=none:=by unfold QG;rw[if_neg (fun x=>hl x.1)]
  rw[hq];have HO:=zH (fun W hW=>open_len v l hl W hW);go_enter func136,ntmps136;go_wp2_with fail;generalize hw1:(World.alloc _ _)=w1;have b1:Ext w w1:=by rw[<-hw1];exact zN _ _
  have r1:w1.heap[w.heap.size]?=some (.cells #[.int .i64 0,.slice none 0 0] 113 (0,0)):=by rw[<-hw1];exact zI _ _ _ rfl
  clear hw1;refine(HO.out _ ((h.below b1).more b1.size)).mono ?_;rintro e w2 ⟨rfl,hB⟩;have b2:Below w.heap.size w w2:=Ext.trans b1 hB;have r2:=qb r1 hB;have k2:=qa r2;have f2:=qd r2;go_wp2;refine bodyPost_ret (v:=Vu 3) (by simp[results,results136,go_sem,k2]) rfl ⟨_,rfl,⟨3,zD,rfl⟩,zA4⟩
 case pos =>
  have HO:=zH (fun W hW=>open_any v l hl W hW);generalize hR:QG l=R;replace hR:=zH hR.symm;go_enter func136,ntmps136;go_wp2_with fail;generalize hw1:(World.alloc _ _)=w1;have b1:Ext w w1:=by rw[<-hw1];exact zN _ _
  have r1:w1.heap[w.heap.size]?=some (.cells #[.int .i64 0,.slice none 0 0] 113 (0,0)):=by rw[<-hw1];exact zI _ _ _ rfl
  clear hw1;refine(HO.out _ ((h.below b1).more b1.size)).mono ?_;clear HO h;rintro e w2 ⟨u,rfl,hu,hB⟩;have b2:Ext w w2:=Ext.trans b1 hB;have r2:=qb r1 hB;have s1:w.heap.size<w1.heap.size:=(zG.1 r1).1;by_cases hs:qaq l=true
  case neg =>
   have hs':qaq l=false:=by simpa using hs
   obtain rfl:R=none:=by rw[hR.out];unfold QG;rw[if_neg (fun x=>hs x.2.1)]
   rw[hs'] at hu;simp only[Bool.false_eq_true,if_false] at hu;subst hu;clear b1 r1 hB hR hs hs';have b2':Below w.heap.size w w2:=b2;have k2:=qa r2;have f2:=qd r2;go_wp2;refine bodyPost_ret (v:=Vu 8) (by simp[results,results136,go_sem,k2]) rfl ⟨_,rfl,⟨8,zD,rfl⟩,zA4⟩
  case pos =>
   rw[hs,if_pos rfl] at hu;obtain⟨u',rfl,A,c,rfl,hb,hf⟩:=hu;have hb3:(l.drop 4).length=124:=zA1;obtain⟨_,hc,hm,hA⟩:=hb.at_;obtain⟨b,off,rfl,hbl⟩:=hA zO;have hBX:∀ j,j<124->w2.cell? ⟨b,off+j,none⟩=some (.int .u8 ((l[4+j]?.getD 0).toNat:Int)):=by intro j hj;obtain⟨A,c',e,_,_,hr⟩:=hb;simp only[Value.slice.injEq] at e;obtain⟨rfl,_,rfl⟩:=e;obtain⟨b',off',e,_,hBX⟩:=hr.2 zO;simp only[Option.some.injEq,Addr.mk.injEq,and_true] at e;obtain⟨rfl,rfl⟩:=e;refine hBX j _ ?_;rw[List.getElem?_map,List.getElem?_drop,zL zO];rfl
   have c0:=hBX 0 zO;have c1:=hBX 1 zO;have c2:=hBX 2 zO;have wYH:Bys w2 w2.heap.size (.slice (some ⟨b,off+3,none⟩) 121 (c-3)) (l.drop 7):=by
    have:=hb.sub (a:=3) (k:=121) zO
    rwa [List.drop_drop,List.take_of_length_le zA1] at this
   have hN:R=Yk (l[4]?.getD 0).toNat (l[5]?.getD 0).toNat (l[6]?.getD 0).toNat (l.drop 7):=by rw[hR.out];exact qai hl hs
   have hl7:(l.drop 7).length=121:=zA1;have u1:=(l[5]?.getD 0).toNat_lt;have u2:=(l[6]?.getD 0).toNat_lt;clear hBX hb hA hB r1 b1 hf hb3;rw[Nat.add_zero] at c0;clear hR;replace hN:=zH hN;generalize (l[4]?.getD 0).toNat=p0 at *;generalize (l[5]?.getD 0).toNat=p1 at *;generalize (l[6]?.getD 0).toNat=p2 at *;generalize l.drop 7=l7 at *;unfold maxLen at hm;have s2:w.heap.size<w2.heap.size:=(zG.1 r2).1;have k2:=qa r2;have f2:=qd r2;have b2':Below w.heap.size w w2:=b2;by_cases hhd:p0=78/\p2<=5
   case neg =>
    obtain rfl:R=none:=by rw[hN.out,qgv hhd]
    clear hN;go_wp2;all_goals try simp only[beq_iff_eq,beq_eq_false_iff_ne,ne_eq] at *
    all_goals first|(exfalso;omega)|skip
    all_goals
     generalize hwf:(World.alloc _ _)=wf;have rf:wf.heap[w.heap.size]?=some (.cells #[.int .i64 0,.slice none 0 0] 113 (0,0)):=by rw[<-hwf];exact(zK _ _ _ (by simpa using s2)).trans (qi (qi r2 0 _) 1 _)
     have bf:Below w.heap.size w wf:=by rw[<-hwf];exact(by repeat' (first|with_reducible exact Below.refl _ _|with_reducible assumption|with_reducible apply Below.drew|with_reducible apply qN|with_reducible refine Below.alloc ?_ ?_ _|with_reducible refine Below.setCell ?_ ?_ _|(simp;done)|(simp;omega)|omega))
     have kf:=qa rf;exact bodyPost_ret (v:=Vu 8) (by simp[results,results136,go_sem,kf]) rfl ⟨_,rfl,⟨8,zD,rfl⟩,bf⟩
   case pos =>
    obtain⟨rfl,hp2⟩:=hhd;have hN2:=zH (fun h=>hN.out.trans (@qgw p1 p2 l7 h));have hN3:=zH (fun r xs h=>hN.out.trans (@qah p1 p2 l7 r xs hp2 h));clear hN;go_wp2;generalize hw3:(World.alloc _ _)=w3;have b3:Ext w2 w3:=by rw[<-hw3];exact zN _ _
    have r3:w3.heap[w2.heap.size]?=some (.cells #[.int .i64 p1,.slice none 0 0] 113 (0,0)):=by rw[<-hw3];exact zI _ _ _ rfl
    have hre:Bys w3 w2.heap.size (.slice (some ⟨b,off+3,none⟩) 121 (c-3)) l7:=wYH.below b3;have rr3:=qb r2 b3;have b23:Below w2.heap.size w2 w3:=b3;clear hw3 wYH k2 f2 r2 c0 c1 hbl;generalize hnb:w2.heap.size=nb at *;go_loopw [7,42] (fun rs i wr=>∃ (k:Nat) (xs:List It) (r:List UInt8) (o cc:Nat) (v:Value) (ps:List (It×Value)),k<=p2/\i=.int .u8 (k:Int)/\QV l7 k=some (xs,r)/\rs=.slice (some ⟨b,o,none⟩) r.length cc/\Bys w3 nb rs r /\
      wr.heap[nb]?=some (.cells #[.int .i64 p1,v] 113 (0,0))/\YI (nb+1) (nb+1) wr v ps/\ps.map (·.1)=xs/\Below nb w3 wr/\∀ p∈ps,Nz wr p.2) (fun _ i _=>p2-(intOf i).toNat)
    case atStart=>exact⟨0,[],l7,off+3,c-3,.slice none 0 0,[],zO,rfl,rfl,by rw[hl7],hre,r3,YI.nil _ _ _,rfl,Below.refl _ _,fun _ h=>by cases h⟩
    case round =>
     obtain⟨k,xs,r,o,cc,v1,ps,hk,rfl,hCL,rfl,hbr,rn,hCA,hps,hB,hnz⟩:=hrel;replace hnz:=zH hnz;by_cases hlt:k<p2
     ·have hCJ:=hlt;have hsn:nb<wr.heap.size:=(zG.1 rn).1;have hrl:=Yd hCL zO hl7;have wSC:Bys wr wr.heap.size (.slice (some ⟨b,o,none⟩) r.length cc) r:=(hbr.below hB).more zO;have hat:=hbr.at_;have HR:=zH (qhO _ r zO wr wSC);have HBAD:=zH (fun h=>hN2.out (qgi hCL h p2 hCJ));have HNX:=zH (fun x n h=>@Ue _ _ _ n _ x hCL h);have HSM:=zH (fun x n=>@Te r x n);have HSUB:=zH (fun n (h:n+(r.length-n)<=r.length)=>hbr.sub h);have hkn:=GZ hCL;have hpl:ps.length=k:=by rw[<-hkn,<-hps,List.length_map]
      generalize hq:Zd r=q at *;clear hbr wSC;have rr:=qdR rr3 s2 hB;go_wp2_with fail;refine HR.out.mono ?_;rintro e w4 ⟨u,rfl,hu,hB4⟩;have rr4:=qb rr hB4;rcases q with _|⟨x,n⟩
      ·obtain rfl:u=noIt:=hu;obtain rfl:R=none:=HBAD.out rfl;clear HR HBAD HNX HSM HSUB hN2 hN3 rr;have kk4:=qa rr4;have ff4:=qd rr4;have s4:w.heap.size<w4.heap.size:=(zG.1 rr4).1;have bw4:Below w.heap.size w w4:=Below.trans b2' (Below.trans (Below.mono b23 zO) (Below.trans (Below.mono hB zO) (Below.mono hB4 zO)));go_wp2;generalize hwf:(World.alloc _ _)=wf;have rf:wf.heap[w.heap.size]?=some (.cells #[.int .i64 0,.slice none 0 0] 113 (0,0)):=by rw[<-hwf];exact(zK _ _ _ (by simpa using s4)).trans (qi (qi rr4 0 _) 1 _)
       have bf:Below w.heap.size w wf:=by rw[<-hwf];exact(by repeat' (first|with_reducible exact Below.refl _ _|with_reducible assumption|with_reducible apply Below.drew|with_reducible apply qN|with_reducible refine Below.alloc ?_ ?_ _|with_reducible refine Below.setCell ?_ ?_ _|(simp;done)|(simp;omega)|omega))
       have kf:=qa rf;exact bodyPost_ret (v:=Vu 8) (by simp[results,results136,go_sem,kf]) rfl ⟨_,rfl,⟨8,zD,rfl⟩,bf⟩
      ·obtain⟨i,rfl,A',c',rfl,⟨hby,hfr⟩,hnx⟩:=hu;replace hnx:=zH hnx;obtain⟨g1,g2,g3,g4,g5⟩:=HSM.out x n rfl;have htl:=Yd (HNX.out x n rfl) zO hl7;rw[List.length_drop] at htl;have hsb:=HSUB.out n zO;rw[List.take_of_length_le zA2] at hsb;clear HR HSM HSUB HBAD g1 g3 g4 g5;have wTQ:=hCA.ext hB4;have hvl:=QZ hCA.1;have s4:=hB4.size;go_wp2_with fail;generalize hw5:(World.alloc _ _)=w5;have b5:Ext w4 w5:=by rw[<-hw5];exact zN _ _
       have r5:w5.heap[w4.heap.size]?=some (.cells #[.int .u8 x.k,.int .u32 x.i,.int .u32 x.o,.int .i64 x.r,.slice A' x.val.length c'] 51 (0,0)):=by rw[<-hw5];exact zI _ _ _ rfl
       clear hw5;have wFS:=wTQ.ext b5;have rn5:=qb (qb rn hB4) b5;have wZQ:=(hby.below b5).more b5.size;have s5:w4.heap.size<w5.heap.size:=(zG.1 r5).1;have hB5:Below nb w3 w5:=Below.trans hB (Below.trans (Below.mono hB4 zO) (Below.mono b5 zO));have hvn:v1.ownBlock≠some nb:=fun h=>by have:=hvl _ h;omega
       have hv4:v1.ownBlock≠some w4.heap.size:=fun h=>by have:=hvl _ h;omega
       obtain⟨RR,hRR⟩:∃ RR:Rel,RR=Kk (nb+1) 51 5 w5.heap.size v1 ps.length (Qd ps) (ps.length+1) (Qd ps++qbu x (.slice A' x.val.length c')) :=⟨_,rfl⟩
       replace hRR:=zH hRR;have n1:∀ W,RR.r w5 W->W.cell? ⟨nb,1,none⟩=some v1:=fun W h=>jZ (hRR.out ▸ h) hvn (by rw[qa rn5];rfl);have i0:∀ W,RR.r w5 W->W.cell? ⟨w4.heap.size,0,none⟩=some (.int .u8 x.k):=fun W h=>jZ (hRR.out ▸ h) hv4 (by rw[qa r5];rfl);have i1:∀ W,RR.r w5 W->W.cell? ⟨w4.heap.size,1,none⟩=some (.int .u32 x.i):=fun W h=>jZ (hRR.out ▸ h) hv4 (by rw[qa r5];rfl);have i2:∀ W,RR.r w5 W->W.cell? ⟨w4.heap.size,2,none⟩=some (.int .u32 x.o):=fun W h=>jZ (hRR.out ▸ h) hv4 (by rw[qa r5];rfl);have i3:∀ W,RR.r w5 W->W.cell? ⟨w4.heap.size,3,none⟩=some (.int .i64 x.r):=fun W h=>jZ (hRR.out ▸ h) hv4 (by rw[qa r5];rfl);have i4:∀ W,RR.r w5 W->W.cell? ⟨w4.heap.size,4,none⟩=some (.slice A' x.val.length c'):=fun W h=>jZ (hRR.out ▸ h) hv4 (by rw[qa r5];rfl);refine qp zQ ?_;refine ZL 5 10 (.slice (some ⟨b,o,none⟩) r.length cc) zQ zA5 zQ zQ zQ zA0 (fun W=>?_) ?_
       ·go_simp
       simp only[Act.put,qf,qc,qg,qv,QJ,zA,zB,zC];refine ZL 6 9 (.int .i64 (n:Int)) zQ zA5 zQ zQ zQ zA0 (fun W=>?_) ?_
       ·go_simp
       simp only[Act.put,qf,qc,qg,qv,QJ,zA,zB,zC];refine ZL 7 8 (.slice (some ⟨b,o+n,none⟩) (r.length-n) (cc-n)) zQ zA5 zQ zQ zQ zA0 (fun W=>?_) ?_
       ·go_simp;have:=hat.2.1;omega
       simp only[Act.put,qf,qc,qg,qv,QJ,zA,zB,zC];refine ZY (w:=w5) RR (qM [(3,jh w5.heap.size 1 51 #[.int .u8 x.k,.int .u32 x.i,.int .u32 x.o,.int .i64 x.r,.slice A' x.val.length c']),(4,UA (nb+1) 51 5 w5.heap.size v1 (ps.length+1) (Qd ps++qbu x (.slice A' x.val.length c')))])
        [true,true,true,true,true,false,false,false,true] 2 zQ zQ zQ zQ zQ zQ ?st (Rel.drew _ _) ?walk
       case st=>rw[hRR.out];exact qj (by simp only[List.forall_mem_cons];exact⟨Xk (fun g hg=>by have:=hvl g hg;omega),qbN,fun _ h=>by cases h⟩)
       case walk =>
        intro K hK;dsimp only[qw];refine zB1 ?_;refine qz (jh w5.heap.size 1 51 #[.int .u8 x.k,.int .u32 x.i,.int .u32 x.o,.int .i64 x.r,.slice A' x.val.length c']) zA0 zA0 (fun W hW _=>?_) (fun p=>?_)
        ·rw[hRR.out] at hW ⊢;refine GW ?_ hW.1.size;go_simp
        simp only[Act.put,qf,qc,qg,qv,QJ,zA,zB,zC];refine qz (UA (nb+1) 51 5 w5.heap.size v1 (ps.length+1) (Qd ps++qbu x (.slice A' x.val.length c'))) zA0 zA0 (fun W hW hp=>?_) (fun v2=>?_)
        ·rw[hRR.out] at hW ⊢;obtain⟨i0,hi,hz0,hz1,hz2⟩:=info_parts Tryz.info_item;obtain⟨hLT,_⟩:=(hp 3 zD).1;obtain⟨v',w',hGG,hD,hR'⟩:=YF (P:=prog) (lo:=w5.heap.size) W 55 55 i0 _ 48 underlying55 hi hz0 hz1 hz2 rfl zD (hW.2.1 wFS.1) ⟨p,0,none⟩ 1 1 (qbu x (.slice A' x.val.length c')) rfl (qcc hLT) (by simp[qbu,Value.oneCell']) zO zD (by have:=hW.1.size;omega) hW.1.size;refine ZD (u:=v') (w':=w') ?_ ⟨v',rfl,hD,hR'⟩;exact YW (s:=.tmp 55) (x:=.tmp 57) rfl rfl rfl hGG
        refine zB1 ?_;refine qA (hK _ _ fun W hW hF=>?_);have hD:=(hF 4).1;clear hF hK n1 i0 i1 i2 i3 i4;rw[hRR.out] at hW;dsimp only[List.drop,List.length_cons,List.length_nil,UA] at *;change Done _ _ _ _ _ _ _ v2 W at hD;have rnW:=VO hW hvn rn5;have kW:=qa rnW;have fW:=qd rnW;have hnW:=zH (fun q t=>nz_push (x:=x) wFS (fun p hp=>((hnz.out p hp).ext hB4).ext b5) (hnx.out.ext b5) (vB.of_from hfr (fun g hg=>(hvl g hg).2)) hW.1 q t);have hrW:=wFS.push x A' c' wZQ (hfr.mono zO) (vB.of_from hfr (fun g hg=>(hvl g hg).2)) rfl hD hW.1;have hBW:Below nb w5 W:=(Below.refl _ _).grown hW.1 zO (fun g hg=>by have:=hvl g hg;omega);obtain⟨A2,c2',rfl,_,_⟩:=qB hD.1;go_wp2;refine Qw ?_;go_wp2;go_roundw
        case rel =>
         refine⟨k+1,xs++[x],r.drop n,o+n,cc-n,_,ps++[(x,.slice A' x.val.length c')],zO,by go_num,HNX.out x n rfl,by rw[List.length_drop],hsb,qi rnW 1 _,?_,by simp[hps],?_,hnW.out _ _⟩
         ·rw[hpl] at hrW;exact hrW.setCell (p:=⟨nb,1,none⟩) (Nat.lt_succ_self _) (Nat.lt_succ_self _) _
         ·exact Below.setCell (Below.trans hB5 hBW) (p:=⟨nb,1,none⟩) (zM _) _
        case measure=>simp[intOf];omega
     ·obtain rfl:k=p2:=zO;have hsn:nb<wr.heap.size:=(zG.1 rn).1;have hrl:=Yd hCL hp2 hl7;have hR:=hN3.out r xs hCL;have wSC:Bys wr wr.heap.size (.slice (some ⟨b,o,none⟩) r.length cc) r:=(hbr.below hB).more zO;have hzi:=zH (hCA.nzi hnz.out);obtain⟨wEV,A2,c2',rfl⟩:=hCA.its (zM _);rw[hps] at wEV;have hxl:ps.length=xs.length:=by rw[<-hps,List.length_map]
      rw[hxl] at wEV rn;have rr:=qdR rr3 s2 hB;have bw:Below w.heap.size w wr:=Below.trans b2' (Below.trans (Below.mono b23 zO) (Below.mono hB zO));have HC:=zH (fun W (hW:Ext wr W)=>VV p1 A2 xs.length c2' xs W (wEV.its.ext hW));have HM:=zH (fun W (hW:Ext wr W)=>qgY _ r hrl.1 zO W ((wSC.below hW).more hW.size));have hmz:=qbC r;have hml:=qeA r;replace hR:=zH hR;clear hN2 hN3 hbr wSC hCA hCL;have kn:=qa rn;go_wp2_with fail;refine(HC.out _ (Ext.refl _)).mono ?_;rintro e w4 ⟨rfl,hB4⟩;have rr4:=qb rr hB4;have bw4:Below w.heap.size w w4:=Below.trans bw (Below.mono hB4 zO);have s4:w.heap.size<w4.heap.size:=(zG.1 rr4).1;have rn4:=qb rn hB4;clear HC kn rr;by_cases hmay:Qn (p1:Int) xs=true
      case neg =>
       obtain rfl:R=none:=by rw[hR.out,if_neg (fun h=>hmay h.1)]
       have hXU:Qn (p1:Int) xs=false:=by simpa using hmay
       rw[Jl hXU];clear hR HM hmay hXU hmz hml;have k4:=qa rr4;have f4:=qd rr4;go_wp2;generalize hwf:(World.setCell _ _ _)=wf;have rf:wf.heap[w.heap.size]?=some (.cells #[.int .i64 0,.slice none 0 0] 113 (0,0)):=by rw[<-hwf];exact qi (qi rr4 0 _) 1 _
       have bf:Below w.heap.size w wf:=by rw[<-hwf];exact Below.setCell (Below.setCell bw4 (p:=⟨w.heap.size,0,none⟩) (zM _) _) (p:=⟨w.heap.size,1,none⟩) (zM _) _
       have kf:=qa rf;exact bodyPost_ret (v:=Vu 8) (by simp[results,results136,go_sem,kf]) rfl ⟨_,rfl,⟨8,zD,rfl⟩,bf⟩
      case pos =>
       rw[JG hmay];go_wp2_with fail;refine(HM.out _ hB4).mono ?_;rintro e w5 ⟨rfl,hB5⟩;have rr5:=qb rr4 hB5;have bw5:Below w.heap.size w w5:=Below.trans bw4 (Below.mono hB5 zO);have s5:w.heap.size<w5.heap.size:=(zG.1 rr5).1;have rn5:=qb rn4 hB5;have hx5:Ext wr w5:=Ext.trans hB4 hB5;have k5:=qa rr5;have f5:=qd rr5;have kn5:=qa rn5;have fn5:=qd rn5;clear HM;by_cases hz:Vs r=true
       case neg =>
        obtain rfl:R=none:=by rw[hR.out,if_neg (fun h=>hz h.2)]
        have hz':Vs r=false:=by simpa using hz
        rw[hz'] at hmz;have hm0:0<Xg r:=by simpa using hmz
        clear hR hz hz' hmz;generalize Xg r=mm at *;go_wp2;generalize hwf:(World.setCell _ _ _)=wf;have rf:wf.heap[w.heap.size]?=some (.cells #[.int .i64 0,.slice none 0 0] 113 (0,0)):=by rw[<-hwf];exact qi (qi rr5 0 _) 1 _
        have bf:Below w.heap.size w wf:=by rw[<-hwf];exact Below.setCell (Below.setCell bw5 (p:=⟨w.heap.size,0,none⟩) (zM _) _) (p:=⟨w.heap.size,1,none⟩) (zM _) _
        have kf:=qa rf;exact bodyPost_ret (v:=Vu 8) (by simp[results,results136,go_sem,kf]) rfl ⟨_,rfl,⟨8,zD,rfl⟩,bf⟩
       case pos =>
        obtain rfl:R=some ((p1:Int),xs):=by rw[hR.out,if_pos ⟨hmay,hz⟩]
        rw[hz] at hmz;have hm0:Xg r=0:=by simpa using hmz
        clear hR hz hmz;rw[hm0];go_wp2;generalize hwf:(World.setCell _ _ _)=wf;have rf:wf.heap[w.heap.size]?=some (.cells #[.int .i64 p1,.slice A2 xs.length c2'] 113 (0,0)):=by rw[<-hwf];exact qi (qi rr5 0 _) 1 _
        have bf:Below w.heap.size w wf:=by rw[<-hwf];exact Below.setCell (Below.setCell bw5 (p:=⟨w.heap.size,0,none⟩) (zM _) _) (p:=⟨w.heap.size,1,none⟩) (zM _) _
        have kf:=qa rf;have hfi:je (nb+1) wf (.slice A2 xs.length c2') xs:=by refine(wEV.ext hx5).keep (by rw[<-hwf];simp) (fun p h1 h2=>?_);rw[<-hwf,World.cell?_setCell_other _ _ _ _ (fun e=>by subst e;simp at h1;omega),World.cell?_setCell_other _ _ _ _ (fun e=>by subst e;simp at h1;omega)]
        have hzf:NzI wf (.slice A2 xs.length c2'):=by
         have hzi':=hzi.out;rw[hxl] at hzi';have hZK:∀ b off n c,Value.slice A2 xs.length c2'=.slice (some ⟨b,off,none⟩) n c->0<n->w.heap.size<b/\b<wr.heap.size:=fun b off n c e hn=>by obtain⟨-,-,-,h4⟩:=wEV.its.at_;have h5:nb+1<=(⟨b,0,none⟩:Addr).block:=Uh wEV b off n c 0 e hn;simp only[Value.slice.injEq] at e;obtain⟨b6,o6,e6,e7⟩:=h4 zO;rw[e.1] at e6;simp only[Option.some.injEq,Addr.mk.injEq] at e6;simp only at h5;omega
         refine(hzi'.ext hx5 (fun b off n c e hn=>(hZK b off n c e hn).2)).keep (fun b off n c e hn j=>?_) (fun u hu=>?_)
         case refine_2=>rw[<-hwf];exact(hu.setCell _ _).setCell _ _
         have:=(hZK b off n c e hn).1;rw[<-hwf,World.cell?_setCell_other _ _ _ _ (fun e=>by simp only[Addr.mk.injEq] at e;omega),World.cell?_setCell_other _ _ _ _ (fun e=>by simp only[Addr.mk.injEq] at e;omega)]
        exact bodyPost_ret (v:=.tuple #[jU p1 A2 xs.length c2',.int .i64 0]) (by simp[results,results136,go_sem,kf]) rfl ⟨_,rfl,⟨A2,c2',rfl,hfi.mono zO,hzf⟩,bf⟩
theorem qkn (v:Value) (l:List UInt8) (w:World) (h:Bys w w.heap.size v l):Calls prog 136 #[v] w (zF (qdk w.heap.size (QG l)) w):=
 (qbG v l w h).mono fun _ _ ⟨u,he,hu,hB⟩=>⟨u,he,hu.nodeP,hB⟩



set_option maxRecDepth 100000 in
theorem qjX (n:Nat) (hn:n<1073741824) (w:World):Calls prog 177 #[.slice none 0 0,.int .i64 (n:Int)] w (zF (fun v w'=>w'.ownsRow w.heap.size 5 1 v 0 []) w):=by
 obtain⟨i0,hi,hz0,hz1,hz2⟩:=info_parts Tryz.info_u8;by_cases h0:n=0
 ·subst h0;go_enter func177,ntmps177;go_wp2;go_ret;exact⟨_,rfl,World.ownsRow_nil _ _ _ _,Below.refl _ _⟩
 ·have hG:=grownCap_ge w n 0 5;have hGm:=grownCap_le_maxLen w n 0 5 zA6;have hrz:∀ ty,(Builtin.append_ #[26,3] ty #[.slice none 0 0,.int .i64 (n:Int)]).run prog w =
    .ok (.slice (some ⟨w.heap.size,0,none⟩) n (grownCap w n 0 5)) (w.drew.alloc (.cells (([]:List Value).toArray++Builtin.zeroCells (Value.int .u8 0).cells n++Builtin.zeroCells (Value.int .u8 0).cells (grownCap w n 0 5-n)) 5)):=fun ty=>by
   have h:=Lib.run_append_grow_zeros (P:=prog) w 26 3 ty 5 i0 (.int .u8 0) .i64 .i64 underlying26 underlying3 hi hz0 none 0 0 [] (run_firstCells_none w.drew i0.size 0 0 0) n zO zO zO zO (by rw[hz2];omega) (growslice_fits zO (by rw[hz2];omega));simpa using h
  obtain⟨G,hGe⟩:∃ G,grownCap w n 0 5=G:=⟨_,rfl⟩
  rw[hGe] at hG hGm hrz;unfold maxLen at hGm;have hRF:0<n:=zO;clear hGe;go_enter func177,ntmps177;go_wp2_with (at_builtin;refine Lib.wpList_append_run _ rfl _ _ _ _ rfl _ _ rfl rfl _ _ (hrz _) ?_);go_ret;refine⟨_,rfl,?_,zA4⟩;refine(World.ownsRow_made w _ G (zM _) zA6 ?_).drew;simp only[Array.size_append,size_zeroCells,List.size_toArray,List.length_cons,List.length_nil];omega
def Kw (ls:List (List UInt8)) (k:Nat):List UInt8:=(ls.take k).flatten
set_option maxRecDepth 100000 in
theorem kV (A c m) (vs:List Value) (ls:List (List UInt8)) (hv:vs.length=m) (hl:ls.length=m) (w:World) (hr:Rd w w.heap.size 1 A m vs) (hb:∀ (i:Nat) (v:Value) (l:List UInt8),vs[i]?=some v->ls[i]?=some l->Bys w w.heap.size v l) (hn:m<1024) (hs:ls.flatten.length<1048576):Calls prog 132 #[.slice A m c] w (zF (fun v w'=>w'.ownsRow w.heap.size 5 1 v ls.flatten.length (ls.flatten.map bv)) w):=by
 obtain⟨i0,hi,hz0,hz1,hz2⟩:=info_parts Tryz.info_u8;have hOF:∀ k,k<m->∃ A c l,vs[k]?=some (.slice A l.length c)/\ls[k]?=some l/\Rd w w.heap.size 1 A l.length (l.map bv):=fun k hk=>by
  obtain⟨v,hv⟩:∃ v,vs[k]?=some v:=⟨_,zL zO⟩
  obtain⟨l,hl'⟩:∃ l,ls[k]?=some l:=⟨_,zL zO⟩
  obtain⟨A,c,rfl,_,_,h⟩:=hb k v l hv hl';exact⟨A,c,l,hv,hl',h⟩
 have wLN:∀ k,(Kw ls k).length<=ls.flatten.length:=fun k=>by
  unfold Kw;conv=>rhs;rw[<-List.take_append_drop k ls]
  rw[List.flatten_append,List.length_append];omega
 have htk:∀ (k:Nat) (l:List UInt8),ls[k]?=some l->Kw ls (k+1)=Kw ls k++l:=fun k l h=>by unfold Kw;rw[List.take_add_one,h];simp
 have HT:=zH htk;clear htk;have hJF:ls.flatten=Kw ls m:=by unfold Kw;rw[List.take_of_length_le zO]
 have h00:Hid ([]=Kw ls 0):=by unfold Kw;exact rfl
 rw[hJF] at hs wLN ⊢;clear hJF hl hv hb;go_enter func132,ntmps132;go_wp2;go_loop [3,11] (fun t i=>∃ k:Nat,k<=m/\i=.int .i64 (k:Int)/\t=.int .i64 ((Kw ls k).length:Int))
  (fun _ i=>m-(intOf i).toNat)
 case atStart=>exact⟨0,Nat.zero_le _,rfl,by rw[<-h00.out];rfl⟩
 case round =>
  obtain⟨k,hk,rfl,rfl⟩:=hrel;have h1:=wLN k;by_cases hlt:k<m
  ·obtain⟨A',c',l,hv,hl,hrl⟩:=hOF k hlt;obtain⟨b,off,rfl,hbl,hc⟩:=hr.2 zO;have h2:=wLN (k+1);rw[HT.out k l hl,List.length_append] at h2;go_wp2;go_round
   case rel=>exact⟨k+1,zO,by go_num,by rw[HT.out k l hl,List.length_append];go_num⟩
   case measure=>simp[intOf];omega
  ·obtain rfl:k=m:=zO;clear h1;go_wp2_with fail;refine(qjX (Kw ls k).length zO _).mono ?_;rintro e w1 ⟨v,rfl,hBQ,hB⟩;go_wp2;go_loopw [6,27] (fun v i wr=>∃ j:Nat,j<=k/\i=.int .i64 (j:Int)/\wr.ownsRow w.heap.size 5 1 v (Kw ls j).length ((Kw ls j).map bv)/\Below w.heap.size w wr)
    (fun _ i _=>k-(intOf i).toNat)
   case atStart=>exact⟨0,Nat.zero_le _,rfl,by rw[<-h00.out];exact hBQ,hB⟩
   case round =>
    clear hBQ hB;obtain⟨j,hj,rfl,hBQ,hB⟩:=hrel;by_cases hlt:j<k
    ·obtain⟨A',c',l,hv,hl,hrl⟩:=hOF j hlt;obtain⟨b,off,rfl,hbl,hc⟩:=hr.2 zO;have hBX:=(hB.cell (p:=⟨b,off+j,none⟩) hbl).trans (hc j _ hv);have h2:=wLN (j+1);rw[HT.out j l hl,List.length_append] at h2;have HE:=zH (HT.out j l hl);go_wp2_with (at_builtin;refine Qg ?_);refine QI.go (QF _ rfl (.tmp 31) (.tmp 32) 26 rfl w.heap.size 5 i0 (.int .u8 0) 1 1 underlying26 hi hz0 hz1 hz2 rfl zD _ _ _ rfl hBQ w.heap.size A' l.length c' (l.map bv) rfl (hrl.below hB) (TX l) zO zD hB.size ?_);intro v' w2 xGA _ hb1 _;go_wp2;go_roundw
     case rel=>exact⟨j+1,zO,by go_num,by rw[HE.out,List.length_append,List.map_append];exact xGA,hB.trans hb1⟩
     case measure=>simp[intOf];omega
    ·obtain rfl:j=k:=zO;go_wp2;go_ret;exact⟨_,rfl,hBQ,hB⟩
end Go.Proofs.YtmeadnlmepcmbaaGreat
