/- Lemmas of the proof. -/
import Derived.Lib.AppendZerosOnto
import Derived.Lib.Walk
import Derived.Test.YtmeadnlmepcmbaaGreatZG02
set_option linter.all false
set_option maxHeartbeats 8000000
open Go.Proofs.Tryz
namespace Go.Proofs.YtmeadnlmepcmbaaGreat
open Go.RowKit
theorem TZ{above:Bool}{xs:List It}{i:Nat}(hi:i<xs.length):qam above xs i=(itB xs[i].r xs[i].val.length&&(decide (i=0)||(match xs[i-1]? with|some y=>qeV y xs[i]|none=>true))&&!(above&&(decide (xs[i].r=0)||decide (0<xs[i].val.length)))):=by unfold qam;rw[zL hi];rfl
theorem qgj{above:Bool}{xs:List It}{i:Nat}(hi:i<xs.length)(h:itB xs[i].r xs[i].val.length=false):qam above xs i=false:=by rw[TZ hi,h];rfl
set_option maxRecDepth 100000 in
theorem qiE(lvl:Int)(A n c)(xs:List It)(w:World)(hx:Its w w.heap.size (.slice A n c) xs)(h:ZZ lvl n=true):Calls prog 182 #[jL lvl A n c] w (Ret (.int .i64 (vO (Qj lvl xs))) w):=by
 obtain⟨hn,hnc,hcm,hA⟩:=hx.at_;have h':0<=lvl/\lvl<6/\n<=5/\(0<lvl->n≠0):=by unfold ZZ at h;exact of_decide_eq_true h
 have hM:Qj lvl xs=YB (decide (0<lvl)) xs xs.length:=by unfold Qj;rw[<-hn,h];rfl
 rw[hM];clear hM h;subst hn;have HX:=zH hx;clear hx;obtain⟨h1,h2,h3,h4⟩:=h';by_cases hab:0<lvl
 ·rw[decide_eq_true hab];go_enter func182,ntmps182;go_wp2;all_goals simp only[beq_eq_false_iff_ne,ne_eq]at*
  all_goals first|(exfalso;omega)|skip
  generalize hw1:(World.alloc _ _)=w1;have b1:Ext w w1:=by rw[<-hw1];exact zN _ _
  have r1:w1.heap[w.heap.size]?=some (.cells #[.int .i64 lvl,.slice A xs.length c] 113 (0,0)):=by rw[<-hw1];exact zI _ _ _ rfl
  clear hw1;go_loopw [36] (λi wr=>∃k:Nat,k<=xs.length/\i=.int .i64 (k:Int)/\YB true xs k=true/\Ext w1 wr) (λi _=>xs.length-(intOf i).toNat)
  case atStart=>exact⟨0,zO,rfl,rfl,Ext.refl _⟩
  case round=>
   obtain⟨k,hk,rfl,hck,hE⟩:=hrel;by_cases hlt:k<xs.length
   ·have hCB:=hlt;obtain⟨b,off,rfl,hb⟩:=hA zO;have b2:Ext w wr:=b1.trans hE;obtain⟨A',c',c0,c1,c2,c3,c4,hby⟩:=(HX.out.ext b2).item k hCB;have HCK:=zH (TZ (above:=true) hCB);have HBAD:=zH (qby (above:=true) hCB);have HBI:=zH (qgj (above:=true) hCB);have HSU:=zH (qal true xs k);generalize hx:xs[k]=x at*;go_wp2_with fail;generalize hw3:(World.alloc _ _)=w3;have b3:Ext wr w3:=by rw[<-hw3];exact zN _ _
    have r3:w3.heap[wr.heap.size]?=some (.cells #[.int .u8 x.k,.int .u32 x.i,.int .u32 x.o,.int .i64 x.r,.slice A' x.val.length c'] 51 (0,0)):=by rw[<-hw3];exact zI _ _ _ rfl
    clear hw3;refine(vZ x.k x.i x.o x.r A' x.val.length c' _).mono ?_;rintro e w4 ⟨rfl,hB⟩;have b4:Ext wr w4:=b3.trans hB;have r4:=qb r3 hB;clear hB r3 b3;by_cases hok:itB x.r x.val.length=true
    ·rw[Ky hok];go_wp2;have b5:Ext w1 w4:=hE.trans b4;have rn:=qb r1 b5;have n1:∀W,Ext w4 W->W.cell? ⟨w.heap.size,1,none⟩=some (.slice (some ⟨b,off,none⟩) xs.length c):=λW h=>by rw[qa (qb rn h)];rfl
     have i0:∀W,Ext w4 W->W.cell? ⟨wr.heap.size,0,none⟩=some (.int .u8 x.k):=λW h=>by rw[qa (qb r4 h)];rfl
     have i1:∀W,Ext w4 W->W.cell? ⟨wr.heap.size,1,none⟩=some (.int .u32 x.i):=λW h=>by rw[qa (qb r4 h)];rfl
     have i2:∀W,Ext w4 W->W.cell? ⟨wr.heap.size,2,none⟩=some (.int .u32 x.o):=λW h=>by rw[qa (qb r4 h)];rfl
     have i3:∀W,Ext w4 W->W.cell? ⟨wr.heap.size,3,none⟩=some (.int .i64 x.r):=λW h=>by rw[qa (qb r4 h)];rfl
     have i4:∀W,Ext w4 W->W.cell? ⟨wr.heap.size,4,none⟩=some (.slice A' x.val.length c'):=λW h=>by rw[qa (qb r4 h)];rfl
     rcases k with _|j
     ·refine za (qQ [(12,one (.bool true))]) 29 zQ zQ zQ zA1 zQ zQ ?st ?walk
      case st=>exact zo (by simp only[List.forall_mem_cons];exact⟨Zy _,λ_ h=>by cases h⟩)
      case walk=>
       intro K hK;dsimp only[List.take];by_cases hr0:x.r=0
       ·have hr1:(x.r==0)=true:=by simpa using hr0
        refine zB1 ?_;refine Zq (hK _ _ λW hW hF=>?_);clear hF hK;have b7:Ext wr W:=b4.trans hW;dsimp only[List.drop];go_wp2;all_goals first
         |(go_ret
           exact⟨by rw[HBAD.out (by rw[HCK.out,hok];simp[*])];rfl,Ext.trans b2 b7⟩)
         |(go_roundw
           case rel=>exact⟨0+1,zO,by go_num,by rw[HSU.out,hck,HCK.out,hok];simp[*],hE.trans b7⟩
           case measure=>simp[intOf];omega)
       ·have hr1:(x.r==0)=false:=by simpa using hr0
        refine zB1 ?_;refine Zq (hK _ _ λW hW hF=>?_);clear hF hK;have b7:Ext wr W:=b4.trans hW;dsimp only[List.drop];go_wp2;all_goals first
         |(go_ret
           exact⟨by rw[HBAD.out (by rw[HCK.out,hok];simp[*])];rfl,Ext.trans b2 b7⟩)
         |(go_roundw
           case rel=>exact⟨0+1,zO,by go_num,by rw[HSU.out,hck,HCK.out,hok];simp[*],hE.trans b7⟩
           case measure=>simp[intOf];omega)
     ·have hjl:j<xs.length:=zO;obtain⟨A2,c2',d0,d1,d2,d3,d4,_⟩:=(HX.out.ext (b2.trans b4)).item j hjl;have wBK:xs[j+1-1]?=some xs[j]:=by rw[Nat.add_sub_cancel,zL hjl]
      have HP:=zH wBK;clear wBK;generalize xs[j]=y at*;have p0:∀W,Ext w4 W->W.cell? ⟨b,off+j*5,none⟩=some (.int .u8 y.k):=λW h=>Ext.cell h d0;have p1:∀W,Ext w4 W->W.cell? ⟨b,off+j*5+1,none⟩=some (.int .u32 y.i):=λW h=>Ext.cell h d1;have p2:∀W,Ext w4 W->W.cell? ⟨b,off+j*5+2,none⟩=some (.int .u32 y.o):=λW h=>Ext.cell h d2;clear d0 d1 d2 d3 d4;have HL:=zH (λW=>Vy y.k y.i y.o x.k x.i x.o W);have HLE:Hid (qeV y x=JD y.k y.i y.o x.k x.i x.o):=rfl;generalize JD y.k y.i y.o x.k x.i x.o=L at*;refine za (qQ [(12,one (.bool L))]) 29 zQ zQ zQ zA1 zQ zQ ?st ?walk
      case st=>exact zo (by simp only[List.forall_mem_cons];exact⟨Zy _,λ_ h=>by cases h⟩)
      case walk=>
       intro K hK;dsimp only[List.take];refine zB1 ?_;refine qU (.pointer (some ⟨b,off+j*5,none⟩)) zA0 zA0 (λW hW _=>⟨W,?_,Ext.refl W⟩) ?_
       ·go_simp;rw[IntWalk.i64_in (j:Int) zO,if_pos zO];simp
       refine zB1 ?_;refine QH (one (.bool L)) zA0 zA0 (λW hW _=>?_) (λp=>?_)
       ·refine QW ?_ ((HL.out W).mono λe w' h=>⟨(),h.1,trivial,h.2⟩);go_simp
       cases p;simp only[Act.put,ql,qc,qf,zA,zB,zC];cases L
       ·repeat ((first|(refine qU ?_ zA0 zA0 (λW hW _=>⟨W,?_,Ext.refl W⟩) ?_;rotate_left;(go_simp<;>with_reducible rfl))|(refine Qf zA0 ?_));try simp only[Act.put,ql,qe,qc,qf,zA,zB,zC])
        refine Zq (hK _ _ λW hW hF=>?_);clear hF hK HL;have b7:Ext wr W:=b4.trans hW;dsimp only[List.drop];go_wp2;all_goals first
         |(go_ret
           exact⟨by rw[HBAD.out (by rw[HCK.out,hok,HP.out];simp[HLE.out, *])];rfl,Ext.trans b2 b7⟩)
         |(go_roundw
           case rel=>exact⟨j+1+1,zO,by go_num,by rw[HSU.out,hck,HCK.out,hok,HP.out];simp[HLE.out, *],hE.trans b7⟩
           case measure=>simp[intOf];omega)
       ·by_cases hr0:x.r=0
        ·have hr1:(x.r==0)=true:=by simpa using hr0
         refine zB1 ?_;refine Zq (hK _ _ λW hW hF=>?_);clear hF hK HL;have b7:Ext wr W:=b4.trans hW;dsimp only[List.drop];go_wp2;all_goals first
          |(go_ret
            exact⟨by rw[HBAD.out (by rw[HCK.out,hok,HP.out];simp[HLE.out, *])];rfl,Ext.trans b2 b7⟩)
          |(go_roundw
            case rel=>exact⟨j+1+1,zO,by go_num,by rw[HSU.out,hck,HCK.out,hok,HP.out];simp[HLE.out, *],hE.trans b7⟩
            case measure=>simp[intOf];omega)
        ·have hr1:(x.r==0)=false:=by simpa using hr0
         refine zB1 ?_;refine Zq (hK _ _ λW hW hF=>?_);clear hF hK HL;have b7:Ext wr W:=b4.trans hW;dsimp only[List.drop];go_wp2;all_goals first
          |(go_ret
            exact⟨by rw[HBAD.out (by rw[HCK.out,hok,HP.out];simp[HLE.out, *])];rfl,Ext.trans b2 b7⟩)
          |(go_roundw
            case rel=>exact⟨j+1+1,zO,by go_num,by rw[HSU.out,hck,HCK.out,hok,HP.out];simp[HLE.out, *],hE.trans b7⟩
            case measure=>simp[intOf];omega)
    ·have hRA:itB x.r x.val.length=false:=by simpa using hok
     have hBY:=HBAD.out (HBI.out hRA);rw[VU hRA];clear HCK HBAD HBI HSU;go_wp2;go_ret;exact⟨by rw[hBY];rfl,Ext.trans b2 b4⟩
   ·obtain rfl:k=xs.length:=zO;go_wp2;go_ret;exact⟨by rw[hck];rfl,b1.trans hE⟩
 ·rw[decide_eq_false hab];go_enter func182,ntmps182;go_wp2;all_goals simp only[beq_eq_false_iff_ne,ne_eq]at*
  all_goals first|(exfalso;omega)|skip
  generalize hw1:(World.alloc _ _)=w1;have b1:Ext w w1:=by rw[<-hw1];exact zN _ _
  have r1:w1.heap[w.heap.size]?=some (.cells #[.int .i64 lvl,.slice A xs.length c] 113 (0,0)):=by rw[<-hw1];exact zI _ _ _ rfl
  clear hw1;go_loopw [36] (λi wr=>∃k:Nat,k<=xs.length/\i=.int .i64 (k:Int)/\YB false xs k=true/\Ext w1 wr) (λi _=>xs.length-(intOf i).toNat)
  case atStart=>exact⟨0,zO,rfl,rfl,Ext.refl _⟩
  case round=>
   obtain⟨k,hk,rfl,hck,hE⟩:=hrel;by_cases hlt:k<xs.length
   ·have hCB:=hlt;obtain⟨b,off,rfl,hb⟩:=hA zO;have b2:Ext w wr:=b1.trans hE;obtain⟨A',c',c0,c1,c2,c3,c4,hby⟩:=(HX.out.ext b2).item k hCB;have HCK:=zH (TZ (above:=false) hCB);have HBAD:=zH (qby (above:=false) hCB);have HBI:=zH (qgj (above:=false) hCB);have HSU:=zH (qal false xs k);generalize hx:xs[k]=x at*;go_wp2_with fail;generalize hw3:(World.alloc _ _)=w3;have b3:Ext wr w3:=by rw[<-hw3];exact zN _ _
    have r3:w3.heap[wr.heap.size]?=some (.cells #[.int .u8 x.k,.int .u32 x.i,.int .u32 x.o,.int .i64 x.r,.slice A' x.val.length c'] 51 (0,0)):=by rw[<-hw3];exact zI _ _ _ rfl
    clear hw3;refine(vZ x.k x.i x.o x.r A' x.val.length c' _).mono ?_;rintro e w4 ⟨rfl,hB⟩;have b4:Ext wr w4:=b3.trans hB;have r4:=qb r3 hB;clear hB r3 b3;by_cases hok:itB x.r x.val.length=true
    ·rw[Ky hok];go_wp2;have b5:Ext w1 w4:=hE.trans b4;have rn:=qb r1 b5;have n1:∀W,Ext w4 W->W.cell? ⟨w.heap.size,1,none⟩=some (.slice (some ⟨b,off,none⟩) xs.length c):=λW h=>by rw[qa (qb rn h)];rfl
     have i0:∀W,Ext w4 W->W.cell? ⟨wr.heap.size,0,none⟩=some (.int .u8 x.k):=λW h=>by rw[qa (qb r4 h)];rfl
     have i1:∀W,Ext w4 W->W.cell? ⟨wr.heap.size,1,none⟩=some (.int .u32 x.i):=λW h=>by rw[qa (qb r4 h)];rfl
     have i2:∀W,Ext w4 W->W.cell? ⟨wr.heap.size,2,none⟩=some (.int .u32 x.o):=λW h=>by rw[qa (qb r4 h)];rfl
     rcases k with _|j
     ·refine za (qQ [(12,one (.bool true))]) 29 zQ zQ zQ zA1 zQ zQ ?st ?walk
      case st=>exact zo (by simp only[List.forall_mem_cons];exact⟨Zy _,λ_ h=>by cases h⟩)
      case walk=>
       intro K hK;dsimp only[List.take];by_cases hr0:x.r=0
       ·have hr1:(x.r==0)=true:=by simpa using hr0
        refine zB1 ?_;refine Zq (hK _ _ λW hW hF=>?_);clear hF hK;have b7:Ext wr W:=b4.trans hW;dsimp only[List.drop];go_wp2;all_goals first
         |(go_ret
           exact⟨by rw[HBAD.out (by rw[HCK.out,hok];simp[*])];rfl,Ext.trans b2 b7⟩)
         |(go_roundw
           case rel=>exact⟨0+1,zO,by go_num,by rw[HSU.out,hck,HCK.out,hok];simp[*],hE.trans b7⟩
           case measure=>simp[intOf];omega)
       ·have hr1:(x.r==0)=false:=by simpa using hr0
        refine zB1 ?_;refine Zq (hK _ _ λW hW hF=>?_);clear hF hK;have b7:Ext wr W:=b4.trans hW;dsimp only[List.drop];go_wp2;all_goals first
         |(go_ret
           exact⟨by rw[HBAD.out (by rw[HCK.out,hok];simp[*])];rfl,Ext.trans b2 b7⟩)
         |(go_roundw
           case rel=>exact⟨0+1,zO,by go_num,by rw[HSU.out,hck,HCK.out,hok];simp[*],hE.trans b7⟩
           case measure=>simp[intOf];omega)
     ·have hjl:j<xs.length:=zO;obtain⟨A2,c2',d0,d1,d2,d3,d4,_⟩:=(HX.out.ext (b2.trans b4)).item j hjl;have wBK:xs[j+1-1]?=some xs[j]:=by rw[Nat.add_sub_cancel,zL hjl]
      have HP:=zH wBK;clear wBK;generalize xs[j]=y at*;have p0:∀W,Ext w4 W->W.cell? ⟨b,off+j*5,none⟩=some (.int .u8 y.k):=λW h=>Ext.cell h d0;have p1:∀W,Ext w4 W->W.cell? ⟨b,off+j*5+1,none⟩=some (.int .u32 y.i):=λW h=>Ext.cell h d1;have p2:∀W,Ext w4 W->W.cell? ⟨b,off+j*5+2,none⟩=some (.int .u32 y.o):=λW h=>Ext.cell h d2;clear d0 d1 d2 d3 d4;have HL:=zH (λW=>Vy y.k y.i y.o x.k x.i x.o W);have HLE:Hid (qeV y x=JD y.k y.i y.o x.k x.i x.o):=rfl;generalize JD y.k y.i y.o x.k x.i x.o=L at*;refine za (qQ [(12,one (.bool L))]) 29 zQ zQ zQ zA1 zQ zQ ?st ?walk
      case st=>exact zo (by simp only[List.forall_mem_cons];exact⟨Zy _,λ_ h=>by cases h⟩)
      case walk=>
       intro K hK;dsimp only[List.take];refine zB1 ?_;refine qU (.pointer (some ⟨b,off+j*5,none⟩)) zA0 zA0 (λW hW _=>⟨W,?_,Ext.refl W⟩) ?_
       ·go_simp;rw[IntWalk.i64_in (j:Int) zO,if_pos zO];simp
       refine zB1 ?_;refine QH (one (.bool L)) zA0 zA0 (λW hW _=>?_) (λp=>?_)
       ·refine QW ?_ ((HL.out W).mono λe w' h=>⟨(),h.1,trivial,h.2⟩);go_simp
       cases p;simp only[Act.put,ql,qc,qf,zA,zB,zC];cases L
       ·repeat ((first|(refine qU ?_ zA0 zA0 (λW hW _=>⟨W,?_,Ext.refl W⟩) ?_;rotate_left;(go_simp<;>with_reducible rfl))|(refine Qf zA0 ?_));try simp only[Act.put,ql,qe,qc,qf,zA,zB,zC])
        refine Zq (hK _ _ λW hW hF=>?_);clear hF hK HL;have b7:Ext wr W:=b4.trans hW;dsimp only[List.drop];go_wp2;all_goals first
         |(go_ret
           exact⟨by rw[HBAD.out (by rw[HCK.out,hok,HP.out];simp[HLE.out, *])];rfl,Ext.trans b2 b7⟩)
         |(go_roundw
           case rel=>exact⟨j+1+1,zO,by go_num,by rw[HSU.out,hck,HCK.out,hok,HP.out];simp[HLE.out, *],hE.trans b7⟩
           case measure=>simp[intOf];omega)
       ·by_cases hr0:x.r=0
        ·have hr1:(x.r==0)=true:=by simpa using hr0
         refine zB1 ?_;refine Zq (hK _ _ λW hW hF=>?_);clear hF hK HL;have b7:Ext wr W:=b4.trans hW;dsimp only[List.drop];go_wp2;all_goals first
          |(go_ret
            exact⟨by rw[HBAD.out (by rw[HCK.out,hok,HP.out];simp[HLE.out, *])];rfl,Ext.trans b2 b7⟩)
          |(go_roundw
            case rel=>exact⟨j+1+1,zO,by go_num,by rw[HSU.out,hck,HCK.out,hok,HP.out];simp[HLE.out, *],hE.trans b7⟩
            case measure=>simp[intOf];omega)
        ·have hr1:(x.r==0)=false:=by simpa using hr0
         refine zB1 ?_;refine Zq (hK _ _ λW hW hF=>?_);clear hF hK HL;have b7:Ext wr W:=b4.trans hW;dsimp only[List.drop];go_wp2;all_goals first
          |(go_ret
            exact⟨by rw[HBAD.out (by rw[HCK.out,hok,HP.out];simp[HLE.out, *])];rfl,Ext.trans b2 b7⟩)
          |(go_roundw
            case rel=>exact⟨j+1+1,zO,by go_num,by rw[HSU.out,hck,HCK.out,hok,HP.out];simp[HLE.out, *],hE.trans b7⟩
            case measure=>simp[intOf];omega)
    ·have hRA:itB x.r x.val.length=false:=by simpa using hok
     have hBY:=HBAD.out (HBI.out hRA);rw[VU hRA];clear HCK HBAD HBI HSU;go_wp2;go_ret;exact⟨by rw[hBY];rfl,Ext.trans b2 b4⟩
   ·obtain rfl:k=xs.length:=zO;go_wp2;go_ret;exact⟨by rw[hck];rfl,b1.trans hE⟩

def QX(l:List UInt8):Nat->Option (List It×List UInt8)
 |0=>some ([],l)
 |k+1=>match QX l k with
  |none=>none
  |some (xs,r)=>match Zc r with
   |none=>none
   |some (x,n)=>some (xs++[x],r.drop n)
def QK(l:List UInt8):Option (Int×List It):=
 if l.length=128/\qaQ l=true/\(l[4]?.getD 0)=78/\(l[6]?.getD 0).toNat<=5 then
  match QX (l.drop 7) (l[6]?.getD 0).toNat with
  |none=>none
  |some (xs,r)=>if Qj (l[5]?.getD 0).toNat xs=true/\Kq r=true then some (((l[5]?.getD 0).toNat:Int),xs)else none
 else none
theorem qax{l:List UInt8}:∀{k:Nat}{xs:List It}{r:List UInt8},QX l k=some (xs,r)->xs.length=k:=by
 intro k;induction k with
 |zero=>intro xs r h;simp[QX]at h;simp[<-h.1]
 |succ k ih=>
  intro xs r h;unfold QX at h;split at h
  ·cases h
  ·rename_i ys q hq;split at h
   ·cases h
   ·simp at h;rw[<-h.1];simp[ih hq]
def QY(x:It):Prop:=(0<=x.k/\x.k<256)/\(0<=x.i/\x.i<4294967296)/\(0<=x.o/\x.o<4294967296)/\(0<=x.r/\x.r<256)/\x.val.length<=12
def ZE(x:It):List UInt8:=UInt8.ofNat x.k.toNat::(qM x.i.toNat 4++(qM x.o.toNat 4++(qM x.r.toNat 2++(UInt8.ofNat x.val.length::x.val))))
theorem XE(x:It):(ZE x).length=12+x.val.length:=by simp[ZE,QD];omega
theorem XJ{l:List UInt8}{a k:Nat}(h:a+k<=l.length):qM (Zu l a k).toNat k=(l.drop a).take k:=by unfold Zu;rw[if_pos h];have hl:((l.drop a).take k).length=k:=zA2;have:=qcZ ((l.drop a).take k);rw[hl]at this;simpa using this
theorem VB{l:List UInt8}{a k:Nat}(h:a+k<=l.length):0<=Zu l a k/\Zu l a k<256^k:=by unfold Zu;rw[if_pos h];have:=qcj ((l.drop a).take k);have hl:((l.drop a).take k).length=k:=zA2;rw[hl]at this;refine⟨Int.natCast_nonneg _,?_⟩;have h2:((ve ((l.drop a).take k):Nat):Int)<((256^k:Nat):Int):=Int.ofNat_lt.2 this;rw[Int.natCast_pow]at h2;exact h2
theorem Km(l:List UInt8)(a b:Nat):l.take (a+b)=l.take a++(l.drop a).take b:=by rw[List.take_add]
theorem TC{l:List UInt8}{x:It}{n:Nat}(h:Zc l=some (x,n)):ZE x=l.take n/\n<=l.length/\n=12+x.val.length/\QY x/\itB x.r x.val.length=true:=by
 unfold Zc at h;split at h
 ·cases h
 ·rename_i hl;split at h
  ·rename_i hb;simp only[Option.some.injEq,Prod.mk.injEq]at h;obtain⟨rfl,rfl⟩:=h;have hs:Vg l=12+(l[11]?.getD 0).toNat:=rfl;have hv:(qbb l).val.length=Vg l-12:=by simp[qbb];omega
   have u0:=(l[0]?.getD 0).toNat_lt;have u11:=(l[11]?.getD 0).toNat_lt;have r1:=VB (l:=l) (a:=1) (k:=4) zO;have r5:=VB (l:=l) (a:=5) (k:=4) zO;have r9:=VB (l:=l) (a:=9) (k:=2) zO;have hb':=hb;simp only[itB,decide_eq_true_eq]at hb';refine⟨?_,zO,by rw[hv];omega,⟨⟨by simp[qbb],by simp[qbb];omega⟩,⟨r1.1,r1.2⟩,⟨r5.1,r5.2⟩,⟨?_,?_⟩,by rw[hv];omega⟩,by rw[hv];exact hb⟩
   ·have e1:l.take 1=[l[0]?.getD 0]:=by
     rcases l with _|⟨a,l⟩
     ·simp at hl
     ·simp
    have e11:(l.drop 11).take 1=[l[11]?.getD 0]:=by rw[List.drop_eq_getElem_cons zO,zL zO];rfl
    have:l.take (Vg l)=l.take 1++((l.drop 1).take 4++((l.drop 5).take 4++((l.drop 9).take 2++((l.drop 11).take 1++(l.drop 12).take (Vg l-12))))):=by
     conv=>lhs;rw[show Vg l=1+(4+(4+(2+(1+(Vg l-12)))))by omega]
     rw[Km l 1,Km (l.drop 1) 4,List.drop_drop,Km (l.drop (1+4)) 4,List.drop_drop,Km (l.drop (1+4+4)) 2,List.drop_drop,Km (l.drop (1+4+4+2)) 1,List.drop_drop]
    rw[this,e1,e11];unfold ZE;rw[hv];simp only[qbb];rw[XJ zO,XJ zO,XJ zO];rw[hs,Nat.add_sub_cancel_left];simp
   ·exact r9.1
   ·rcases hb'.1 with h0|h0<;>omega
  ·cases h
def QU(xs:List It):List UInt8:=xs.flatMap ZE
theorem qde(xs:List It)(x:It):QU (xs++[x])=QU xs++ZE x:=by simp[QU]
theorem UH{l:List UInt8}:∀{k:Nat}{xs:List It}{r:List UInt8},QX l k=some (xs,r)->l=QU xs++r/\∀x∈xs,QY x/\itB x.r x.val.length=true:=by
 intro k;induction k with
 |zero=>intro xs r h;simp only[QX,Option.some.injEq,Prod.mk.injEq]at h;obtain⟨rfl,rfl⟩:=h;exact⟨rfl,λ_ h=>by cases h⟩
 |succ k ih=>
  intro xs r h;unfold QX at h;split at h
  ·cases h
  ·rename_i ys q hq;split at h
   ·cases h
   ·rename_i x n hx;simp only[Option.some.injEq,Prod.mk.injEq]at h;obtain⟨rfl,rfl⟩:=h;obtain⟨h1,h2⟩:=ih hq;obtain⟨g1,g2,g3,g4,g5⟩:=TC hx;refine⟨?_,?_⟩
    ·rw[qde,g1,List.append_assoc,List.take_append_drop];exact h1
    ·intro y hy;rcases List.mem_append.1 hy with hy|hy
     ·exact h2 y hy
     ·obtain rfl:y=x:=by simpa using hy
      exact⟨g4,g5⟩
theorem YJ(xs:List It)(h:∀x∈xs,QY x):(QU xs).length<=24*xs.length:=by
 induction xs with
 |nil=>simp[QU]
 |cons x r ih=>
  have h1:=ih λy hy=>h y (by simp[hy]);have h2:=XE x;have h3:=(h x zA3).2.2.2.2;simp only[QU,List.flatMap_cons,List.length_append,List.length_cons]at h1⊢;omega
def Qx(lvl:Int)(xs:List It):List UInt8:=78::UInt8.ofNat lvl.toNat::UInt8.ofNat xs.length::QU xs
theorem zh{w w':World}{base n size:Nat}{e:TypeId}{v:Value}{xs:List Value}(h:w.ownsRow base e size v n xs)(hx:Ext w w'):w'.ownsRow base e size v n xs:=by
 refine⟨h.1,?_⟩;rcases h.2 with h0|⟨g,cap,cur,hv,hb,hg,rest⟩
 ·exact .inl h0
 ·exact .inr ⟨g,cap,cur,hv,hb,qb hg hx,rest⟩
theorem QB{w:World}{base base' n size:Nat}{e:TypeId}{v:Value}{xs:List Value}(h:w.ownsRow base e size v n xs)(hb:base'<=base):w.ownsRow base' e size v n xs:=by
 refine⟨h.1,?_⟩;rcases h.2 with h0|⟨g,cap,cur,hv,hb',rest⟩
 ·exact .inl h0
 ·exact .inr ⟨g,cap,cur,hv,Nat.le_trans hb hb',rest⟩
theorem qeo{w w':World}{B b:Nat}{o:Obj}(h:w.heap[b]?=some o)(hb:b<B)(hx:Below B w w'):w'.heap[b]?=some o:=(hx.block b hb).trans h
def Done(base:Nat)(e:TypeId)(size lo:Nat)(v:Value)(m:Nat)(ys:List Value)(v':Value)(W:World):Prop:=
 W.ownsRow base e size v' m ys/\(v'.ownBlock=v.ownBlock\/∃g,v'.ownBlock=some g/\lo<=g)
def KP(base:Nat)(e:TypeId)(size lo:Nat)(v:Value)(n:Nat)(xs:List Value)(m:Nat)(ys:List Value):Rel where
 rel W W':=W.grownBy W' v.ownBlock/\(W.ownsRow base e size v n xs->W'.ownsRow base e size v n xs)/\∀v',Done base e size lo v m ys v' W->Done base e size lo v m ys v' W'
 refl' W:=⟨World.grownBy.refl _ _,id,λ_=>id⟩
 trans' h k:=⟨h.1.trans k.1,λx=>k.2.1 (h.2.1 x),λv' x=>k.2.2 v' (h.2.2 v' x)⟩
 drew' W:=⟨⟨rfl,rfl,rfl,zM _,λ_ _ _=>rfl⟩,λh=>h.drew,λv' h=>⟨h.1.drew,h.2⟩⟩
section
variable {base:Nat} {e:TypeId} {size lo:Nat} {v:Value} {n:Nat} {xs:List Value} {m:Nat} {ys:List Value}
theorem ZD{W W':World}(h:Ext W W')(row:Option Nat):W.grownBy W' row:=⟨h.os,h.tape,h.output,h.size,λk hk _=>h.block k hk⟩
theorem TR{W W':World}(h:Ext W W'):(KP base e size lo v n xs m ys).r W W':=
 ⟨ZD h _,λx=>zh x h,λ_ x=>⟨zh x.1 h,x.2⟩⟩
theorem jY{W W':World}(h:(KP base e size lo v n xs m ys).r W W'){p:Addr}{u:Value}(hp:v.ownBlock≠some p.block)(hc:W.cell? p=some u):W'.cell? p=some u:=
 World.grownBy.cell h.1 hc (λx=>hp x.symm)
theorem kQ{W W':World}(h:(KP base e size lo v n xs m ys).r W W'){b:Nat}{o:Obj}(hp:v.ownBlock≠some b)(hc:W.heap[b]?=some o):W'.heap[b]?=some o:=
 (h.1.block b (zG.1 hc).1 (λx=>hp x.symm)).trans hc
theorem Uk{w:World}{g cap m:Nat}{news:List Value}(h:w.ownsRow base e size (.slice (some ⟨g,0,none⟩) (n+m) cap) (n+m) (xs++news))(hx:xs.length=n*size):w.ownsRow base e size (.slice (some ⟨g,0,none⟩) n cap) n xs:=by
 refine⟨hx,?_⟩;rcases h.2 with⟨h0,_⟩|⟨g',cap',cur,hv,hb,hg,hnc,hcm,hcs,htk⟩
 ·simp at h0
 ·simp only[Value.slice.injEq,Option.some.injEq,Addr.mk.injEq,and_true,true_and]at hv;obtain⟨rfl,rfl⟩:=hv;refine .inr ⟨g,cap,cur,rfl,hb,hg,zO,hcm,hcs,?_⟩;have:cur.toList.take (n*size)=(cur.toList.take ((n+m)*size)).take (n*size):=by rw[List.take_take,Nat.min_eq_left (Nat.mul_le_mul_right _ (Nat.le_add_right _ _))]
  rw[this,htk,<-hx,List.take_left]
theorem Xe{P:Program}(W:World)(t ty:TypeId)(i:TypeInfo)(z:Value)(bytes:Nat)(ht:P.underlying t=some (.slice e))(hi:P.info? e=some i)(hz:i.zero=some z)(hLG:i.size=size)(hby:i.bytes=bytes)(hzs:z.cells.size=size)(hsz:0<size)(hAE:W.ownsRow base e size v n xs)(a:Addr)(k c:Nat)(news:List Value)(hl:news.length=k*size)(wKE:∀j u,news[j]?=some u->W.cell? (a.add j)=some u)(h1:∀u∈news,u.oneCell'=true)(hn:n+k<1073741824)(hKT:bytes<=65536)(hUO:base<=W.heap.size)(hlo:lo<=W.heap.size):∃v' w',(Builtin.append_ #[t,t] ty #[v,.slice (some a) k c]).run P W=.ok v' w'/\Done base e size lo v (n+k) (xs++news) v' w'/\(KP base e size lo v n xs (n+k) (xs++news)).r W w':=by
 have hb:(n+k)*bytes<=140737488355328:=Nat.le_trans (Nat.mul_le_mul_left _ hKT) zO;have hm:n+k<=maxLen:=zA7;obtain⟨v',w',hr,h2,h3,_,h5⟩:=run_append_own_at (P:=P) W base t ty e i z size bytes ht hi hz hLG hby hzs hsz v n xs hAE a k c news hl wKE h1 hm hb hUO;have hD:Done base e size lo v (n+k) (xs++news) v' w':=⟨h2,h5.imp id λe=>⟨_,e,hlo⟩⟩
 rcases hAE.2 with⟨rfl,rfl⟩|⟨g,cap,cur,rfl,hbg,hg,hnc,hcm,hcs,htk⟩
 ·exact⟨v',w',hr,hD,TR ⟨h3.os,h3.tape,h3.output,h3.size,λk hk=>h3.block k hk (by simp[Value.ownBlock])⟩⟩
 ·by_cases hroom:n+k<=cap
  ·obtain⟨w2,hr2,g2,g3⟩:=run_append_fits (P:=P) W base t ty e i size ht hi hLG g n cap xs hAE a k c news hl wKE h1 hroom;refine⟨_,w2,hr2,⟨g2,.inl rfl⟩,g3,λ_=>Uk g2 hAE.1,λu hu=>⟨?_,hu.2⟩⟩;rcases hu.1.2 with h0|⟨g',cap',cur',rfl,hbg',hg',hnc',hcm',wMY,htk'⟩
   ·exact⟨hu.1.1,.inl h0⟩
   ·by_cases hgg:g'=g
    ·subst hgg;rw[hg]at hg';simp only[Option.some.injEq,Obj.cells.injEq]at hg';obtain⟨rfl,_⟩:=hg';obtain rfl:cap'=cap:=by
      have:cap'*size=cap*size:=by rw[<-wMY,<-hcs]
      exact Nat.eq_of_mul_eq_mul_right hsz this
     exact g2
    ·exact⟨hu.1.1,.inr ⟨g',cap',cur',rfl,hbg',(g3.block g' (zG.1 hg').1 (by simpa using hgg)).trans hg',hnc',hcm',wMY,htk'⟩⟩
  ·have holds:∀j u,xs[j]?=some u->W.cell? ((⟨g,0,none⟩:Addr).add j)=some u:=hAE.cells (g:=g) rfl;subst hLG;subst hby;have hr':=run_append_grow (P:=P) W t ty e i z ht hi hz ⟨g,0,none⟩ n cap xs hAE.1 holds a k c news hl wKE zO (by unfold maxLen at hm;omega) (growslice_fits zO hb);rw[hr]at hr';cases hr';exact⟨_,_,hr,hD,TR ((Ext.drew W).trans (zN _ _))⟩
def UX(base:Nat)(e:TypeId)(size lo:Nat)(v:Value)(m:Nat)(ys:List Value):qZ:=⟨Value,λu=>u,λu W=>Done base e size lo v m ys u W⟩
theorem QL(base:Nat)(e:TypeId)(size lo:Nat)(v:Value)(m:Nat)(ys:List Value)(u:Value):(UX base e size lo v m ys).f u=u:=rfl
theorem qcm:∀p,qS (KP base e size lo v n xs m ys) ((UX base e size lo v m ys).φ p):=λp _ _ he h=>he.2.2 p h
def jg(lo n:Nat)(ty:TypeId)(cs:Array Value):qZ:=⟨Nat,λb=>.slice (some ⟨b,0,none⟩) n n,λb W=>W.heap[b]?=some (.cells cs ty (0,0))/\lo<=b⟩
theorem qy(lo n:Nat)(ty:TypeId)(cs:Array Value)(b:Nat):(jg lo n ty cs).f b=.slice (some ⟨b,0,none⟩) n n:=rfl
theorem jS(lo n:Nat)(ty:TypeId)(cs:Array Value):∀p,QV ((jg lo n ty cs).φ p):=λp W W' he h=>
 ⟨(Below.block he p (zG.1 h.1).1).trans h.1,h.2⟩
theorem XN{lo' n':Nat}{ty:TypeId}{cs:Array Value}(hlo:∀g,v.ownBlock=some g->g<lo'):∀p,qS (KP base e size lo v n xs m ys) ((jg lo' n' ty cs).φ p):=λp _ _ he h=>
 ⟨kQ he (λx=>by have:=hlo p x;have:=h.2;omega) h.1,h.2⟩
theorem YH{P:Program}{o:Oper}{a:Act}{W:World}{lo' n':Nat}{ty:TypeId}{cs:Array Value}(hr:(execOp a.eval o).run P W=.ok (.value (.slice (some ⟨W.heap.size,0,none⟩) n' n')) (W.alloc (.cells cs ty)))(hlo:lo'<=W.heap.size):vw P o a W (jg lo' n' ty cs):=by
 unfold vw;rw[hr];exact⟨W.heap.size,rfl,⟨zI _ _ _ rfl,hlo⟩,zN _ _⟩
theorem qat{P:Program}{o:Oper}{a:Act}{W:World}{lo' n':Nat}{ty:TypeId}{cs:Array Value}(hr:(execOp a.eval o).run P W=.ok (.value (.slice (some ⟨W.heap.size,0,none⟩) n' n')) (W.alloc (.cells cs ty)))(hlo:lo'<=W.heap.size):Qr (KP base e size lo v n xs m ys) P o a W (jg lo' n' ty cs):=by
 unfold Qr;rw[hr];exact⟨W.heap.size,rfl,⟨zI _ _ _ rfl,hlo⟩,TR (zN _ _)⟩
theorem qhm{W:World}{b:Nat}{cs:Array Value}{t:TypeId}(h:W.heap[b]?=some (.cells cs t (0,0))):∀j u,cs.toList[j]?=some u->W.cell? ((⟨b,0,none⟩:Addr).add j)=some u:=by
 intro j u hj;have h2:W.cell? ⟨b,0+j,none⟩=some u:=by rw[qa h];simpa using hj
 rw[<-h2];unfold Addr.add;split
 ·subst_vars;rfl
 ·rfl
theorem VC{w:World}{base n size:Nat}{e:TypeId}{v:Value}{xs:List Value}(h:w.ownsRow base e size v n xs){p:Addr}(hp:p.block<base)(u:Value):(w.setCell p u).ownsRow base e size v n xs:=by
 refine⟨h.1,?_⟩;rcases h.2 with h0|⟨g,cap,cur,hv,hb,hg,rest⟩
 ·exact .inl h0
 ·exact .inr ⟨g,cap,cur,hv,hb,(zJ _ _ _ _ zO).trans hg,rest⟩
end
def Xb(v u:Value):Prop:=∀a n c,u=.slice (some a) n c->0<n->v.ownBlock≠some a.block
theorem Bys.grown{w w':World}{u:Value}{l:List UInt8}{row:Option Nat}(h:Bys w w.heap.size u l)(hg:w.grownBy w' row)(ha:∀a n c,u=.slice (some a) n c->0<n->row≠some a.block):Bys w' w'.heap.size u l:=by obtain⟨A,c,e,hc,hm,hr⟩:=h;refine⟨A,c,e,hc,hm,hr.1,λhn=>?_⟩;obtain⟨b,off,rfl,hb,hAL⟩:=hr.2 hn;refine⟨b,off,rfl,Nat.lt_of_lt_of_le hb hg.size,λj x hx=>?_⟩;exact World.grownBy.cell hg (hAL j x hx) (λx=>ha _ _ _ e hn x.symm)
theorem Xb.of_from{v u:Value}{lo:Nat}(hf:Zw lo u)(hv:∀g,v.ownBlock=some g->g<lo):Xb v u:=by intro a n c e _ hx;have:=hv _ hx;have:=hf a n c e;omega
theorem QM{w:World}{base n size:Nat}{e:TypeId}{v:Value}{xs:List Value}(h:w.ownsRow base e size v n xs):∀g,v.ownBlock=some g->base<=g/\g<w.heap.size:=by
 intro g hg;rcases h.2 with⟨rfl,_⟩|⟨g',cap,cur,rfl,hb,hg',_⟩
 ·simp[Value.ownBlock]at hg
 ·simp only[Value.ownBlock,Option.some.injEq]at hg;subst hg;exact⟨hb,(zG.1 hg').1⟩
theorem qG{w:World}{base n size:Nat}{e:TypeId}{v:Value}{xs:List Value}(h:w.ownsRow base e size v n xs):∃A c,v=.slice A n c/\n<=c/\c<=maxLen:=by
 rcases h.2 with⟨rfl,h0⟩|⟨g,cap,cur,rfl,_,_,hnc,hcm,_⟩
 ·exact⟨none,0,by rw[h0],zO,by simp[maxLen]⟩
 ·exact⟨_,cap,rfl,hnc,hcm⟩
def ZB(lo:Nat)(w:World)(v:Value)(xs:List It):Prop:=
 ∃ps:List (It×Value),ps.map (·.1)=xs/\(∃A c,v=.slice A xs.length c/\xs.length<=c/\c<=maxLen/\Rd w w.heap.size 5 A xs.length (qC ps))/\(∀p∈ps,(∃A c,p.2=.slice A p.1.val.length c)/\Bys w w.heap.size p.2 p.1.val)/\Zw lo v/\∀p∈ps,Zw lo p.2
theorem ZB.its{lo:Nat}{w:World}{v:Value}{xs:List It}(h:ZB lo w v xs):Its w w.heap.size v xs:=by obtain⟨ps,h1,h2,h3,_⟩:=h;exact⟨ps,h1,h2,h3⟩
theorem ZB.mono{lo lo':Nat}{w:World}{v:Value}{xs:List It}(h:ZB lo w v xs)(hl:lo'<=lo):ZB lo' w v xs:=by obtain⟨ps,h1,h2,h3,h4,h5⟩:=h;exact⟨ps,h1,h2,h3,h4.mono hl,λp hp=>(h5 p hp).mono hl⟩
theorem ZB.keep{lo:Nat}{w w':World}{v:Value}{xs:List It}(h:ZB lo w v xs)(hs:w.heap.size<=w'.heap.size)(hk:∀p:Addr,lo<=p.block->p.block<w.heap.size->w'.cell? p=w.cell? p):ZB lo w' v xs:=by
 have key:∀{size n:Nat}{A:OA}{us:List Value}{c:Nat},Rd w w.heap.size size A n us->Zw lo (.slice A n c)->Rd w' w'.heap.size size A n us:=by intro size n A us c hr hf;refine⟨hr.1,λhn=>?_⟩;obtain⟨b,off,rfl,hb,hAL⟩:=hr.2 hn;exact⟨b,off,rfl,Nat.lt_of_lt_of_le hb hs,λj x hx=>(hk ⟨b,off+j,none⟩ (hf ⟨b,off,none⟩ _ _ rfl) hb).trans (hAL j x hx)⟩
 obtain⟨ps,h1,⟨A,c,e,h2,h3,h4⟩,h5,h6,h7⟩:=h;refine⟨ps,h1,⟨A,c,e,h2,h3,key h4 (by rw[<-e];exact h6)⟩,λp hp=>⟨(h5 p hp).1,?_⟩,h6,h7⟩;obtain⟨_,A',c',e',g2,g3,g4⟩:=h5 p hp;exact⟨A',c',e',g2,g3,key g4 (by rw[<-e'];exact h7 p hp)⟩
theorem ZB.ext{lo:Nat}{w w':World}{v:Value}{xs:List It}(h:ZB lo w v xs)(hx:Ext w w'):ZB lo w' v xs:=h.keep hx.size λ_ _ hp=>Below.cell hx hp
abbrev qaw(x:It)(u:Value):List Value:=[.int .u8 x.k,.int .u32 x.i,.int .u32 x.o,.int .i64 x.r,u]
theorem qgi(ps:List (It×Value))(x:It)(u:Value):qC (ps++[(x,u)])=qC ps++qaw x u:=by rw[Zk];rfl
def Kr(base lo:Nat)(w:World)(v:Value)(ps:List (It×Value)):Prop:=
 w.ownsRow base 51 5 v ps.length (qC ps)/\∀p∈ps,((∃A c,p.2=.slice A p.1.val.length c)/\Zw lo p.2)/\Bys w w.heap.size p.2 p.1.val/\Xb v p.2
theorem Kr.nil(base lo:Nat)(w:World):Kr base lo w (.slice none 0 0) []:=⟨World.ownsRow_nil _ _ _ _,λ_ h=>by cases h⟩
theorem Kr.ext{base lo:Nat}{w w':World}{v:Value}{ps:List (It×Value)}(h:Kr base lo w v ps)(hx:Ext w w'):Kr base lo w' v ps:=
 ⟨zh h.1 hx,λp hp=>⟨(h.2 p hp).1,((h.2 p hp).2.1.below hx).more hx.size,(h.2 p hp).2.2⟩⟩
theorem Kr.push{base lo lo2:Nat}{w W:World}{v v':Value}{ps:List (It×Value)}(h:Kr base lo w v ps)(x:It)(A c)(hb:Bys w w.heap.size (.slice A x.val.length c) x.val)(hf:Zw lo (.slice A x.val.length c))(ha:Xb v (.slice A x.val.length c))(hl:lo2=w.heap.size)(hD:Done base 51 5 lo2 v (ps.length+1) (qC ps++qaw x (.slice A x.val.length c)) v' W)(hg:w.grownBy W v.ownBlock):Kr base lo W v' (ps++[(x,.slice A x.val.length c)]):=by
 subst hl;refine⟨by rw[qgi,List.length_append];exact hD.1,?_⟩;have key:∀u l,Bys w w.heap.size u l->Xb v u->Bys W W.heap.size u l/\Xb v' u:=by
  intro u l hu hau;refine⟨hu.grown hg hau,λa n c e hn=>?_⟩;rcases hD.2 with h1|⟨g,h1,h2⟩
  ·rw[h1];exact hau a n c e hn
  ·rw[h1];intro hx;simp only[Option.some.injEq]at hx;obtain⟨A',c',e',_,_,hr⟩:=hu;rw[e]at e';simp only[Value.slice.injEq]at e';obtain⟨e1,e2,_⟩:=e';obtain⟨b,off,e3,hbb,_⟩:=hr.2 zO;rw[<-e1]at e3;simp only[Option.some.injEq]at e3;rw[e3]at hx;simp at hx;omega
 intro p hp;rcases List.mem_append.1 hp with hp|hp
 ·have:=h.2 p hp;exact⟨this.1,key _ _ this.2.1 this.2.2⟩
 ·obtain rfl:p=(x,.slice A x.val.length c):=by simpa using hp
  exact⟨⟨⟨_,_,rfl⟩,hf⟩,key _ _ hb ha⟩
theorem Kr.setCell{base lo:Nat}{w:World}{v:Value}{ps:List (It×Value)}(h:Kr base lo w v ps){p:Addr}(hp:p.block<base)(hl:p.block<lo)(u:Value):Kr base lo (w.setCell p u) v ps:=
 ⟨VC h.1 hp u,λq hq=>⟨(h.2 q hq).1,by simpa using(h.2 q hq).2.1.setCell (h.2 q hq).1.2 hl u,(h.2 q hq).2.2⟩⟩
theorem Kr.its{base lo:Nat}{w:World}{v:Value}{ps:List (It×Value)}(h:Kr base lo w v ps)(hl:lo<=base):ZB lo w v (ps.map (·.1))/\∃A c,v=.slice A ps.length c:=by
 have hf:Zw base v:=Zw.of_own h.1;obtain⟨A,c,e,h1,h2⟩:∃A c,v=.slice A ps.length c/\ps.length<=c/\c<=maxLen:=by
  rcases h.1.2 with⟨rfl,h0⟩|⟨g,cap,cur,rfl,_,_,hnc,hcm,_⟩
  ·exact⟨none,0,by rw[h0],zO,by simp[maxLen]⟩
  ·exact⟨_,cap,rfl,hnc,hcm⟩
 refine⟨⟨ps,rfl,⟨A,c,by rw[List.length_map];exact e,by rw[List.length_map];exact h1,h2,?_⟩,λp hp=>⟨(h.2 p hp).1.1,(h.2 p hp).2.1⟩,hf.mono hl,λp hp=>(h.2 p hp).1.2⟩,A,c,e⟩;rw[List.length_map];have:=h.1;rw[e]at this;exact Rd.of_own this
theorem XF{w:World}{lo:Nat}{xs:List It}{A:OA}{n' c':Nat}(h:ZB lo w (.slice A n' c') xs)(b off n c:Nat)(j:Nat)(e:(Value.slice A n' c')=.slice (some ⟨b,off,none⟩) n c)(hn:0<n):lo<=(⟨b,j,none⟩:Addr).block:=by obtain⟨ps,h1,h2,h3,h4,h5⟩:=h;exact h4 ⟨b,off,none⟩ _ _ e
theorem qeS{l:List UInt8}{k:Nat}(h:QX l k=none):∀m,k<=m->QX l m=none:=by
 intro m hm;induction m with
 |zero=>
  obtain rfl:k=0:=zO;exact h
 |succ m ih=>
  rcases Nat.lt_or_ge k (m+1)with h'|h'
  ·unfold QX;rw[ih zO]
  ·obtain rfl:k=m+1:=zO;exact h
theorem UI{l r:List UInt8}{k:Nat}{xs:List It}(h:QX l k=some (xs,r)):QX l (k+1)=match Zc r with|none=>none|some (x,n)=>some (xs++[x],r.drop n):=by
 conv=>lhs;unfold QX
 rw[h]<;>rfl
theorem qgE{l r:List UInt8}{k:Nat}{xs:List It}(h:QX l k=some (xs,r))(hr:Zc r=none):∀m,k<m->QX l m=none:=by
 intro m hm;have:QX l (k+1)=none:=by rw[UI h,hr]
 exact qeS this m zO
theorem UG{l r:List UInt8}{k n:Nat}{xs:List It}{x:It}(h:QX l k=some (xs,r))(hr:Zc r=some (x,n)):QX l (k+1)=some (xs++[x],r.drop n):=by rw[UI h,hr]
def YQ(p0 p1 p2:Nat)(l7:List UInt8):Option (Int×List It):=
 if p0=78/\p2<=5 then
  match QX l7 p2 with
  |none=>none
  |some (xs,r)=>if Qj p1 xs=true/\Kq r=true then some ((p1:Int),xs)else none
 else none
theorem qaF{l:List UInt8}(hl:l.length=128)(hs:qaQ l=true):QK l=YQ (l[4]?.getD 0).toNat (l[5]?.getD 0).toNat (l[6]?.getD 0).toNat (l.drop 7):=by
 unfold QK YQ;have:(l[4]?.getD 0)=78↔(l[4]?.getD 0).toNat=78:=by
  constructor
  ·intro h;rw[h];rfl
  ·intro h;exact UInt8.toNat.inj h
 simp only[hl,hs,this,true_and]<;>rfl
theorem qgS{p0 p1 p2:Nat}{l7:List UInt8}(h:¬(p0=78/\p2<=5)):YQ p0 p1 p2 l7=none:=by unfold YQ;rw[if_neg h]
theorem qgT{p1 p2:Nat}{l7:List UInt8}(h:QX l7 p2=none):YQ 78 p1 p2 l7=none:=by
 unfold YQ;split
 ·rw[h]
 ·rfl
theorem qaE{p1 p2:Nat}{l7 r:List UInt8}{xs:List It}(h2:p2<=5)(h:QX l7 p2=some (xs,r)):YQ 78 p1 p2 l7=if Qj p1 xs=true/\Kq r=true then some ((p1:Int),xs)else none:=by unfold YQ;rw[if_pos ⟨rfl,h2⟩,h]
theorem YK{l r:List UInt8}{k:Nat}{xs:List It}(h:QX l k=some (xs,r))(hk:k<=5)(hl:l.length=121):0<r.length/\r.length<=121:=by
 obtain⟨e,hx⟩:=UH h;have h1:=YJ xs λx hx'=>(hx x hx').1;have h2:=qax h;have h3:l.length=(QU xs).length+r.length:=by rw[e,List.length_append]
 omega
def qbr(lo:Nat)(q:Option (Int×List It))(u:Value)(W:World):Prop:=
 match q with
 |none=>∃e:Int,e≠0/\u=.tuple #[jL 0 none 0 0,.int .i64 e]
 |some (lvl,xs)=>∃A c,u=.tuple #[jL lvl A xs.length c,.int .i64 0]/\ZB lo W (.slice A xs.length c) xs
def NzI(W:World)(v:Value):Prop:=∀b off n c i u,v=.slice (some ⟨b,off,none⟩) n c->i<n->W.cell? ⟨b,off+i*5+4,none⟩=some u->Nz W u
theorem NzI.keep{W W':World}{v:Value}(h:NzI W v)(hc:∀b off n c,v=.slice (some ⟨b,off,none⟩) n c->0<n->∀j,W'.cell? ⟨b,j,none⟩=W.cell? ⟨b,j,none⟩)(hn:∀u,Nz W u->Nz W' u):NzI W' v:=λb off n c i u e hi hu=>
 hn u (h b off n c i u e hi (by rw[<-hc b off n c e zO];exact hu))
theorem NzI.ext{W W':World}{v:Value}(h:NzI W v)(hx:Ext W W')(hb:∀b off n c,v=.slice (some ⟨b,off,none⟩) n c->0<n->b<W.heap.size):NzI W' v:=
 h.keep (λb off n c e hn j=>Below.cell hx (p:=⟨b,j,none⟩) (hb b off n c e hn)) λu hu=>hu.ext hx
theorem Kr.nzi{base lo:Nat}{w:World}{v:Value}{ps:List (It×Value)}(h:Kr base lo w v ps)(hz:∀p∈ps,Nz w p.2):NzI w v:=λb off n c i u e hi hu=>by subst e;obtain⟨A,c',e',-⟩:=qG h.1;simp only[Value.slice.injEq]at e';obtain⟨rfl,rfl,rfl⟩:=e';have h1:=(Rd.of_own h.1).2 zO;obtain⟨b',off',e,-,hAL⟩:=h1;simp only[Option.some.injEq,Addr.mk.injEq,and_true]at e;obtain⟨rfl,rfl⟩:=e;have h2:=hAL (i*5+4) _ (JX ps i hi).2.2.2.2;rw[<-Nat.add_assoc,hu]at h2;rw[Option.some.inj h2];exact hz _ (List.getElem_mem hi)
theorem qjM{w W:World}{v:Value}{ps:List (It×Value)}{base lo:Nat}(h:Kr base lo w v ps)(hz:∀p∈ps,Nz w p.2){x:It}{u:Value}(hu:Nz w u)(ha:Xb v u)(hg:w.grownBy W v.ownBlock)(q:Addr)(t:Value):∀p∈ps++[(x,u)],Nz (W.setCell q t) p.2:=by
 have key:∀u,Nz w u->Xb v u->Nz (W.setCell q t) u:=λu hu hau=>Nz.setCell (λa n c e hn=>by obtain⟨cs,ty,hr⟩:=hu a n c e hn;exact⟨cs,ty,(hg.block a.block (zG.1 hr).1 (λx=>hau a n c e hn x.symm)).trans hr⟩) q t;intro p hp;rcases List.mem_append.1 hp with hp|hp
 ·exact key _ (hz p hp) (h.2 p hp).2.2
 ·obtain rfl:p=(x,u):=by simpa using hp
  exact key _ hu ha
def qah(lo:Nat)(q:Option (Int×List It))(u:Value)(W:World):Prop:=
 match q with
 |none=>∃e:Int,e≠0/\u=.tuple #[jL 0 none 0 0,.int .i64 e]
 |some (lvl,xs)=>∃A c,u=.tuple #[jL lvl A xs.length c,.int .i64 0]/\ZB lo W (.slice A xs.length c) xs/\NzI W (.slice A xs.length c)
theorem qah.nodeP{lo:Nat}{q:Option (Int×List It)}{u:Value}{W:World}(h:qah lo q u W):qbr lo q u W:=by
 rcases q with _|⟨lvl,xs⟩
 ·exact h
 ·obtain⟨A,c,h1,h2,-⟩:=h;exact⟨A,c,h1,h2⟩
theorem Ke(lvl:Int)(A n c)(xs:List It)(w:World)(hx:Its w w.heap.size (.slice A n c) xs):Calls prog 182 #[jL lvl A n c] w (Ret (.int .i64 (vO (Qj lvl xs))) w):=by
 by_cases h:ZZ lvl n=true
 ·exact qiE lvl A n c xs w hx h
 ·have hn:n=xs.length:=hx.at_.1;have h':ZZ lvl n=false:=by simpa using h
  have:Qj lvl xs=false:=by unfold Qj;rw[<-hn,h'];rfl
  rw[this];exact qgP lvl A n c h' w
theorem Tryz.info_item:(Tryz.prog.info? 51).map (λi=>(i.zero,i.size,i.bytes))=some (some (.agg #[.int .u8 0,.int .u32 0,.int .u32 0,.int .i64 0,.slice none 0 0]),5,48):=zQ
abbrev VT(e:Int):Value:=.tuple #[jL 0 none 0 0,.int .i64 e]
set_option maxRecDepth 100000 in
theorem qci(v:Value)(l:List UInt8)(w:World)(h:Bys w w.heap.size v l):Calls prog 136 #[v] w (zm (qah w.heap.size (QK l)) w):=by
 by_cases hl:l.length=128
 case neg=>
  have hq:QK l=none:=by unfold QK;rw[if_neg (λx=>hl x.1)]
  rw[hq];have HO:=zH (λW hW=>open_len v l hl W hW);go_enter func136,ntmps136;go_wp2_with fail;generalize hw1:(World.alloc _ _)=w1;have b1:Ext w w1:=by rw[<-hw1];exact zN _ _
  have r1:w1.heap[w.heap.size]?=some (.cells #[.int .i64 0,.slice none 0 0] 113 (0,0)):=by rw[<-hw1];exact zI _ _ _ rfl
  clear hw1;refine(HO.out _ ((h.below b1).more b1.size)).mono ?_;rintro e w2 ⟨rfl,hB⟩;have b2:Below w.heap.size w w2:=Ext.trans b1 hB;have r2:=qb r1 hB;have k2:=qa r2;have f2:=qg r2;go_wp2;refine bodyPost_ret (v:=VT 3) (by simp[results,results136,go_sem,k2]) rfl ⟨_,rfl,⟨3,zA1,rfl⟩,zA5⟩
 case pos=>
  have HO:=zH (λW hW=>open_any v l hl W hW);generalize hR:QK l=R;replace hR:=zH hR.symm;go_enter func136,ntmps136;go_wp2_with fail;generalize hw1:(World.alloc _ _)=w1;have b1:Ext w w1:=by rw[<-hw1];exact zN _ _
  have r1:w1.heap[w.heap.size]?=some (.cells #[.int .i64 0,.slice none 0 0] 113 (0,0)):=by rw[<-hw1];exact zI _ _ _ rfl
  clear hw1;refine(HO.out _ ((h.below b1).more b1.size)).mono ?_;clear HO h;rintro e w2 ⟨u,rfl,hu,hB⟩;have b2:Ext w w2:=Ext.trans b1 hB;have r2:=qb r1 hB;have s1:w.heap.size<w1.heap.size:=(zG.1 r1).1;by_cases hs:qaQ l=true
  case neg=>
   have hs':qaQ l=false:=by simpa using hs
   obtain rfl:R=none:=by rw[hR.out];unfold QK;rw[if_neg (λx=>hs x.2.1)]
   rw[hs']at hu;simp only[Bool.false_eq_true,if_false]at hu;subst hu;clear b1 r1 hB hR hs hs';have b2':Below w.heap.size w w2:=b2;have k2:=qa r2;have f2:=qg r2;go_wp2;refine bodyPost_ret (v:=VT 8) (by simp[results,results136,go_sem,k2]) rfl ⟨_,rfl,⟨8,zA1,rfl⟩,zA5⟩
  case pos=>
   rw[hs,if_pos rfl]at hu;obtain⟨u',rfl,A,c,rfl,hb,hf⟩:=hu;have hb3:(l.drop 4).length=124:=zA2;obtain⟨_,hc,hm,hA⟩:=hb.at_;obtain⟨b,off,rfl,hbl⟩:=hA zO;have hAL:∀j,j<124->w2.cell? ⟨b,off+j,none⟩=some (.int .u8 ((l[4+j]?.getD 0).toNat:Int)):=by intro j hj;obtain⟨A,c',e,_,_,hr⟩:=hb;simp only[Value.slice.injEq]at e;obtain⟨rfl,_,rfl⟩:=e;obtain⟨b',off',e,_,hAL⟩:=hr.2 zO;simp only[Option.some.injEq,Addr.mk.injEq,and_true]at e;obtain⟨rfl,rfl⟩:=e;refine hAL j _ ?_;rw[List.getElem?_map,List.getElem?_drop,zL zO];rfl
   have c0:=hAL 0 zO;have c1:=hAL 1 zO;have c2:=hAL 2 zO;have hQK:Bys w2 w2.heap.size (.slice (some ⟨b,off+3,none⟩) 121 (c-3)) (l.drop 7):=by
    have:=hb.sub (a:=3) (k:=121) zO
    rwa [List.drop_drop,List.take_of_length_le zA2]at this
   have hN:R=YQ (l[4]?.getD 0).toNat (l[5]?.getD 0).toNat (l[6]?.getD 0).toNat (l.drop 7):=by rw[hR.out];exact qaF hl hs
   have hl7:(l.drop 7).length=121:=zA2;have u1:=(l[5]?.getD 0).toNat_lt;have u2:=(l[6]?.getD 0).toNat_lt;clear hAL hb hA hB r1 b1 hf hb3;rw[Nat.add_zero]at c0;clear hR;replace hN:=zH hN;generalize(l[4]?.getD 0).toNat=p0 at*;generalize(l[5]?.getD 0).toNat=p1 at*;generalize(l[6]?.getD 0).toNat=p2 at*;generalize l.drop 7=l7 at*;unfold maxLen at hm;have s2:w.heap.size<w2.heap.size:=(zG.1 r2).1;have k2:=qa r2;have f2:=qg r2;have b2':Below w.heap.size w w2:=b2;by_cases hhd:p0=78/\p2<=5
   case neg=>
    obtain rfl:R=none:=by rw[hN.out,qgS hhd]
    clear hN;go_wp2;all_goals try simp only[beq_iff_eq,beq_eq_false_iff_ne,ne_eq]at*
    all_goals first|(exfalso;omega)|skip
    all_goals
     generalize hwf:(World.alloc _ _)=wf;have rf:wf.heap[w.heap.size]?=some (.cells #[.int .i64 0,.slice none 0 0] 113 (0,0)):=by rw[<-hwf];exact(zK _ _ _ (by simpa using s2)).trans (qo (qo r2 0 _) 1 _)
     have bf:Below w.heap.size w wf:=by rw[<-hwf];exact(by repeat' (first|with_reducible exact Below.refl _ _|with_reducible assumption|with_reducible apply Below.drew|with_reducible apply qR|with_reducible refine Below.alloc ?_ ?_ _|with_reducible refine Below.setCell ?_ ?_ _|(simp;done)|(simp;omega)|omega))
     have kf:=qa rf;exact bodyPost_ret (v:=VT 8) (by simp[results,results136,go_sem,kf]) rfl ⟨_,rfl,⟨8,zA1,rfl⟩,bf⟩
   case pos=>
    obtain⟨rfl,hp2⟩:=hhd;have hN2:=zH (λh=>hN.out.trans (@qgT p1 p2 l7 h));have hN3:=zH (λr xs h=>hN.out.trans (@qaE p1 p2 l7 r xs hp2 h));clear hN;go_wp2;generalize hw3:(World.alloc _ _)=w3;have b3:Ext w2 w3:=by rw[<-hw3];exact zN _ _
    have r3:w3.heap[w2.heap.size]?=some (.cells #[.int .i64 p1,.slice none 0 0] 113 (0,0)):=by rw[<-hw3];exact zI _ _ _ rfl
    have hre:Bys w3 w2.heap.size (.slice (some ⟨b,off+3,none⟩) 121 (c-3)) l7:=hQK.below b3;have rr3:=qb r2 b3;have b23:Below w2.heap.size w2 w3:=b3;clear hw3 hQK k2 f2 r2 c0 c1 hbl;generalize hnb:w2.heap.size=nb at*;go_loopw [7,42] (λrs i wr=>∃(k:Nat)(xs:List It)(r:List UInt8)(o cc:Nat)(v:Value)(ps:List (It×Value)),k<=p2/\i=.int .u8 (k:Int)/\QX l7 k=some (xs,r)/\rs=.slice (some ⟨b,o,none⟩) r.length cc/\Bys w3 nb rs r /\
      wr.heap[nb]?=some (.cells #[.int .i64 p1,v] 113 (0,0))/\Kr (nb+1) (nb+1) wr v ps/\ps.map (·.1)=xs/\Below nb w3 wr/\∀p∈ps,Nz wr p.2) (λ_ i _=>p2-(intOf i).toNat)
    case atStart=>exact⟨0,[],l7,off+3,c-3,.slice none 0 0,[],zO,rfl,rfl,by rw[hl7],hre,r3,Kr.nil _ _ _,rfl,Below.refl _ _,λ_ h=>by cases h⟩
    case round=>
     obtain⟨k,xs,r,o,cc,v1,ps,hk,rfl,hBC,rfl,hbr,rn,hBT,hps,hB,hnz⟩:=hrel;replace hnz:=zH hnz;by_cases hlt:k<p2
     ·have hCB:=hlt;have hsn:nb<wr.heap.size:=(zG.1 rn).1;have hrl:=YK hBC zO hl7;have wJF:Bys wr wr.heap.size (.slice (some ⟨b,o,none⟩) r.length cc) r:=(hbr.below hB).more zO;have hat:=hbr.at_;have HR:=zH (qiq _ r zO wr wJF);have HBAD:=zH (λh=>hN2.out (qgE hBC h p2 hCB));have HNX:=zH (λx n h=>@UG _ _ _ n _ x hBC h);have HSM:=zH (λx n=>@TC r x n);have HSUB:=zH (λn (h:n+(r.length-n)<=r.length)=>hbr.sub h);have hkn:=qax hBC;have hpl:ps.length=k:=by rw[<-hkn,<-hps,List.length_map]
      generalize hq:Zc r=q at*;clear hbr wJF;have rr:=qeo rr3 s2 hB;go_wp2_with fail;refine HR.out.mono ?_;rintro e w4 ⟨u,rfl,hu,hB4⟩;have rr4:=qb rr hB4;rcases q with _|⟨x,n⟩
      ·obtain rfl:u=noIt:=hu;obtain rfl:R=none:=HBAD.out rfl;clear HR HBAD HNX HSM HSUB hN2 hN3 rr;have kk4:=qa rr4;have ff4:=qg rr4;have s4:w.heap.size<w4.heap.size:=(zG.1 rr4).1;have bw4:Below w.heap.size w w4:=Below.trans b2' (Below.trans (Below.mono b23 zO) (Below.trans (Below.mono hB zO) (Below.mono hB4 zO)));go_wp2;generalize hwf:(World.alloc _ _)=wf;have rf:wf.heap[w.heap.size]?=some (.cells #[.int .i64 0,.slice none 0 0] 113 (0,0)):=by rw[<-hwf];exact(zK _ _ _ (by simpa using s4)).trans (qo (qo rr4 0 _) 1 _)
       have bf:Below w.heap.size w wf:=by rw[<-hwf];exact(by repeat' (first|with_reducible exact Below.refl _ _|with_reducible assumption|with_reducible apply Below.drew|with_reducible apply qR|with_reducible refine Below.alloc ?_ ?_ _|with_reducible refine Below.setCell ?_ ?_ _|(simp;done)|(simp;omega)|omega))
       have kf:=qa rf;exact bodyPost_ret (v:=VT 8) (by simp[results,results136,go_sem,kf]) rfl ⟨_,rfl,⟨8,zA1,rfl⟩,bf⟩
      ·obtain⟨i,rfl,A',c',rfl,⟨hby,hfr⟩,hnx⟩:=hu;replace hnx:=zH hnx;obtain⟨g1,g2,g3,g4,g5⟩:=HSM.out x n rfl;have htl:=YK (HNX.out x n rfl) zO hl7;rw[List.length_drop]at htl;have hsb:=HSUB.out n zO;rw[List.take_of_length_le zA3]at hsb;clear HR HSM HSUB HBAD g1 g3 g4 g5;have wKW:=hBT.ext hB4;have hvl:=QM hBT.1;have s4:=hB4.size;go_wp2_with fail;generalize hw5:(World.alloc _ _)=w5;have b5:Ext w4 w5:=by rw[<-hw5];exact zN _ _
       have r5:w5.heap[w4.heap.size]?=some (.cells #[.int .u8 x.k,.int .u32 x.i,.int .u32 x.o,.int .i64 x.r,.slice A' x.val.length c'] 51 (0,0)):=by rw[<-hw5];exact zI _ _ _ rfl
       clear hw5;have hXO:=wKW.ext b5;have rn5:=qb (qb rn hB4) b5;have wQU:=(hby.below b5).more b5.size;have s5:w4.heap.size<w5.heap.size:=(zG.1 r5).1;have hB5:Below nb w3 w5:=Below.trans hB (Below.trans (Below.mono hB4 zO) (Below.mono b5 zO));have hvn:v1.ownBlock≠some nb:=λh=>by have:=hvl _ h;omega
       have hv4:v1.ownBlock≠some w4.heap.size:=λh=>by have:=hvl _ h;omega
       obtain⟨RR,hRR⟩:∃RR:Rel,RR=KP (nb+1) 51 5 w5.heap.size v1 ps.length (qC ps) (ps.length+1) (qC ps++qaw x (.slice A' x.val.length c')) :=⟨_,rfl⟩
       replace hRR:=zH hRR;have n1:∀W,RR.r w5 W->W.cell? ⟨nb,1,none⟩=some v1:=λW h=>jY (hRR.out▸h) hvn (by rw[qa rn5];rfl);have i0:∀W,RR.r w5 W->W.cell? ⟨w4.heap.size,0,none⟩=some (.int .u8 x.k):=λW h=>jY (hRR.out▸h) hv4 (by rw[qa r5];rfl);have i1:∀W,RR.r w5 W->W.cell? ⟨w4.heap.size,1,none⟩=some (.int .u32 x.i):=λW h=>jY (hRR.out▸h) hv4 (by rw[qa r5];rfl);have i2:∀W,RR.r w5 W->W.cell? ⟨w4.heap.size,2,none⟩=some (.int .u32 x.o):=λW h=>jY (hRR.out▸h) hv4 (by rw[qa r5];rfl);have i3:∀W,RR.r w5 W->W.cell? ⟨w4.heap.size,3,none⟩=some (.int .i64 x.r):=λW h=>jY (hRR.out▸h) hv4 (by rw[qa r5];rfl);have i4:∀W,RR.r w5 W->W.cell? ⟨w4.heap.size,4,none⟩=some (.slice A' x.val.length c'):=λW h=>jY (hRR.out▸h) hv4 (by rw[qa r5];rfl);refine qt zQ ?_;refine Zo 5 10 (.slice (some ⟨b,o,none⟩) r.length cc) zQ zA6 zQ zQ zQ zA0 (λW=>?_) ?_
       ·go_simp
       simp only[Act.put,qe,qc,qf,qy,QL,zA,zB,zC];refine Zo 6 9 (.int .i64 (n:Int)) zQ zA6 zQ zQ zQ zA0 (λW=>?_) ?_
       ·go_simp
       simp only[Act.put,qe,qc,qf,qy,QL,zA,zB,zC];refine Zo 7 8 (.slice (some ⟨b,o+n,none⟩) (r.length-n) (cc-n)) zQ zA6 zQ zQ zQ zA0 (λW=>?_) ?_
       ·go_simp;have:=hat.2.1;omega
       simp only[Act.put,qe,qc,qf,qy,QL,zA,zB,zC];refine ZY (w:=w5) RR (qQ [(3,jg w5.heap.size 1 51 #[.int .u8 x.k,.int .u32 x.i,.int .u32 x.o,.int .i64 x.r,.slice A' x.val.length c']),(4,UX (nb+1) 51 5 w5.heap.size v1 (ps.length+1) (qC ps++qaw x (.slice A' x.val.length c')))])
        [true,true,true,true,true,false,false,false,true] 2 zQ zQ zQ zQ zQ zQ ?st (Rel.drew _ _) ?walk
       case st=>rw[hRR.out];exact qi (by simp only[List.forall_mem_cons];exact⟨XN (λg hg=>by have:=hvl g hg;omega),qcm,λ_ h=>by cases h⟩)
       case walk=>
        intro K hK;dsimp only[qw];refine zB3 ?_;refine qH (jg w5.heap.size 1 51 #[.int .u8 x.k,.int .u32 x.i,.int .u32 x.o,.int .i64 x.r,.slice A' x.val.length c']) zA0 zA0 (λW hW _=>?_) (λp=>?_)
        ·rw[hRR.out]at hW⊢;refine qat ?_ hW.1.size;go_simp
        simp only[Act.put,qe,qc,qf,qy,QL,zA,zB,zC];refine qH (UX (nb+1) 51 5 w5.heap.size v1 (ps.length+1) (qC ps++qaw x (.slice A' x.val.length c'))) zA0 zA0 (λW hW hp=>?_) (λv2=>?_)
        ·rw[hRR.out]at hW⊢;obtain⟨i0,hi,hz0,hz1,hz2⟩:=info_parts Tryz.info_item;obtain⟨hJW,_⟩:=(hp 3 zA1).1;obtain⟨v',w',hEQ,hD,hR'⟩:=Xe (P:=prog) (lo:=w5.heap.size) W 55 55 i0 _ 48 underlying55 hi hz0 hz1 hz2 rfl zA1 (hW.2.1 hXO.1) ⟨p,0,none⟩ 1 1 (qaw x (.slice A' x.val.length c')) rfl (qhm hJW) (by simp[qaw,Value.oneCell']) zO zA1 (by have:=hW.1.size;omega) hW.1.size;refine jP (u:=v') (w':=w') ?_ ⟨v',rfl,hD,hR'⟩;exact qaq (s:=.tmp 55) (x:=.tmp 57) rfl rfl rfl hEQ
        refine zB3 ?_;refine qD (hK _ _ λW hW hF=>?_);have hD:=(hF 4).1;clear hF hK n1 i0 i1 i2 i3 i4;rw[hRR.out]at hW;dsimp only[List.drop,List.length_cons,List.length_nil,UX]at*;change Done _ _ _ _ _ _ _ v2 W at hD;have rnW:=kQ hW hvn rn5;have kW:=qa rnW;have fW:=qg rnW;have hnW:=zH (λq t=>qjM (x:=x) hXO (λp hp=>((hnz.out p hp).ext hB4).ext b5) (hnx.out.ext b5) (Xb.of_from hfr (λg hg=>(hvl g hg).2)) hW.1 q t);have hrW:=hXO.push x A' c' wQU (hfr.mono zO) (Xb.of_from hfr (λg hg=>(hvl g hg).2)) rfl hD hW.1;have hBW:Below nb w5 W:=(Below.refl _ _).grown hW.1 zO (λg hg=>by have:=hvl g hg;omega);obtain⟨A2,c2',rfl,_,_⟩:=qG hD.1;go_wp2;refine Qn ?_;go_wp2;go_roundw
        case rel=>
         refine⟨k+1,xs++[x],r.drop n,o+n,cc-n,_,ps++[(x,.slice A' x.val.length c')],zO,by go_num,HNX.out x n rfl,by rw[List.length_drop],hsb,qo rnW 1 _,?_,by simp[hps],?_,hnW.out _ _⟩
         ·rw[hpl]at hrW;exact hrW.setCell (p:=⟨nb,1,none⟩) (Nat.lt_succ_self _) (Nat.lt_succ_self _) _
         ·exact Below.setCell (Below.trans hB5 hBW) (p:=⟨nb,1,none⟩) (zM _) _
        case measure=>simp[intOf];omega
     ·obtain rfl:k=p2:=zO;have hsn:nb<wr.heap.size:=(zG.1 rn).1;have hrl:=YK hBC hp2 hl7;have hR:=hN3.out r xs hBC;have wJF:Bys wr wr.heap.size (.slice (some ⟨b,o,none⟩) r.length cc) r:=(hbr.below hB).more zO;have hzi:=zH (hBT.nzi hnz.out);obtain⟨hXD,A2,c2',rfl⟩:=hBT.its (zM _);rw[hps]at hXD;have hxl:ps.length=xs.length:=by rw[<-hps,List.length_map]
      rw[hxl]at hXD rn;have rr:=qeo rr3 s2 hB;have bw:Below w.heap.size w wr:=Below.trans b2' (Below.trans (Below.mono b23 zO) (Below.mono hB zO));have HC:=zH (λW (hW:Ext wr W)=>Ke p1 A2 xs.length c2' xs W (hXD.its.ext hW));have HM:=zH (λW (hW:Ext wr W)=>qhs _ r hrl.1 zO W ((wJF.below hW).more hW.size));have hmz:=qcc r;have hml:=qeX r;replace hR:=zH hR;clear hN2 hN3 hbr wJF hBT hBC;have kn:=qa rn;go_wp2_with fail;refine(HC.out _ (Ext.refl _)).mono ?_;rintro e w4 ⟨rfl,hB4⟩;have rr4:=qb rr hB4;have bw4:Below w.heap.size w w4:=Below.trans bw (Below.mono hB4 zO);have s4:w.heap.size<w4.heap.size:=(zG.1 rr4).1;have rn4:=qb rn hB4;clear HC kn rr;by_cases hmay:Qj (p1:Int) xs=true
      case neg=>
       obtain rfl:R=none:=by rw[hR.out,if_neg (λh=>hmay h.1)]
       have hRX:Qj (p1:Int) xs=false:=by simpa using hmay
       rw[VU hRX];clear hR HM hmay hRX hmz hml;have k4:=qa rr4;have f4:=qg rr4;go_wp2;generalize hwf:(World.setCell _ _ _)=wf;have rf:wf.heap[w.heap.size]?=some (.cells #[.int .i64 0,.slice none 0 0] 113 (0,0)):=by rw[<-hwf];exact qo (qo rr4 0 _) 1 _
       have bf:Below w.heap.size w wf:=by rw[<-hwf];exact Below.setCell (Below.setCell bw4 (p:=⟨w.heap.size,0,none⟩) (zM _) _) (p:=⟨w.heap.size,1,none⟩) (zM _) _
       have kf:=qa rf;exact bodyPost_ret (v:=VT 8) (by simp[results,results136,go_sem,kf]) rfl ⟨_,rfl,⟨8,zA1,rfl⟩,bf⟩
      case pos=>
       rw[Ky hmay];go_wp2_with fail;refine(HM.out _ hB4).mono ?_;rintro e w5 ⟨rfl,hB5⟩;have rr5:=qb rr4 hB5;have bw5:Below w.heap.size w w5:=Below.trans bw4 (Below.mono hB5 zO);have s5:w.heap.size<w5.heap.size:=(zG.1 rr5).1;have rn5:=qb rn4 hB5;have hx5:Ext wr w5:=Ext.trans hB4 hB5;have k5:=qa rr5;have f5:=qg rr5;have kn5:=qa rn5;have fn5:=qg rn5;clear HM;by_cases hz:Kq r=true
       case neg=>
        obtain rfl:R=none:=by rw[hR.out,if_neg (λh=>hz h.2)]
        have hz':Kq r=false:=by simpa using hz
        rw[hz']at hmz;have hm0:0<XH r:=by simpa using hmz
        clear hR hz hz' hmz;generalize XH r=mm at*;go_wp2;generalize hwf:(World.setCell _ _ _)=wf;have rf:wf.heap[w.heap.size]?=some (.cells #[.int .i64 0,.slice none 0 0] 113 (0,0)):=by rw[<-hwf];exact qo (qo rr5 0 _) 1 _
        have bf:Below w.heap.size w wf:=by rw[<-hwf];exact Below.setCell (Below.setCell bw5 (p:=⟨w.heap.size,0,none⟩) (zM _) _) (p:=⟨w.heap.size,1,none⟩) (zM _) _
        have kf:=qa rf;exact bodyPost_ret (v:=VT 8) (by simp[results,results136,go_sem,kf]) rfl ⟨_,rfl,⟨8,zA1,rfl⟩,bf⟩
       case pos=>
        obtain rfl:R=some ((p1:Int),xs):=by rw[hR.out,if_pos ⟨hmay,hz⟩]
        rw[hz]at hmz;have hm0:XH r=0:=by simpa using hmz
        clear hR hz hmz;rw[hm0];go_wp2;generalize hwf:(World.setCell _ _ _)=wf;have rf:wf.heap[w.heap.size]?=some (.cells #[.int .i64 p1,.slice A2 xs.length c2'] 113 (0,0)):=by rw[<-hwf];exact qo (qo rr5 0 _) 1 _
        have bf:Below w.heap.size w wf:=by rw[<-hwf];exact Below.setCell (Below.setCell bw5 (p:=⟨w.heap.size,0,none⟩) (zM _) _) (p:=⟨w.heap.size,1,none⟩) (zM _) _
        have kf:=qa rf;have hfi:ZB (nb+1) wf (.slice A2 xs.length c2') xs:=by refine(hXD.ext hx5).keep (by rw[<-hwf];simp) (λp h1 h2=>?_);rw[<-hwf,World.cell?_setCell_other _ _ _ _ (λe=>by subst e;simp at h1;omega),World.cell?_setCell_other _ _ _ _ (λe=>by subst e;simp at h1;omega)]
        have hzf:NzI wf (.slice A2 xs.length c2'):=by
         have hzi':=hzi.out;rw[hxl]at hzi';have hHE:∀b off n c,Value.slice A2 xs.length c2'=.slice (some ⟨b,off,none⟩) n c->0<n->w.heap.size<b/\b<wr.heap.size:=λb off n c e hn=>by obtain⟨-,-,-,h4⟩:=hXD.its.at_;have h5:nb+1<=(⟨b,0,none⟩:Addr).block:=XF hXD b off n c 0 e hn;simp only[Value.slice.injEq]at e;obtain⟨b6,o6,e6,e7⟩:=h4 zO;rw[e.1]at e6;simp only[Option.some.injEq,Addr.mk.injEq]at e6;simp only at h5;omega
         refine(hzi'.ext hx5 (λb off n c e hn=>(hHE b off n c e hn).2)).keep (λb off n c e hn j=>?_) (λu hu=>?_)
         case refine_2=>rw[<-hwf];exact(hu.setCell _ _).setCell _ _
         have:=(hHE b off n c e hn).1;rw[<-hwf,World.cell?_setCell_other _ _ _ _ (λe=>by simp only[Addr.mk.injEq]at e;omega),World.cell?_setCell_other _ _ _ _ (λe=>by simp only[Addr.mk.injEq]at e;omega)]
        exact bodyPost_ret (v:=.tuple #[jL p1 A2 xs.length c2',.int .i64 0]) (by simp[results,results136,go_sem,kf]) rfl ⟨_,rfl,⟨A2,c2',rfl,hfi.mono zO,hzf⟩,bf⟩
theorem qkS(v:Value)(l:List UInt8)(w:World)(h:Bys w w.heap.size v l):Calls prog 136 #[v] w (zm (qbr w.heap.size (QK l)) w):=
 (qci v l w h).mono λ_ _ ⟨u,he,hu,hB⟩=>⟨u,he,hu.nodeP,hB⟩



set_option maxRecDepth 100000 in
theorem qkE(n:Nat)(hn:n<1073741824)(w:World):Calls prog 177 #[.slice none 0 0,.int .i64 (n:Int)] w (zm (λv w'=>w'.ownsRow w.heap.size 5 1 v 0 []) w):=by
 obtain⟨i0,hi,hz0,hz1,hz2⟩:=info_parts Tryz.info_u8;by_cases h0:n=0
 ·subst h0;go_enter func177,ntmps177;go_wp2;go_ret;exact⟨_,rfl,World.ownsRow_nil _ _ _ _,Below.refl _ _⟩
 ·have hG:=grownCap_ge w n 0 5;have hGm:=grownCap_le_maxLen w n 0 5 zA7;have hrz:∀ty,(Builtin.append_ #[26,3] ty #[.slice none 0 0,.int .i64 (n:Int)]).run prog w =
    .ok (.slice (some ⟨w.heap.size,0,none⟩) n (grownCap w n 0 5)) (w.drew.alloc (.cells (([]:List Value).toArray++Builtin.zeroCells (Value.int .u8 0).cells n++Builtin.zeroCells (Value.int .u8 0).cells (grownCap w n 0 5-n)) 5)):=λty=>by
   have h:=Lib.run_append_grow_zeros (P:=prog) w 26 3 ty 5 i0 (.int .u8 0) .i64 .i64 underlying26 underlying3 hi hz0 none 0 0 [] (run_firstCells_none w.drew i0.size 0 0 0) n zO zO zO zO (by rw[hz2];omega) (growslice_fits zO (by rw[hz2];omega));simpa using h
  obtain⟨G,hGe⟩:∃G,grownCap w n 0 5=G:=⟨_,rfl⟩
  rw[hGe]at hG hGm hrz;unfold maxLen at hGm;have hGA:0<n:=zO;clear hGe;go_enter func177,ntmps177;go_wp2_with (at_builtin;refine Lib.wpList_append_run _ rfl _ _ _ _ rfl _ _ rfl rfl _ _ (hrz _) ?_);go_ret;refine⟨_,rfl,?_,zA5⟩;refine(World.ownsRow_made w _ G (zM _) zA7 ?_).drew;simp only[Array.size_append,size_zeroCells,List.size_toArray,List.length_cons,List.length_nil];omega
def Yc(ls:List (List UInt8))(k:Nat):List UInt8:=(ls.take k).flatten
set_option maxRecDepth 100000 in
theorem Kw(A c m)(vs:List Value)(ls:List (List UInt8))(hv:vs.length=m)(hl:ls.length=m)(w:World)(hr:Rd w w.heap.size 1 A m vs)(hb:∀(i:Nat)(v:Value)(l:List UInt8),vs[i]?=some v->ls[i]?=some l->Bys w w.heap.size v l)(hn:m<1024)(hs:ls.flatten.length<1048576):Calls prog 132 #[.slice A m c] w (zm (λv w'=>w'.ownsRow w.heap.size 5 1 v ls.flatten.length (ls.flatten.map bv)) w):=by
 obtain⟨i0,hi,hz0,hz1,hz2⟩:=info_parts Tryz.info_u8;have hER:∀k,k<m->∃A c l,vs[k]?=some (.slice A l.length c)/\ls[k]?=some l/\Rd w w.heap.size 1 A l.length (l.map bv):=λk hk=>by
  obtain⟨v,hv⟩:∃v,vs[k]?=some v:=⟨_,zL zO⟩
  obtain⟨l,hl'⟩:∃l,ls[k]?=some l:=⟨_,zL zO⟩
  obtain⟨A,c,rfl,_,_,h⟩:=hb k v l hv hl';exact⟨A,c,l,hv,hl',h⟩
 have hQN:∀k,(Yc ls k).length<=ls.flatten.length:=λk=>by
  unfold Yc;conv=>rhs;rw[<-List.take_append_drop k ls]
  rw[List.flatten_append,List.length_append];omega
 have htk:∀(k:Nat)(l:List UInt8),ls[k]?=some l->Yc ls (k+1)=Yc ls k++l:=λk l h=>by unfold Yc;rw[List.take_add_one,h];simp
 have HT:=zH htk;clear htk;have hCV:ls.flatten=Yc ls m:=by unfold Yc;rw[List.take_of_length_le zO]
 have h00:Hid ([]=Yc ls 0):=by unfold Yc;exact rfl
 rw[hCV]at hs hQN⊢;clear hCV hl hv hb;go_enter func132,ntmps132;go_wp2;go_loop [3,11] (λt i=>∃k:Nat,k<=m/\i=.int .i64 (k:Int)/\t=.int .i64 ((Yc ls k).length:Int))
  (λ_ i=>m-(intOf i).toNat)
 case atStart=>exact⟨0,Nat.zero_le _,rfl,by rw[<-h00.out];rfl⟩
 case round=>
  obtain⟨k,hk,rfl,rfl⟩:=hrel;have h1:=hQN k;by_cases hlt:k<m
  ·obtain⟨A',c',l,hv,hl,hrl⟩:=hER k hlt;obtain⟨b,off,rfl,hbl,hc⟩:=hr.2 zO;have h2:=hQN (k+1);rw[HT.out k l hl,List.length_append]at h2;go_wp2;go_round
   case rel=>exact⟨k+1,zO,by go_num,by rw[HT.out k l hl,List.length_append];go_num⟩
   case measure=>simp[intOf];omega
  ·obtain rfl:k=m:=zO;clear h1;go_wp2_with fail;refine(qkE (Yc ls k).length zO _).mono ?_;rintro e w1 ⟨v,rfl,hAE,hB⟩;go_wp2;go_loopw [6,27] (λv i wr=>∃j:Nat,j<=k/\i=.int .i64 (j:Int)/\wr.ownsRow w.heap.size 5 1 v (Yc ls j).length ((Yc ls j).map bv)/\Below w.heap.size w wr)
    (λ_ i _=>k-(intOf i).toNat)
   case atStart=>exact⟨0,Nat.zero_le _,rfl,by rw[<-h00.out];exact hAE,hB⟩
   case round=>
    clear hAE hB;obtain⟨j,hj,rfl,hAE,hB⟩:=hrel;by_cases hlt:j<k
    ·obtain⟨A',c',l,hv,hl,hrl⟩:=hER j hlt;obtain⟨b,off,rfl,hbl,hc⟩:=hr.2 zO;have hAL:=(hB.cell (p:=⟨b,off+j,none⟩) hbl).trans (hc j _ hv);have h2:=hQN (j+1);rw[HT.out j l hl,List.length_append]at h2;have HE:=zH (HT.out j l hl);go_wp2_with (at_builtin;refine qY ?_);refine Qm.go (Qw _ rfl (.tmp 31) (.tmp 32) 26 rfl w.heap.size 5 i0 (.int .u8 0) 1 1 underlying26 hi hz0 hz1 hz2 rfl zA1 _ _ _ rfl hAE w.heap.size A' l.length c' (l.map bv) rfl (hrl.below hB) (Uz l) zO zA1 hB.size ?_);intro v' w2 wKI _ hb1 _;go_wp2;go_roundw
     case rel=>exact⟨j+1,zO,by go_num,by rw[HE.out,List.length_append,List.map_append];exact wKI,hB.trans hb1⟩
     case measure=>simp[intOf];omega
    ·obtain rfl:j=k:=zO;go_wp2;go_ret;exact⟨_,rfl,hAE,hB⟩
end Go.Proofs.YtmeadnlmepcmbaaGreat
