/- Lemmas of the proof. -/
import Derived.Lib.AppendZerosOnto
import Derived.Lib.Walk
import Derived.Test.YtmeadnlmepcmbaaGreatZS02
set_option linter.all false
set_option maxHeartbeats 8000000
open Go.Proofs.Tryz
open Go.Value renaming slice→D,int→J
open Option renaming some→E,none→F
open Go renaming Value→I,World→U
open Bool renaming true→M,false→Y
open Go.World renaming alloc→O
open Go.Obj renaming cells→Q
open Go.IntKind renaming i64→X,u32→Z
namespace Go.Proofs.YtmeadnlmepcmbaaGreat
open Go.RowKit
variable {above:Bool}{xs:List It}{i a k lo lo' base n' c':Nat}{l l7:List UInt8}{w w' W W':World}{e:TypeId}{v u v':Value}{o:Obj}{ps:List (It×Value)}{p:Addr}{A:OA}{x:It}{q:Option (Int×List It)}
theorem US(hi:i<xs.length):qba above xs i=(itB xs[i].r xs[i].val.length&&(decide (i=0)||(match xs[i-1]? with|some y=>qfY y xs[i]|none=>M))&&!(above&&(decide (xs[i].r=0)||decide (0<xs[i].val.length)))):=by unfold qba;rw[zL hi];rfl
theorem qhp(hi:i<xs.length)(h:itB xs[i].r xs[i].val.length=Y):qba above xs i=Y:=by rw[US hi,h];rfl
set_option maxRecDepth 100000 in
theorem qjY(lvl:Int)(A n c)(xs:List It)(w:U)(hx:Its w w (D A n c) xs)(h:Jy lvl n=M):Calls prog 182 #[Jc lvl A n c] w (Ret (J X (JQ (Qq lvl xs))) w):=by
 obtain⟨hn,hnc,hcm,hA⟩:=hx.at_;have h':0<=lvl/\lvl<6/\n<=5/\(0<lvl->n≠0):=by unfold Jy at h;exact of_decide_eq_true h
 have hM:Qq lvl xs=Xa (decide (0<lvl)) xs xs.length:=by unfold Qq;rw[<-hn,h];rfl
 rw[hM];clear hM h;subst hn;have HX:=zH hx;clear hx;obtain⟨h1,h2,h3,h4⟩:=h';by_cases hab:0<lvl
 ·rw[decide_eq_true hab];go_enter func182,ntmps182;go_wp2;all_goals simp only[beq_eq_false_iff_ne,ne_eq]at*
  all_goals first|(exfalso;omega)|skip
  generalize hw1:(O _ _)=w1;have b1:Ext w w1:=hw1▸zN _ _;have r1:w1.heap[w.heap.size]?=E (Q #[lvl,D A xs.length c] 113):=hw1▸zI _ _ _ rfl;clear hw1;go_loopw [36] (λi wr=>∃k:Nat,k<=xs.length/\i=J X (k:Int)/\Xa M xs k=M/\Ext w1 wr) (λi _=>xs.length-(intOf i).toNat)
  case atStart=>exact⟨0,zO,rfl,rfl,Ext.refl _⟩
  case round=>
   obtain⟨k,hk,rfl,hck,hE⟩:=hrel;by_cases hlt:k<xs.length
   ·have hBP:=hlt;obtain⟨b,off,rfl,hb⟩:=hA zO;have b2:Ext w wr:=b1.trans hE;obtain⟨A',c',c0,c1,c2,c3,c4,hby⟩:=(HX.out.ext b2).item k hBP;have HCK:=zH (US (above:=M) hBP);have HBAD:=zH (qcq (above:=M) hBP);have HBI:=zH (qhp (above:=M) hBP);have HSU:=zH (qaZ M xs k);generalize hx:xs[k]=x at*;go_wp2_with fail;generalize hw3:(O _ _)=w3;have b3:Ext wr w3:=hw3▸zN _ _;have r3:w3.heap[wr.heap.size]?=E (Q #[J .u8 x.k,J Z x.i,J Z x.o,J X x.r,D A' x.val.length c'] 51):=hw3▸zI _ _ _ rfl;clear hw3;refine(Jz x.k x.i x.o x.r A' x.val.length c' _).mono ?_;rintro e w4 ⟨rfl,hB⟩;have b4:Ext wr w4:=b3.trans hB;have r4:=qb r3 hB;clear hB r3 b3;by_cases hok:itB x.r x.val.length=M
    ·rw[vQ hok];go_wp2;have b5:Ext w1 w4:=hE.trans b4;have rn:=qb r1 b5;have n1:∀W,Ext w4 W->W.cell? (w,1)=E (D (b,off) xs.length c):=λW h=>by rw[qa (qb rn h)];rfl
     have i0:∀W,Ext w4 W->W.cell? wr=E (J .u8 x.k):=λW h=>by rw[qa (qb r4 h)];rfl
     have i1:∀W,Ext w4 W->W.cell? (wr,1)=E (J Z x.i):=λW h=>by rw[qa (qb r4 h)];rfl
     have i2:∀W,Ext w4 W->W.cell? (wr,2)=E (J Z x.o):=λW h=>by rw[qa (qb r4 h)];rfl
     have i3:∀W,Ext w4 W->W.cell? (wr,3)=E (J X x.r):=λW h=>by rw[qa (qb r4 h)];rfl
     have i4:∀W,Ext w4 W->W.cell? (wr,4)=E (D A' x.val.length c'):=λW h=>by rw[qa (qb r4 h)];rfl
     rcases k with _|j
     ·refine ZC (qV [(12,one (.bool M))]) 29 zQ zQ zQ zA1 zQ zQ ?st ?walk
      case st=>exact ZR (by simp only[List.forall_mem_cons];exact⟨jv _,λ_ h=>by cases h⟩)
      case walk=>
       intro K hK;dsimp only[List.take];by_cases hr0:x.r=0
       ·have hr1:(x.r==0)=M:=by simpa using hr0
        refine zB1 ?_;refine jk (hK _ _ λW hW hF=>?_);clear hF hK;have b7:Ext wr W:=b4.trans hW;dsimp only[List.drop];go_wp2;all_goals first
         |(go_ret
           exact⟨by rw[HBAD.out (by rw[HCK.out,hok];simp[*])];rfl,Ext.trans b2 b7⟩)
         |(go_roundw
           case rel=>exact⟨0+1,zO,by go_num,by rw[HSU.out,hck,HCK.out,hok];simp[*],hE.trans b7⟩
           case measure=>simp[intOf];omega)
       have hr1:(x.r==0)=Y:=by simpa using hr0
       refine zB1 ?_;refine jk (hK _ _ λW hW hF=>?_);clear hF hK;have b7:Ext wr W:=b4.trans hW;dsimp only[List.drop];go_wp2;all_goals first
        |(go_ret
          exact⟨by rw[HBAD.out (by rw[HCK.out,hok];simp[*])];rfl,Ext.trans b2 b7⟩)
        |(go_roundw
          case rel=>exact⟨0+1,zO,by go_num,by rw[HSU.out,hck,HCK.out,hok];simp[*],hE.trans b7⟩
          case measure=>simp[intOf];omega)
     have hjl:j<xs.length:=zO;obtain⟨A2,c2',d0,d1,d2,d3,d4,_⟩:=(HX.out.ext (b2.trans b4)).item j hjl;have hSJ:xs[j+1-1]?=E xs[j]:=by rw[Nat.add_sub_cancel,zL hjl]
     have HP:=zH hSJ;clear hSJ;generalize xs[j]=y at*;have p0:∀W,Ext w4 W->W.cell? (b,off+j*5)=E (J .u8 y.k):=λW h=>Ext.cell h d0;have p1:∀W,Ext w4 W->W.cell? (b,off+j*5+1)=E (J Z y.i):=λW h=>Ext.cell h d1;have p2:∀W,Ext w4 W->W.cell? (b,off+j*5+2)=E (J Z y.o):=λW h=>Ext.cell h d2;clear d0 d1 d2 d3 d4;have HL:=zH (λW=>Tq y.k y.i y.o x.k x.i x.o W);have HLE:Hid (qfY y x=YE y.k y.i y.o x.k x.i x.o):=rfl;generalize YE y.k y.i y.o x.k x.i x.o=L at*;refine ZC (qV [(12,one (.bool L))]) 29 zQ zQ zQ zA1 zQ zQ ?st ?walk
     case st=>exact ZR (by simp only[List.forall_mem_cons];exact⟨jv _,λ_ h=>by cases h⟩)
     case walk=>
      intro K hK;dsimp only[List.take];refine zB1 ?_;refine Qg (.pointer (E ⟨b,off+j*5,F⟩)) zA0 zA0 (λW hW _=>⟨W,?_,Ext.refl W⟩) ?_
      ·go_simp;rw[IntWalk.i64_in (j:Int) zO,if_pos zO];simp
      refine zB1 ?_;refine QT (one (.bool L)) zA0 zA0 (λW hW _=>?_) (λp=>?_)
      ·refine Za ?_ ((HL.out W).mono λe w' h=>⟨(),h.1,trivial,h.2⟩);go_simp
      cases p;simp only[Act.put,qo,qc,qh,zA,zB,zC];cases L
      ·repeat ((first|(refine Qg ?_ zA0 zA0 (λW hW _=>⟨W,?_,Ext.refl W⟩) ?_;rotate_left;(go_simp<;>with_reducible rfl))|(refine Qn zA0 ?_));try simp only[Act.put,qo,qf,qc,qh,zA,zB,zC])
       refine jk (hK _ _ λW hW hF=>?_);clear hF hK HL;have b7:Ext wr W:=b4.trans hW;dsimp only[List.drop];go_wp2;all_goals first
        |(go_ret
          exact⟨by rw[HBAD.out (by rw[HCK.out,hok,HP.out];simp[HLE.out, *])];rfl,Ext.trans b2 b7⟩)
        |(go_roundw
          case rel=>exact⟨j+1+1,zO,by go_num,by rw[HSU.out,hck,HCK.out,hok,HP.out];simp[HLE.out, *],hE.trans b7⟩
          case measure=>simp[intOf];omega)
      by_cases hr0:x.r=0
      ·have hr1:(x.r==0)=M:=by simpa using hr0
       refine zB1 ?_;refine jk (hK _ _ λW hW hF=>?_);clear hF hK HL;have b7:Ext wr W:=b4.trans hW;dsimp only[List.drop];go_wp2;all_goals first
        |(go_ret
          exact⟨by rw[HBAD.out (by rw[HCK.out,hok,HP.out];simp[HLE.out, *])];rfl,Ext.trans b2 b7⟩)
        |(go_roundw
          case rel=>exact⟨j+1+1,zO,by go_num,by rw[HSU.out,hck,HCK.out,hok,HP.out];simp[HLE.out, *],hE.trans b7⟩
          case measure=>simp[intOf];omega)
      have hr1:(x.r==0)=Y:=by simpa using hr0
      refine zB1 ?_;refine jk (hK _ _ λW hW hF=>?_);clear hF hK HL;have b7:Ext wr W:=b4.trans hW;dsimp only[List.drop];go_wp2;all_goals first
       |(go_ret
         exact⟨by rw[HBAD.out (by rw[HCK.out,hok,HP.out];simp[HLE.out, *])];rfl,Ext.trans b2 b7⟩)
       |(go_roundw
         case rel=>exact⟨j+1+1,zO,by go_num,by rw[HSU.out,hck,HCK.out,hok,HP.out];simp[HLE.out, *],hE.trans b7⟩
         case measure=>simp[intOf];omega)
    have hZE:itB x.r x.val.length=Y:=by simpa using hok
    have hBM:=HBAD.out (HBI.out hZE);rw[vl hZE];clear HCK HBAD HBI HSU;go_wp2;go_ret;exact⟨by rw[hBM];rfl,Ext.trans b2 b4⟩
   obtain rfl:k=xs.length:=zO;go_wp2;go_ret;exact⟨by rw[hck];rfl,b1.trans hE⟩
 rw[decide_eq_false hab];go_enter func182,ntmps182;go_wp2;all_goals simp only[beq_eq_false_iff_ne,ne_eq]at*
 all_goals first|(exfalso;omega)|skip
 generalize hw1:(O _ _)=w1;have b1:Ext w w1:=hw1▸zN _ _;have r1:w1.heap[w.heap.size]?=E (Q #[lvl,D A xs.length c] 113):=hw1▸zI _ _ _ rfl;clear hw1;go_loopw [36] (λi wr=>∃k:Nat,k<=xs.length/\i=J X (k:Int)/\Xa Y xs k=M/\Ext w1 wr) (λi _=>xs.length-(intOf i).toNat)
 case atStart=>exact⟨0,zO,rfl,rfl,Ext.refl _⟩
 case round=>
  obtain⟨k,hk,rfl,hck,hE⟩:=hrel;by_cases hlt:k<xs.length
  ·have hBP:=hlt;obtain⟨b,off,rfl,hb⟩:=hA zO;have b2:Ext w wr:=b1.trans hE;obtain⟨A',c',c0,c1,c2,c3,c4,hby⟩:=(HX.out.ext b2).item k hBP;have HCK:=zH (US (above:=Y) hBP);have HBAD:=zH (qcq (above:=Y) hBP);have HBI:=zH (qhp (above:=Y) hBP);have HSU:=zH (qaZ Y xs k);generalize hx:xs[k]=x at*;go_wp2_with fail;generalize hw3:(O _ _)=w3;have b3:Ext wr w3:=hw3▸zN _ _;have r3:w3.heap[wr.heap.size]?=E (Q #[J .u8 x.k,J Z x.i,J Z x.o,J X x.r,D A' x.val.length c'] 51):=hw3▸zI _ _ _ rfl;clear hw3;refine(Jz x.k x.i x.o x.r A' x.val.length c' _).mono ?_;rintro e w4 ⟨rfl,hB⟩;have b4:Ext wr w4:=b3.trans hB;have r4:=qb r3 hB;clear hB r3 b3;by_cases hok:itB x.r x.val.length=M
   ·rw[vQ hok];go_wp2;have b5:Ext w1 w4:=hE.trans b4;have rn:=qb r1 b5;have n1:∀W,Ext w4 W->W.cell? (w,1)=E (D (b,off) xs.length c):=λW h=>by rw[qa (qb rn h)];rfl
    have i0:∀W,Ext w4 W->W.cell? wr=E (J .u8 x.k):=λW h=>by rw[qa (qb r4 h)];rfl
    have i1:∀W,Ext w4 W->W.cell? (wr,1)=E (J Z x.i):=λW h=>by rw[qa (qb r4 h)];rfl
    have i2:∀W,Ext w4 W->W.cell? (wr,2)=E (J Z x.o):=λW h=>by rw[qa (qb r4 h)];rfl
    rcases k with _|j
    ·refine ZC (qV [(12,one (.bool M))]) 29 zQ zQ zQ zA1 zQ zQ ?st ?walk
     case st=>exact ZR (by simp only[List.forall_mem_cons];exact⟨jv _,λ_ h=>by cases h⟩)
     case walk=>
      intro K hK;dsimp only[List.take];by_cases hr0:x.r=0
      ·have hr1:(x.r==0)=M:=by simpa using hr0
       refine zB1 ?_;refine jk (hK _ _ λW hW hF=>?_);clear hF hK;have b7:Ext wr W:=b4.trans hW;dsimp only[List.drop];go_wp2;all_goals first
        |(go_ret
          exact⟨by rw[HBAD.out (by rw[HCK.out,hok];simp[*])];rfl,Ext.trans b2 b7⟩)
        |(go_roundw
          case rel=>exact⟨0+1,zO,by go_num,by rw[HSU.out,hck,HCK.out,hok];simp[*],hE.trans b7⟩
          case measure=>simp[intOf];omega)
      have hr1:(x.r==0)=Y:=by simpa using hr0
      refine zB1 ?_;refine jk (hK _ _ λW hW hF=>?_);clear hF hK;have b7:Ext wr W:=b4.trans hW;dsimp only[List.drop];go_wp2;all_goals first
       |(go_ret
         exact⟨by rw[HBAD.out (by rw[HCK.out,hok];simp[*])];rfl,Ext.trans b2 b7⟩)
       |(go_roundw
         case rel=>exact⟨0+1,zO,by go_num,by rw[HSU.out,hck,HCK.out,hok];simp[*],hE.trans b7⟩
         case measure=>simp[intOf];omega)
    have hjl:j<xs.length:=zO;obtain⟨A2,c2',d0,d1,d2,d3,d4,_⟩:=(HX.out.ext (b2.trans b4)).item j hjl;have hSJ:xs[j+1-1]?=E xs[j]:=by rw[Nat.add_sub_cancel,zL hjl]
    have HP:=zH hSJ;clear hSJ;generalize xs[j]=y at*;have p0:∀W,Ext w4 W->W.cell? (b,off+j*5)=E (J .u8 y.k):=λW h=>Ext.cell h d0;have p1:∀W,Ext w4 W->W.cell? (b,off+j*5+1)=E (J Z y.i):=λW h=>Ext.cell h d1;have p2:∀W,Ext w4 W->W.cell? (b,off+j*5+2)=E (J Z y.o):=λW h=>Ext.cell h d2;clear d0 d1 d2 d3 d4;have HL:=zH (λW=>Tq y.k y.i y.o x.k x.i x.o W);have HLE:Hid (qfY y x=YE y.k y.i y.o x.k x.i x.o):=rfl;generalize YE y.k y.i y.o x.k x.i x.o=L at*;refine ZC (qV [(12,one (.bool L))]) 29 zQ zQ zQ zA1 zQ zQ ?st ?walk
    case st=>exact ZR (by simp only[List.forall_mem_cons];exact⟨jv _,λ_ h=>by cases h⟩)
    case walk=>
     intro K hK;dsimp only[List.take];refine zB1 ?_;refine Qg (.pointer (E ⟨b,off+j*5,F⟩)) zA0 zA0 (λW hW _=>⟨W,?_,Ext.refl W⟩) ?_
     ·go_simp;rw[IntWalk.i64_in (j:Int) zO,if_pos zO];simp
     refine zB1 ?_;refine QT (one (.bool L)) zA0 zA0 (λW hW _=>?_) (λp=>?_)
     ·refine Za ?_ ((HL.out W).mono λe w' h=>⟨(),h.1,trivial,h.2⟩);go_simp
     cases p;simp only[Act.put,qo,qc,qh,zA,zB,zC];cases L
     ·repeat ((first|(refine Qg ?_ zA0 zA0 (λW hW _=>⟨W,?_,Ext.refl W⟩) ?_;rotate_left;(go_simp<;>with_reducible rfl))|(refine Qn zA0 ?_));try simp only[Act.put,qo,qf,qc,qh,zA,zB,zC])
      refine jk (hK _ _ λW hW hF=>?_);clear hF hK HL;have b7:Ext wr W:=b4.trans hW;dsimp only[List.drop];go_wp2;all_goals first
       |(go_ret
         exact⟨by rw[HBAD.out (by rw[HCK.out,hok,HP.out];simp[HLE.out, *])];rfl,Ext.trans b2 b7⟩)
       |(go_roundw
         case rel=>exact⟨j+1+1,zO,by go_num,by rw[HSU.out,hck,HCK.out,hok,HP.out];simp[HLE.out, *],hE.trans b7⟩
         case measure=>simp[intOf];omega)
     by_cases hr0:x.r=0
     ·have hr1:(x.r==0)=M:=by simpa using hr0
      refine zB1 ?_;refine jk (hK _ _ λW hW hF=>?_);clear hF hK HL;have b7:Ext wr W:=b4.trans hW;dsimp only[List.drop];go_wp2;all_goals first
       |(go_ret
         exact⟨by rw[HBAD.out (by rw[HCK.out,hok,HP.out];simp[HLE.out, *])];rfl,Ext.trans b2 b7⟩)
       |(go_roundw
         case rel=>exact⟨j+1+1,zO,by go_num,by rw[HSU.out,hck,HCK.out,hok,HP.out];simp[HLE.out, *],hE.trans b7⟩
         case measure=>simp[intOf];omega)
     have hr1:(x.r==0)=Y:=by simpa using hr0
     refine zB1 ?_;refine jk (hK _ _ λW hW hF=>?_);clear hF hK HL;have b7:Ext wr W:=b4.trans hW;dsimp only[List.drop];go_wp2;all_goals first
      |(go_ret
        exact⟨by rw[HBAD.out (by rw[HCK.out,hok,HP.out];simp[HLE.out, *])];rfl,Ext.trans b2 b7⟩)
      |(go_roundw
        case rel=>exact⟨j+1+1,zO,by go_num,by rw[HSU.out,hck,HCK.out,hok,HP.out];simp[HLE.out, *],hE.trans b7⟩
        case measure=>simp[intOf];omega)
   have hZE:itB x.r x.val.length=Y:=by simpa using hok
   have hBM:=HBAD.out (HBI.out hZE);rw[vl hZE];clear HCK HBAD HBI HSU;go_wp2;go_ret;exact⟨by rw[hBM];rfl,Ext.trans b2 b4⟩
  obtain rfl:k=xs.length:=zO;go_wp2;go_ret;exact⟨by rw[hck];rfl,b1.trans hE⟩

def zp(l:List UInt8):Nat->Option (List It×List UInt8)
 |0=>E ([],l)
 |k+1=>match zp l k with
  |none=>F
  |some (xs,r)=>match Zj r with
   |none=>F
   |some (x,n)=>E (xs++[x],r.drop n)
def QO(l:List UInt8):Option (Int×List It):=
 if l.length=128/\qbB l=M/\(l[4]?.getD 0)=78/\(l[6]?.getD 0).toNat<=5 then
  match zp (l.drop 7) (l[6]?.getD 0).toNat with
  |none=>F
  |some (xs,r)=>if Qq (l[5]?.getD 0).toNat xs=M/\kJ r=M then E (((l[5]?.getD 0).toNat:Int),xs)else F
 else F
theorem qbj:∀{k:Nat}{xs:List It}{r:List UInt8},zp l k=E (xs,r)->xs.length=k:=by
 intro k;induction k with
 |zero=>intro xs r h;simp[zp]at h;simp[<-h.1]
 |succ k ih=>
  intro xs r h;unfold zp at h;split at h;cases h;rename_i ys q hq;split at h;cases h;simp at h;rw[<-h.1];simp[ih hq]
def QW(x:It):Prop:=(0<=x.k/\x.k<256)/\(0<=x.i/\x.i<4294967296)/\(0<=x.o/\x.o<4294967296)/\(0<=x.r/\x.r<256)/\x.val.length<=12
def ZO(x:It):List UInt8:=UInt8.ofNat x.k.toNat::(qT x.i.toNat 4++(qT x.o.toNat 4++(qT x.r.toNat 2++(UInt8.ofNat x.val.length::x.val))))
theorem Tn(x:It):(ZO x).length=12+x.val.length:=by simp[ZO,QV];omega
theorem Tt(h:a+k<=l.length):qT (ZE l a k).toNat k=(l.drop a).take k:=by unfold ZE;rw[if_pos h];have hl:((l.drop a).take k).length=k:=zA2;have:=qdU ((l.drop a).take k);rw[hl]at this;simpa using this
theorem VS(h:a+k<=l.length):0<=ZE l a k/\ZE l a k<256^k:=by unfold ZE;rw[if_pos h];have:=qdc ((l.drop a).take k);have hl:((l.drop a).take k).length=k:=zA2;rw[hl]at this;refine⟨Int.natCast_nonneg _,?_⟩;have h2:((vH ((l.drop a).take k):Nat):Int)<((256^k:Nat):Int):=Int.ofNat_lt.2 this;rw[Int.natCast_pow]at h2;exact h2
theorem KH(l:List UInt8)(a b:Nat):l.take (a+b)=l.take a++(l.drop a).take b:=by rw[List.take_add]
theorem Uv{l:List UInt8}{x:It}{n:Nat}(h:Zj l=E (x,n)):ZO x=l.take n/\n<=l.length/\n=12+x.val.length/\QW x/\itB x.r x.val.length=M:=by
 unfold Zj at h;split at h;cases h;rename_i hl;split at h;rename_i hb;simp only[Option.some.injEq,Prod.mk.injEq]at h;obtain⟨rfl,rfl⟩:=h;have hs:Vy l=12+(l[11]?.getD 0).toNat:=rfl;have hv:(qbP l).val.length=Vy l-12:=by simp[qbP];omega
 have u0:=(l[0]?.getD 0).toNat_lt;have u11:=(l[11]?.getD 0).toNat_lt;have r1:=VS (l:=l) (a:=1) (k:=4) zO;have r5:=VS (l:=l) (a:=5) (k:=4) zO;have r9:=VS (l:=l) (a:=9) (k:=2) zO;have hb':=hb;simp only[itB,decide_eq_true_eq]at hb';refine⟨?_,zO,by rw[hv];omega,⟨⟨by simp[qbP],by simp[qbP];omega⟩,⟨r1.1,r1.2⟩,⟨r5.1,r5.2⟩,⟨?_,?_⟩,by rw[hv];omega⟩,by rw[hv];exact hb⟩;have e1:l.take 1=[l[0]?.getD 0]:=by
  rcases l with _|⟨a,l⟩
  simp at hl;simp
 have e11:(l.drop 11).take 1=[l[11]?.getD 0]:=by rw[List.drop_eq_getElem_cons zO,zL zO];rfl
 have:l.take (Vy l)=l.take 1++((l.drop 1).take 4++((l.drop 5).take 4++((l.drop 9).take 2++((l.drop 11).take 1++(l.drop 12).take (Vy l-12))))):=by
  conv=>lhs;rw[show Vy l=1+(4+(4+(2+(1+(Vy l-12)))))by omega]
  rw[KH l 1,KH (l.drop 1) 4,List.drop_drop,KH (l.drop (1+4)) 4,List.drop_drop,KH (l.drop (1+4+4)) 2,List.drop_drop,KH (l.drop (1+4+4+2)) 1,List.drop_drop]
 rw[this,e1,e11];unfold ZO;rw[hv];simp only[qbP];rw[Tt zO,Tt zO,Tt zO];rw[hs,Nat.add_sub_cancel_left];simp;exact r9.1;rcases hb'.1 with h0|h0<;>omega
 cases h
def zo(xs:List It):List UInt8:=xs.flatMap ZO
theorem qdY(xs:List It)(x:It):zo (xs++[x])=zo xs++ZO x:=by simp[zo]
theorem Gw:∀{k:Nat}{xs:List It}{r:List UInt8},zp l k=E (xs,r)->l=zo xs++r/\∀x∈xs,QW x/\itB x.r x.val.length=M:=by
 intro k;induction k with
 |zero=>intro xs r h;simp only[zp,Option.some.injEq,Prod.mk.injEq]at h;obtain⟨rfl,rfl⟩:=h;exact⟨rfl,λ_ h=>by cases h⟩
 |succ k ih=>
  intro xs r h;unfold zp at h;split at h;cases h;rename_i ys q hq;split at h;cases h;rename_i x n hx;simp only[Option.some.injEq,Prod.mk.injEq]at h;obtain⟨rfl,rfl⟩:=h;obtain⟨h1,h2⟩:=ih hq;obtain⟨g1,g2,g3,g4,g5⟩:=Uv hx;refine⟨?_,?_⟩;rw[qdY,g1,List.append_assoc,List.take_append_drop];exact h1;intro y hy;rcases List.mem_append.1 hy with hy|hy
  exact h2 y hy;obtain rfl:y=x:=by simpa using hy
  exact⟨g4,g5⟩
theorem Xi(xs:List It)(h:∀x∈xs,QW x):(zo xs).length<=24*xs.length:=by
 induction xs with
 |nil=>simp[zo]
 |cons x r ih=>
  have h1:=ih λy hy=>h y (by simp[hy]);have h2:=Tn x;have h3:=(h x zA3).2.2.2.2;simp only[zo,List.flatMap_cons,List.length_append,List.length_cons]at h1⊢;omega
def QF(lvl:Int)(xs:List It):List UInt8:=78::UInt8.ofNat lvl.toNat::UInt8.ofNat xs.length::zo xs
theorem zX{base n size:Nat}{xs:List I}(h:w.ownsRow base e size v n xs)(hx:Ext w w'):w'.ownsRow base e size v n xs:=by
 refine⟨h.1,?_⟩;rcases h.2 with h0|⟨g,cap,cur,hv,hb,hg,rest⟩
 exact .inl h0;exact .inr ⟨g,cap,cur,hv,hb,qb hg hx,rest⟩
theorem QM{base base' n size:Nat}{xs:List I}(h:w.ownsRow base e size v n xs)(hb:base'<=base):w.ownsRow base' e size v n xs:=by
 refine⟨h.1,?_⟩;rcases h.2 with h0|⟨g,cap,cur,hv,hb',rest⟩
 exact .inl h0;exact .inr ⟨g,cap,cur,hv,Nat.le_trans hb hb',rest⟩
theorem qfj{B b:Nat}(h:w.heap[b]?=o)(hb:b<B)(hx:Below B w w'):w'.heap[b]?=o:=(hx.block b hb).trans h
def Done(base:Nat)(e:TypeId)(size lo:Nat)(v:I)(m:Nat)(ys:List I)(v':I)(W:U):Prop:=
 W.ownsRow base e size v' m ys/\(v'.ownBlock=v.ownBlock\/∃g,v'.ownBlock=E g/\lo<=g)
def Ym(base:Nat)(e:TypeId)(size lo:Nat)(v:I)(n:Nat)(xs:List I)(m:Nat)(ys:List I):Rel where
 rel W W':=W.grownBy W' v.ownBlock/\(W.ownsRow base e size v n xs->W'.ownsRow base e size v n xs)/\∀v',Done base e size lo v m ys v' W->Done base e size lo v m ys v' W'
 refl' W:=⟨World.grownBy.refl _ _,id,λ_=>id⟩
 trans' h k:=⟨h.1.trans k.1,λx=>k.2.1 (h.2.1 x),λv' x=>k.2.2 v' (h.2.2 v' x)⟩
 drew' W:=⟨⟨rfl,rfl,rfl,zM _,λ_ _ _=>rfl⟩,λh=>h.drew,λv' h=>⟨h.1.drew,h.2⟩⟩
section
variable {base:Nat} {e:TypeId} {size lo:Nat} {v:Value} {n:Nat} {xs:List Value} {m:Nat} {ys:List Value}
theorem ZN{W W':U}(h:Ext W W')(row:Option Nat):W.grownBy W' row:=⟨h.os,h.tape,h.output,h.size,λk hk _=>h.block k hk⟩
theorem UM{W W':U}(h:Ext W W'):(Ym base e size lo v n xs m ys).r W W':=
 ⟨ZN h _,λx=>zX x h,λ_ x=>⟨zX x.1 h,x.2⟩⟩
theorem Jr{W W':U}(h:(Ym base e size lo v n xs m ys).r W W'){p:Addr}{u:I}(hp:v.ownBlock≠E p.block)(hc:W.cell? p=u):W'.cell? p=u:=
 World.grownBy.cell h.1 hc (λx=>hp x.symm)
theorem Km{W W':U}(h:(Ym base e size lo v n xs m ys).r W W'){b:Nat}{o:Obj}(hp:v.ownBlock≠E b)(hc:W.heap[b]?=o):W'.heap[b]?=o:=
 (h.1.block b (zG.1 hc).1 (λx=>hp x.symm)).trans hc
theorem Ge{w:U}{g cap m:Nat}{news:List I}(h:w.ownsRow base e size (D g (n+m) cap) (n+m) (xs++news))(hx:xs.length=n*size):w.ownsRow base e size (D g n cap) n xs:=by
 refine⟨hx,?_⟩;rcases h.2 with⟨h0,_⟩|⟨g',cap',cur,hv,hb,hg,hnc,hcm,hcs,htk⟩
 simp at h0;simp only[Value.slice.injEq,Option.some.injEq,Addr.mk.injEq,and_true,true_and]at hv;obtain⟨rfl,rfl⟩:=hv;refine .inr ⟨g,cap,cur,rfl,hb,hg,zO,hcm,hcs,?_⟩;have:cur.toList.take (n*size)=(cur.toList.take ((n+m)*size)).take (n*size):=by rw[List.take_take,Nat.min_eq_left (Nat.mul_le_mul_right _ (Nat.le_add_right _ _))]
 rw[this,htk,<-hx,List.take_left]
theorem XL{P:Program}(W:U)(t ty:TypeId)(i:TypeInfo)(z:I)(bytes:Nat)(ht:P.underlying t=E (.slice e))(hi:P.info? e=i)(hz:i.zero=z)(hHJ:i.size=size)(hby:i.bytes=bytes)(hzs:z.cells.size=size)(hsz:0<size)(hAD:W.ownsRow base e size v n xs)(a:Addr)(k c:Nat)(news:List I)(hl:news.length=k*size)(hZB:∀j u,news[j]?=E u->W.cell? (a.add j)=E u)(h1:∀u∈news,u.oneCell'=M)(hn:n+k<1073741824)(hGV:bytes<=65536)(hMP:base<=W)(hlo:lo<=W):∃v' w',(Builtin.append_ #[t,t] ty #[v,D (E a) k c]).run P W=.ok v' w'/\Done base e size lo v (n+k) (xs++news) v' w'/\(Ym base e size lo v n xs (n+k) (xs++news)).r W w':=by
 have hb:(n+k)*bytes<=140737488355328:=Nat.le_trans (Nat.mul_le_mul_left _ hGV) zO;have hm:n+k<=maxLen:=zA7;obtain⟨v',w',hr,h2,h3,_,h5⟩:=run_append_own_at (P:=P) W base t ty e i z size bytes ht hi hz hHJ hby hzs hsz v n xs hAD a k c news hl hZB h1 hm hb hMP;have hD:Done base e size lo v (n+k) (xs++news) v' w':=⟨h2,h5.imp id λe=>⟨_,e,hlo⟩⟩
 rcases hAD.2 with⟨rfl,rfl⟩|⟨g,cap,cur,rfl,hbg,hg,hnc,hcm,hcs,htk⟩
 exact⟨v',w',hr,hD,UM ⟨h3.os,h3.tape,h3.output,h3.size,λk hk=>h3.block k hk (by simp[Value.ownBlock])⟩⟩;by_cases hroom:n+k<=cap;obtain⟨w2,hr2,g2,g3⟩:=run_append_fits (P:=P) W base t ty e i size ht hi hHJ g n cap xs hAD a k c news hl hZB h1 hroom;refine⟨_,w2,hr2,⟨g2,.inl rfl⟩,g3,λ_=>Ge g2 hAD.1,λu hu=>⟨?_,hu.2⟩⟩;rcases hu.1.2 with h0|⟨g',cap',cur',rfl,hbg',hg',hnc',hcm',wBP,htk'⟩
 exact⟨hu.1.1,.inl h0⟩;by_cases hgg:g'=g;subst hgg;rw[hg]at hg';simp only[Option.some.injEq,Obj.cells.injEq]at hg';obtain⟨rfl,_⟩:=hg';obtain rfl:cap'=cap:=by
  have:cap'*size=cap*size:=by rw[<-wBP,<-hcs]
  exact Nat.eq_of_mul_eq_mul_right hsz this
 exact g2;exact⟨hu.1.1,.inr ⟨g',cap',cur',rfl,hbg',(g3.block g' (zG.1 hg').1 (by simpa using hgg)).trans hg',hnc',hcm',wBP,htk'⟩⟩;have holds:∀j u,xs[j]?=E u->W.cell? ((g:Addr).add j)=E u:=hAD.cells (g:=g) rfl;subst hHJ;subst hby;have hr':=run_append_grow (P:=P) W t ty e i z ht hi hz ⟨g,0,F⟩ n cap xs hAD.1 holds a k c news hl hZB zO (by unfold maxLen at hm;omega) (growslice_fits zO hb);rw[hr]at hr';cases hr';exact⟨_,_,hr,hD,UM ((Ext.drew W).trans (zN _ _))⟩
def GO(base:Nat)(e:TypeId)(size lo:Nat)(v:I)(m:Nat)(ys:List I):Qd:=⟨I,λu=>u,λu W=>Done base e size lo v m ys u W⟩
theorem QU(base:Nat)(e:TypeId)(size lo:Nat)(v:I)(m:Nat)(ys:List I)(u:I):(GO base e size lo v m ys).f u=u:=rfl
theorem qdh:∀p,qU (Ym base e size lo v n xs m ys) ((GO base e size lo v m ys).φ p):=λp _ _ he h=>he.2.2 p h
def ZY(lo n:Nat)(ty:TypeId)(cs:Array I):Qd:=⟨Nat,λb=>D b n n,λb W=>W.heap[b]?=E (Q cs ty)/\lo<=b⟩
theorem qv(lo n:Nat)(ty:TypeId)(cs:Array I)(b:Nat):(ZY lo n ty cs).f b=D b n n:=rfl
theorem jw(lo n:Nat)(ty:TypeId)(cs:Array I):∀p,zy ((ZY lo n ty cs).φ p):=λp W W' he h=>
 ⟨(Below.block he p (zG.1 h.1).1).trans h.1,h.2⟩
theorem Tw{lo' n':Nat}{ty:TypeId}{cs:Array I}(hlo:∀g,v.ownBlock=E g->g<lo'):∀p,qU (Ym base e size lo v n xs m ys) ((ZY lo' n' ty cs).φ p):=λp _ _ he h=>
 ⟨Km he (λx=>by have:=hlo p x;have:=h.2;omega) h.1,h.2⟩
theorem Xg{P:Program}{o:Oper}{a:Act}{W:U}{lo' n':Nat}{ty:TypeId}{cs:Array I}(hr:(execOp a.eval o).run P W=.ok (.value (D W n' n')) (W.alloc (Q cs ty)))(hlo:lo'<=W):vS P o a W (ZY lo' n' ty cs):=by unfold vS;rw[hr];exact⟨W.heap.size,rfl,⟨zI _ _ _ rfl,hlo⟩,zN _ _⟩
theorem qbg{P:Program}{o:Oper}{a:Act}{W:U}{lo' n':Nat}{ty:TypeId}{cs:Array I}(hr:(execOp a.eval o).run P W=.ok (.value (D W n' n')) (W.alloc (Q cs ty)))(hlo:lo'<=W):Qw (Ym base e size lo v n xs m ys) P o a W (ZY lo' n' ty cs):=by unfold Qw;rw[hr];exact⟨W.heap.size,rfl,⟨zI _ _ _ rfl,hlo⟩,UM (zN _ _)⟩
theorem qiF{W:U}{b:Nat}{cs:Array I}{t:TypeId}(h:W.heap[b]?=E (Q cs t)):∀j u,cs.toList[j]?=E u->W.cell? ((b:Addr).add j)=E u:=by
 intro j u hj;have h2:W.cell? (b,0+j)=u:=by rw[qa h];simpa using hj
 rw[<-h2];unfold Addr.add;split;subst_vars;rfl;rfl
theorem Yf{w:U}{base n size:Nat}{e:TypeId}{v:I}{xs:List I}(h:w.ownsRow base e size v n xs){p:Addr}(hp:p.block<base)(u:I):(w.setCell p u).ownsRow base e size v n xs:=by
 refine⟨h.1,?_⟩;rcases h.2 with h0|⟨g,cap,cur,hv,hb,hg,rest⟩
 exact .inl h0;exact .inr ⟨g,cap,cur,hv,hb,(zJ _ _ _ _ zO).trans hg,rest⟩
end
def Uo(v u:I):Prop:=∀a n c,u=D (E a) n c->0<n->v.ownBlock≠E a.block
theorem Bys.grown{row:Option Nat}(h:Bys w w u l)(hg:w.grownBy w' row)(ha:∀a n c,u=D (E a) n c->0<n->row≠E a.block):Bys w' w' u l:=by obtain⟨A,c,e,hc,hm,hr⟩:=h;refine⟨A,c,e,hc,hm,hr.1,λhn=>?_⟩;obtain⟨b,off,rfl,hb,hAG⟩:=hr.2 hn;refine⟨b,off,rfl,Nat.lt_of_lt_of_le hb hg.size,λj x hx=>?_⟩;exact World.grownBy.cell hg (hAG j x hx) (λx=>ha _ _ _ e hn x.symm)
theorem Uo.of_from(hf:ZV lo u)(hv:∀g,v.ownBlock=E g->g<lo):Uo v u:=by intro a n c e _ hx;have:=hv _ hx;have:=hf a n c e;omega
theorem zl{base n size:Nat}{xs:List I}(h:w.ownsRow base e size v n xs):∀g,v.ownBlock=E g->base<=g/\g<w:=by
 intro g hg;rcases h.2 with⟨rfl,_⟩|⟨g',cap,cur,rfl,hb,hg',_⟩
 simp[Value.ownBlock]at hg;simp only[Value.ownBlock,Option.some.injEq]at hg;subst hg;exact⟨hb,(zG.1 hg').1⟩
theorem qM{base n size:Nat}{xs:List I}(h:w.ownsRow base e size v n xs):∃A c,v=D A n c/\n<=c/\c<=maxLen:=by
 rcases h.2 with⟨rfl,h0⟩|⟨g,cap,cur,rfl,_,_,hnc,hcm,_⟩
 exact⟨F,0,by rw[h0],zO,by simp[maxLen]⟩;exact⟨_,cap,rfl,hnc,hcm⟩
def jr(lo:Nat)(w:U)(v:I)(xs:List It):Prop:=
 ∃ps:List (It×I),ps.map (·.1)=xs/\(∃A c,v=D A xs.length c/\xs.length<=c/\c<=maxLen/\Rd w w 5 A xs.length (qG ps))/\(∀p∈ps,(∃A c,p.2=D A p.1.val.length c)/\Bys w w p.2 p.1.val)/\ZV lo v/\∀p∈ps,ZV lo p.2
theorem jr.its(h:jr lo w v xs):Its w w v xs:=by obtain⟨ps,h1,h2,h3,_⟩:=h;exact⟨ps,h1,h2,h3⟩
theorem jr.mono(h:jr lo w v xs)(hl:lo'<=lo):jr lo' w v xs:=by obtain⟨ps,h1,h2,h3,h4,h5⟩:=h;exact⟨ps,h1,h2,h3,h4.mono hl,λp hp=>(h5 p hp).mono hl⟩
theorem jr.keep(h:jr lo w v xs)(hs:w.heap.size<=w')(hk:∀p:Addr,lo<=p.block->p.block<w->w'.cell? p=w.cell? p):jr lo w' v xs:=by
 have key:∀{size n:Nat}{A:OA}{us:List I}{c:Nat},Rd w w size A n us->ZV lo (D A n c)->Rd w' w' size A n us:=by intro size n A us c hr hf;refine⟨hr.1,λhn=>?_⟩;obtain⟨b,off,rfl,hb,hAG⟩:=hr.2 hn;exact⟨b,off,rfl,Nat.lt_of_lt_of_le hb hs,λj x hx=>(hk ⟨b,off+j,F⟩ (hf ⟨b,off,F⟩ _ _ rfl) hb).trans (hAG j x hx)⟩
 obtain⟨ps,h1,⟨A,c,e,h2,h3,h4⟩,h5,h6,h7⟩:=h;refine⟨ps,h1,⟨A,c,e,h2,h3,key h4 (by rw[<-e];exact h6)⟩,λp hp=>⟨(h5 p hp).1,?_⟩,h6,h7⟩;obtain⟨_,A',c',e',g2,g3,g4⟩:=h5 p hp;exact⟨A',c',e',g2,g3,key g4 (by rw[<-e'];exact h7 p hp)⟩
theorem jr.ext(h:jr lo w v xs)(hx:Ext w w'):jr lo w' v xs:=h.keep hx.size λ_ _ hp=>Below.cell hx hp
abbrev qcH(x:It)(u:I):List I:=[J .u8 x.k,J Z x.i,J Z x.o,J X x.r,u]
theorem qhl(ps:List (It×I))(x:It)(u:I):qG (ps++[(x,u)])=qG ps++qcH x u:=by rw[Zr];rfl
def XN(base lo:Nat)(w:U)(v:I)(ps:List (It×I)):Prop:=
 w.ownsRow base 51 5 v ps.length (qG ps)/\∀p∈ps,((∃A c,p.2=D A p.1.val.length c)/\ZV lo p.2)/\Bys w w p.2 p.1.val/\Uo v p.2
theorem XN.nil(base lo:Nat)(w:U):XN base lo w (D F 0 0) []:=⟨World.ownsRow_nil _ _ _ _,λ_ h=>by cases h⟩
theorem XN.ext(h:XN base lo w v ps)(hx:Ext w w'):XN base lo w' v ps:=
 ⟨zX h.1 hx,λp hp=>⟨(h.2 p hp).1,((h.2 p hp).2.1.below hx).more hx.size,(h.2 p hp).2.2⟩⟩
theorem XN.push{lo2:Nat}(h:XN base lo w v ps)(x:It)(A c)(hb:Bys w w (D A x.val.length c) x.val)(hf:ZV lo (D A x.val.length c))(ha:Uo v (D A x.val.length c))(hl:lo2=w)(hD:Done base 51 5 lo2 v (ps.length+1) (qG ps++qcH x (D A x.val.length c)) v' W)(hg:w.grownBy W v.ownBlock):XN base lo W v' (ps++[(x,D A x.val.length c)]):=by
 subst hl;refine⟨by rw[qhl,List.length_append];exact hD.1,?_⟩;have key:∀u l,Bys w w u l->Uo v u->Bys W W u l/\Uo v' u:=by
  intro u l hu hau;refine⟨hu.grown hg hau,λa n c e hn=>?_⟩;rcases hD.2 with h1|⟨g,h1,h2⟩
  rw[h1];exact hau a n c e hn;rw[h1];intro hx;simp only[Option.some.injEq]at hx;obtain⟨A',c',e',_,_,hr⟩:=hu;rw[e]at e';simp only[Value.slice.injEq]at e';obtain⟨e1,e2,_⟩:=e';obtain⟨b,off,e3,hbb,_⟩:=hr.2 zO;rw[<-e1]at e3;simp only[Option.some.injEq]at e3;rw[e3]at hx;simp at hx;omega
 intro p hp;rcases List.mem_append.1 hp with hp|hp
 have:=h.2 p hp;exact⟨this.1,key _ _ this.2.1 this.2.2⟩;obtain rfl:p=(x,D A x.val.length c):=by simpa using hp
 exact⟨⟨⟨_,_,rfl⟩,hf⟩,key _ _ hb ha⟩
theorem XN.setCell(h:XN base lo w v ps)(hp:p.block<base)(hl:p.block<lo)(u:I):XN base lo (w.setCell p u) v ps:=
 ⟨Yf h.1 hp u,λq hq=>⟨(h.2 q hq).1,by simpa using(h.2 q hq).2.1.setCell (h.2 q hq).1.2 hl u,(h.2 q hq).2.2⟩⟩
theorem XN.its(h:XN base lo w v ps)(hl:lo<=base):jr lo w v (ps.map (·.1))/\∃A c,v=D A ps.length c:=by
 have hf:ZV base v:=ZV.of_own h.1;obtain⟨A,c,e,h1,h2⟩:∃A c,v=D A ps.length c/\ps.length<=c/\c<=maxLen:=by
  rcases h.1.2 with⟨rfl,h0⟩|⟨g,cap,cur,rfl,_,_,hnc,hcm,_⟩
  exact⟨F,0,by rw[h0],zO,by simp[maxLen]⟩;exact⟨_,cap,rfl,hnc,hcm⟩
 refine⟨⟨ps,rfl,⟨A,c,by rw[List.length_map];exact e,by rw[List.length_map];exact h1,h2,?_⟩,λp hp=>⟨(h.2 p hp).1.1,(h.2 p hp).2.1⟩,hf.mono hl,λp hp=>(h.2 p hp).1.2⟩,A,c,e⟩;rw[List.length_map];have:=h.1;rw[e]at this;exact Rd.of_own this
theorem Gy(h:jr lo w (D A n' c') xs)(b off n c:Nat)(j:Nat)(e:(Value.slice A n' c')=D (b,off) n c)(hn:0<n):lo<=((b,j):Addr).block:=by obtain⟨ps,h1,h2,h3,h4,h5⟩:=h;exact h4 ⟨b,off,F⟩ _ _ e
theorem qfV(h:zp l k=F):∀m,k<=m->zp l m=F:=by
 intro m hm;induction m with
 |zero=>
  obtain rfl:k=0:=zO;exact h
 |succ m ih=>
  rcases Nat.lt_or_ge k (m+1)with h'|h'
  unfold zp;rw[ih zO];obtain rfl:k=m+1:=zO;exact h
theorem Gx{l r:List UInt8}(h:zp l k=E (xs,r)):zp l (k+1)=match Zj r with|none=>F|some (x,n)=>E (xs++[x],r.drop n):=by
 conv=>lhs;unfold zp
 rw[h]<;>rfl
theorem qhO{l r:List UInt8}(h:zp l k=E (xs,r))(hr:Zj r=F):∀m,k<m->zp l m=F:=by
 intro m hm;have:zp l (k+1)=F:=by rw[Gx h,hr]
 exact qfV this m zO
theorem Gv{l r:List UInt8}{k n:Nat}{xs:List It}{x:It}(h:zp l k=E (xs,r))(hr:Zj r=E (x,n)):zp l (k+1)=E (xs++[x],r.drop n):=by rw[Gx h,hr]
def Xs(p0 p1 p2:Nat)(l7:List UInt8):Option (Int×List It):=
 if p0=78/\p2<=5 then
  match zp l7 p2 with
  |none=>F
  |some (xs,r)=>if Qq p1 xs=M/\kJ r=M then E ((p1:Int),xs)else F
 else F
theorem qbs(hl:l.length=128)(hs:qbB l=M):QO l=Xs (l[4]?.getD 0).toNat (l[5]?.getD 0).toNat (l[6]?.getD 0).toNat (l.drop 7):=by
 unfold QO Xs;have:(l[4]?.getD 0)=78↔(l[4]?.getD 0).toNat=78:=by constructor;intro h;rw[h];rfl;intro h;exact UInt8.toNat.inj h
 simp only[hl,hs,this,true_and]<;>rfl
theorem qig{p0 p1 p2:Nat}(h:¬(p0=78/\p2<=5)):Xs p0 p1 p2 l7=F:=by unfold Xs;rw[if_neg h]
theorem qih{p1 p2:Nat}{l7:List UInt8}(h:zp l7 p2=F):Xs 78 p1 p2 l7=F:=by unfold Xs;split;rw[h];rfl
theorem qbr{p1 p2:Nat}{l7 r:List UInt8}{xs:List It}(h2:p2<=5)(h:zp l7 p2=E (xs,r)):Xs 78 p1 p2 l7=if Qq p1 xs=M/\kJ r=M then E ((p1:Int),xs)else F:=by unfold Xs;rw[if_pos ⟨rfl,h2⟩,h]
theorem Xj{l r:List UInt8}(h:zp l k=E (xs,r))(hk:k<=5)(hl:l.length=121):0<r.length/\r.length<=121:=by
 obtain⟨e,hx⟩:=Gw h;have h1:=Xi xs λx hx'=>(hx x hx').1;have h2:=qbj h;have h3:l.length=(zo xs).length+r.length:=by rw[e,List.length_append]
 omega
def qcl(lo:Nat)(q:Option (Int×List It))(u:I)(W:U):Prop:=
 match q with
 |none=>∃e:Int,e≠0/\u=.tuple #[Jc 0 F 0 0,e]
 |some (lvl,xs)=>∃A c,u=.tuple #[Jc lvl A xs.length c,J X 0]/\jr lo W (D A xs.length c) xs
def NzI(W:U)(v:I):Prop:=∀b off n c i u,v=D (E ⟨b,off,F⟩) n c->i<n->W.cell? ⟨b,off+i*5+4,F⟩=E u->Nz W u
theorem NzI.keep(h:NzI W v)(hc:∀b off n c,v=D (E ⟨b,off,F⟩) n c->0<n->∀j,W'.cell? ⟨b,j,F⟩=W.cell? ⟨b,j,F⟩)(hn:∀u,Nz W u->Nz W' u):NzI W' v:=λb off n c i u e hi hu=>
 hn u (h b off n c i u e hi (by rw[<-hc b off n c e zO];exact hu))
theorem NzI.ext(h:NzI W v)(hx:Ext W W')(hb:∀b off n c,v=D (E ⟨b,off,F⟩) n c->0<n->b<W):NzI W' v:=
 h.keep (λb off n c e hn j=>Below.cell hx (p:=⟨b,j,F⟩) (hb b off n c e hn)) λu hu=>hu.ext hx
theorem XN.nzi(h:XN base lo w v ps)(hz:∀p∈ps,Nz w p.2):NzI w v:=λb off n c i u e hi hu=>by subst e;obtain⟨A,c',e',-⟩:=qM h.1;simp only[Value.slice.injEq]at e';obtain⟨rfl,rfl,rfl⟩:=e';have h1:=(Rd.of_own h.1).2 zO;obtain⟨b',off',e,-,hAG⟩:=h1;simp only[Option.some.injEq,Addr.mk.injEq,and_true]at e;obtain⟨rfl,rfl⟩:=e;have h2:=hAG (i*5+4) _ (Vs ps i hi).2.2.2.2;rw[<-Nat.add_assoc,hu]at h2;rw[Option.some.inj h2];exact hz _ (List.getElem_mem hi)
theorem nz_push(h:XN base lo w v ps)(hz:∀p∈ps,Nz w p.2)(hu:Nz w u)(ha:Uo v u)(hg:w.grownBy W v.ownBlock)(q:Addr)(t:I):∀p∈ps++[(x,u)],Nz (W.setCell q t) p.2:=by
 have key:∀u,Nz w u->Uo v u->Nz (W.setCell q t) u:=λu hu hau=>Nz.setCell (λa n c e hn=>by obtain⟨cs,ty,hr⟩:=hu a n c e hn;exact⟨cs,ty,(hg.block a.block (zG.1 hr).1 (λx=>hau a n c e hn x.symm)).trans hr⟩) q t;intro p hp;rcases List.mem_append.1 hp with hp|hp
 exact key _ (hz p hp) (h.2 p hp).2.2;obtain rfl:p=(x,u):=by simpa using hp
 exact key _ hu ha
def qaU(lo:Nat)(q:Option (Int×List It))(u:I)(W:U):Prop:=
 match q with
 |none=>∃e:Int,e≠0/\u=.tuple #[Jc 0 F 0 0,e]
 |some (lvl,xs)=>∃A c,u=.tuple #[Jc lvl A xs.length c,J X 0]/\jr lo W (D A xs.length c) xs/\NzI W (D A xs.length c)
theorem qaU.nodeP(h:qaU lo q u W):qcl lo q u W:=by
 rcases q with _|⟨lvl,xs⟩
 exact h;obtain⟨A,c,h1,h2,-⟩:=h;exact⟨A,c,h1,h2⟩
theorem Kv(lvl:Int)(A n c)(xs:List It)(w:U)(hx:Its w w (D A n c) xs):Calls prog 182 #[Jc lvl A n c] w (Ret (J X (JQ (Qq lvl xs))) w):=by
 by_cases h:Jy lvl n=M;exact qjY lvl A n c xs w hx h;have hn:n=xs.length:=hx.at_.1;have h':Jy lvl n=Y:=by simpa using h
 have:Qq lvl xs=Y:=by unfold Qq;rw[<-hn,h'];rfl
 rw[this];exact qid lvl A n c h' w
theorem Tryz.info_item:(Tryz.prog.info? 51).map (λi=>(i.zero,i.size,i.bytes))=E (E (.agg #[J .u8 0,J Z 0,J Z 0,J X 0,D F 0 0]),5,48):=zQ
abbrev kK(e:Int):I:=.tuple #[Jc 0 F 0 0,e]
set_option maxRecDepth 100000 in
theorem qda(v:I)(l:List UInt8)(w:U)(h:Bys w w v l):Calls prog 136 #[v] w (zv (qaU w (QO l)) w):=by
 by_cases hl:l.length=128
 case neg=>
  have hq:QO l=F:=by unfold QO;rw[if_neg (λx=>hl x.1)]
  rw[hq];have HO:=zH (λW hW=>open_len v l hl W hW);go_enter func136,ntmps136;go_wp2_with fail;generalize hw1:(O _ _)=w1;have b1:Ext w w1:=hw1▸zN _ _;have r1:w1.heap[w.heap.size]?=E (Q #[J X 0,D F 0 0] 113):=hw1▸zI _ _ _ rfl;clear hw1;refine(HO.out _ ((h.below b1).more b1.size)).mono ?_;rintro e w2 ⟨rfl,hB⟩;have b2:Below w w w2:=Ext.trans b1 hB;have r2:=qb r1 hB;have k2:=qa r2;have f2:=qd r2;go_wp2;refine bodyPost_ret (v:=kK 3) (by simp[results,results136,go_sem,k2]) rfl ⟨_,rfl,⟨3,zA1,rfl⟩,zA5⟩
 case pos=>
  have HO:=zH (λW hW=>open_any v l hl W hW);generalize hR:QO l=R;replace hR:=zH hR.symm;go_enter func136,ntmps136;go_wp2_with fail;generalize hw1:(O _ _)=w1;have b1:Ext w w1:=hw1▸zN _ _;have r1:w1.heap[w.heap.size]?=E (Q #[J X 0,D F 0 0] 113):=hw1▸zI _ _ _ rfl;clear hw1;refine(HO.out _ ((h.below b1).more b1.size)).mono ?_;clear HO h;rintro e w2 ⟨u,rfl,hu,hB⟩;have b2:Ext w w2:=Ext.trans b1 hB;have r2:=qb r1 hB;have s1:w.heap.size<w1:=(zG.1 r1).1;by_cases hs:qbB l=M
  case neg=>
   have hs':qbB l=Y:=by simpa using hs
   obtain rfl:R=F:=by rw[hR.out];unfold QO;rw[if_neg (λx=>hs x.2.1)]
   rw[hs']at hu;simp only[Bool.false_eq_true,if_false]at hu;subst hu;clear b1 r1 hB hR hs hs';have b2':Below w w w2:=b2;have k2:=qa r2;have f2:=qd r2;go_wp2;refine bodyPost_ret (v:=kK 8) (by simp[results,results136,go_sem,k2]) rfl ⟨_,rfl,⟨8,zA1,rfl⟩,zA5⟩
  case pos=>
   rw[hs,if_pos rfl]at hu;obtain⟨u',rfl,A,c,rfl,hb,hf⟩:=hu;have hb3:(l.drop 4).length=124:=zA2;obtain⟨_,hc,hm,hA⟩:=hb.at_;obtain⟨b,off,rfl,hbl⟩:=hA zO;have hAG:∀j,j<124->w2.cell? ⟨b,off+j,F⟩=E (J .u8 ((l[4+j]?.getD 0).toNat:Int)):=by intro j hj;obtain⟨A,c',e,_,_,hr⟩:=hb;simp only[Value.slice.injEq]at e;obtain⟨rfl,_,rfl⟩:=e;obtain⟨b',off',e,_,hAG⟩:=hr.2 zO;simp only[Option.some.injEq,Addr.mk.injEq,and_true]at e;obtain⟨rfl,rfl⟩:=e;refine hAG j _ ?_;rw[List.getElem?_map,List.getElem?_drop,zL zO];rfl
   have c0:=hAG 0 zO;have c1:=hAG 1 zO;have c2:=hAG 2 zO;have wEE:Bys w2 w2 (D (b,off+3) 121 (c-3)) (l.drop 7):=by
    have:=hb.sub (a:=3) (k:=121) zO
    rwa [List.drop_drop,List.take_of_length_le zA2]at this
   have hN:R=Xs (l[4]?.getD 0).toNat (l[5]?.getD 0).toNat (l[6]?.getD 0).toNat (l.drop 7):=by rw[hR.out];exact qbs hl hs
   have hl7:(l.drop 7).length=121:=zA2;have u1:=(l[5]?.getD 0).toNat_lt;have u2:=(l[6]?.getD 0).toNat_lt;clear hAG hb hA hB r1 b1 hf hb3;rw[Nat.add_zero]at c0;clear hR;replace hN:=zH hN;generalize(l[4]?.getD 0).toNat=p0 at*;generalize(l[5]?.getD 0).toNat=p1 at*;generalize(l[6]?.getD 0).toNat=p2 at*;generalize l.drop 7=l7 at*;unfold maxLen at hm;have s2:w.heap.size<w2:=(zG.1 r2).1;have k2:=qa r2;have f2:=qd r2;have b2':Below w w w2:=b2;by_cases hhd:p0=78/\p2<=5
   case neg=>
    obtain rfl:R=F:=by rw[hN.out,qig hhd]
    clear hN;go_wp2;all_goals try simp only[beq_iff_eq,beq_eq_false_iff_ne,ne_eq]at*
    all_goals first|(exfalso;omega)|skip
    all_goals
     generalize hwf:(O _ _)=wf;have rf:wf.heap[w.heap.size]?=E (Q #[J X 0,D F 0 0] 113):=by rw[<-hwf];exact(zK _ _ _ (by simpa using s2)).trans (qj (qj r2 0 _) 1 _)
     have bf:Below w w wf:=by rw[<-hwf];exact(by repeat' (first|with_reducible exact Below.refl _ _|with_reducible assumption|with_reducible apply Below.drew|with_reducible apply qX|with_reducible refine Below.alloc ?_ ?_ _|with_reducible refine Below.setCell ?_ ?_ _|(simp;done)|(simp;omega)|omega))
     have kf:=qa rf;exact bodyPost_ret (v:=kK 8) (by simp[results,results136,go_sem,kf]) rfl ⟨_,rfl,⟨8,zA1,rfl⟩,bf⟩
   case pos=>
    obtain⟨rfl,hp2⟩:=hhd;have hN2:=zH (λh=>hN.out.trans (@qih p1 p2 l7 h));have hN3:=zH (λr xs h=>hN.out.trans (@qbr p1 p2 l7 r xs hp2 h));clear hN;go_wp2;generalize hw3:(O _ _)=w3;have b3:Ext w2 w3:=hw3▸zN _ _;have r3:w3.heap[w2.heap.size]?=E (Q #[p1,D F 0 0] 113):=hw3▸zI _ _ _ rfl;have hre:Bys w3 w2 (D (b,off+3) 121 (c-3)) l7:=wEE.below b3;have rr3:=qb r2 b3;have b23:Below w2 w2 w3:=b3;clear hw3 wEE k2 f2 r2 c0 c1 hbl;generalize hnb:w2.heap.size=nb at*;go_loopw [7,42] (λrs i wr=>∃(k:Nat)(xs:List It)(r:List UInt8)(o cc:Nat)(v:I)(ps:List (It×I)),k<=p2/\i=J .u8 (k:Int)/\zp l7 k=E (xs,r)/\rs=D (E ⟨b,o,F⟩) r.length cc/\Bys w3 nb rs r /\
      wr.heap[nb]?=E (Q #[J X p1,v] 113 (0,0))/\XN (nb+1) (nb+1) wr v ps/\ps.map (·.1)=xs/\Below nb w3 wr/\∀p∈ps,Nz wr p.2) (λ_ i _=>p2-(intOf i).toNat)
    case atStart=>exact⟨0,[],l7,off+3,c-3,D F 0 0,[],zO,rfl,rfl,by rw[hl7],hre,r3,XN.nil _ _ _,rfl,Below.refl _ _,λ_ h=>by cases h⟩
    case round=>
     obtain⟨k,xs,r,o,cc,v1,ps,hk,rfl,hBE,rfl,hbr,rn,hAH,hps,hB,hnz⟩:=hrel;replace hnz:=zH hnz;by_cases hlt:k<p2
     ·have hBP:=hlt;have hsn:nb<wr:=(zG.1 rn).1;have hrl:=Xj hBE zO hl7;have hYE:Bys wr wr (D (b,o) r.length cc) r:=(hbr.below hB).more zO;have hat:=hbr.at_;have HR:=zH (qjK _ r zO wr hYE);have HBAD:=zH (λh=>hN2.out (qhO hBE h p2 hBP));have HNX:=zH (λx n h=>@Gv _ _ _ n _ x hBE h);have HSM:=zH (λx n=>@Uv r x n);have HSUB:=zH (λn (h:n+(r.length-n)<=r.length)=>hbr.sub h);have hkn:=qbj hBE;have hpl:ps.length=k:=by rw[<-hkn,<-hps,List.length_map]
      generalize hq:Zj r=q at*;clear hbr hYE;have rr:=qfj rr3 s2 hB;go_wp2_with fail;refine HR.out.mono ?_;rintro e w4 ⟨u,rfl,hu,hB4⟩;have rr4:=qb rr hB4;rcases q with _|⟨x,n⟩
      ·obtain rfl:u=noIt:=hu;obtain rfl:R=F:=HBAD.out rfl;clear HR HBAD HNX HSM HSUB hN2 hN3 rr;have kk4:=qa rr4;have ff4:=qd rr4;have s4:w.heap.size<w4:=(zG.1 rr4).1;have bw4:Below w w w4:=Below.trans b2' (Below.trans (Below.mono b23 zO) (Below.trans (Below.mono hB zO) (Below.mono hB4 zO)));go_wp2;generalize hwf:(O _ _)=wf;have rf:wf.heap[w.heap.size]?=E (Q #[J X 0,D F 0 0] 113):=by rw[<-hwf];exact(zK _ _ _ (by simpa using s4)).trans (qj (qj rr4 0 _) 1 _)
       have bf:Below w w wf:=by rw[<-hwf];exact(by repeat' (first|with_reducible exact Below.refl _ _|with_reducible assumption|with_reducible apply Below.drew|with_reducible apply qX|with_reducible refine Below.alloc ?_ ?_ _|with_reducible refine Below.setCell ?_ ?_ _|(simp;done)|(simp;omega)|omega))
       have kf:=qa rf;exact bodyPost_ret (v:=kK 8) (by simp[results,results136,go_sem,kf]) rfl ⟨_,rfl,⟨8,zA1,rfl⟩,bf⟩
      obtain⟨i,rfl,A',c',rfl,⟨hby,hfr⟩,hnx⟩:=hu;replace hnx:=zH hnx;obtain⟨g1,g2,g3,g4,g5⟩:=HSM.out x n rfl;have htl:=Xj (HNX.out x n rfl) zO hl7;rw[List.length_drop]at htl;have hsb:=HSUB.out n zO;rw[List.take_of_length_le zA3]at hsb;clear HR HSM HSUB HBAD g1 g3 g4 g5;have hZR:=hAH.ext hB4;have hvl:=zl hAH.1;have s4:=hB4.size;go_wp2_with fail;generalize hw5:(O _ _)=w5;have b5:Ext w4 w5:=hw5▸zN _ _;have r5:w5.heap[w4.heap.size]?=E (Q #[J .u8 x.k,J Z x.i,J Z x.o,J X x.r,D A' x.val.length c'] 51):=hw5▸zI _ _ _ rfl;clear hw5;have hPG:=hZR.ext b5;have rn5:=qb (qb rn hB4) b5;have wFF:=(hby.below b5).more b5.size;have s5:w4.heap.size<w5:=(zG.1 r5).1;have hB5:Below nb w3 w5:=Below.trans hB (Below.trans (Below.mono hB4 zO) (Below.mono b5 zO));have hvn:v1.ownBlock≠E nb:=λh=>by have:=hvl _ h;omega
      have hv4:v1.ownBlock≠E w4.heap.size:=λh=>by have:=hvl _ h;omega
      obtain⟨RR,hRR⟩:∃RR:Rel,RR=Ym (nb+1) 51 5 w5 v1 ps.length (qG ps) (ps.length+1) (qG ps++qcH x (D A' x.val.length c')) :=⟨_,rfl⟩
      replace hRR:=zH hRR;have n1:∀W,RR.r w5 W->W.cell? (nb,1)=v1:=λW h=>Jr (hRR.out▸h) hvn (by rw[qa rn5];rfl);have i0:∀W,RR.r w5 W->W.cell? w4=E (J .u8 x.k):=λW h=>Jr (hRR.out▸h) hv4 (by rw[qa r5];rfl);have i1:∀W,RR.r w5 W->W.cell? (w4,1)=E (J Z x.i):=λW h=>Jr (hRR.out▸h) hv4 (by rw[qa r5];rfl);have i2:∀W,RR.r w5 W->W.cell? (w4,2)=E (J Z x.o):=λW h=>Jr (hRR.out▸h) hv4 (by rw[qa r5];rfl);have i3:∀W,RR.r w5 W->W.cell? (w4,3)=E (J X x.r):=λW h=>Jr (hRR.out▸h) hv4 (by rw[qa r5];rfl);have i4:∀W,RR.r w5 W->W.cell? (w4,4)=E (D A' x.val.length c'):=λW h=>Jr (hRR.out▸h) hv4 (by rw[qa r5];rfl);refine qw zQ ?_;refine ZJ 5 10 (D (E ⟨b,o,F⟩) r.length cc) zQ zA6 zQ zQ zQ zA0 (λW=>?_) ?_
      ·go_simp
      simp only[Act.put,qf,qc,qh,qv,QU,zA,zB,zC];refine ZJ 6 9 (J X (n:Int)) zQ zA6 zQ zQ zQ zA0 (λW=>?_) ?_
      ·go_simp
      simp only[Act.put,qf,qc,qh,qv,QU,zA,zB,zC];refine ZJ 7 8 (D (E ⟨b,o+n,F⟩) (r.length-n) (cc-n)) zQ zA6 zQ zQ zQ zA0 (λW=>?_) ?_
      ·go_simp;have:=hat.2.1;omega
      simp only[Act.put,qf,qc,qh,qv,QU,zA,zB,zC];refine jj (w:=w5) RR (qV [(3,ZY w5.heap.size 1 51 #[J .u8 x.k,J Z x.i,J Z x.o,J X x.r,D A' x.val.length c']),(4,GO (nb+1) 51 5 w5.heap.size v1 (ps.length+1) (qG ps++qcH x (D A' x.val.length c')))])
       [M,M,M,M,M,Y,Y,Y,M] 2 zQ zQ zQ zQ zQ zQ ?st (Rel.drew _ _) ?walk
      case st=>rw[hRR.out];exact ql (by simp only[List.forall_mem_cons];exact⟨Tw (λg hg=>by have:=hvl g hg;omega),qdh,λ_ h=>by cases h⟩)
      case walk=>
       intro K hK;dsimp only[qA];refine zB2 ?_;refine qH (ZY w5.heap.size 1 51 #[J .u8 x.k,J Z x.i,J Z x.o,J X x.r,D A' x.val.length c']) zA0 zA0 (λW hW _=>?_) (λp=>?_)
       ·rw[hRR.out]at hW⊢;refine qbg ?_ hW.1.size;go_simp
       simp only[Act.put,qf,qc,qh,qv,QU,zA,zB,zC];refine qH (GO (nb+1) 51 5 w5.heap.size v1 (ps.length+1) (qG ps++qcH x (D A' x.val.length c'))) zA0 zA0 (λW hW hp=>?_) (λv2=>?_);rw[hRR.out]at hW⊢;obtain⟨i0,hi,hz0,hz1,hz2⟩:=info_parts Tryz.info_item;obtain⟨hFZ,_⟩:=(hp 3 zA1).1;obtain⟨v',w',hCQ,hD,hR'⟩:=XL (P:=prog) (lo:=w5.heap.size) W 55 55 i0 _ 48 underlying55 hi hz0 hz1 hz2 rfl zA1 (hW.2.1 hPG.1) ⟨p,0,F⟩ 1 1 (qcH x (D A' x.val.length c')) rfl (qiF hFZ) (by simp[qcH,Value.oneCell']) zO zA1 (by have:=hW.1.size;omega) hW.1.size;refine Jg (u:=v') (w':=w') ?_ ⟨v',rfl,hD,hR'⟩;exact qbf (s:=.tmp 55) (x:=.tmp 57) rfl rfl rfl hCQ;refine zB2 ?_;refine qF (hK _ _ λW hW hF=>?_);have hD:=(hF 4).1;clear hF hK n1 i0 i1 i2 i3 i4;rw[hRR.out]at hW;dsimp only[List.drop,List.length_cons,List.length_nil,GO]at*;change Done _ _ _ _ _ _ _ v2 W at hD;have rnW:=Km hW hvn rn5;have kW:=qa rnW;have fW:=qd rnW;have hnW:=zH (λq t=>nz_push (x:=x) hPG (λp hp=>((hnz.out p hp).ext hB4).ext b5) (hnx.out.ext b5) (Uo.of_from hfr (λg hg=>(hvl g hg).2)) hW.1 q t);have hrW:=hPG.push x A' c' wFF (hfr.mono zO) (Uo.of_from hfr (λg hg=>(hvl g hg).2)) rfl hD hW.1;have hBW:Below nb w5 W:=(Below.refl _ _).grown hW.1 zO (λg hg=>by have:=hvl g hg;omega);obtain⟨A2,c2',rfl,_,_⟩:=qM hD.1;go_wp2;refine Qt ?_;go_wp2;go_roundw
       case rel=>refine⟨k+1,xs++[x],r.drop n,o+n,cc-n,_,ps++[(x,D A' x.val.length c')],zO,by go_num,HNX.out x n rfl,by rw[List.length_drop],hsb,qj rnW 1 _,?_,by simp[hps],?_,hnW.out _ _⟩;rw[hpl]at hrW;exact hrW.setCell (p:=⟨nb,1,F⟩) (Nat.lt_succ_self _) (Nat.lt_succ_self _) _;exact Below.setCell (Below.trans hB5 hBW) (p:=⟨nb,1,F⟩) (zM _) _
       case measure=>simp[intOf];omega
     obtain rfl:k=p2:=zO;have hsn:nb<wr:=(zG.1 rn).1;have hrl:=Xj hBE hp2 hl7;have hR:=hN3.out r xs hBE;have hYE:Bys wr wr (D (b,o) r.length cc) r:=(hbr.below hB).more zO;have hzi:=zH (hAH.nzi hnz.out);obtain⟨hOV,A2,c2',rfl⟩:=hAH.its (zM _);rw[hps]at hOV;have hxl:ps.length=xs.length:=by rw[<-hps,List.length_map]
     rw[hxl]at hOV rn;have rr:=qfj rr3 s2 hB;have bw:Below w w wr:=Below.trans b2' (Below.trans (Below.mono b23 zO) (Below.mono hB zO));have HC:=zH (λW (hW:Ext wr W)=>Kv p1 A2 xs.length c2' xs W (hOV.its.ext hW));have HM:=zH (λW (hW:Ext wr W)=>qiK _ r hrl.1 zO W ((hYE.below hW).more hW.size));have hmz:=qcW r;have hml:=qga r;replace hR:=zH hR;clear hN2 hN3 hbr hYE hAH hBE;have kn:=qa rn;go_wp2_with fail;refine(HC.out _ (Ext.refl _)).mono ?_;rintro e w4 ⟨rfl,hB4⟩;have rr4:=qb rr hB4;have bw4:Below w w w4:=Below.trans bw (Below.mono hB4 zO);have s4:w.heap.size<w4:=(zG.1 rr4).1;have rn4:=qb rn hB4;clear HC kn rr;by_cases hmay:Qq (p1:Int) xs=M
     case neg=>
      obtain rfl:R=F:=by rw[hR.out,if_neg (λh=>hmay h.1)]
      have hLP:Qq (p1:Int) xs=Y:=by simpa using hmay
      rw[vl hLP];clear hR HM hmay hLP hmz hml;have k4:=qa rr4;have f4:=qd rr4;go_wp2;generalize hwf:(World.setCell _ _ _)=wf;have rf:wf.heap[w.heap.size]?=E (Q #[J X 0,D F 0 0] 113):=hwf▸qj (qj rr4 0 _) 1 _;have bf:Below w w wf:=hwf▸Below.setCell (Below.setCell bw4 (p:=⟨w.heap.size,0,F⟩) (zM _) _) (p:=⟨w.heap.size,1,F⟩) (zM _) _;have kf:=qa rf;exact bodyPost_ret (v:=kK 8) (by simp[results,results136,go_sem,kf]) rfl ⟨_,rfl,⟨8,zA1,rfl⟩,bf⟩
     case pos=>
      rw[vQ hmay];go_wp2_with fail;refine(HM.out _ hB4).mono ?_;rintro e w5 ⟨rfl,hB5⟩;have rr5:=qb rr4 hB5;have bw5:Below w w w5:=Below.trans bw4 (Below.mono hB5 zO);have s5:w.heap.size<w5:=(zG.1 rr5).1;have rn5:=qb rn4 hB5;have hx5:Ext wr w5:=Ext.trans hB4 hB5;have k5:=qa rr5;have f5:=qd rr5;have kn5:=qa rn5;have fn5:=qd rn5;clear HM;by_cases hz:kJ r=M
      case neg=>
       obtain rfl:R=F:=by rw[hR.out,if_neg (λh=>hz h.2)]
       have hz':kJ r=Y:=by simpa using hz
       rw[hz']at hmz;have hm0:0<Tr r:=by simpa using hmz
       clear hR hz hz' hmz;generalize Tr r=mm at*;go_wp2;generalize hwf:(World.setCell _ _ _)=wf;have rf:wf.heap[w.heap.size]?=E (Q #[J X 0,D F 0 0] 113):=hwf▸qj (qj rr5 0 _) 1 _;have bf:Below w w wf:=hwf▸Below.setCell (Below.setCell bw5 (p:=⟨w.heap.size,0,F⟩) (zM _) _) (p:=⟨w.heap.size,1,F⟩) (zM _) _;have kf:=qa rf;exact bodyPost_ret (v:=kK 8) (by simp[results,results136,go_sem,kf]) rfl ⟨_,rfl,⟨8,zA1,rfl⟩,bf⟩
      case pos=>
       obtain rfl:R=E ((p1:Int),xs):=by rw[hR.out,if_pos ⟨hmay,hz⟩]
       rw[hz]at hmz;have hm0:Tr r=0:=by simpa using hmz
       clear hR hz hmz;rw[hm0];go_wp2;generalize hwf:(World.setCell _ _ _)=wf;have rf:wf.heap[w.heap.size]?=E (Q #[p1,D A2 xs.length c2'] 113):=hwf▸qj (qj rr5 0 _) 1 _;have bf:Below w w wf:=hwf▸Below.setCell (Below.setCell bw5 (p:=⟨w.heap.size,0,F⟩) (zM _) _) (p:=⟨w.heap.size,1,F⟩) (zM _) _;have kf:=qa rf;have hfi:jr (nb+1) wf (D A2 xs.length c2') xs:=by refine(hOV.ext hx5).keep (by rw[<-hwf];simp) (λp h1 h2=>?_);rw[<-hwf,World.cell?_setCell_other _ _ _ _ (λe=>by subst e;simp at h1;omega),World.cell?_setCell_other _ _ _ _ (λe=>by subst e;simp at h1;omega)]
       have hzf:NzI wf (D A2 xs.length c2'):=by
        have hzi':=hzi.out;rw[hxl]at hzi';have hEZ:∀b off n c,Value.slice A2 xs.length c2'=D (E ⟨b,off,F⟩) n c->0<n->w.heap.size<b/\b<wr:=λb off n c e hn=>by obtain⟨-,-,-,h4⟩:=hOV.its.at_;have h5:nb+1<=(b:Addr).block:=Gy hOV b off n c 0 e hn;simp only[Value.slice.injEq]at e;obtain⟨b6,o6,e6,e7⟩:=h4 zO;rw[e.1]at e6;simp only[Option.some.injEq,Addr.mk.injEq]at e6;simp only at h5;omega
        refine(hzi'.ext hx5 (λb off n c e hn=>(hEZ b off n c e hn).2)).keep (λb off n c e hn j=>?_) (λu hu=>?_)
        case refine_2=>rw[<-hwf];exact(hu.setCell _ _).setCell _ _
        have:=(hEZ b off n c e hn).1;rw[<-hwf,World.cell?_setCell_other _ _ _ _ (λe=>by simp only[Addr.mk.injEq]at e;omega),World.cell?_setCell_other _ _ _ _ (λe=>by simp only[Addr.mk.injEq]at e;omega)]
       exact bodyPost_ret (v:=.tuple #[Jc p1 A2 xs.length c2',J X 0]) (by simp[results,results136,go_sem,kf]) rfl ⟨_,rfl,⟨A2,c2',rfl,hfi.mono zO,hzf⟩,bf⟩
theorem qmt(v:I)(l:List UInt8)(w:U)(h:Bys w w v l):Calls prog 136 #[v] w (zv (qcl w (QO l)) w):=
 (qda v l w h).mono λ_ _ ⟨u,he,hu,hB⟩=>⟨u,he,hu.nodeP,hB⟩



set_option maxRecDepth 100000 in
theorem qlZ(n:Nat)(hn:n<1073741824)(w:U):Calls prog 177 #[D F 0 0,(n:Int)] w (zv (λv w'=>w'.ownsRow w 5 1 v 0 []) w):=by
 obtain⟨i0,hi,hz0,hz1,hz2⟩:=info_parts Tryz.info_u8;by_cases h0:n=0
 ·subst h0;go_enter func177,ntmps177;go_wp2;go_ret;exact⟨_,rfl,World.ownsRow_nil _ _ _ _,Below.refl _ _⟩
 have hG:=grownCap_ge w n 0 5;have hGm:=grownCap_le_maxLen w n 0 5 zA7;have hrz:∀ty,(Builtin.append_ #[26,3] ty #[D F 0 0,J X (n:Int)]).run prog w =
   .ok (D (E ⟨w.heap.size,0,F⟩) n (grownCap w n 0 5)) (w.drew.alloc (Q (([]:List I).toArray++Builtin.zeroCells (Value.int .u8 0).cells n++Builtin.zeroCells (Value.int .u8 0).cells (grownCap w n 0 5-n)) 5)):=λty=>by
  have h:=Lib.run_append_grow_zeros (P:=prog) w 26 3 ty 5 i0 (J .u8 0) X X underlying26 underlying3 hi hz0 F 0 0 [] (run_firstCells_none w.drew i0.size 0 0 0) n zO zO zO zO (by rw[hz2];omega) (growslice_fits zO (by rw[hz2];omega));simpa using h
 obtain⟨G,hGe⟩:∃G,grownCap w n 0 5=G:=⟨_,rfl⟩
 rw[hGe]at hG hGm hrz;unfold maxLen at hGm;have hEJ:0<n:=zO;clear hGe;go_enter func177,ntmps177;go_wp2_with (at_builtin;refine Lib.wpList_append_run _ rfl _ _ _ _ rfl _ _ rfl rfl _ _ (hrz _) ?_);go_ret;refine⟨_,rfl,?_,zA5⟩;refine(World.ownsRow_made w _ G (zM _) zA7 ?_).drew;simp only[Array.size_append,size_zeroCells,List.size_toArray,List.length_cons,List.length_nil];omega
def Yx(ls:List (List UInt8))(k:Nat):List UInt8:=(ls.take k).flatten
set_option maxRecDepth 100000 in
theorem KU(A c m)(vs:List I)(ls:List (List UInt8))(hv:vs.length=m)(hl:ls.length=m)(w:U)(hr:Rd w w 1 A m vs)(hb:∀(i:Nat)(v:I)(l:List UInt8),vs[i]?=v->ls[i]?=l->Bys w w v l)(hn:m<1024)(hs:ls.flatten.length<1048576):Calls prog 132 #[D A m c] w (zv (λv w'=>w'.ownsRow w 5 1 v ls.flatten.length (ls.flatten.map bv)) w):=by
 obtain⟨i0,hi,hz0,hz1,hz2⟩:=info_parts Tryz.info_u8;have hCR:∀k,k<m->∃A c l,vs[k]?=E (D A l.length c)/\ls[k]?=E l/\Rd w w 1 A l.length (l.map bv):=λk hk=>by
  obtain⟨v,hv⟩:∃v,vs[k]?=E v:=⟨_,zL zO⟩
  obtain⟨l,hl'⟩:∃l,ls[k]?=E l:=⟨_,zL zO⟩
  obtain⟨A,c,rfl,_,_,h⟩:=hb k v l hv hl';exact⟨A,c,l,hv,hl',h⟩
 have hKJ:∀k,(Yx ls k).length<=ls.flatten.length:=λk=>by
  unfold Yx;conv=>rhs;rw[<-List.take_append_drop k ls]
  rw[List.flatten_append,List.length_append];omega
 have htk:∀(k:Nat)(l:List UInt8),ls[k]?=l->Yx ls (k+1)=Yx ls k++l:=λk l h=>by unfold Yx;rw[List.take_add_one,h];simp
 have HT:=zH htk;clear htk;have hCC:ls.flatten=Yx ls m:=by unfold Yx;rw[List.take_of_length_le zO]
 have h00:Hid ([]=Yx ls 0):=by unfold Yx;exact rfl
 rw[hCC]at hs hKJ⊢;clear hCC hl hv hb;go_enter func132,ntmps132;go_wp2;go_loop [3,11] (λt i=>∃k:Nat,k<=m/\i=J X (k:Int)/\t=J X ((Yx ls k).length:Int))
  (λ_ i=>m-(intOf i).toNat)
 case atStart=>exact⟨0,Nat.zero_le _,rfl,by rw[<-h00.out];rfl⟩
 case round=>
  obtain⟨k,hk,rfl,rfl⟩:=hrel;have h1:=hKJ k;by_cases hlt:k<m
  ·obtain⟨A',c',l,hv,hl,hrl⟩:=hCR k hlt;obtain⟨b,off,rfl,hbl,hc⟩:=hr.2 zO;have h2:=hKJ (k+1);rw[HT.out k l hl,List.length_append]at h2;go_wp2;go_round
   case rel=>exact⟨k+1,zO,by go_num,by rw[HT.out k l hl,List.length_append];go_num⟩
   case measure=>simp[intOf];omega
  obtain rfl:k=m:=zO;clear h1;go_wp2_with fail;refine(qlZ (Yx ls k).length zO _).mono ?_;rintro e w1 ⟨v,rfl,hAD,hB⟩;go_wp2;go_loopw [6,27] (λv i wr=>∃j:Nat,j<=k/\i=J X (j:Int)/\wr.ownsRow w.heap.size 5 1 v (Yx ls j).length ((Yx ls j).map bv)/\Below w.heap.size w wr)
   (λ_ i _=>k-(intOf i).toNat)
  case atStart=>exact⟨0,Nat.zero_le _,rfl,by rw[<-h00.out];exact hAD,hB⟩
  case round=>
   clear hAD hB;obtain⟨j,hj,rfl,hAD,hB⟩:=hrel;by_cases hlt:j<k
   ·obtain⟨A',c',l,hv,hl,hrl⟩:=hCR j hlt;obtain⟨b,off,rfl,hbl,hc⟩:=hr.2 zO;have hAG:=(hB.cell (p:=⟨b,off+j,F⟩) hbl).trans (hc j _ hv);have h2:=hKJ (j+1);rw[HT.out j l hl,List.length_append]at h2;have HE:=zH (HT.out j l hl);go_wp2_with (at_builtin;refine Qa ?_);refine Qs.go (QG _ rfl (.tmp 31) (.tmp 32) 26 rfl w.heap.size 5 i0 (J .u8 0) 1 1 underlying26 hi hz0 hz1 hz2 rfl zA1 _ _ _ rfl hAD w.heap.size A' l.length c' (l.map bv) rfl (hrl.below hB) (Gp l) zO zA1 hB.size ?_);intro v' w2 hZF _ hb1 _;go_wp2;go_roundw
    case rel=>exact⟨j+1,zO,by go_num,by rw[HE.out,List.length_append,List.map_append];exact hZF,hB.trans hb1⟩
    case measure=>simp[intOf];omega
   obtain rfl:j=k:=zO;go_wp2;go_ret;exact⟨_,rfl,hAD,hB⟩
end Go.Proofs.YtmeadnlmepcmbaaGreat
