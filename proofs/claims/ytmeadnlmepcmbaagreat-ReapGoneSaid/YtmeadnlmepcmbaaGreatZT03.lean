/- Lemmas of the proof. -/
import Derived.Lib.AppendZerosOnto
import Derived.Lib.Walk
import Derived.Test.YtmeadnlmepcmbaaGreatZT02
set_option linter.all false
set_option maxHeartbeats 8000000
open Go.Proofs.Tryz
open Go.Value renaming slice→D,int→J
open Option renaming some→E,none→F
open Go renaming Value→I,World→U
open Bool renaming true→M,false→Y
open Go.World renaming alloc→O
open Go.Obj renaming cells→Q
open Go.IntKind renaming i64→X,u32→Z
namespace Go.Proofs.YtmeadnlmepcmbaaGreat
open Go.RowKit
variable {above:Bool}{xs:List It}{i a k lo lo' base n' c':Nat}{l l7:List UInt8}{w w' W W':World}{e:TypeId}{v u v':Value}{o:Obj}{ps:List (It×Value)}{p:Addr}{A:OA}{x:It}{q:Option (Int×List It)}
theorem UJ(hi:i<xs.length):qba above xs i=(itB xs[i].r xs[i].val.length&&(decide (i=0)||(match xs[i-1]? with|some y=>qfV y xs[i]|none=>M))&&!(above&&(decide (xs[i].r=0)||decide (0<xs[i].val.length)))):=by unfold qba;rw[zL hi];rfl
theorem qhn(hi:i<xs.length)(h:itB xs[i].r xs[i].val.length=Y):qba above xs i=Y:=by rw[UJ hi,h];rfl
set_option maxRecDepth 100000 in
theorem qjP(lvl:Int)(A n c)(xs:List It)(w:U)(hx:Its w w (D A n c) xs)(h:ZV lvl n=M):Calls prog 182 #[jW lvl A n c] w (Ret (J X (Va (Qj lvl xs))) w):=by
 obtain⟨hn,fQ,eP,hA⟩:=hx.at_;have h':0<=lvl/\lvl<6/\n<=5/\(0<lvl->n≠0):=by unfold ZV at h;exact of_decide_eq_true h
 have hM:Qj lvl xs=YW (decide (0<lvl)) xs xs.length:=by unfold Qj;rw[<-hn,h];rfl
 rw[hM];clear hM h;subst hn;have HX:=zH hx;clear hx;obtain⟨h1,h2,h3,h4⟩:=h';by_cases hab:0<lvl
 ·rw[decide_eq_true hab];go_enter func182,ntmps182;go_wp2;all_goals simp only[beq_eq_false_iff_ne,ne_eq]at*
  all_goals first|(exfalso;omega)|skip
  generalize aA:(O _ _)=w1;have b1:Ext w w1:=aA▸zN _ _;have r1:w1.heap[w.heap.size]?=E (Q #[lvl,D A xs.length c] 113):=aA▸zI _ _ _ rfl;clear aA;go_loopw [36] (λi wr=>∃k:Nat,k<=xs.length/\i=J X (k:Int)/\YW M xs k=M/\Ext w1 wr) (λi _=>xs.length-(intOf i).toNat)
  case atStart=>exact⟨0,zO,rfl,rfl,Ext.refl _⟩
  case round=>
   obtain⟨k,hk,rfl,lC,hE⟩:=hrel;by_cases hlt:k<xs.length
   ·have aO:=hlt;obtain⟨b,off,rfl,hb⟩:=hA zO;have b2:Ext w wr:=b1.trans hE;obtain⟨A',c',c0,c1,c2,c3,c4,af⟩:=(HX.out.ext b2).item k aO;have HCK:=zH (UJ (above:=M) aO);have HBAD:=zH (qcl (above:=M) aO);have HBI:=zH (qhn (above:=M) aO);have HSU:=zH (qaZ M xs k);generalize hx:xs[k]=x at*;go_wp2_with fail;generalize aP:(O _ _)=w3;have b3:Ext wr w3:=aP▸zN _ _;have r3:w3.heap[wr.heap.size]?=E (Q #[J .u8 x.k,J Z x.i,J Z x.o,J X x.r,D A' x.val.length c'] 51):=aP▸zI _ _ _ rfl;clear aP;refine(Vj x.k x.i x.o x.r A' x.val.length c' _).mono ?_;rintro e w4 ⟨rfl,hB⟩;have b4:Ext wr w4:=b3.trans hB;have r4:=qb r3 hB;clear hB r3 b3;by_cases hok:itB x.r x.val.length=M
    ·rw[Vx hok];go_wp2;have b5:Ext w1 w4:=hE.trans b4;have rn:=qb r1 b5;have n1:∀W,Ext w4 W->W.cell? (w,1)=E (D (b,off) xs.length c):=λW h=>by rw[qa (qb rn h)];rfl
     have i0:∀W,Ext w4 W->W.cell? wr=E (J .u8 x.k):=λW h=>by rw[qa (qb r4 h)];rfl
     have i1:∀W,Ext w4 W->W.cell? (wr,1)=E (J Z x.i):=λW h=>by rw[qa (qb r4 h)];rfl
     have i2:∀W,Ext w4 W->W.cell? (wr,2)=E (J Z x.o):=λW h=>by rw[qa (qb r4 h)];rfl
     have i3:∀W,Ext w4 W->W.cell? (wr,3)=E (J X x.r):=λW h=>by rw[qa (qb r4 h)];rfl
     have i4:∀W,Ext w4 W->W.cell? (wr,4)=E (D A' x.val.length c'):=λW h=>by rw[qa (qb r4 h)];rfl
     rcases k with _|j
     ·refine zX (qP [(12,one (.bool M))]) 29 zQ zQ zQ zA1 zQ zQ ?st ?walk
      case st=>exact Zc (by simp only[List.forall_mem_cons];exact⟨ZM _,λ_ h=>by cases h⟩)
      case walk=>
       intro K hK;dsimp only[List.take];by_cases hr0:x.r=0
       ·have oP:(x.r==0)=M:=by simpa using hr0
        refine zB1 ?_;refine ZB (hK _ _ λW hW hF=>?_);clear hF hK;have b7:Ext wr W:=b4.trans hW;dsimp only[List.drop];go_wp2;all_goals first
         |(go_ret
           exact⟨by rw[HBAD.out (by rw[HCK.out,hok];simp[*])];rfl,Ext.trans b2 b7⟩)
         |(go_roundw
           case rel=>exact⟨0+1,zO,by go_num,by rw[HSU.out,lC,HCK.out,hok];simp[*],hE.trans b7⟩
           case measure=>simp[intOf];omega)
       have oP:(x.r==0)=Y:=by simpa using hr0
       refine zB1 ?_;refine ZB (hK _ _ λW hW hF=>?_);clear hF hK;have b7:Ext wr W:=b4.trans hW;dsimp only[List.drop];go_wp2;all_goals first
        |(go_ret
          exact⟨by rw[HBAD.out (by rw[HCK.out,hok];simp[*])];rfl,Ext.trans b2 b7⟩)
        |(go_roundw
          case rel=>exact⟨0+1,zO,by go_num,by rw[HSU.out,lC,HCK.out,hok];simp[*],hE.trans b7⟩
          case measure=>simp[intOf];omega)
     have mW:j<xs.length:=zO;obtain⟨A2,c2',d0,d1,d2,d3,d4,_⟩:=(HX.out.ext (b2.trans b4)).item j mW;have wQ:xs[j+1-1]?=E xs[j]:=by rw[Nat.add_sub_cancel,zL mW]
     have HP:=zH wQ;clear wQ;generalize xs[j]=y at*;have p0:∀W,Ext w4 W->W.cell? (b,off+j*5)=E (J .u8 y.k):=λW h=>Ext.cell h d0;have p1:∀W,Ext w4 W->W.cell? (b,off+j*5+1)=E (J Z y.i):=λW h=>Ext.cell h d1;have p2:∀W,Ext w4 W->W.cell? (b,off+j*5+2)=E (J Z y.o):=λW h=>Ext.cell h d2;clear d0 d1 d2 d3 d4;have HL:=zH (λW=>VN y.k y.i y.o x.k x.i x.o W);have HLE:Hid (qfV y x=vJ y.k y.i y.o x.k x.i x.o):=rfl;generalize vJ y.k y.i y.o x.k x.i x.o=L at*;refine zX (qP [(12,one (.bool L))]) 29 zQ zQ zQ zA1 zQ zQ ?st ?walk
     case st=>exact Zc (by simp only[List.forall_mem_cons];exact⟨ZM _,λ_ h=>by cases h⟩)
     case walk=>
      intro K hK;dsimp only[List.take];refine zB1 ?_;refine qX (.pointer (E ⟨b,off+j*5,F⟩)) zA0 zA0 (λW hW _=>⟨W,?_,Ext.refl W⟩) ?_
      ·go_simp;rw[IntWalk.i64_in (j:Int) zO,if_pos zO];simp
      refine zB1 ?_;refine QM (one (.bool L)) zA0 zA0 (λW hW _=>?_) (λp=>?_)
      ·refine zl ?_ ((HL.out W).mono λe w' h=>⟨(),h.1,trivial,h.2⟩);go_simp
      cases p;simp only[Act.put,ql,qc,qg,zA,zB,zC];cases L
      ·repeat ((first|(refine qX ?_ zA0 zA0 (λW hW _=>⟨W,?_,Ext.refl W⟩) ?_;rotate_left;(go_simp<;>with_reducible rfl))|(refine Qf zA0 ?_));try simp only[Act.put,ql,qf,qc,qg,zA,zB,zC])
       refine ZB (hK _ _ λW hW hF=>?_);clear hF hK HL;have b7:Ext wr W:=b4.trans hW;dsimp only[List.drop];go_wp2;all_goals first
        |(go_ret
          exact⟨by rw[HBAD.out (by rw[HCK.out,hok,HP.out];simp[HLE.out, *])];rfl,Ext.trans b2 b7⟩)
        |(go_roundw
          case rel=>exact⟨j+1+1,zO,by go_num,by rw[HSU.out,lC,HCK.out,hok,HP.out];simp[HLE.out, *],hE.trans b7⟩
          case measure=>simp[intOf];omega)
      by_cases hr0:x.r=0
      ·have oP:(x.r==0)=M:=by simpa using hr0
       refine zB1 ?_;refine ZB (hK _ _ λW hW hF=>?_);clear hF hK HL;have b7:Ext wr W:=b4.trans hW;dsimp only[List.drop];go_wp2;all_goals first
        |(go_ret
          exact⟨by rw[HBAD.out (by rw[HCK.out,hok,HP.out];simp[HLE.out, *])];rfl,Ext.trans b2 b7⟩)
        |(go_roundw
          case rel=>exact⟨j+1+1,zO,by go_num,by rw[HSU.out,lC,HCK.out,hok,HP.out];simp[HLE.out, *],hE.trans b7⟩
          case measure=>simp[intOf];omega)
      have oP:(x.r==0)=Y:=by simpa using hr0
      refine zB1 ?_;refine ZB (hK _ _ λW hW hF=>?_);clear hF hK HL;have b7:Ext wr W:=b4.trans hW;dsimp only[List.drop];go_wp2;all_goals first
       |(go_ret
         exact⟨by rw[HBAD.out (by rw[HCK.out,hok,HP.out];simp[HLE.out, *])];rfl,Ext.trans b2 b7⟩)
       |(go_roundw
         case rel=>exact⟨j+1+1,zO,by go_num,by rw[HSU.out,lC,HCK.out,hok,HP.out];simp[HLE.out, *],hE.trans b7⟩
         case measure=>simp[intOf];omega)
    have iZ:itB x.r x.val.length=Y:=by simpa using hok
    have aN:=HBAD.out (HBI.out iZ);rw[vF iZ];clear HCK HBAD HBI HSU;go_wp2;go_ret;exact⟨by rw[aN];rfl,Ext.trans b2 b4⟩
   obtain rfl:k=xs.length:=zO;go_wp2;go_ret;exact⟨by rw[lC];rfl,b1.trans hE⟩
 rw[decide_eq_false hab];go_enter func182,ntmps182;go_wp2;all_goals simp only[beq_eq_false_iff_ne,ne_eq]at*
 all_goals first|(exfalso;omega)|skip
 generalize aA:(O _ _)=w1;have b1:Ext w w1:=aA▸zN _ _;have r1:w1.heap[w.heap.size]?=E (Q #[lvl,D A xs.length c] 113):=aA▸zI _ _ _ rfl;clear aA;go_loopw [36] (λi wr=>∃k:Nat,k<=xs.length/\i=J X (k:Int)/\YW Y xs k=M/\Ext w1 wr) (λi _=>xs.length-(intOf i).toNat)
 case atStart=>exact⟨0,zO,rfl,rfl,Ext.refl _⟩
 case round=>
  obtain⟨k,hk,rfl,lC,hE⟩:=hrel;by_cases hlt:k<xs.length
  ·have aO:=hlt;obtain⟨b,off,rfl,hb⟩:=hA zO;have b2:Ext w wr:=b1.trans hE;obtain⟨A',c',c0,c1,c2,c3,c4,af⟩:=(HX.out.ext b2).item k aO;have HCK:=zH (UJ (above:=Y) aO);have HBAD:=zH (qcl (above:=Y) aO);have HBI:=zH (qhn (above:=Y) aO);have HSU:=zH (qaZ Y xs k);generalize hx:xs[k]=x at*;go_wp2_with fail;generalize aP:(O _ _)=w3;have b3:Ext wr w3:=aP▸zN _ _;have r3:w3.heap[wr.heap.size]?=E (Q #[J .u8 x.k,J Z x.i,J Z x.o,J X x.r,D A' x.val.length c'] 51):=aP▸zI _ _ _ rfl;clear aP;refine(Vj x.k x.i x.o x.r A' x.val.length c' _).mono ?_;rintro e w4 ⟨rfl,hB⟩;have b4:Ext wr w4:=b3.trans hB;have r4:=qb r3 hB;clear hB r3 b3;by_cases hok:itB x.r x.val.length=M
   ·rw[Vx hok];go_wp2;have b5:Ext w1 w4:=hE.trans b4;have rn:=qb r1 b5;have n1:∀W,Ext w4 W->W.cell? (w,1)=E (D (b,off) xs.length c):=λW h=>by rw[qa (qb rn h)];rfl
    have i0:∀W,Ext w4 W->W.cell? wr=E (J .u8 x.k):=λW h=>by rw[qa (qb r4 h)];rfl
    have i1:∀W,Ext w4 W->W.cell? (wr,1)=E (J Z x.i):=λW h=>by rw[qa (qb r4 h)];rfl
    have i2:∀W,Ext w4 W->W.cell? (wr,2)=E (J Z x.o):=λW h=>by rw[qa (qb r4 h)];rfl
    rcases k with _|j
    ·refine zX (qP [(12,one (.bool M))]) 29 zQ zQ zQ zA1 zQ zQ ?st ?walk
     case st=>exact Zc (by simp only[List.forall_mem_cons];exact⟨ZM _,λ_ h=>by cases h⟩)
     case walk=>
      intro K hK;dsimp only[List.take];by_cases hr0:x.r=0
      ·have oP:(x.r==0)=M:=by simpa using hr0
       refine zB1 ?_;refine ZB (hK _ _ λW hW hF=>?_);clear hF hK;have b7:Ext wr W:=b4.trans hW;dsimp only[List.drop];go_wp2;all_goals first
        |(go_ret
          exact⟨by rw[HBAD.out (by rw[HCK.out,hok];simp[*])];rfl,Ext.trans b2 b7⟩)
        |(go_roundw
          case rel=>exact⟨0+1,zO,by go_num,by rw[HSU.out,lC,HCK.out,hok];simp[*],hE.trans b7⟩
          case measure=>simp[intOf];omega)
      have oP:(x.r==0)=Y:=by simpa using hr0
      refine zB1 ?_;refine ZB (hK _ _ λW hW hF=>?_);clear hF hK;have b7:Ext wr W:=b4.trans hW;dsimp only[List.drop];go_wp2;all_goals first
       |(go_ret
         exact⟨by rw[HBAD.out (by rw[HCK.out,hok];simp[*])];rfl,Ext.trans b2 b7⟩)
       |(go_roundw
         case rel=>exact⟨0+1,zO,by go_num,by rw[HSU.out,lC,HCK.out,hok];simp[*],hE.trans b7⟩
         case measure=>simp[intOf];omega)
    have mW:j<xs.length:=zO;obtain⟨A2,c2',d0,d1,d2,d3,d4,_⟩:=(HX.out.ext (b2.trans b4)).item j mW;have wQ:xs[j+1-1]?=E xs[j]:=by rw[Nat.add_sub_cancel,zL mW]
    have HP:=zH wQ;clear wQ;generalize xs[j]=y at*;have p0:∀W,Ext w4 W->W.cell? (b,off+j*5)=E (J .u8 y.k):=λW h=>Ext.cell h d0;have p1:∀W,Ext w4 W->W.cell? (b,off+j*5+1)=E (J Z y.i):=λW h=>Ext.cell h d1;have p2:∀W,Ext w4 W->W.cell? (b,off+j*5+2)=E (J Z y.o):=λW h=>Ext.cell h d2;clear d0 d1 d2 d3 d4;have HL:=zH (λW=>VN y.k y.i y.o x.k x.i x.o W);have HLE:Hid (qfV y x=vJ y.k y.i y.o x.k x.i x.o):=rfl;generalize vJ y.k y.i y.o x.k x.i x.o=L at*;refine zX (qP [(12,one (.bool L))]) 29 zQ zQ zQ zA1 zQ zQ ?st ?walk
    case st=>exact Zc (by simp only[List.forall_mem_cons];exact⟨ZM _,λ_ h=>by cases h⟩)
    case walk=>
     intro K hK;dsimp only[List.take];refine zB1 ?_;refine qX (.pointer (E ⟨b,off+j*5,F⟩)) zA0 zA0 (λW hW _=>⟨W,?_,Ext.refl W⟩) ?_
     ·go_simp;rw[IntWalk.i64_in (j:Int) zO,if_pos zO];simp
     refine zB1 ?_;refine QM (one (.bool L)) zA0 zA0 (λW hW _=>?_) (λp=>?_)
     ·refine zl ?_ ((HL.out W).mono λe w' h=>⟨(),h.1,trivial,h.2⟩);go_simp
     cases p;simp only[Act.put,ql,qc,qg,zA,zB,zC];cases L
     ·repeat ((first|(refine qX ?_ zA0 zA0 (λW hW _=>⟨W,?_,Ext.refl W⟩) ?_;rotate_left;(go_simp<;>with_reducible rfl))|(refine Qf zA0 ?_));try simp only[Act.put,ql,qf,qc,qg,zA,zB,zC])
      refine ZB (hK _ _ λW hW hF=>?_);clear hF hK HL;have b7:Ext wr W:=b4.trans hW;dsimp only[List.drop];go_wp2;all_goals first
       |(go_ret
         exact⟨by rw[HBAD.out (by rw[HCK.out,hok,HP.out];simp[HLE.out, *])];rfl,Ext.trans b2 b7⟩)
       |(go_roundw
         case rel=>exact⟨j+1+1,zO,by go_num,by rw[HSU.out,lC,HCK.out,hok,HP.out];simp[HLE.out, *],hE.trans b7⟩
         case measure=>simp[intOf];omega)
     by_cases hr0:x.r=0
     ·have oP:(x.r==0)=M:=by simpa using hr0
      refine zB1 ?_;refine ZB (hK _ _ λW hW hF=>?_);clear hF hK HL;have b7:Ext wr W:=b4.trans hW;dsimp only[List.drop];go_wp2;all_goals first
       |(go_ret
         exact⟨by rw[HBAD.out (by rw[HCK.out,hok,HP.out];simp[HLE.out, *])];rfl,Ext.trans b2 b7⟩)
       |(go_roundw
         case rel=>exact⟨j+1+1,zO,by go_num,by rw[HSU.out,lC,HCK.out,hok,HP.out];simp[HLE.out, *],hE.trans b7⟩
         case measure=>simp[intOf];omega)
     have oP:(x.r==0)=Y:=by simpa using hr0
     refine zB1 ?_;refine ZB (hK _ _ λW hW hF=>?_);clear hF hK HL;have b7:Ext wr W:=b4.trans hW;dsimp only[List.drop];go_wp2;all_goals first
      |(go_ret
        exact⟨by rw[HBAD.out (by rw[HCK.out,hok,HP.out];simp[HLE.out, *])];rfl,Ext.trans b2 b7⟩)
      |(go_roundw
        case rel=>exact⟨j+1+1,zO,by go_num,by rw[HSU.out,lC,HCK.out,hok,HP.out];simp[HLE.out, *],hE.trans b7⟩
        case measure=>simp[intOf];omega)
   have iZ:itB x.r x.val.length=Y:=by simpa using hok
   have aN:=HBAD.out (HBI.out iZ);rw[vF iZ];clear HCK HBAD HBI HSU;go_wp2;go_ret;exact⟨by rw[aN];rfl,Ext.trans b2 b4⟩
  obtain rfl:k=xs.length:=zO;go_wp2;go_ret;exact⟨by rw[lC];rfl,b1.trans hE⟩

def zm(l:List UInt8):Nat->Option (List It×List UInt8)
 |0=>E ([],l)
 |k+1=>match zm l k with
  |none=>F
  |some (xs,r)=>match Zk r with
   |none=>F
   |some (x,n)=>E (xs++[x],r.drop n)
def QL(l:List UInt8):Option (Int×List It):=
 if l.length=128/\qbC l=M/\(l[4]?.getD 0)=78/\(l[6]?.getD 0).toNat<=5 then
  match zm (l.drop 7) (l[6]?.getD 0).toNat with
  |none=>F
  |some (xs,r)=>if Qj (l[5]?.getD 0).toNat xs=M/\KE r=M then E (((l[5]?.getD 0).toNat:Int),xs)else F
 else F
theorem qbk:∀{k:Nat}{xs:List It}{r:List UInt8},zm l k=E (xs,r)->xs.length=k:=by
 intro k;induction k with
 |zero=>intro xs r h;simp[zm]at h;simp[<-h.1]
 |succ k ih=>
  intro xs r h;unfold zm at h;split at h;cases h;rename_i ys q hq;split at h;cases h;simp at h;rw[<-h.1];simp[ih hq]
def Zb(x:It):Prop:=(0<=x.k/\x.k<256)/\(0<=x.i/\x.i<4294967296)/\(0<=x.o/\x.o<4294967296)/\(0<=x.r/\x.r<256)/\x.val.length<=12
def ZP(x:It):List UInt8:=UInt8.ofNat x.k.toNat::(qQ x.i.toNat 4++(qQ x.o.toNat 4++(qQ x.r.toNat 2++(UInt8.ofNat x.val.length::x.val))))
theorem Tf(x:It):(ZP x).length=12+x.val.length:=by simp[ZP,QU];omega
theorem Tk(h:a+k<=l.length):qQ (ZH l a k).toNat k=(l.drop a).take k:=by unfold ZH;rw[if_pos h];have hl:((l.drop a).take k).length=k:=zA2;have:=qdR ((l.drop a).take k);rw[hl]at this;simpa using this
theorem VP(h:a+k<=l.length):0<=ZH l a k/\ZH l a k<256^k:=by unfold ZH;rw[if_pos h];have:=qcZ ((l.drop a).take k);have hl:((l.drop a).take k).length=k:=zA2;rw[hl]at this;refine⟨Int.natCast_nonneg _,?_⟩;have h2:((vy ((l.drop a).take k):Nat):Int)<((256^k:Nat):Int):=Int.ofNat_lt.2 this;rw[Int.natCast_pow]at h2;exact h2
theorem KB(l:List UInt8)(a b:Nat):l.take (a+b)=l.take a++(l.drop a).take b:=by rw[List.take_add]
theorem Uo{l:List UInt8}{x:It}{n:Nat}(h:Zk l=E (x,n)):ZP x=l.take n/\n<=l.length/\n=12+x.val.length/\Zb x/\itB x.r x.val.length=M:=by
 unfold Zk at h;split at h;cases h;rename_i hl;split at h;rename_i hb;simp only[Option.some.injEq,Prod.mk.injEq]at h;obtain⟨rfl,rfl⟩:=h;have hs:Vs l=12+(l[11]?.getD 0).toNat:=rfl;have hv:(qbN l).val.length=Vs l-12:=by simp[qbN];omega
 have u0:=(l[0]?.getD 0).toNat_lt;have u11:=(l[11]?.getD 0).toNat_lt;have r1:=VP (l:=l) (a:=1) (k:=4) zO;have r5:=VP (l:=l) (a:=5) (k:=4) zO;have r9:=VP (l:=l) (a:=9) (k:=2) zO;have hb':=hb;simp only[itB,decide_eq_true_eq]at hb';refine⟨?_,zO,by rw[hv];omega,⟨⟨by simp[qbN],by simp[qbN];omega⟩,⟨r1.1,r1.2⟩,⟨r5.1,r5.2⟩,⟨?_,?_⟩,by rw[hv];omega⟩,by rw[hv];exact hb⟩;have e1:l.take 1=[l[0]?.getD 0]:=by
  rcases l with _|⟨a,l⟩
  simp at hl;simp
 have e11:(l.drop 11).take 1=[l[11]?.getD 0]:=by rw[List.drop_eq_getElem_cons zO,zL zO];rfl
 have:l.take (Vs l)=l.take 1++((l.drop 1).take 4++((l.drop 5).take 4++((l.drop 9).take 2++((l.drop 11).take 1++(l.drop 12).take (Vs l-12))))):=by
  conv=>lhs;rw[show Vs l=1+(4+(4+(2+(1+(Vs l-12)))))by omega]
  rw[KB l 1,KB (l.drop 1) 4,List.drop_drop,KB (l.drop (1+4)) 4,List.drop_drop,KB (l.drop (1+4+4)) 2,List.drop_drop,KB (l.drop (1+4+4+2)) 1,List.drop_drop]
 rw[this,e1,e11];unfold ZP;rw[hv];simp only[qbN];rw[Tk zO,Tk zO,Tk zO];rw[hs,Nat.add_sub_cancel_left];simp;exact r9.1;rcases hb'.1 with h0|h0<;>omega
 cases h
def zh(xs:List It):List UInt8:=xs.flatMap ZP
theorem qdW(xs:List It)(x:It):zh (xs++[x])=zh xs++ZP x:=by simp[zh]
theorem Gp:∀{k:Nat}{xs:List It}{r:List UInt8},zm l k=E (xs,r)->l=zh xs++r/\∀x∈xs,Zb x/\itB x.r x.val.length=M:=by
 intro k;induction k with
 |zero=>intro xs r h;simp only[zm,Option.some.injEq,Prod.mk.injEq]at h;obtain⟨rfl,rfl⟩:=h;exact⟨rfl,λ_ h=>by cases h⟩
 |succ k ih=>
  intro xs r h;unfold zm at h;split at h;cases h;rename_i ys q hq;split at h;cases h;rename_i x n hx;simp only[Option.some.injEq,Prod.mk.injEq]at h;obtain⟨rfl,rfl⟩:=h;obtain⟨h1,h2⟩:=ih hq;obtain⟨g1,g2,g3,g4,g5⟩:=Uo hx;refine⟨?_,?_⟩;rw[qdW,g1,List.append_assoc,List.take_append_drop];exact h1;intro y hy;rcases List.mem_append.1 hy with hy|hy
  exact h2 y hy;obtain rfl:y=x:=by simpa using hy
  exact⟨g4,g5⟩
theorem Xg(xs:List It)(h:∀x∈xs,Zb x):(zh xs).length<=24*xs.length:=by
 induction xs with
 |nil=>simp[zh]
 |cons x r ih=>
  have h1:=ih λy hy=>h y (by simp[hy]);have h2:=Tf x;have h3:=(h x zA3).2.2.2.2;simp only[zh,List.flatMap_cons,List.length_append,List.length_cons]at h1⊢;omega
def QA(lvl:Int)(xs:List It):List UInt8:=78::UInt8.ofNat lvl.toNat::UInt8.ofNat xs.length::zh xs
theorem zu{base n size:Nat}{xs:List I}(h:w.ownsRow base e size v n xs)(hx:Ext w w'):w'.ownsRow base e size v n xs:=by
 refine⟨h.1,?_⟩;rcases h.2 with h0|⟨g,cap,cur,hv,hb,hg,rest⟩
 exact .inl h0;exact .inr ⟨g,cap,cur,hv,hb,qb hg hx,rest⟩
theorem QC{base base' n size:Nat}{xs:List I}(h:w.ownsRow base e size v n xs)(hb:base'<=base):w.ownsRow base' e size v n xs:=by
 refine⟨h.1,?_⟩;rcases h.2 with h0|⟨g,cap,cur,hv,hb',rest⟩
 exact .inl h0;exact .inr ⟨g,cap,cur,hv,Nat.le_trans hb hb',rest⟩
theorem qfk{B b:Nat}(h:w.heap[b]?=o)(hb:b<B)(hx:Below B w w'):w'.heap[b]?=o:=(hx.block b hb).trans h
def Done(base:Nat)(e:TypeId)(size lo:Nat)(v:I)(m:Nat)(ys:List I)(v':I)(W:U):Prop:=
 W.ownsRow base e size v' m ys/\(v'.ownBlock=v.ownBlock\/∃g,v'.ownBlock=E g/\lo<=g)
def Yg(base:Nat)(e:TypeId)(size lo:Nat)(v:I)(n:Nat)(xs:List I)(m:Nat)(ys:List I):Rel where
 rel W W':=W.grownBy W' v.ownBlock/\(W.ownsRow base e size v n xs->W'.ownsRow base e size v n xs)/\∀v',Done base e size lo v m ys v' W->Done base e size lo v m ys v' W'
 refl' W:=⟨World.grownBy.refl _ _,id,λ_=>id⟩
 trans' h k:=⟨h.1.trans k.1,λx=>k.2.1 (h.2.1 x),λv' x=>k.2.2 v' (h.2.2 v' x)⟩
 drew' W:=⟨⟨rfl,rfl,rfl,zM _,λ_ _ _=>rfl⟩,λh=>h.drew,λv' h=>⟨h.1.drew,h.2⟩⟩
section
variable {base:Nat} {e:TypeId} {size lo:Nat} {v:Value} {n:Nat} {xs:List Value} {m:Nat} {ys:List Value}
theorem QP{W W':U}(h:Ext W W')(row:Option Nat):W.grownBy W' row:=⟨h.os,h.tape,h.output,h.size,λk hk _=>h.block k hk⟩
theorem UA{W W':U}(h:Ext W W'):(Yg base e size lo v n xs m ys).r W W':=
 ⟨QP h _,λx=>zu x h,λ_ x=>⟨zu x.1 h,x.2⟩⟩
theorem Jl{W W':U}(h:(Yg base e size lo v n xs m ys).r W W'){p:Addr}{u:I}(hp:v.ownBlock≠E p.block)(hc:W.cell? p=u):W'.cell? p=u:=
 World.grownBy.cell h.1 hc (λx=>hp x.symm)
theorem Ki{W W':U}(h:(Yg base e size lo v n xs m ys).r W W'){b:Nat}{o:Obj}(hp:v.ownBlock≠E b)(hc:W.heap[b]?=o):W'.heap[b]?=o:=
 (h.1.block b (zG.1 hc).1 (λx=>hp x.symm)).trans hc
theorem UV{w:U}{g cap m:Nat}{news:List I}(h:w.ownsRow base e size (D g (n+m) cap) (n+m) (xs++news))(hx:xs.length=n*size):w.ownsRow base e size (D g n cap) n xs:=by
 refine⟨hx,?_⟩;rcases h.2 with⟨h0,_⟩|⟨g',cap',cur,hv,hb,hg,fQ,eP,ay,mM⟩
 simp at h0;simp only[Value.slice.injEq,Option.some.injEq,Addr.mk.injEq,and_true,true_and]at hv;obtain⟨rfl,rfl⟩:=hv;refine .inr ⟨g,cap,cur,rfl,hb,hg,zO,eP,ay,?_⟩;have:cur.toList.take (n*size)=(cur.toList.take ((n+m)*size)).take (n*size):=by rw[List.take_take,Nat.min_eq_left (Nat.mul_le_mul_right _ (Nat.le_add_right _ _))]
 rw[this,mM,<-hx,List.take_left]
theorem XH{P:Program}(W:U)(t ty:TypeId)(i:TypeInfo)(z:I)(bytes:Nat)(ht:P.underlying t=E (.slice e))(hi:P.info? e=i)(hz:i.zero=z)(fJ:i.size=size)(af:i.bytes=bytes)(sQ:z.cells.size=size)(hsz:0<size)(aB:W.ownsRow base e size v n xs)(a:Addr)(k c:Nat)(news:List I)(hl:news.length=k*size)(hER:∀j u,news[j]?=E u->W.cell? (a.add j)=E u)(h1:∀u∈news,u.oneCell'=M)(hn:n+k<1073741824)(fD:bytes<=65536)(oG:base<=W)(aQ:lo<=W):∃v' w',(Builtin.append_ #[t,t] ty #[v,D (E a) k c]).run P W=.ok v' w'/\Done base e size lo v (n+k) (xs++news) v' w'/\(Yg base e size lo v n xs (n+k) (xs++news)).r W w':=by
 have hb:(n+k)*bytes<=140737488355328:=Nat.le_trans (Nat.mul_le_mul_left _ fD) zO;have hm:n+k<=maxLen:=zA7;obtain⟨v',w',hr,h2,h3,_,h5⟩:=run_append_own_at (P:=P) W base t ty e i z size bytes ht hi hz fJ af sQ hsz v n xs aB a k c news hl hER h1 hm hb oG;have hD:Done base e size lo v (n+k) (xs++news) v' w':=⟨h2,h5.imp id λe=>⟨_,e,aQ⟩⟩
 rcases aB.2 with⟨rfl,rfl⟩|⟨g,cap,cur,rfl,hbg,hg,fQ,eP,ay,mM⟩
 exact⟨v',w',hr,hD,UA ⟨h3.os,h3.tape,h3.output,h3.size,λk hk=>h3.block k hk (by simp[Value.ownBlock])⟩⟩;by_cases hroom:n+k<=cap;obtain⟨w2,sH,g2,g3⟩:=run_append_fits (P:=P) W base t ty e i size ht hi fJ g n cap xs aB a k c news hl hER h1 hroom;refine⟨_,w2,sH,⟨g2,.inl rfl⟩,g3,λ_=>UV g2 aB.1,λu hu=>⟨?_,hu.2⟩⟩;rcases hu.1.2 with h0|⟨g',cap',cur',rfl,hbg',hg',hnc',hcm',hHE,htk'⟩
 exact⟨hu.1.1,.inl h0⟩;by_cases hgg:g'=g;subst hgg;rw[hg]at hg';simp only[Option.some.injEq,Obj.cells.injEq]at hg';obtain⟨rfl,_⟩:=hg';obtain rfl:cap'=cap:=by
  have:cap'*size=cap*size:=by rw[<-hHE,<-ay]
  exact Nat.eq_of_mul_eq_mul_right hsz this
 exact g2;exact⟨hu.1.1,.inr ⟨g',cap',cur',rfl,hbg',(g3.block g' (zG.1 hg').1 (by simpa using hgg)).trans hg',hnc',hcm',hHE,htk'⟩⟩;have holds:∀j u,xs[j]?=E u->W.cell? ((g:Addr).add j)=E u:=aB.cells (g:=g) rfl;subst fJ;subst af;have iq:=run_append_grow (P:=P) W t ty e i z ht hi hz ⟨g,0,F⟩ n cap xs aB.1 holds a k c news hl hER zO (by unfold maxLen at hm;omega) (growslice_fits zO hb);rw[hr]at iq;cases iq;exact⟨_,_,hr,hD,UA ((Ext.drew W).trans (zN _ _))⟩
def GI(base:Nat)(e:TypeId)(size lo:Nat)(v:I)(m:Nat)(ys:List I):Qb:=⟨I,λu=>u,λu W=>Done base e size lo v m ys u W⟩
theorem QT(base:Nat)(e:TypeId)(size lo:Nat)(v:I)(m:Nat)(ys:List I)(u:I):(GI base e size lo v m ys).f u=u:=rfl
theorem qdd:∀p,qS (Yg base e size lo v n xs m ys) ((GI base e size lo v m ys).φ p):=λp _ _ he h=>he.2.2 p h
def ju(lo n:Nat)(ty:TypeId)(cs:Array I):Qb:=⟨Nat,λb=>D b n n,λb W=>W.heap[b]?=E (Q cs ty)/\lo<=b⟩
theorem qy(lo n:Nat)(ty:TypeId)(cs:Array I)(b:Nat):(ju lo n ty cs).f b=D b n n:=rfl
theorem Jd(lo n:Nat)(ty:TypeId)(cs:Array I):∀p,za ((ju lo n ty cs).φ p):=λp W W' he h=>
 ⟨(Below.block he p (zG.1 h.1).1).trans h.1,h.2⟩
theorem To{lo' n':Nat}{ty:TypeId}{cs:Array I}(aQ:∀g,v.ownBlock=E g->g<lo'):∀p,qS (Yg base e size lo v n xs m ys) ((ju lo' n' ty cs).φ p):=λp _ _ he h=>
 ⟨Ki he (λx=>by have:=aQ p x;have:=h.2;omega) h.1,h.2⟩
theorem Xe{P:Program}{o:Oper}{a:Act}{W:U}{lo' n':Nat}{ty:TypeId}{cs:Array I}(hr:(execOp a.eval o).run P W=.ok (.value (D W n' n')) (W.alloc (Q cs ty)))(aQ:lo'<=W):vG P o a W (ju lo' n' ty cs):=by unfold vG;rw[hr];exact⟨W.heap.size,rfl,⟨zI _ _ _ rfl,aQ⟩,zN _ _⟩
theorem qbg{P:Program}{o:Oper}{a:Act}{W:U}{lo' n':Nat}{ty:TypeId}{cs:Array I}(hr:(execOp a.eval o).run P W=.ok (.value (D W n' n')) (W.alloc (Q cs ty)))(aQ:lo'<=W):Qs (Yg base e size lo v n xs m ys) P o a W (ju lo' n' ty cs):=by unfold Qs;rw[hr];exact⟨W.heap.size,rfl,⟨zI _ _ _ rfl,aQ⟩,UA (zN _ _)⟩
theorem qiu{W:U}{b:Nat}{cs:Array I}{t:TypeId}(h:W.heap[b]?=E (Q cs t)):∀j u,cs.toList[j]?=E u->W.cell? ((b:Addr).add j)=E u:=by
 intro j u hj;have h2:W.cell? (b,0+j)=u:=by rw[qa h];simpa using hj
 rw[<-h2];unfold Addr.add;split;subst_vars;rfl;rfl
theorem VQ{w:U}{base n size:Nat}{e:TypeId}{v:I}{xs:List I}(h:w.ownsRow base e size v n xs){p:Addr}(hp:p.block<base)(u:I):(w.setCell p u).ownsRow base e size v n xs:=by
 refine⟨h.1,?_⟩;rcases h.2 with h0|⟨g,cap,cur,hv,hb,hg,rest⟩
 exact .inl h0;exact .inr ⟨g,cap,cur,hv,hb,(zJ _ _ _ _ zO).trans hg,rest⟩
end
def XC(v u:I):Prop:=∀a n c,u=D (E a) n c->0<n->v.ownBlock≠E a.block
theorem Bys.grown{row:Option Nat}(h:Bys w w u l)(hg:w.grownBy w' row)(ha:∀a n c,u=D (E a) n c->0<n->row≠E a.block):Bys w' w' u l:=by obtain⟨A,c,e,hc,hm,hr⟩:=h;refine⟨A,c,e,hc,hm,hr.1,λhn=>?_⟩;obtain⟨b,off,rfl,hb,aF⟩:=hr.2 hn;refine⟨b,off,rfl,Nat.lt_of_lt_of_le hb hg.size,λj x hx=>?_⟩;exact World.grownBy.cell hg (aF j x hx) (λx=>ha _ _ _ e hn x.symm)
theorem XC.of_from(hf:ZK lo u)(hv:∀g,v.ownBlock=E g->g<lo):XC v u:=by intro a n c e _ hx;have:=hv _ hx;have:=hf a n c e;omega
theorem Qn{base n size:Nat}{xs:List I}(h:w.ownsRow base e size v n xs):∀g,v.ownBlock=E g->base<=g/\g<w.heap.size:=by
 intro g hg;rcases h.2 with⟨rfl,_⟩|⟨g',cap,cur,rfl,hb,hg',_⟩
 simp[Value.ownBlock]at hg;simp only[Value.ownBlock,Option.some.injEq]at hg;subst hg;exact⟨hb,(zG.1 hg').1⟩
theorem qC{base n size:Nat}{xs:List I}(h:w.ownsRow base e size v n xs):∃A c,v=D A n c/\n<=c/\c<=maxLen:=by
 rcases h.2 with⟨rfl,h0⟩|⟨g,cap,cur,rfl,_,_,fQ,eP,_⟩
 exact⟨F,0,by rw[h0],zO,by simp[maxLen]⟩;exact⟨_,cap,rfl,fQ,eP⟩
def ZO(lo:Nat)(w:U)(v:I)(xs:List It):Prop:=
 ∃ps:List (It×I),ps.map (·.1)=xs/\(∃A c,v=D A xs.length c/\xs.length<=c/\c<=maxLen/\Rd w w 5 A xs.length (qD ps))/\(∀p∈ps,(∃A c,p.2=D A p.1.val.length c)/\Bys w w p.2 p.1.val)/\ZK lo v/\∀p∈ps,ZK lo p.2
theorem ZO.its(h:ZO lo w v xs):Its w w v xs:=by obtain⟨ps,h1,h2,h3,_⟩:=h;exact⟨ps,h1,h2,h3⟩
theorem ZO.mono(h:ZO lo w v xs)(hl:lo'<=lo):ZO lo' w v xs:=by obtain⟨ps,h1,h2,h3,h4,h5⟩:=h;exact⟨ps,h1,h2,h3,h4.mono hl,λp hp=>(h5 p hp).mono hl⟩
theorem ZO.keep(h:ZO lo w v xs)(hs:w.heap.size<=w')(hk:∀p:Addr,lo<=p.block->p.block<w->w'.cell? p=w.cell? p):ZO lo w' v xs:=by
 have key:∀{size n:Nat}{A:OA}{us:List I}{c:Nat},Rd w w size A n us->ZK lo (D A n c)->Rd w' w' size A n us:=by intro size n A us c hr hf;refine⟨hr.1,λhn=>?_⟩;obtain⟨b,off,rfl,hb,aF⟩:=hr.2 hn;exact⟨b,off,rfl,Nat.lt_of_lt_of_le hb hs,λj x hx=>(hk ⟨b,off+j,F⟩ (hf ⟨b,off,F⟩ _ _ rfl) hb).trans (aF j x hx)⟩
 obtain⟨ps,h1,⟨A,c,e,h2,h3,h4⟩,h5,h6,h7⟩:=h;refine⟨ps,h1,⟨A,c,e,h2,h3,key h4 (by rw[<-e];exact h6)⟩,λp hp=>⟨(h5 p hp).1,?_⟩,h6,h7⟩;obtain⟨_,A',c',e',g2,g3,g4⟩:=h5 p hp;exact⟨A',c',e',g2,g3,key g4 (by rw[<-e'];exact h7 p hp)⟩
theorem ZO.ext(h:ZO lo w v xs)(hx:Ext w w'):ZO lo w' v xs:=h.keep hx.size λ_ _ hp=>Below.cell hx hp
abbrev qbj(x:It)(u:I):List I:=[J .u8 x.k,J Z x.i,J Z x.o,J X x.r,u]
theorem qhl(ps:List (It×I))(x:It)(u:I):qD (ps++[(x,u)])=qD ps++qbj x u:=by rw[Zt];rfl
def VE(base lo:Nat)(w:U)(v:I)(ps:List (It×I)):Prop:=
 w.ownsRow base 51 5 v ps.length (qD ps)/\∀p∈ps,((∃A c,p.2=D A p.1.val.length c)/\ZK lo p.2)/\Bys w w p.2 p.1.val/\XC v p.2
theorem VE.nil(base lo:Nat)(w:U):VE base lo w (D F 0 0) []:=⟨World.ownsRow_nil _ _ _ _,λ_ h=>by cases h⟩
theorem VE.ext(h:VE base lo w v ps)(hx:Ext w w'):VE base lo w' v ps:=
 ⟨zu h.1 hx,λp hp=>⟨(h.2 p hp).1,((h.2 p hp).2.1.below hx).more hx.size,(h.2 p hp).2.2⟩⟩
theorem VE.push{lo2:Nat}(h:VE base lo w v ps)(x:It)(A c)(hb:Bys w w (D A x.val.length c) x.val)(hf:ZK lo (D A x.val.length c))(ha:XC v (D A x.val.length c))(hl:lo2=w)(hD:Done base 51 5 lo2 v (ps.length+1) (qD ps++qbj x (D A x.val.length c)) v' W)(hg:w.grownBy W v.ownBlock):VE base lo W v' (ps++[(x,D A x.val.length c)]):=by
 subst hl;refine⟨by rw[qhl,List.length_append];exact hD.1,?_⟩;have key:∀u l,Bys w w u l->XC v u->Bys W W u l/\XC v' u:=by
  intro u l hu hau;refine⟨hu.grown hg hau,λa n c e hn=>?_⟩;rcases hD.2 with h1|⟨g,h1,h2⟩
  rw[h1];exact hau a n c e hn;rw[h1];intro hx;simp only[Option.some.injEq]at hx;obtain⟨A',c',e',_,_,hr⟩:=hu;rw[e]at e';simp only[Value.slice.injEq]at e';obtain⟨e1,e2,_⟩:=e';obtain⟨b,off,e3,hbb,_⟩:=hr.2 zO;rw[<-e1]at e3;simp only[Option.some.injEq]at e3;rw[e3]at hx;simp at hx;omega
 intro p hp;rcases List.mem_append.1 hp with hp|hp
 have:=h.2 p hp;exact⟨this.1,key _ _ this.2.1 this.2.2⟩;obtain rfl:p=(x,D A x.val.length c):=by simpa using hp
 exact⟨⟨⟨_,_,rfl⟩,hf⟩,key _ _ hb ha⟩
theorem VE.setCell(h:VE base lo w v ps)(hp:p.block<base)(hl:p.block<lo)(u:I):VE base lo (w.setCell p u) v ps:=
 ⟨VQ h.1 hp u,λq hq=>⟨(h.2 q hq).1,by simpa using(h.2 q hq).2.1.setCell (h.2 q hq).1.2 hl u,(h.2 q hq).2.2⟩⟩
theorem VE.its(h:VE base lo w v ps)(hl:lo<=base):ZO lo w v (ps.map (·.1))/\∃A c,v=D A ps.length c:=by
 have hf:ZK base v:=ZK.of_own h.1;obtain⟨A,c,e,h1,h2⟩:∃A c,v=D A ps.length c/\ps.length<=c/\c<=maxLen:=by
  rcases h.1.2 with⟨rfl,h0⟩|⟨g,cap,cur,rfl,_,_,fQ,eP,_⟩
  exact⟨F,0,by rw[h0],zO,by simp[maxLen]⟩;exact⟨_,cap,rfl,fQ,eP⟩
 refine⟨⟨ps,rfl,⟨A,c,by rw[List.length_map];exact e,by rw[List.length_map];exact h1,h2,?_⟩,λp hp=>⟨(h.2 p hp).1.1,(h.2 p hp).2.1⟩,hf.mono hl,λp hp=>(h.2 p hp).1.2⟩,A,c,e⟩;rw[List.length_map];have:=h.1;rw[e]at this;exact Rd.of_own this
theorem Tg(h:ZO lo w (D A n' c') xs)(b off n c:Nat)(j:Nat)(e:(Value.slice A n' c')=D (b,off) n c)(hn:0<n):lo<=((b,j):Addr).block:=by obtain⟨ps,h1,h2,h3,h4,h5⟩:=h;exact h4 ⟨b,off,F⟩ _ _ e
theorem qfT(h:zm l k=F):∀m,k<=m->zm l m=F:=by
 intro m hm;induction m with
 |zero=>
  obtain rfl:k=0:=zO;exact h
 |succ m ih=>
  rcases Nat.lt_or_ge k (m+1)with h'|h'
  unfold zm;rw[ih zO];obtain rfl:k=m+1:=zO;exact h
theorem Gq{l r:List UInt8}(h:zm l k=E (xs,r)):zm l (k+1)=match Zk r with|none=>F|some (x,n)=>E (xs++[x],r.drop n):=by
 conv=>lhs;unfold zm
 rw[h]<;>rfl
theorem qhL{l r:List UInt8}(h:zm l k=E (xs,r))(hr:Zk r=F):∀m,k<m->zm l m=F:=by
 intro m hm;have:zm l (k+1)=F:=by rw[Gq h,hr]
 exact qfT this m zO
theorem Gn{l r:List UInt8}{k n:Nat}{xs:List It}{x:It}(h:zm l k=E (xs,r))(hr:Zk r=E (x,n)):zm l (k+1)=E (xs++[x],r.drop n):=by rw[Gq h,hr]
def Xp(p0 p1 p2:Nat)(l7:List UInt8):Option (Int×List It):=
 if p0=78/\p2<=5 then
  match zm l7 p2 with
  |none=>F
  |some (xs,r)=>if Qj p1 xs=M/\KE r=M then E ((p1:Int),xs)else F
 else F
theorem qbt(hl:l.length=128)(hs:qbC l=M):QL l=Xp (l[4]?.getD 0).toNat (l[5]?.getD 0).toNat (l[6]?.getD 0).toNat (l.drop 7):=by
 unfold QL Xp;have:(l[4]?.getD 0)=78↔(l[4]?.getD 0).toNat=78:=by constructor;intro h;rw[h];rfl;intro h;exact UInt8.toNat.inj h
 simp only[hl,hs,this,true_and]<;>rfl
theorem qhZ{p0 p1 p2:Nat}(h:¬(p0=78/\p2<=5)):Xp p0 p1 p2 l7=F:=by unfold Xp;rw[if_neg h]
theorem qia{p1 p2:Nat}{l7:List UInt8}(h:zm l7 p2=F):Xp 78 p1 p2 l7=F:=by unfold Xp;split;rw[h];rfl
theorem qbs{p1 p2:Nat}{l7 r:List UInt8}{xs:List It}(h2:p2<=5)(h:zm l7 p2=E (xs,r)):Xp 78 p1 p2 l7=if Qj p1 xs=M/\KE r=M then E ((p1:Int),xs)else F:=by unfold Xp;rw[if_pos ⟨rfl,h2⟩,h]
theorem Xh{l r:List UInt8}(h:zm l k=E (xs,r))(hk:k<=5)(hl:l.length=121):0<r.length/\r.length<=121:=by
 obtain⟨e,hx⟩:=Gp h;have h1:=Xg xs λx wu=>(hx x wu).1;have h2:=qbk h;have h3:l.length=(zh xs).length+r.length:=by rw[e,List.length_append]
 omega
def qce(lo:Nat)(q:Option (Int×List It))(u:I)(W:U):Prop:=
 match q with
 |none=>∃e:Int,e≠0/\u=.tuple #[jW 0 F 0 0,e]
 |some (lvl,xs)=>∃A c,u=.tuple #[jW lvl A xs.length c,J X 0]/\ZO lo W (D A xs.length c) xs
def NzI(W:U)(v:I):Prop:=∀b off n c i u,v=D (E ⟨b,off,F⟩) n c->i<n->W.cell? ⟨b,off+i*5+4,F⟩=E u->Nz W u
theorem NzI.keep(h:NzI W v)(hc:∀b off n c,v=D (E ⟨b,off,F⟩) n c->0<n->∀j,W'.cell? ⟨b,j,F⟩=W.cell? ⟨b,j,F⟩)(hn:∀u,Nz W u->Nz W' u):NzI W' v:=λb off n c i u e hi hu=>
 hn u (h b off n c i u e hi (by rw[<-hc b off n c e zO];exact hu))
theorem NzI.ext(h:NzI W v)(hx:Ext W W')(hb:∀b off n c,v=D (E ⟨b,off,F⟩) n c->0<n->b<W.heap.size):NzI W' v:=
 h.keep (λb off n c e hn j=>Below.cell hx (p:=⟨b,j,F⟩) (hb b off n c e hn)) λu hu=>hu.ext hx
theorem VE.nzi(h:VE base lo w v ps)(hz:∀p∈ps,Nz w p.2):NzI w v:=λb off n c i u e hi hu=>by subst e;obtain⟨A,c',e',-⟩:=qC h.1;simp only[Value.slice.injEq]at e';obtain⟨rfl,rfl,rfl⟩:=e';have h1:=(Rd.of_own h.1).2 zO;obtain⟨b',off',e,-,aF⟩:=h1;simp only[Option.some.injEq,Addr.mk.injEq,and_true]at e;obtain⟨rfl,rfl⟩:=e;have h2:=aF (i*5+4) _ (vt ps i hi).2.2.2.2;rw[<-Nat.add_assoc,hu]at h2;rw[Option.some.inj h2];exact hz _ (List.getElem_mem hi)
theorem qlb(h:VE base lo w v ps)(hz:∀p∈ps,Nz w p.2)(hu:Nz w u)(ha:XC v u)(hg:w.grownBy W v.ownBlock)(q:Addr)(t:I):∀p∈ps++[(x,u)],Nz (W.setCell q t) p.2:=by
 have key:∀u,Nz w u->XC v u->Nz (W.setCell q t) u:=λu hu hau=>Nz.setCell (λa n c e hn=>by obtain⟨cs,ty,hr⟩:=hu a n c e hn;exact⟨cs,ty,(hg.block a.block (zG.1 hr).1 (λx=>hau a n c e hn x.symm)).trans hr⟩) q t;intro p hp;rcases List.mem_append.1 hp with hp|hp
 exact key _ (hz p hp) (h.2 p hp).2.2;obtain rfl:p=(x,u):=by simpa using hp
 exact key _ hu ha
def qaV(lo:Nat)(q:Option (Int×List It))(u:I)(W:U):Prop:=
 match q with
 |none=>∃e:Int,e≠0/\u=.tuple #[jW 0 F 0 0,e]
 |some (lvl,xs)=>∃A c,u=.tuple #[jW lvl A xs.length c,J X 0]/\ZO lo W (D A xs.length c) xs/\NzI W (D A xs.length c)
theorem qaV.nodeP(h:qaV lo q u W):qce lo q u W:=by
 rcases q with _|⟨lvl,xs⟩
 exact h;obtain⟨A,c,h1,h2,-⟩:=h;exact⟨A,c,h1,h2⟩
theorem Kt(lvl:Int)(A n c)(xs:List It)(w:U)(hx:Its w w (D A n c) xs):Calls prog 182 #[jW lvl A n c] w (Ret (J X (Va (Qj lvl xs))) w):=by
 by_cases h:ZV lvl n=M;exact qjP lvl A n c xs w hx h;have hn:n=xs.length:=hx.at_.1;have h':ZV lvl n=Y:=by simpa using h
 have:Qj lvl xs=Y:=by unfold Qj;rw[<-hn,h'];rfl
 rw[this];exact qhW lvl A n c h' w
theorem Tryz.info_item:(Tryz.prog.info? 51).map (λi=>(i.zero,i.size,i.bytes))=E (E (.agg #[J .u8 0,J Z 0,J Z 0,J X 0,D F 0 0]),5,48):=zQ
abbrev kE(e:Int):I:=.tuple #[jW 0 F 0 0,e]
set_option maxRecDepth 100000 in
theorem qcX(v:I)(l:List UInt8)(w:U)(h:Bys w w v l):Calls prog 136 #[v] w (zZ (qaV w (QL l)) w):=by
 by_cases hl:l.length=128
 case neg=>
  have hq:QL l=F:=by unfold QL;rw[if_neg (λx=>hl x.1)]
  rw[hq];have HO:=zH (λW hW=>open_len v l hl W hW);go_enter func136,ntmps136;go_wp2_with fail;generalize aA:(O _ _)=w1;have b1:Ext w w1:=aA▸zN _ _;have r1:w1.heap[w.heap.size]?=E (Q #[J X 0,D F 0 0] 113):=aA▸zI _ _ _ rfl;clear aA;refine(HO.out _ ((h.below b1).more b1.size)).mono ?_;rintro e w2 ⟨rfl,hB⟩;have b2:Below w w w2:=Ext.trans b1 hB;have r2:=qb r1 hB;have k2:=qa r2;have f2:=qe r2;go_wp2;refine bodyPost_ret (v:=kE 3) (by simp[results,results136,go_sem,k2]) rfl ⟨_,rfl,⟨3,zA1,rfl⟩,zA5⟩
 case pos=>
  have HO:=zH (λW hW=>open_any v l hl W hW);generalize hR:QL l=R;replace hR:=zH hR.symm;go_enter func136,ntmps136;go_wp2_with fail;generalize aA:(O _ _)=w1;have b1:Ext w w1:=aA▸zN _ _;have r1:w1.heap[w.heap.size]?=E (Q #[J X 0,D F 0 0] 113):=aA▸zI _ _ _ rfl;clear aA;refine(HO.out _ ((h.below b1).more b1.size)).mono ?_;clear HO h;rintro e w2 ⟨u,rfl,hu,hB⟩;have b2:Ext w w2:=Ext.trans b1 hB;have r2:=qb r1 hB;have s1:w.heap.size<w1:=(zG.1 r1).1;by_cases hs:qbC l=M
  case neg=>
   have rJ:qbC l=Y:=by simpa using hs
   obtain rfl:R=F:=by rw[hR.out];unfold QL;rw[if_neg (λx=>hs x.2.1)]
   rw[rJ]at hu;simp only[Bool.false_eq_true,if_false]at hu;subst hu;clear b1 r1 hB hR hs rJ;have b2':Below w w w2:=b2;have k2:=qa r2;have f2:=qe r2;go_wp2;refine bodyPost_ret (v:=kE 8) (by simp[results,results136,go_sem,k2]) rfl ⟨_,rfl,⟨8,zA1,rfl⟩,zA5⟩
  case pos=>
   rw[hs,if_pos rfl]at hu;obtain⟨u',rfl,A,c,rfl,hb,hf⟩:=hu;have dC:(l.drop 4).length=124:=zA2;obtain⟨_,hc,hm,hA⟩:=hb.at_;obtain⟨b,off,rfl,cZ⟩:=hA zO;have aF:∀j,j<124->w2.cell? ⟨b,off+j,F⟩=E (J .u8 ((l[4+j]?.getD 0).toNat:Int)):=by intro j hj;obtain⟨A,c',e,_,_,hr⟩:=hb;simp only[Value.slice.injEq]at e;obtain⟨rfl,_,rfl⟩:=e;obtain⟨b',off',e,_,aF⟩:=hr.2 zO;simp only[Option.some.injEq,Addr.mk.injEq,and_true]at e;obtain⟨rfl,rfl⟩:=e;refine aF j _ ?_;rw[List.getElem?_map,List.getElem?_drop,zL zO];rfl
   have c0:=aF 0 zO;have c1:=aF 1 zO;have c2:=aF 2 zO;have lL:Bys w2 w2 (D (b,off+3) 121 (c-3)) (l.drop 7):=by
    have:=hb.sub (a:=3) (k:=121) zO
    rwa [List.drop_drop,List.take_of_length_le zA2]at this
   have hN:R=Xp (l[4]?.getD 0).toNat (l[5]?.getD 0).toNat (l[6]?.getD 0).toNat (l.drop 7):=by rw[hR.out];exact qbt hl hs
   have hl7:(l.drop 7).length=121:=zA2;have u1:=(l[5]?.getD 0).toNat_lt;have u2:=(l[6]?.getD 0).toNat_lt;clear aF hb hA hB r1 b1 hf dC;rw[Nat.add_zero]at c0;clear hR;replace hN:=zH hN;generalize(l[4]?.getD 0).toNat=p0 at*;generalize(l[5]?.getD 0).toNat=p1 at*;generalize(l[6]?.getD 0).toNat=p2 at*;generalize l.drop 7=l7 at*;unfold maxLen at hm;have s2:w.heap.size<w2:=(zG.1 r2).1;have k2:=qa r2;have f2:=qe r2;have b2':Below w w w2:=b2;by_cases hhd:p0=78/\p2<=5
   case neg=>
    obtain rfl:R=F:=by rw[hN.out,qhZ hhd]
    clear hN;go_wp2;all_goals try simp only[beq_iff_eq,beq_eq_false_iff_ne,ne_eq]at*
    all_goals first|(exfalso;omega)|skip
    all_goals
     generalize ah:(O _ _)=wf;have rf:wf.heap[w.heap.size]?=E (Q #[J X 0,D F 0 0] 113):=by rw[<-ah];exact(zK _ _ _ (by simpa using s2)).trans (qi (qi r2 0 _) 1 _)
     have bf:Below w w wf:=by rw[<-ah];exact(by repeat' (first|with_reducible exact Below.refl _ _|with_reducible assumption|with_reducible apply Below.drew|with_reducible apply qT|with_reducible refine Below.alloc ?_ ?_ _|with_reducible refine Below.setCell ?_ ?_ _|(simp;done)|(simp;omega)|omega))
     have kf:=qa rf;exact bodyPost_ret (v:=kE 8) (by simp[results,results136,go_sem,kf]) rfl ⟨_,rfl,⟨8,zA1,rfl⟩,bf⟩
   case pos=>
    obtain⟨rfl,fG⟩:=hhd;have hN2:=zH (λh=>hN.out.trans (@qia p1 p2 l7 h));have hN3:=zH (λr xs h=>hN.out.trans (@qbs p1 p2 l7 r xs fG h));clear hN;go_wp2;generalize aP:(O _ _)=w3;have b3:Ext w2 w3:=aP▸zN _ _;have r3:w3.heap[w2.heap.size]?=E (Q #[p1,D F 0 0] 113):=aP▸zI _ _ _ rfl;have hre:Bys w3 w2 (D (b,off+3) 121 (c-3)) l7:=lL.below b3;have rr3:=qb r2 b3;have b23:Below w2 w2 w3:=b3;clear aP lL k2 f2 r2 c0 c1 cZ;generalize iK:w2.heap.size=nb at*;go_loopw [7,42] (λrs i wr=>∃(k:Nat)(xs:List It)(r:List UInt8)(o cc:Nat)(v:I)(ps:List (It×I)),k<=p2/\i=J .u8 (k:Int)/\zm l7 k=E (xs,r)/\rs=D (E ⟨b,o,F⟩) r.length cc/\Bys w3 nb rs r /\
      wr.heap[nb]?=E (Q #[J X p1,v] 113 (0,0))/\VE (nb+1) (nb+1) wr v ps/\ps.map (·.1)=xs/\Below nb w3 wr/\∀p∈ps,Nz wr p.2) (λ_ i _=>p2-(intOf i).toNat)
    case atStart=>exact⟨0,[],l7,off+3,c-3,D F 0 0,[],zO,rfl,rfl,by rw[hl7],hre,r3,VE.nil _ _ _,rfl,Below.refl _ _,λ_ h=>by cases h⟩
    case round=>
     obtain⟨k,xs,r,o,cc,v1,ps,hk,rfl,aG,rfl,uq,rn,aC,bM,hB,nY⟩:=hrel;replace nY:=zH nY;by_cases hlt:k<p2
     ·have aO:=hlt;have mF:nb<wr:=(zG.1 rn).1;have hrl:=Xh aG zO hl7;have hDL:Bys wr wr (D (b,o) r.length cc) r:=(uq.below hB).more zO;have dO:=uq.at_;have HR:=zH (qjA _ r zO wr hDL);have HBAD:=zH (λh=>hN2.out (qhL aG h p2 aO));have HNX:=zH (λx n h=>@Gn _ _ _ n _ x aG h);have HSM:=zH (λx n=>@Uo r x n);have HSUB:=zH (λn (h:n+(r.length-n)<=r.length)=>uq.sub h);have pU:=qbk aG;have bz:ps.length=k:=by rw[<-pU,<-bM,List.length_map]
      generalize hq:Zk r=q at*;clear uq hDL;have rr:=qfk rr3 s2 hB;go_wp2_with fail;refine HR.out.mono ?_;rintro e w4 ⟨u,rfl,hu,dM⟩;have rr4:=qb rr dM;rcases q with _|⟨x,n⟩
      ·obtain rfl:u=noIt:=hu;obtain rfl:R=F:=HBAD.out rfl;clear HR HBAD HNX HSM HSUB hN2 hN3 rr;have kk4:=qa rr4;have ff4:=qe rr4;have s4:w.heap.size<w4:=(zG.1 rr4).1;have bw4:Below w w w4:=Below.trans b2' (Below.trans (Below.mono b23 zO) (Below.trans (Below.mono hB zO) (Below.mono dM zO)));go_wp2;generalize ah:(O _ _)=wf;have rf:wf.heap[w.heap.size]?=E (Q #[J X 0,D F 0 0] 113):=by rw[<-ah];exact(zK _ _ _ (by simpa using s4)).trans (qi (qi rr4 0 _) 1 _)
       have bf:Below w w wf:=by rw[<-ah];exact(by repeat' (first|with_reducible exact Below.refl _ _|with_reducible assumption|with_reducible apply Below.drew|with_reducible apply qT|with_reducible refine Below.alloc ?_ ?_ _|with_reducible refine Below.setCell ?_ ?_ _|(simp;done)|(simp;omega)|omega))
       have kf:=qa rf;exact bodyPost_ret (v:=kE 8) (by simp[results,results136,go_sem,kf]) rfl ⟨_,rfl,⟨8,zA1,rfl⟩,bf⟩
      obtain⟨i,rfl,A',c',rfl,⟨af,hfr⟩,dR⟩:=hu;replace dR:=zH dR;obtain⟨g1,g2,g3,g4,g5⟩:=HSM.out x n rfl;have mO:=Xh (HNX.out x n rfl) zO hl7;rw[List.length_drop]at mO;have hsb:=HSUB.out n zO;rw[List.take_of_length_le zA3]at hsb;clear HR HSM HSUB HBAD g1 g3 g4 g5;have hFJ:=aC.ext dM;have ax:=Qn aC.1;have s4:=dM.size;go_wp2_with fail;generalize aS:(O _ _)=w5;have b5:Ext w4 w5:=aS▸zN _ _;have r5:w5.heap[w4.heap.size]?=E (Q #[J .u8 x.k,J Z x.i,J Z x.o,J X x.r,D A' x.val.length c'] 51):=aS▸zI _ _ _ rfl;clear aS;have sN:=hFJ.ext b5;have rn5:=qb (qb rn dM) b5;have hLS:=(af.below b5).more b5.size;have s5:w4.heap.size<w5:=(zG.1 r5).1;have uK:Below nb w3 w5:=Below.trans hB (Below.trans (Below.mono dM zO) (Below.mono b5 zO));have hvn:v1.ownBlock≠E nb:=λh=>by have:=ax _ h;omega
      have hv4:v1.ownBlock≠E w4.heap.size:=λh=>by have:=ax _ h;omega
      obtain⟨RR,aV⟩:∃RR:Rel,RR=Yg (nb+1) 51 5 w5 v1 ps.length (qD ps) (ps.length+1) (qD ps++qbj x (D A' x.val.length c')) :=⟨_,rfl⟩
      replace aV:=zH aV;have n1:∀W,RR.r w5 W->W.cell? (nb,1)=v1:=λW h=>Jl (aV.out▸h) hvn (by rw[qa rn5];rfl);have i0:∀W,RR.r w5 W->W.cell? w4=E (J .u8 x.k):=λW h=>Jl (aV.out▸h) hv4 (by rw[qa r5];rfl);have i1:∀W,RR.r w5 W->W.cell? (w4,1)=E (J Z x.i):=λW h=>Jl (aV.out▸h) hv4 (by rw[qa r5];rfl);have i2:∀W,RR.r w5 W->W.cell? (w4,2)=E (J Z x.o):=λW h=>Jl (aV.out▸h) hv4 (by rw[qa r5];rfl);have i3:∀W,RR.r w5 W->W.cell? (w4,3)=E (J X x.r):=λW h=>Jl (aV.out▸h) hv4 (by rw[qa r5];rfl);have i4:∀W,RR.r w5 W->W.cell? (w4,4)=E (D A' x.val.length c'):=λW h=>Jl (aV.out▸h) hv4 (by rw[qa r5];rfl);refine qt zQ ?_;refine Zz 5 10 (D (E ⟨b,o,F⟩) r.length cc) zQ zA6 zQ zQ zQ zA0 (λW=>?_) ?_
      ·go_simp
      simp only[Act.put,qf,qc,qg,qy,QT,zA,zB,zC];refine Zz 6 9 (J X (n:Int)) zQ zA6 zQ zQ zQ zA0 (λW=>?_) ?_
      ·go_simp
      simp only[Act.put,qf,qc,qg,qy,QT,zA,zB,zC];refine Zz 7 8 (D (E ⟨b,o+n,F⟩) (r.length-n) (cc-n)) zQ zA6 zQ zQ zQ zA0 (λW=>?_) ?_
      ·go_simp;have:=dO.2.1;omega
      simp only[Act.put,qf,qc,qg,qy,QT,zA,zB,zC];refine ji (w:=w5) RR (qP [(3,ju w5.heap.size 1 51 #[J .u8 x.k,J Z x.i,J Z x.o,J X x.r,D A' x.val.length c']),(4,GI (nb+1) 51 5 w5.heap.size v1 (ps.length+1) (qD ps++qbj x (D A' x.val.length c')))])
       [M,M,M,M,M,Y,Y,Y,M] 2 zQ zQ zQ zQ zQ zQ ?st (Rel.drew _ _) ?walk
      case st=>rw[aV.out];exact qk (by simp only[List.forall_mem_cons];exact⟨To (λg hg=>by have:=ax g hg;omega),qdd,λ_ h=>by cases h⟩)
      case walk=>
       intro K hK;dsimp only[qv];refine zB3 ?_;refine qH (ju w5.heap.size 1 51 #[J .u8 x.k,J Z x.i,J Z x.o,J X x.r,D A' x.val.length c']) zA0 zA0 (λW hW _=>?_) (λp=>?_)
       ·rw[aV.out]at hW⊢;refine qbg ?_ hW.1.size;go_simp
       simp only[Act.put,qf,qc,qg,qy,QT,zA,zB,zC];refine qH (GI (nb+1) 51 5 w5.heap.size v1 (ps.length+1) (qD ps++qbj x (D A' x.val.length c'))) zA0 zA0 (λW hW hp=>?_) (λv2=>?_);rw[aV.out]at hW⊢;obtain⟨i0,hi,aZ,aT,aX⟩:=info_parts Tryz.info_item;obtain⟨eH,_⟩:=(hp 3 zA1).1;obtain⟨v',w',bH,hD,hR'⟩:=XH (P:=prog) (lo:=w5.heap.size) W 55 55 i0 _ 48 underlying55 hi aZ aT aX rfl zA1 (hW.2.1 sN.1) ⟨p,0,F⟩ 1 1 (qbj x (D A' x.val.length c')) rfl (qiu eH) (by simp[qbj,Value.oneCell']) zO zA1 (by have:=hW.1.size;omega) hW.1.size;refine jZ (u:=v') (w':=w') ?_ ⟨v',rfl,hD,hR'⟩;exact qbe (s:=.tmp 55) (x:=.tmp 57) rfl rfl rfl bH;refine zB3 ?_;refine qB (hK _ _ λW hW hF=>?_);have hD:=(hF 4).1;clear hF hK n1 i0 i1 i2 i3 i4;rw[aV.out]at hW;dsimp only[List.drop,List.length_cons,List.length_nil,GI]at*;change Done _ _ _ _ _ _ _ v2 W at hD;have rnW:=Ki hW hvn rn5;have kW:=qa rnW;have fW:=qe rnW;have hnW:=zH (λq t=>qlb (x:=x) sN (λp hp=>((nY.out p hp).ext dM).ext b5) (dR.out.ext b5) (XC.of_from hfr (λg hg=>(ax g hg).2)) hW.1 q t);have hrW:=sN.push x A' c' hLS (hfr.mono zO) (XC.of_from hfr (λg hg=>(ax g hg).2)) rfl hD hW.1;have xg:Below nb w5 W:=(Below.refl _ _).grown hW.1 zO (λg hg=>by have:=ax g hg;omega);obtain⟨A2,c2',rfl,_,_⟩:=qC hD.1;go_wp2;refine Qq ?_;go_wp2;go_roundw
       case rel=>refine⟨k+1,xs++[x],r.drop n,o+n,cc-n,_,ps++[(x,D A' x.val.length c')],zO,by go_num,HNX.out x n rfl,by rw[List.length_drop],hsb,qi rnW 1 _,?_,by simp[bM],?_,hnW.out _ _⟩;rw[bz]at hrW;exact hrW.setCell (p:=⟨nb,1,F⟩) (Nat.lt_succ_self _) (Nat.lt_succ_self _) _;exact Below.setCell (Below.trans uK xg) (p:=⟨nb,1,F⟩) (zM _) _
       case measure=>simp[intOf];omega
     obtain rfl:k=p2:=zO;have mF:nb<wr:=(zG.1 rn).1;have hrl:=Xh aG fG hl7;have hR:=hN3.out r xs aG;have hDL:Bys wr wr (D (b,o) r.length cc) r:=(uq.below hB).more zO;have hzi:=zH (aC.nzi nY.out);obtain⟨rV,A2,c2',rfl⟩:=aC.its (zM _);rw[bM]at rV;have iG:ps.length=xs.length:=by rw[<-bM,List.length_map]
     rw[iG]at rV rn;have rr:=qfk rr3 s2 hB;have bw:Below w w wr:=Below.trans b2' (Below.trans (Below.mono b23 zO) (Below.mono hB zO));have HC:=zH (λW (hW:Ext wr W)=>Kt p1 A2 xs.length c2' xs W (rV.its.ext hW));have HM:=zH (λW (hW:Ext wr W)=>qiC _ r hrl.1 zO W ((hDL.below hW).more hW.size));have hmz:=qcS r;have yN:=qfX r;replace hR:=zH hR;clear hN2 hN3 uq hDL aC aG;have kn:=qa rn;go_wp2_with fail;refine(HC.out _ (Ext.refl _)).mono ?_;rintro e w4 ⟨rfl,dM⟩;have rr4:=qb rr dM;have bw4:Below w w w4:=Below.trans bw (Below.mono dM zO);have s4:w.heap.size<w4:=(zG.1 rr4).1;have rn4:=qb rn dM;clear HC kn rr;by_cases hmay:Qj (p1:Int) xs=M
     case neg=>
      obtain rfl:R=F:=by rw[hR.out,if_neg (λh=>hmay h.1)]
      have mX:Qj (p1:Int) xs=Y:=by simpa using hmay
      rw[vF mX];clear hR HM hmay mX hmz yN;have k4:=qa rr4;have f4:=qe rr4;go_wp2;generalize ah:(World.setCell _ _ _)=wf;have rf:wf.heap[w.heap.size]?=E (Q #[J X 0,D F 0 0] 113):=ah▸qi (qi rr4 0 _) 1 _;have bf:Below w w wf:=ah▸Below.setCell (Below.setCell bw4 (p:=⟨w.heap.size,0,F⟩) (zM _) _) (p:=⟨w.heap.size,1,F⟩) (zM _) _;have kf:=qa rf;exact bodyPost_ret (v:=kE 8) (by simp[results,results136,go_sem,kf]) rfl ⟨_,rfl,⟨8,zA1,rfl⟩,bf⟩
     case pos=>
      rw[Vx hmay];go_wp2_with fail;refine(HM.out _ dM).mono ?_;rintro e w5 ⟨rfl,uK⟩;have rr5:=qb rr4 uK;have bw5:Below w w w5:=Below.trans bw4 (Below.mono uK zO);have s5:w.heap.size<w5:=(zG.1 rr5).1;have rn5:=qb rn4 uK;have hx5:Ext wr w5:=Ext.trans dM uK;have k5:=qa rr5;have f5:=qe rr5;have kn5:=qa rn5;have fn5:=qe rn5;clear HM;by_cases hz:KE r=M
      case neg=>
       obtain rfl:R=F:=by rw[hR.out,if_neg (λh=>hz h.2)]
       have hz':KE r=Y:=by simpa using hz
       rw[hz']at hmz;have hm0:0<Ti r:=by simpa using hmz
       clear hR hz hz' hmz;generalize Ti r=mm at*;go_wp2;generalize ah:(World.setCell _ _ _)=wf;have rf:wf.heap[w.heap.size]?=E (Q #[J X 0,D F 0 0] 113):=ah▸qi (qi rr5 0 _) 1 _;have bf:Below w w wf:=ah▸Below.setCell (Below.setCell bw5 (p:=⟨w.heap.size,0,F⟩) (zM _) _) (p:=⟨w.heap.size,1,F⟩) (zM _) _;have kf:=qa rf;exact bodyPost_ret (v:=kE 8) (by simp[results,results136,go_sem,kf]) rfl ⟨_,rfl,⟨8,zA1,rfl⟩,bf⟩
      case pos=>
       obtain rfl:R=E ((p1:Int),xs):=by rw[hR.out,if_pos ⟨hmay,hz⟩]
       rw[hz]at hmz;have hm0:Ti r=0:=by simpa using hmz
       clear hR hz hmz;rw[hm0];go_wp2;generalize ah:(World.setCell _ _ _)=wf;have rf:wf.heap[w.heap.size]?=E (Q #[p1,D A2 xs.length c2'] 113):=ah▸qi (qi rr5 0 _) 1 _;have bf:Below w w wf:=ah▸Below.setCell (Below.setCell bw5 (p:=⟨w.heap.size,0,F⟩) (zM _) _) (p:=⟨w.heap.size,1,F⟩) (zM _) _;have kf:=qa rf;have hfi:ZO (nb+1) wf (D A2 xs.length c2') xs:=by refine(rV.ext hx5).keep (by rw[<-ah];simp) (λp h1 h2=>?_);rw[<-ah,World.cell?_setCell_other _ _ _ _ (λe=>by subst e;simp at h1;omega),World.cell?_setCell_other _ _ _ _ (λe=>by subst e;simp at h1;omega)]
       have hzf:NzI wf (D A2 xs.length c2'):=by
        have hzi':=hzi.out;rw[iG]at hzi';have dI:∀b off n c,Value.slice A2 xs.length c2'=D (E ⟨b,off,F⟩) n c->0<n->w.heap.size<b/\b<wr.heap.size:=λb off n c e hn=>by obtain⟨-,-,-,h4⟩:=rV.its.at_;have h5:nb+1<=(b:Addr).block:=Tg rV b off n c 0 e hn;simp only[Value.slice.injEq]at e;obtain⟨b6,o6,e6,e7⟩:=h4 zO;rw[e.1]at e6;simp only[Option.some.injEq,Addr.mk.injEq]at e6;simp only at h5;omega
        refine(hzi'.ext hx5 (λb off n c e hn=>(dI b off n c e hn).2)).keep (λb off n c e hn j=>?_) (λu hu=>?_)
        case refine_2=>rw[<-ah];exact(hu.setCell _ _).setCell _ _
        have:=(dI b off n c e hn).1;rw[<-ah,World.cell?_setCell_other _ _ _ _ (λe=>by simp only[Addr.mk.injEq]at e;omega),World.cell?_setCell_other _ _ _ _ (λe=>by simp only[Addr.mk.injEq]at e;omega)]
       exact bodyPost_ret (v:=.tuple #[jW p1 A2 xs.length c2',J X 0]) (by simp[results,results136,go_sem,kf]) rfl ⟨_,rfl,⟨A2,c2',rfl,hfi.mono zO,hzf⟩,bf⟩
theorem qmm(v:I)(l:List UInt8)(w:U)(h:Bys w w v l):Calls prog 136 #[v] w (zZ (qce w (QL l)) w):=
 (qcX v l w h).mono λ_ _ ⟨u,he,hu,hB⟩=>⟨u,he,hu.nodeP,hB⟩



set_option maxRecDepth 100000 in
theorem qlX(n:Nat)(hn:n<1073741824)(w:U):Calls prog 177 #[D F 0 0,(n:Int)] w (zZ (λv w'=>w'.ownsRow w 5 1 v 0 []) w):=by
 obtain⟨i0,hi,aZ,aT,aX⟩:=info_parts Tryz.info_u8;by_cases h0:n=0
 ·subst h0;go_enter func177,ntmps177;go_wp2;go_ret;exact⟨_,rfl,World.ownsRow_nil _ _ _ _,Below.refl _ _⟩
 have hG:=grownCap_ge w n 0 5;have hGm:=grownCap_le_maxLen w n 0 5 zA7;have hrz:∀ty,(Builtin.append_ #[26,3] ty #[D F 0 0,J X (n:Int)]).run prog w =
   .ok (D (E ⟨w.heap.size,0,F⟩) n (grownCap w n 0 5)) (w.drew.alloc (Q (([]:List I).toArray++Builtin.zeroCells (Value.int .u8 0).cells n++Builtin.zeroCells (Value.int .u8 0).cells (grownCap w n 0 5-n)) 5)):=λty=>by
  have h:=Lib.run_append_grow_zeros (P:=prog) w 26 3 ty 5 i0 (J .u8 0) X X underlying26 underlying3 hi aZ F 0 0 [] (run_firstCells_none w.drew i0.size 0 0 0) n zO zO zO zO (by rw[aX];omega) (growslice_fits zO (by rw[aX];omega));simpa using h
 obtain⟨G,hGe⟩:∃G,grownCap w n 0 5=G:=⟨_,rfl⟩
 rw[hGe]at hG hGm hrz;unfold maxLen at hGm;have dA:0<n:=zO;clear hGe;go_enter func177,ntmps177;go_wp2_with (at_builtin;refine Lib.wpList_append_run _ rfl _ _ _ _ rfl _ _ rfl rfl _ _ (hrz _) ?_);go_ret;refine⟨_,rfl,?_,zA5⟩;refine(World.ownsRow_made w _ G (zM _) zA7 ?_).drew;simp only[Array.size_append,size_zeroCells,List.size_toArray,List.length_cons,List.length_nil];omega
def Ys(ls:List (List UInt8))(k:Nat):List UInt8:=(ls.take k).flatten
set_option maxRecDepth 100000 in
theorem KJ(A c m)(vs:List I)(ls:List (List UInt8))(hv:vs.length=m)(hl:ls.length=m)(w:U)(hr:Rd w w 1 A m vs)(hb:∀(i:Nat)(v:I)(l:List UInt8),vs[i]?=v->ls[i]?=l->Bys w w v l)(hn:m<1024)(hs:ls.flatten.length<1048576):Calls prog 132 #[D A m c] w (zZ (λv w'=>w'.ownsRow w 5 1 v ls.flatten.length (ls.flatten.map bv)) w):=by
 obtain⟨i0,hi,aZ,aT,aX⟩:=info_parts Tryz.info_u8;have bI:∀k,k<m->∃A c l,vs[k]?=E (D A l.length c)/\ls[k]?=E l/\Rd w w 1 A l.length (l.map bv):=λk hk=>by
  obtain⟨v,hv⟩:∃v,vs[k]?=E v:=⟨_,zL zO⟩
  obtain⟨l,xJ⟩:∃l,ls[k]?=E l:=⟨_,zL zO⟩
  obtain⟨A,c,rfl,_,_,h⟩:=hb k v l hv xJ;exact⟨A,c,l,hv,xJ,h⟩
 have lQ:∀k,(Ys ls k).length<=ls.flatten.length:=λk=>by
  unfold Ys;conv=>rhs;rw[<-List.take_append_drop k ls]
  rw[List.flatten_append,List.length_append];omega
 have mM:∀(k:Nat)(l:List UInt8),ls[k]?=l->Ys ls (k+1)=Ys ls k++l:=λk l h=>by unfold Ys;rw[List.take_add_one,h];simp
 have HT:=zH mM;clear mM;have aW:ls.flatten=Ys ls m:=by unfold Ys;rw[List.take_of_length_le zO]
 have h00:Hid ([]=Ys ls 0):=by unfold Ys;exact rfl
 rw[aW]at hs lQ⊢;clear aW hl hv hb;go_enter func132,ntmps132;go_wp2;go_loop [3,11] (λt i=>∃k:Nat,k<=m/\i=J X (k:Int)/\t=J X ((Ys ls k).length:Int))
  (λ_ i=>m-(intOf i).toNat)
 case atStart=>exact⟨0,Nat.zero_le _,rfl,by rw[<-h00.out];rfl⟩
 case round=>
  obtain⟨k,hk,rfl,rfl⟩:=hrel;have h1:=lQ k;by_cases hlt:k<m
  ·obtain⟨A',c',l,hv,hl,hrl⟩:=bI k hlt;obtain⟨b,off,rfl,cZ,hc⟩:=hr.2 zO;have h2:=lQ (k+1);rw[HT.out k l hl,List.length_append]at h2;go_wp2;go_round
   case rel=>exact⟨k+1,zO,by go_num,by rw[HT.out k l hl,List.length_append];go_num⟩
   case measure=>simp[intOf];omega
  obtain rfl:k=m:=zO;clear h1;go_wp2_with fail;refine(qlX (Ys ls k).length zO _).mono ?_;rintro e w1 ⟨v,rfl,aB,hB⟩;go_wp2;go_loopw [6,27] (λv i wr=>∃j:Nat,j<=k/\i=J X (j:Int)/\wr.ownsRow w.heap.size 5 1 v (Ys ls j).length ((Ys ls j).map bv)/\Below w.heap.size w wr)
   (λ_ i _=>k-(intOf i).toNat)
  case atStart=>exact⟨0,Nat.zero_le _,rfl,by rw[<-h00.out];exact aB,hB⟩
  case round=>
   clear aB hB;obtain⟨j,hj,rfl,aB,hB⟩:=hrel;by_cases hlt:j<k
   ·obtain⟨A',c',l,hv,hl,hrl⟩:=bI j hlt;obtain⟨b,off,rfl,cZ,hc⟩:=hr.2 zO;have aF:=(hB.cell (p:=⟨b,off+j,F⟩) cZ).trans (hc j _ hv);have h2:=lQ (j+1);rw[HT.out j l hl,List.length_append]at h2;have HE:=zH (HT.out j l hl);go_wp2_with (at_builtin;refine qV ?_);refine Qm.go (QB _ rfl (.tmp 31) (.tmp 32) 26 rfl w.heap.size 5 i0 (J .u8 0) 1 1 underlying26 hi aZ aT aX rfl zA1 _ _ _ rfl aB w.heap.size A' l.length c' (l.map bv) rfl (hrl.below hB) (Gi l) zO zA1 hB.size ?_);intro v' w2 hEV _ bg _;go_wp2;go_roundw
    case rel=>exact⟨j+1,zO,by go_num,by rw[HE.out,List.length_append,List.map_append];exact hEV,hB.trans bg⟩
    case measure=>simp[intOf];omega
   obtain rfl:j=k:=zO;go_wp2;go_ret;exact⟨_,rfl,aB,hB⟩
end Go.Proofs.YtmeadnlmepcmbaaGreat
