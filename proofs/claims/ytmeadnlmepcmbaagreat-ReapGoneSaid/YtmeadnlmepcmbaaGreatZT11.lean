/- Lemmas of the proof. -/
import Derived.OrdersIn
import Derived.TacticsIn
import Derived.CallsIn
import Derived.RangeFuncKeeps
import Derived.Sort.CutIn
import Derived.Test.YtmeadnlmepcmbaaGreatZT10
set_option linter.all false
set_option maxHeartbeats 8000000
open Go.Proofs.Tryz
open Go.Value renaming slice→y,int→Ob,pointer→Of
open Option renaming none→E,some→I
open Go.World renaming setCell→O,alloc→Oc
open Go.Obj renaming cells→U
open Bool renaming true→Z
open Go renaming World→Oa,Value→Oe
open Go.IntKind renaming i64→Od
namespace Go.Proofs.YtmeadnlmepcmbaaGreat
open Go.RowKit
variable {n lo q B n' i:Nat}{u v:Value}{W w w':World}{X Y D D':Nat->Prop}{e:TypeId}{xs:List Value}{k k':Option Nat}{ws:List (Int×List UInt8)}{ops:Array Oper}{o:Oper}
set_option maxRecDepth 100000 in
theorem qjc(b lo:Nat)(A1:OA)(n1 c1:Nat)(g c3:Nat)(A4:OA)(c4:Nat)(bs:List (List UInt8))(now last:List UInt8)(hn:now.length=256)(hl:last.length=256)(hn8:now[8]?=I 0)(hl8:last[8]?=I 0)(w:Oa)(aQ:lo<=b)(hr:w.heap[b]?=I (U #[y A1 n1 c1,y E 0 0,y g 256 c3,y A4 256 c4] 223))(ho:w.ownsRow lo 5 1 (y g 256 c3) 256 (now.map bv))(hb:Bls w lo (y A1 n1 c1) bs)(ha:Bys w lo (y A4 256 c4) last):Calls prog 165 #[Of b,jW 0 E 0 0] w (λe W=>e=.returned (.tuple #[Ob Od 8,Ob Od 0])/\Below lo w W/\∃A2 c2,W.heap[b]?=I (U #[y A1 n1 c1,y A2 1 c2,y g 256 c3,y A4 256 c4] 223) /\
   Qh W W (y A1 n1 c1) (y A2 1 c2) (y g 256 c3) (y A4 256 c4) ⟨bs,[(8,Zo (QA 0 []))],now.set 8 1,last⟩):=by
 have pU:=(ZI ho).1 8 zO;rw[hn8]at pU;replace pU:w.cell? ⟨g,8,E⟩=I (Ob .u8 0):=pU;obtain⟨_,tN,yK,xC⟩:=ZI ho;obtain⟨A,c,e,hac,_,har⟩:=ha;rw[hl]at e hac har;simp only[Value.slice.injEq,true_and]at e;obtain⟨rfl,rfl⟩:=e;obtain⟨b4,o4,rfl,lW,hc4⟩:=har.2 zO;have pR:w.cell? (b4,o4+8)=I (Ob .u8 0):=hc4 8 (bv 0) (by rw[List.getElem?_map,hl8];rfl);have zb:b<w:=(zG.1 hr).1;have hW:=zH (λW=>qda 0 E 0 0 [] W (Its.nil W W.heap.size) zA1 (λx hx=>by cases hx));go_enter func165,ntmps165;go_wp2_with fail;generalize aA:Oc _ _=w1;have x1:Ext w w1:=aA▸zN _ _;have p1:w1.heap[w.heap.size]?=I (U #[Ob Od 0,y E 0 0] 113):=aA▸zI _ _ _ rfl;clear aA;refine(hW.out w1).mono ?_;rintro e w2 ⟨u,rfl,⟨u,rfl,⟨A0,c0,rfl,hu,hf⟩⟩,hB⟩;have hB:Ext w1 w2:=hB;have x2:Ext w w2:=x1.trans hB;have p2:=qb p1 hB;have r2:=qb hr x2;have o2:=zu ho x2;have kp:=qa p2;have kr:=qa r2;have fr:=qe r2;have kn:w2.cell? (g,8)=I (Ob .u8 0):=Ext.cell x2 pU;have z2:=x2.size;have z1:w.heap.size<w1:=(zG.1 p1).1;have kl:w2.cell? (b4,o4+8)=I (Ob .u8 0):=Ext.cell x2 pR;clear hB x1 p1 pU pR hc4 hW;go_wp2_with fail;go_loopw [21] (λi wr=>i=Ob Od 0/\wr=w2) (λ_ _=>0)
 case atStart=>exact⟨rfl,rfl⟩
 case round=>
  obtain⟨rfl,hw⟩:=hrel;replace hw:=hw.symm;subst hw;go_wp2_with fail;go_loopw [4] (λi W=>i=Ob Od 8/\Ext w2 W) (λ_ _=>0)
  case atStart=>exact⟨rfl,Ext.refl _⟩
  case round=>
   obtain⟨rfl,hE⟩:=hrel;have g1:∀W,qm.r wr W->∀i,W.cell? ⟨b,i,E⟩=#[y A1 n1 c1,y E 0 0,y g 256 c3,y (b4,o4) 256 c4][i]?:=λW h=>qa (qb (qb r2 hE) h);have g2:∀W,qm.r wr W->W.cell? (g,8)=I (Ob .u8 0):=λW h=>Ext.cell (hE.trans h) kn;have g3:∀W,qm.r wr W->W.cell? (b4,o4+8)=I (Ob .u8 0):=λW h=>Ext.cell (hE.trans h) kl;clear kp kr fr kn kl;go_wp2_with fail;refine qt zQ ?_;refine qY (w:=wr) qm (qP []) [Z,Z,Z,Z,Z,Z,Z,Z,Z,Z,Z,Z,Z,Z,Z,Z,Z,Z,Z,Z,Z,Z] 0 zQ zQ zQ zQ zQ zQ zQ ?st (Rel.drew _ _) ?walk
   case st=>exact qk (λ_ h=>by cases h)
   case walk=>
    intro K hK;dsimp only[qv];refine zC3 ?_;refine qB (hK _ _ λW hW hF=>?_);have hW:Ext wr W:=hW;have x3:Ext w2 W:=hE.trans hW;clear hF hK g1 g2 g3 hE hW;refine zB6 ?_;have r3:=qb r2 x3;have o3:=zu o2 x3;have kr:=qa r3;have fr:=qe r3;obtain⟨i0,hi,aZ,aT,aX⟩:=info_parts Tryz.info_write;have z3:=x3.size;have hu3:=(hu.below x3).more x3.size;have xw3:Ext w W:=x2.trans x3;have x2z:=x2.size;clear r2 o2 x2 x3 hu p2;replace⟨o3,hu3⟩:=zH2 o3 hu3;go_wp2;refine Qq ?_;go_wp2_with (at_builtin;refine qV ?_);refine Qm.go (Zh _ rfl (.tmp 78) (.tmp 82) 23 rfl W.heap.size 142 i0 (.agg #[Ob Od 0,y E 0 0]) 2 32 underlying23 hi aZ aT aX rfl zA1 _ 0 [] rfl (World.ownsRow_nil _ _ _ _) #[Ob Od 8,y A0 128 c0] rfl rfl zA8 zO zA1 (zM _) ?_);intro v4 w4 own4 _ dM _;have dM:Ext W w4:=dM;simp only[Nat.zero_add,List.nil_append]at own4;obtain⟨A2,c2,rfl,hc21,hc22⟩:=qC own4;have r4:=qb r3 dM;have kr4:=qa r4;have fr4:=qe r4;have o4':=zu o3.out dM;have z5:=dM.size;have kg:=(ZI o4').1 8 zO;have fg:=(ZI o4').2.1 8;have hlt:=Qn own4;have hbg:g≠b:=by
     intro e;subst e;obtain⟨_,h2⟩:=o4';rcases h2 with⟨e,_⟩|⟨g',cap,cur,e,_,iq,_⟩
     cases e;cases e;exact qM iq r4 zA1 rfl
    have z6:b<w2:=by have:=x2z;omega
    replace⟨own4,o4'⟩:=zH2 own4 o4';have hf1:=hf.mono (lo':=w.heap.size) zO;clear r3 kr fr hc21 hc22;go_wp2_with fail;have st:∀q,q≠b->q≠g->((w4.setCell (b,1) (y A2 1 c2)).setCell (g,8) (Ob .u8 1)).heap[q]?=w4.heap[q]?:=λq h1 h2=>(zJ _ _ _ _ h2).trans (zJ _ _ _ _ h1);have xw4:Ext w w4:=xw3.trans dM;have hB:Below lo w ((w4.setCell (b,1) (y A2 1 c2)).setCell (g,8) (Ob .u8 1)):=Below.setCell (Below.setCell (Below.mono xw4 zO) (p:=⟨b,1,E⟩) aQ _) (p:=⟨g,8,E⟩) yK _;have rf:=qi r4 1 (y A2 1 c2);have rf2:=(zJ (w4.setCell ⟨b,1,E⟩ (y A2 1 c2)) ⟨g,8,E⟩ (Ob .u8 1) b (λe=>hbg e.symm)).trans rf;have of4:=qbW (qij (k:=1) (v:=y A2 1 c2) o4'.out hbg) (k:=8) zO 1;have hz:((w4.setCell (b,1) (y A2 1 c2)).setCell (g,8) (Ob .u8 1)).heap.size=w4:=zA3;have ow:=ZZ (w':=(w4.setCell ⟨b,1,E⟩ (y A2 1 c2)).setCell ⟨g,8,E⟩ (Ob .u8 1)) own4.out (λq h1 _=>st q zO zO);have hu4:Bys ((w4.setCell (b,1) (y A2 1 c2)).setCell (g,8) (Ob .u8 1)) w4 (y A0 128 c0) (Zo (QA 0 [])):=(((hu3.out.below dM).more dM.size).setCell hf1 (p:=⟨b,1,E⟩) zb _).setCell hf1 (p:=⟨g,8,E⟩) xC _;have hsl:(Zo (QA 0 [])).length=128:=Vr zA1;refine bodyPost_ret (v:=.tuple #[Ob Od 8,Ob Od 0]) (by simp[results,results165,go_sem]) rfl ⟨rfl,hB,A2,c2,rf2,⟨?_,?_,?_,?_⟩⟩;exact(hb.below hB).more zO;rw[hz];refine⟨[((8,Zo (QA 0 [])),y A0 128 c0)],rfl,?_,?_⟩;obtain⟨A',c',e,q1,q2⟩:=qC ow;cases e;exact⟨A2,c2,rfl,q1,q2,by have:=Rd.of_own ow;rw[hz]at this;exact this⟩;intro p hp;simp only[List.mem_singleton]at hp;subst hp;exact⟨⟨A0,c0,by rw[hsl]⟩,hu4⟩;exact Bys.of_own of4;have e1:Bys w lo (y (b4,o4) 256 c4) last:=⟨_,c4,by rw[hl],zO,by assumption,by rw[hl];exact har⟩
    exact(e1.below hB).more zO
def jK(n:Nat):List UInt8:=List.replicate n 0
theorem ZT(n:Nat):(jK n).length=n:=by simp[jK]
theorem qkz(n:Nat):madeCells #[Ob .u8 0] n=((jK n).map bv).toArray:=by apply Array.ext_getElem?;intro i;unfold madeCells jK;rw[Array.getElem?_map,Array.getElem?_range,List.getElem?_toArray,List.getElem?_map,List.getElem?_replicate];by_cases h:i<n;rw[if_pos h,if_pos h];simp[Nat.mod_one,bv];rw[if_neg h,if_neg h];rfl
theorem qll(hn:n<1000000)(w:Oa):(Instr.makeSlice 26 (n:Int) (Ob Od (n:Int))).run prog w=.ok (y w n n) (w.alloc (U ((jK n).map bv).toArray 5)):=by obtain⟨i0,hi,aZ,aT,aX⟩:=info_parts Tryz.info_u8;have h:=run_make (P:=prog) w 26 5 i0 _ underlying26 hi aZ Od Od (n:Int) (n:Int) zO zO (by rw[aX];omega) zO;rw[aT,Int.toNat_natCast,Nat.mul_one]at h;rw[<-qkz];exact h
theorem qhq(w:Oa):Calls prog 186 #[] w (zZ (λu W=>u=y w 256 256/\W.heap[w.heap.size]?=I (U ((jK 256).map bv).toArray 5 (0,0))) w):=by have hmk:∀w,(Instr.makeSlice 26 (Ob Od 256) (Ob Od 256)).run prog w=.ok (y (I ⟨w.heap.size,0,E⟩) 256 256) (w.alloc (U ((jK 256).map bv).toArray 5)):=λw=>qll (n:=256) zO w;go_enter func186,ntmps186;go_wp2;go_ret;exact⟨_,rfl,⟨rfl,zI _ _ _ rfl⟩,zN _ _⟩
structure NewI(w2:Oa)(BB:Nat)(i:Oe)(wr:Oa):Prop where
 ex:∃(k:Nat)(cs:Array Oe),k<=256/\i=Ob Od (k:Int)/\Below BB w2 wr/\BB<wr/\wr.heap[BB]?=I (U cs 26)/\cs.size=256 /\
  wr.heap[BB+1]?=I (U #[y BB 256 256,y E 0 0] 25)/\∀i,i<k->∃b,cs[i]?=I (y (I ⟨b,0,E⟩) 128 128)/\BB<b/\wr.heap[b]?=I (U ((jK 128).map bv).toArray 5 (0,0))
def vO:List (List UInt8):=List.replicate 256 (jK 128)
set_option maxRecDepth 100000 in
theorem dnew_any(w:Oa):Calls prog 185 #[] w (zZ (λu W=>∃BB,u=XV (I ⟨BB,0,E⟩) 256 256 E 0 0/\∀W2:Oa,(∀q:Addr,w.heap.size<=q.block->q.block<W->W2.cell? q=W.cell? q)->Bls W2 W (y (I ⟨BB,0,E⟩) 256 256) vO) w):=by
 have hmk:∀w,(Instr.makeSlice 26 (Ob Od 128) (Ob Od 128)).run prog w=.ok (y (I ⟨w.heap.size,0,E⟩) 128 128) (w.alloc (U ((jK 128).map bv).toArray 5)):=λw=>qll (n:=128) zO w;have hmk2:∀w,(Instr.makeSlice 22 (Ob Od 256) (Ob Od 256)).run prog w=.ok (y (I ⟨w.heap.size,0,E⟩) 256 256) (w.alloc (U (madeCells #[y E 0 0] 256) 26)):=λw=>GY (n:=256) zO w;go_enter func185,ntmps185;go_wp2_with fail;generalize cO:(Oc (Oc (Oc _ _) _) _)=w2;have x2:Ext w w2:=by rw[<-cO];exact((zN _ _).trans (zN _ _)).trans (zN _ _)
 have q2:w2.heap[w.heap.size]?=I (U #[y E 0 0,y E 0 0] 25):=by rw[<-cO];exact(zK _ _ _ zA2).trans ((zK _ _ _ zA3).trans (zI _ _ _ rfl))
 have b2:w2.heap[w.heap.size+1]?=I (U (madeCells #[y E 0 0] 256) 26):=by rw[<-cO];exact(zK _ _ _ zA3).trans (zI _ _ _ zA3)
 have d2:w2.heap[w.heap.size+1+1]?=I (U #[y (w,1,0) 256 256,y E 0 0] 25):=cO▸zI _ _ _ zA3;have I0:NewI w2 (↑w+1) (Ob Od 0) w2:=⟨0,_,zO,rfl,Below.refl _ _,(zG.1 b2).1,b2,size_madeCells _ _,d2,λi hi=>zO⟩
 have kd:=qa d2;replace I0:=zH I0;clear cO hmk2 b2 d2;go_wp2_with fail;go_loopw [8] (λi wr=>NewI w2 (w.heap.size+1) i wr) (λi _=>256-(intOf i).toNat)
 case atStart=>exact I0.out
 case round=>
  obtain⟨k,cs,hk,rfl,hE,hz,aC,hsz,hd,ay⟩:=hrel.ex;clear hrel I0 kd;have xw:Below w w wr:=Below.trans x2 (Below.mono hE zO);by_cases hlt:k<256
  ·have aO:=hlt;have g1:∀W,qm.r wr W->∀i,W.cell? ⟨w.heap.size+1+1,i,E⟩=#[y (w,1,0) 256 256,y E 0 0][i]?:=λW h=>qa (qb hd h);have nR:=zH (IntWalk.wrap64_in ((k:Int)+1) zO);have hEh:=zH hE;have hcsh:=zH ay;have hUP:=zH aC;have hdh:=zH hd;clear hE ay aC hd;go_wp2_with fail;refine qt zQ ?_;refine qY (w:=wr) qm (qP [(3,qbw wr.heap.size 128 128 5 ((jK 128).map bv).toArray)]) [Z,Z,Z,Z,Z] 1 zQ zQ zQ zQ zQ zQ zQ ?st (Rel.drew _ _) ?walk
   case st=>exact qk (by simp only[List.forall_mem_cons];exact⟨Xr _ _ _ _ _,λ_ h=>by cases h⟩)
   case walk=>
    intro K hK;dsimp only[qv];refine zC3 ?_;refine qH (qbw wr.heap.size 128 128 5 ((jK 128).map bv).toArray) zA0 zA0 (λW hW _=>?_) (λ(b:Nat)=>?_)
    ·have hW:Ext wr W:=hW;refine jZ (u:=y (I ⟨W.heap.size,0,E⟩) 128 128) (w':=W.alloc (U ((jK 128).map bv).toArray 5)) ?_ ⟨W.heap.size,rfl,⟨zI _ _ _ rfl,hW.size⟩,zN _ _⟩;go_simp
    refine zC3 ?_
    first
     |(refine qd (Of (I ⟨w.heap.size+1,0+k,E⟩)) zA0 zA0 (λW hW _=>⟨W,?_,Rel.refl _ W⟩) ?_
       ·go_simp;rw[IntWalk.i64_in (k:Int) zO,if_pos zO];simp
       simp only[Act.put,ql,qf,qc,qg,Zf,zA,zB,zC])
     |skip
    refine zC3 ?_;refine qB (hK _ _ λW hW hF=>?_);have hb:W.heap[b]?=I (U ((jK 128).map bv).toArray 5 (0,0))/\wr.heap.size<=b:=(hF 3).1;have hW:Ext wr W:=hW;clear hF hK g1 hmk;refine zB6 ?_;have rB:=qb hUP.out hW;have kB:=qa rB k;have fB:=qe rB k;rw[Array.getElem?_eq_getElem zO]at kB;have IR:NewI w2 (↑w+1) (Ob Od ((k:Int)+1)) (W.setCell (w,1,k) (y b 128 128)):=⟨k+1,_,zO,rfl,Below.setCell (Below.trans hEh.out (Below.mono hW zO)) (p:=⟨w.heap.size+1,k,E⟩) (zM _) _,by have:=hW.size;simp;omega,qi rB k _,by simpa using hsz,
     (zJ _ _ _ _ (by show _≠w.heap.size+1;omega)).trans (qb hdh.out hW),λi hi=>by
      rw[Array.getElem?_setIfInBounds];by_cases e:k=i;subst e;rw[if_pos rfl,if_pos zO];exact⟨b,rfl,zO,(zJ _ _ _ _ (by show _≠w.heap.size+1;omega)).trans hb.1⟩
      ·rw[if_neg e];obtain⟨b',e1,e2,e3⟩:=hcsh.out i zO;exact⟨b',e1,e2,(zJ _ _ _ _ (by show _≠w.heap.size+1;omega)).trans (qb e3 hW)⟩⟩
    replace IR:=zH IR;generalize cs[k]=u0 at*;clear hb hW rB;go_wp2;refine Qq ?_;go_wp2_with fail;try rw[nR.out]
    refine⟨IR.out,?_⟩;simp[intOf];omega
  obtain rfl:k=256:=zO;have qq:=(hE.block w.heap.size zO).trans q2;have kq:=qa qq;have fq:=qe qq;have kd:=qa hd;have rf:=qi (qi qq 0 (y (I ⟨w.heap.size+1,0,E⟩) 256 256)) 1 (y E 0 0);have kf:=qa rf;have bf:Below w w ((wr.setCell w (y (w,1,0) 256 256)).setCell (w,1) (y E 0 0)):=Below.setCell (Below.setCell xw (p:=⟨w.heap.size,0,E⟩) (zM _) _) (p:=⟨w.heap.size,1,E⟩) (zM _) _;have DF:∀W2:Oa,(∀q:Addr,w.heap.size<=q.block->q.block<((wr.setCell w (y (w,1,0) 256 256)).setCell (w,1) (y E 0 0)).heap.size->W2.cell? q=((wr.setCell w (y (w,1,0) 256 256)).setCell (w,1) (y E 0 0)).cell? q)->Bls W2 ((wr.setCell w (y (w,1,0) 256 256)).setCell (w,1) (y E 0 0)).heap.size (y (w,1,0) 256 256) vO:=by
   have st:∀b,b≠w.heap.size->((wr.setCell w (y (w,1,0) 256 256)).setCell (w,1) (y E 0 0)).heap[b]?=wr.heap[b]?:=λb hb=>(zJ _ _ _ _ hb).trans (zJ _ _ _ _ hb);generalize O (O wr _ _) _ _=wf at*;intro W2 hk;have rB:=(st (w.heap.size+1) zO).trans aC;have zB:=(zG.1 rB).1;refine⟨cs.toList,I ⟨w.heap.size+1,0,E⟩,256,by simp[vO],by simp[vO],zA7,⟨by simp[vO,hsz],λ_=>⟨w.heap.size+1,0,rfl,zB,λj u hu=>?_⟩⟩,λi u l hu hl=>?_⟩;rw[hk ⟨w.heap.size+1,0+j,E⟩ (by show w.heap.size<=w.heap.size+1;omega) zB,Nat.zero_add,qa rB];simpa using hu;have hi:i<256:=by have:=(List.getElem?_eq_some_iff.1 hl).1;simpa [vO]using this
   have e0:cs.toList[i]?=cs[i]?:=zA3;obtain⟨b,e1,e2,e3⟩:=ay i hi;rw[e0,e1]at hu;cases hu;have pX:l=jK 128:=by
    have:vO[i]?=I (jK 128):=by unfold vO;rw[List.getElem?_replicate,if_pos hi]
    rw[this]at hl;cases hl;rfl
   subst pX;have e4:=(st b zO).trans e3;have zb:=(zG.1 e4).1;refine⟨_,128,by rw[ZT],by rw[ZT];omega,zA7,zA3,λ_=>⟨b,0,rfl,zb,λj u hu=>?_⟩⟩;rw[hk ⟨b,0+j,E⟩ (by show w.heap.size<=b;omega) zb,Nat.zero_add,qa e4];simpa using hu
  replace⟨kf,bf,DF⟩:=zH3 kf bf DF;clear rf hE aC ay hd;go_wp2;have kf:=kf.out;exact bodyPost_ret (v:=XV (I ⟨w.heap.size+1,0,E⟩) 256 256 E 0 0) (by simp[results,results185,go_sem,kf]) rfl ⟨_,rfl,⟨w.heap.size+1,rfl,DF.out⟩,bf.out⟩
def newS:Sto:=⟨vO,[],jK 256,jK 256⟩
def Qa:Sto:=⟨vO,[(8,Zo (QA 0 []))],(jK 256).set 8 1,jK 256⟩
theorem newS_may:qj newS=Z:=by decide +kernel
theorem Wrs.nil(w:Oa)(B:Nat):Wrs w B (y E 0 0) []:=⟨[],rfl,⟨E,0,rfl,zM _,by simp[maxLen],Rd.none_⟩,λp h=>by cases h⟩
set_option maxRecDepth 100000 in
theorem vE:Gf Qa:=by
 have h1:vO.length=256:=by unfold vO;rw[List.length_replicate]
 have h2:∀l∈vO,l.length<1000000:=λl hl=>by unfold vO at hl;rw[List.mem_replicate]at hl;rw[hl.2,ZT];omega
 have h3:(Zo (QA 0 [])).length=128:=Vr zA1;refine⟨by show vO.length<_;omega,by show 1<1000000;omega,h2,λp hp=>?_,by show((jK 256).set 8 1).length<_;rw[List.length_set,ZT];omega,by show(jK 256).length<_;rw[ZT];omega⟩;have:p=(8,Zo (QA 0 [])):=by simpa [Qa]using hp
 rw[this];show(Zo (QA 0 [])).length<_;omega
set_option maxRecDepth 100000 in
theorem rnew_any(w:Oa):Calls prog 144 #[] w (zZ (λu W=>∃B n1 n2,u=Qo (I ⟨B,0,E⟩) 256 256 E 0 0 (I ⟨n1,0,E⟩) 256 256 (I ⟨n2,0,E⟩) 256 256/\Qh W W (y (I ⟨B,0,E⟩) 256 256) (y E 0 0) (y (I ⟨n1,0,E⟩) 256 256) (y (I ⟨n2,0,E⟩) 256 256) newS) w):=by
 go_enter func144,ntmps144;go_wp2_with fail;generalize aA:Oc _ _=w1;have x1:Ext w w1:=aA▸zN _ _;have q1:w1.heap[w.heap.size]?=I (U #[y E 0 0,y E 0 0,y E 0 0,y E 0 0] 28):=aA▸zI _ _ _ zA3;have z0:w1.heap.size=w+1:=by rw[<-aA];simp
 clear aA;refine(dnew_any w1).mono ?_;rintro e w2 ⟨u,rfl,⟨B,rfl,yl⟩,hB⟩;have hB:Ext w1 w2:=hB;have x2:=x1.trans hB;have q2:=qb q1 hB;have hx12:=hB;clear q1 hB x1;go_wp2_with fail;refine(qhq w2).mono ?_;rintro e w3 ⟨u,rfl,⟨rfl,eY⟩,hB⟩;have sS:Ext w2 w3:=hB;have x3:=x2.trans sS;have q3:=qb q2 sS;clear q2 hB;go_wp2_with fail;refine(qhq w3).mono ?_;rintro e w4 ⟨u,rfl,⟨rfl,uS⟩,hB⟩;have dM:Ext w3 w4:=hB;have x4:=x3.trans dM;have q4:=qb q3 dM;have hn14:=qb eY dM;have kq:=qa q4;have fq:=qe q4;have z23:=sS.size;have z34:=dM.size;have z2':=hx12.size;have P5:∀wx:Oa,wx=Ky w4 w.heap.size 0 [y (I ⟨B,0,E⟩) 256 256,y E 0 0,y (I ⟨w2.heap.size,0,E⟩) 256 256,y (I ⟨w3.heap.size,0,E⟩) 256 256] ->
   wx.heap[w.heap.size]?=I (U #[y (I ⟨B,0,E⟩) 256 256,y E 0 0,y (I ⟨w2.heap.size,0,E⟩) 256 256,y (I ⟨w3.heap.size,0,E⟩) 256 256] 28 (0,0))/\Below w.heap.size w wx /\
    Qh wx wx.heap.size (y (I ⟨B,0,E⟩) 256 256) (y E 0 0) (y (I ⟨w2.heap.size,0,E⟩) 256 256) (y (I ⟨w3.heap.size,0,E⟩) 256 256) newS:=λwx e=>by
  have hk:∀b,b≠w.heap.size->wx.heap[b]?=w4.heap[b]?:=λb h1=>by rw[e];exact jT h1 _ _ _
  have hs:wx.heap.size=w4:=by rw[e,Jy]
  have h1:=Bys.lit ((hk _ zO).trans hn14) (by rw[ZT];unfold maxLen;omega);have h2:=Bys.lit ((hk _ zO).trans uS) (by rw[ZT];unfold maxLen;omega);rw[ZT]at h1 h2;refine⟨by rw[e];refine(vn _ _ _ _ q4).trans ?_;simp[TA],by rw[e];exact jS (zM _) _ _ _ x4,?_,Wrs.nil _ _,h1,h2⟩;refine(yl wx λq h1 h2=>?_).more zO;refine(World.cell?_of_block (hk q.block zO)).trans ((World.cell?_of_block (dM.block q.block zO)).trans (World.cell?_of_block (sS.block q.block h2)))
 replace P5:=zH P5;clear yl eY uS hn14 q4 q3;go_wp2_with fail;have P5:=P5.out;generalize aS:O (O (O (O w4 _ _) _ _) _ _) _ _=w5;obtain⟨r5,x5,h5⟩:=P5 w5 aS.symm;clear P5 aS;have k5:=qa r5;exact bodyPost_ret (v:=Qo (I ⟨B,0,E⟩) 256 256 E 0 0 (I ⟨w2.heap.size,0,E⟩) 256 256 (I ⟨w3.heap.size,0,E⟩) 256 256) (by simp[results,results144,go_sem,k5]) rfl ⟨_,rfl,⟨B,_,_,rfl,h5⟩,x5⟩
set_option maxRecDepth 100000 in
theorem qjl(A1 c1 A3 c3 A4 c4)(w:Oa)(h:Qh w w (y A1 256 c1) (y E 0 0) (y A3 256 c3) (y A4 256 c4) newS):Calls prog 155 #[Qo A1 256 c1 E 0 0 A3 256 c3 A4 256 c4,jW 0 E 0 0] w (zZ (λu W=>∃v,u=.tuple #[v,Ob Od 8,Ob Od 0]/\QY w Qa v W) w):=by
 have HC:=zH (λW (hW:Ext w W)=>vl A1 256 c1 E 0 0 A3 256 c3 A4 256 c4 newS W (h.ext hW));rw[newS_may,show Va Z=0 from rfl]at HC;have HN:=zH (λW=>Kt 0 E 0 0 [] W (Its.nil W W.heap.size));rw[show Qj 0 []=Z from rfl,show Va Z=0 from rfl]at HN;have HO:=zH (λW (hW:Ext w W)=>qdc A1 256 c1 E 0 0 A3 256 c3 A4 256 c4 newS (by show(jK 256).length<_;rw[ZT];omega) W (h.ext hW));replace h:=zH h;go_enter func155,ntmps155;go_wp2_with fail;generalize aA:Oc (Oc (Oc _ _) _) _=w1;have x1:Ext w w1:=by rw[<-aA];exact((zN _ _).trans (zN _ _)).trans (zN _ _)
 have r1:w1.heap[w.heap.size]?=I (U #[y A1 256 c1,y E 0 0,y A3 256 c3,y A4 256 c4] 28):=by rw[<-aA];exact(zK _ _ _ zA2).trans ((zK _ _ _ zA3).trans (zI _ _ _ rfl))
 have p1:w1.heap[w.heap.size+1]?=I (U #[Ob Od 0,y E 0 0] 113):=by rw[<-aA];exact(zK _ _ _ zA3).trans (zI _ _ _ zA3)
 have q1:w1.heap[w.heap.size+1+1]?=I (U #[y E 0 0,y E 0 0,y E 0 0,y E 0 0] 28):=aA▸zI _ _ _ zA3;clear aA;refine(HC.out w1 x1).mono ?_;rintro e w2 ⟨rfl,hB⟩;have x2:Ext w w2:=x1.trans hB;have r2:=qb r1 hB;have p2:=qb p1 hB;have q2:=qb q1 hB;have kp:=qa p2;clear r1 p1 q1 x1 hB HC;go_wp2_with fail;refine(HN.out w2).mono ?_;rintro e w3 ⟨rfl,hB⟩;have x3:Ext w w3:=x2.trans hB;have r3:=qb r2 hB;have p3:=qb p2 hB;have q3:=qb q2 hB;have kr:=qa r3;clear r2 p2 q2 x2 hB HN kp;go_wp2_with fail;refine(HO.out w3 x3).mono ?_;rintro e w4 ⟨u,rfl,⟨b,B3,d3,rfl,aQ,aC,aB⟩,hB⟩;have dM:Ext w3 w4:=hB;have x4:Ext w w4:=x3.trans dM;have p4:=qb p3 dM;have q4:=qb q3 dM;have kp:=qa p4;have z3:=x3.size;obtain⟨g,rfl⟩:∃g,B3=I ⟨g,0,E⟩:=by
  obtain⟨h1,h2⟩:=aB;rcases h2 with⟨_,h0⟩|⟨g,_,_,e,_⟩
  cases h0;cases e;exact⟨g,rfl⟩
 have lW:Bls w4 w3 (y A1 256 c1) vO:=(h.out.bs.below x4).more z3;have q3z:=q3;have ha4:Bys w4 w3 (y A4 256 c4) (jK 256):=(h.out.last.below x4).more z3;have HM:=qjc b w3.heap.size A1 256 c1 g d3 A4 c4 vO (jK 256) (jK 256) (ZT _) (ZT _) zA1 zA1 w4 aQ aC aB lW ha4;replace HM:=zH HM;clear r3 p3 q3 hB kr lW ha4 aB aC HO;go_wp2_with fail;refine HM.out.mono ?_;rintro e w5 ⟨rfl,uK,A2,c2,sN,hS5⟩;have x5:Below w w w5:=Below.trans x4 (Below.mono uK z3);have z34:=dM.size;have zq:=(zG.1 q3z).1;have q5:=(uK.block (w.heap.size+1+1) zq).trans q4;have HT:=zH (Kk b A1 256 c1 A2 1 c2 (I ⟨g,0,E⟩) 256 d3 A4 256 c4 Qa vE w5 sN hS5);clear HM sN hS5 kp p4 q4;go_wp2_with fail;refine HT.out.mono ?_;rintro e w6 ⟨u,rfl,hT,hB⟩;have fU:Ext w5 w6:=hB;have x6:Below w w w6:=Below.trans x5 (Below.mono fU x5.size);have q6:=qb q5 fU;have kq:=qa q6;have fq:=qe q6;have z45:=uK.size;obtain⟨BB,WW,gg,B3,e3,B4,e4,rfl,hD,hN,hL⟩:=hT;have P5:∀wx:Oa,wx=Ky w6 (w.heap.size+1+1) 0 [y (I ⟨BB,0,E⟩) Qa.bs.length Qa.bs.length,y (I ⟨WW,0,E⟩) Qa.ws.length (Qa.ws.length+1),y B3 Qa.now.length e3,y B4 Qa.last.length e4] ->
   wx.heap[w.heap.size+1+1]?=I (U #[y (I ⟨BB,0,E⟩) Qa.bs.length Qa.bs.length,y (I ⟨WW,0,E⟩) Qa.ws.length (Qa.ws.length+1),y B3 Qa.now.length e3,y B4 Qa.last.length e4] 28 (0,0))/\Below w.heap.size w wx /\
    QY w.heap.size Qa (Qo (I ⟨BB,0,E⟩) Qa.bs.length Qa.bs.length (I ⟨WW,0,E⟩) Qa.ws.length (Qa.ws.length+1) B3 Qa.now.length e3 B4 Qa.last.length e4) wx:=λwx e=>by
  have hk:∀b,w5.heap.size<=b->b<w6.heap.size->wx.heap[b]?=w6.heap[b]?:=λb h1 _=>by rw[e];exact jT zO _ _ _
  have hs:w6.heap.size<=wx:=by rw[e,Jy];exact zM _
  refine⟨by rw[e];refine(vn _ _ _ _ q6).trans ?_;simp[TA],by rw[e];exact jS zO _ _ _ x6,BB,WW,gg,B3,e3,B4,e4,rfl,hD.keep x5.size hs hk,QC (ZZ hN hk) x5.size,QC (ZZ hL hk) x5.size⟩
 replace P5:=zH P5;clear hD hN hL q6 hB q5;go_wp2_with fail;have P5:=P5.out;generalize aS:O (O (O (O w6 _ _) _ _) _ _) _ _=w7;obtain⟨r5,x7,h5⟩:=P5 w7 aS.symm;clear P5 aS;have k5:=qa r5;exact bodyPost_ret (v:=.tuple #[Qo (I ⟨BB,0,E⟩) Qa.bs.length Qa.bs.length (I ⟨WW,0,E⟩) Qa.ws.length (Qa.ws.length+1) B3 Qa.now.length e3 B4 Qa.last.length e4,Ob Od 8,Ob Od 0]) (by simp[results,results155,go_sem,k5]) rfl ⟨_,rfl,⟨_,rfl,h5⟩,x7⟩
def qbS(lo:Nat)(u:Oe)(W:Oa):Prop:=∃BB WW g A3 c3 A4 c4,u=.agg (qR (y (I ⟨BB,0,E⟩) 256 256) (y (I ⟨WW,0,E⟩) 1 2) (y A3 256 c3) (y A4 256 c4) 0 8 1 (y E 0 0))/\vq lo Qa.bs Qa.ws BB WW g W /\
 W.ownsRow lo 5 1 (y A3 256 c3) 256 (Qa.now.map bv)/\W.ownsRow lo 5 1 (y A4 256 c4) 256 (Qa.last.map bv)
theorem XW:Qa.bs.length=256/\Qa.ws.length=1/\Qa.now.length=256/\Qa.last.length=256:=by refine⟨?_,rfl,?_,ZT _⟩;show vO.length=256;unfold vO;rw[List.length_replicate];show((jK 256).set 8 1).length=256;rw[List.length_set,ZT]
theorem qbS.sto(h:qbS lo u W):∃A1 c1 A2 c2 A3 c3 A4 c4,u=.agg (qR (y A1 256 c1) (y A2 1 c2) (y A3 256 c3) (y A4 256 c4) 0 8 1 (y E 0 0))/\Qh W W (y A1 256 c1) (y A2 1 c2) (y A3 256 c3) (y A4 256 c4) Qa:=by obtain⟨BB,WW,g,A3,c3,A4,c4,e,hD,hN,hL⟩:=h;obtain⟨l1,l2,l3,l4⟩:=XW;obtain⟨k1,k2⟩:=hD.reads vE.bs vE.ws vE.be vE.we W (λ_ _ _=>rfl);rw[l1]at k1;rw[l2]at k2;exact⟨_,_,_,_,A3,c3,A4,c4,e,k1,k2,Bys.of_own hN,Bys.of_own hL⟩
set_option maxRecDepth 100000 in
theorem qmq(A1 c1 A3 c3 A4 c4)(w:Oa)(h:Qh w w (y A1 256 c1) (y E 0 0) (y A3 256 c3) (y A4 256 c4) newS):Calls prog 102 #[Qo A1 256 c1 E 0 0 A3 256 c3 A4 256 c4] w (zZ (λu W=>∃v,u=.tuple #[v,Ob Od 8,Ob Od 0]/\QY w Qa v W) w):=by
 have HM:=zH (λW (hW:Ext w W)=>qjl A1 c1 A3 c3 A4 c4 W (h.ext hW));clear h;go_enter func102,ntmps102;go_wp2_with fail;generalize aA:Oc (Oc _ _) _=w1;have x1:Ext w w1:=by rw[<-aA];exact(zN _ _).trans (zN _ _)
 have q1:w1.heap[w.heap.size+1]?=I (U #[y E 0 0,y E 0 0,y E 0 0,y E 0 0] 28):=aA▸zI _ _ _ zA3;clear aA;refine(HM.out w1 x1).mono ?_;rintro e w6 ⟨u,rfl,⟨v,rfl,hT⟩,hB⟩;have fU:Ext w1 w6:=hB;have x6:Below w w w6:=x1.trans fU;have q6:=qb q1 fU;have kq:=qa q6;have fq:=qe q6;have z1:=(zG.1 q1).1;obtain⟨BB,WW,gg,B3,e3,B4,e4,rfl,hD,hN,hL⟩:=hT;have P5:∀wx:Oa,wx=Ky w6 (w.heap.size+1) 0 [y (I ⟨BB,0,E⟩) Qa.bs.length Qa.bs.length,y (I ⟨WW,0,E⟩) Qa.ws.length (Qa.ws.length+1),y B3 Qa.now.length e3,y B4 Qa.last.length e4] ->
   wx.heap[w.heap.size+1]?=I (U #[y (I ⟨BB,0,E⟩) Qa.bs.length Qa.bs.length,y (I ⟨WW,0,E⟩) Qa.ws.length (Qa.ws.length+1),y B3 Qa.now.length e3,y B4 Qa.last.length e4] 28 (0,0))/\Below w.heap.size w wx /\
    QY w.heap.size Qa (Qo (I ⟨BB,0,E⟩) Qa.bs.length Qa.bs.length (I ⟨WW,0,E⟩) Qa.ws.length (Qa.ws.length+1) B3 Qa.now.length e3 B4 Qa.last.length e4) wx:=λwx e=>by
  have hk:∀b,w1.heap.size<=b->b<w6.heap.size->wx.heap[b]?=w6.heap[b]?:=λb h1 _=>by rw[e];exact jT zO _ _ _
  have hs:w6.heap.size<=wx:=by rw[e,Jy];exact zM _
  refine⟨by rw[e];refine(vn _ _ _ _ q6).trans ?_;simp[TA],by rw[e];exact jS zO _ _ _ x6,BB,WW,gg,B3,e3,B4,e4,rfl,hD.keep x1.size hs hk,QC (ZZ hN hk) x1.size,QC (ZZ hL hk) x1.size⟩
 replace P5:=zH P5;clear hD hN hL q6 hB q1;go_wp2_with fail;have P5:=P5.out;generalize aS:O (O (O (O w6 _ _) _ _) _ _) _ _=w7;obtain⟨r5,x7,h5⟩:=P5 w7 aS.symm;clear P5 aS;have k5:=qa r5;exact bodyPost_ret (v:=.tuple #[Qo (I ⟨BB,0,E⟩) Qa.bs.length Qa.bs.length (I ⟨WW,0,E⟩) Qa.ws.length (Qa.ws.length+1) B3 Qa.now.length e3 B4 Qa.last.length e4,Ob Od 8,Ob Od 0]) (by simp[results,results102,go_sem,k5]) rfl ⟨_,rfl,⟨_,rfl,h5⟩,x7⟩
set_option maxRecDepth 100000 in
theorem fnew_any(w:Oa):Calls prog 86 #[] w (zZ (qbS w) w):=by
 obtain⟨l1,l2,l3,l4⟩:=XW;go_enter func86,ntmps86;go_wp2_with fail;generalize aA:Oc _ _=w1;have x1:Ext w w1:=aA▸zN _ _;have q1:w1.heap[w.heap.size]?=I (U (qR (y E 0 0) (y E 0 0) (y E 0 0) (y E 0 0) 0 0 0 (y E 0 0)) 32 (0,0)):=aA▸zI _ _ _ zA3;clear aA;refine(rnew_any w1).mono ?_;rintro e w2 ⟨u,rfl,⟨B,n1,n2,rfl,hS⟩,hB⟩;have dh:Ext w1 w2:=hB;have x2:Ext w w2:=x1.trans dh;have q2:=qb q1 dh;have z1:=(zG.1 q1).1;have z12:=dh.size;clear hB q1;have HP:=zH (qmq _ _ _ _ _ _ w2 hS);clear hS;go_wp2_with fail;refine HP.out.mono ?_;rintro e w6 ⟨u,rfl,⟨v,rfl,hT⟩,hB⟩;have fU:Ext w2 w6:=hB;have x6:Ext w w6:=x2.trans fU;have q6:=qb q2 fU;obtain⟨BB,WW,gg,B3,e3,B4,e4,rfl,hD,hN,hL⟩:=hT;rw[l1,l2,l3,l4];rw[l3]at hN;rw[l4]at hL;clear q2 hB HP;have kq:=qa q6;have fq:=qe q6;have zq:=(zG.1 q6).1;have P5:∀wx:Oa,wx=Ky w6 w.heap.size 0 [y (I ⟨BB,0,E⟩) 256 256,y (I ⟨WW,0,E⟩) 1 2,y B3 256 e3,y B4 256 e4,Ob .u32 0,Ob Od 8,Ob .u32 1,y E 0 0]->∀o:Obj,
   (wx.alloc o).heap[w.heap.size]?=I (U (qR (y (I ⟨BB,0,E⟩) 256 256) (y (I ⟨WW,0,E⟩) 1 2) (y B3 256 e3) (y B4 256 e4) 0 8 1 (y E 0 0)) 32 (0,0))/\Below w.heap.size w (wx.alloc o) /\
    qbS w.heap.size (.agg (qR (y (I ⟨BB,0,E⟩) 256 256) (y (I ⟨WW,0,E⟩) 1 2) (y B3 256 e3) (y B4 256 e4) 0 8 1 (y E 0 0))) (wx.alloc o):=λwx e o=>by
  have hs:wx.heap.size=w6:=by rw[e,Jy]
  have hk:∀b,w2.heap.size<=b->b<w6.heap.size->(wx.alloc o).heap[b]?=w6.heap[b]?:=λb h1 h2=>(zK _ _ _ zO).trans (by rw[e];exact jT zO _ _ _);have hs2:w6.heap.size<=(wx.alloc o).heap.size:=zA2;refine⟨(zK _ _ _ zO).trans (by rw[e];refine(vn _ _ _ _ q6).trans ?_;simp[TA,qR]),Below.alloc (by rw[e];exact jS (zM _) _ _ _ x6) zO _,BB,WW,gg,B3,e3,B4,e4,rfl,hD.keep x2.size hs2 hk,QC (ZZ hN hk) x2.size,QC (ZZ hL hk) x2.size⟩
 replace P5:=zH P5;clear hD hN hL q6;go_wp2_with fail;have P5:=P5.out;generalize aS:O (O (O (O (O (O (O (O w6 _ _) _ _) _ _) _ _) _ _) _ _) _ _) _ _=w7;obtain⟨r5,x7,h5⟩:=P5 w7 aS.symm (U #[y (I ⟨BB,0,E⟩) 256 256,y (I ⟨WW,0,E⟩) 1 2,y B3 256 e3,y B4 256 e4] 28);clear P5 aS;have k5:=qa r5;exact bodyPost_ret (v:=.agg (qR (y (I ⟨BB,0,E⟩) 256 256) (y (I ⟨WW,0,E⟩) 1 2) (y B3 256 e3) (y B4 256 e4) 0 8 1 (y E 0 0))) (by simp[results,results86,go_sem,k5]) rfl ⟨_,rfl,h5,x7⟩
def qU(X:Nat->Prop)(w C:Oa):Prop:=∀(q:Addr)(v:Oe),¬X q.block->w.cell? q=v->C.cell? q=v
section
variable {X Y:Nat->Prop} {w W C:World}
theorem qU.refl(X:Nat->Prop)(w:Oa):qU X w w:=λ_ _ _ h=>h
theorem qU.of_ext(h:Ext w C):qU X w C:=λ_ _ _ hv=>Ext.cell h hv
theorem qU.trans(h:qU X w W)(h':qU Y W C)(hY:∀k,k<w.heap.size->Y k->X k):qU X w C:=λq v hX hv=>h' q v (λhy=>hX (hY _ (World.block_lt_of_cell? w q hv) hy)) (h q v hX hv)
theorem qU.mono(h:qU X w C)(hX:∀k,k<w.heap.size->X k->Y k):qU Y w C:=λq v hY hv=>h q v (λhx=>hY (hX _ (World.block_lt_of_cell? w q hv) hx)) hv
theorem qU.set{p:Addr}(hp:X p.block)(u:Oe):qU X w (w.setCell p u):=λq v hX hv=>(World.cell?_setCell_other w p q u (λe=>by subst e;exact hX hp)).trans hv
theorem qU.of_heap(h:∀k,k<w.heap.size->¬X k->C.heap[k]?=w.heap[k]?):qU X w C:=λq v hX hv=>(World.cell?_of_block (h _ (World.block_lt_of_cell? w q hv) hX)).trans hv
theorem Rd.keepX{B size n:Nat}{A:OA}{xs:List Oe}(h:Rd w B size A n xs)(hs:0<size)(hk:qU X w C)(hX:∀k,k<B->¬X k):Rd C C size A n xs:=⟨h.1,λhn=>by
 obtain⟨b,off,e,hb,hc⟩:=h.2 hn;refine⟨b,off,e,?_,λj u hu=>hk _ _ (hX b hb) (hc j u hu)⟩;have hl:0<xs.length:=by rw[h.1];exact Nat.mul_pos hn hs
 exact World.block_lt_of_cell? C ⟨b,off+0,E⟩ (hk _ _ (hX b hb) (hc 0 _ (zL hl)))⟩
theorem Bys.keepX{B:Nat}{v:Oe}{l:List UInt8}(h:Bys w B v l)(hk:qU X w C)(hX:∀k,k<B->¬X k):Bys C C v l:=by obtain⟨A,c,e,hc,hm,hr⟩:=h;exact⟨A,c,e,hc,hm,hr.keepX zO hk hX⟩
end
def Kh(X:Nat->Prop)(w:Oa)(v:Oe)(xs:List It):Prop:=∀C,qU X w C->Its C C.heap.size v xs
theorem Kh.now{xs:List It}(h:Kh X w v xs):Its w w v xs:=h w (qU.refl _ _)
theorem Kh.trans{xs:List It}(h:Kh X w v xs)(hk:qU X w W)(hY:∀k,k<w.heap.size->Y k->X k):Kh Y W v xs:=λC hC=>h C (hk.trans hC hY)
theorem QQ{base size n:Nat}(h:w.ownsRow base e size v n xs)(hk:∀q,v.ownBlock=I q->w'.heap[q]?=w.heap[q]?):w'.ownsRow base e size v n xs:=
 ⟨h.1,h.2.imp id λ⟨g,cap,cur,e1,h3,h4,h5⟩=>⟨g,cap,cur,e1,h3,(hk g (by rw[e1];rfl)).trans h4,h5⟩⟩
theorem ZD{base size n:Nat}(h:w.ownsRow base e size v n xs)(hq:v.ownBlock=q):∃cur,w.heap[q]?=I (U cur e):=by
 rcases h.2 with⟨e1,_⟩|⟨g,cap,cur,e1,_,hg,_⟩
 rw[e1]at hq;cases hq;rw[e1]at hq;cases hq;exact⟨cur,hg⟩
def B3(b g:Nat)(k:Option Nat)(q:Nat):Prop:=q=b\/q=g\/k=q
def Uy(B:Nat)(D:Nat->Prop)(q:Nat):Prop:=B<=q/\¬D q
theorem Uy.keep(h:∀q,q<w.heap.size->q<B\/D q->W.heap[q]?=w.heap[q]?):qU (Uy B D) w W:=qU.of_heap λq hq hX=>h q hq (by
 by_cases hB:q<B;exact .inl hB
 ·right;by_cases hD:D q;exact hD
  ·exact absurd ⟨zO,hD⟩ hX)
def Yd(n:Nat)(D D':Nat->Prop):Prop:=∀q,D' q->D q\/n<=q
theorem Yd.refl(n:Nat)(D:Nat->Prop):Yd n D D:=λ_ h=>.inl h
theorem Yd.mono(h:Yd n D D')(hn:n'<=n):Yd n' D D':=λq hq=>(h q hq).imp id λh=>zO
theorem Yd.trans{D'':Nat->Prop}(h:Yd n D D')(h':Yd n' D' D'')(hn:n<=n'):Yd n D D'':=λq hq=>(h' q hq).elim (λh1=>h q h1) λh1=>.inr zO
structure Qi(lo b g:Nat)(k:Option Nat)(w W:Oa):Prop where
 below:Below lo w W
 rows:∀q,q<w.heap.size->¬B3 b g k q->W.heap[q]?=w.heap[q]?
def Zs(n:Nat)(k k':Option Nat):Prop:=∀q,k'=I q->k=I q\/n<=q
theorem Zs.refl(n:Nat)(k:Option Nat):Zs n k k:=λ_ h=>.inl h
theorem Zs.mono(h:Zs n k k')(hn:n'<=n):Zs n' k k':=λq hq=>(h q hq).imp id λh=>zO
theorem Zs.trans{k'':Option Nat}(h:Zs n k k')(h':Zs n' k' k'')(hn:n<=n'):Zs n k k'':=λq hq=>(h' q hq).elim (λh1=>h q h1) λh1=>.inr zO
section
variable {lo b g:Nat} {k k':Option Nat} {w W C:World}
theorem Qi.refl(lo b g:Nat)(k:Option Nat)(w:Oa):Qi lo b g k w w:=⟨Below.refl _ _,λ_ _ _=>rfl⟩
theorem Qi.of_ext(h:Ext w W)(hl:lo<=w):Qi lo b g k w W:=⟨Below.mono h hl,λq hq _=>Below.block h q hq⟩
theorem Qi.trans(h:Qi lo b g k w W)(h':Qi lo b g k' W C)(hk:Zs w k k'):Qi lo b g k w C:=⟨h.below.trans h'.below,λq hq hn=>(h'.rows q (by have:=h.below.size;omega) λhx=>hn (by
 rcases hx with e|e|e
 exact .inl e;exact .inr (.inl e)
 ·exact(hk q e).elim (λh=>.inr (.inr h)) λh=>zO)).trans (h.rows q hq hn)⟩
theorem Qi.keepX(h:Qi lo b g k w W):qU (B3 b g k) w W:=qU.of_heap λq hq hX=>h.rows q hq hX
theorem Qi.own(h:Qi lo b g k w W){base n size:Nat}{e:TypeId}{v:Oe}{xs:List Oe}(ho:w.ownsRow base e size v n xs)(hn:∀q,v.ownBlock=I q->¬B3 b g k q):W.ownsRow base e size v n xs:=QQ ho λq hq=>h.rows q (Qn ho q hq).2 (hn q hq)
theorem Qi.row(h:Qi lo b g k w W){q:Nat}{o:Obj}(hr:w.heap[q]?=o)(hn:¬B3 b g k q):W.heap[q]?=o:=(h.rows q (zG.1 hr).1 hn).trans hr
theorem B3.of_new(hk:Zs w k k'):∀q,q<w.heap.size->B3 b g k' q->B3 b g k q:=λq hq hx=>by
 rcases hx with e|e|e
 exact .inl e;exact .inr (.inl e);exact(hk q e).elim (λh=>.inr (.inr h)) λh=>zO
end
def WsB(D:Nat->Prop)(B lo b g:Nat)(k:Option Nat)(v:Oe)(ws:List (Int×List UInt8))(w:Oa):Prop:=∃ps:List ((Int×List UInt8)×Oe),ps.map (·.1)=ws /\
 ((k=E/\ws.length<=maxLen/\∃A,v=y A ws.length ws.length/\Rd w B 2 A ws.length (jF ps))\/(∃q,k=I q/\v.ownBlock=I q/\w.ownsRow lo 142 2 v ws.length (jF ps))) /\
 ∀p∈ps,(∃A c,p.2=y A p.1.2.length c)/\∀C,qU (Uy B D) w C->Bys C C.heap.size p.2 p.1.2
theorem WsB.ext{B lo b g:Nat}(h:WsB D B lo b g k v ws w)(hx:Ext w W)(hB:B<=w):WsB D B lo b g k v ws W:=by
 obtain⟨ps,e,hw,hp⟩:=h;refine⟨ps,e,?_,λp ag=>⟨(hp p ag).1,λC hC=>(hp p ag).2 C ((qU.of_ext hx).trans hC λ_ _ h=>h)⟩⟩;rcases hw with⟨e,hm,A,e2,hr⟩|⟨q,e,e2,how⟩
 exact .inl ⟨e,hm,A,e2,hr.below (Below.mono hx hB)⟩;exact .inr ⟨q,e,e2,QQ how λq' sG=>Below.block hx q' (Qn how q' sG).2⟩
theorem WsB.mono{B lo b g:Nat}(h:WsB D B lo b g k v ws w)(hD:∀q,D q->D' q):WsB D' B lo b g k v ws w:=by obtain⟨ps,e,hw,hp⟩:=h;exact⟨ps,e,hw,λp ag=>⟨(hp p ag).1,λC hC=>(hp p ag).2 C (hC.mono λq _ hx=>⟨hx.1,λh=>hx.2 (hD q h)⟩)⟩⟩
structure Bch(D:Nat->Prop)(B lo b g:Nat)(k:Option Nat)(S:Sto)(w:Oa):Prop where
 lob:lo<=b
 blo:B<=lo
 dB:∀q,D q->lo<=q/\q<w.heap.size/\¬B3 b g k q
 ex:∃A1 n1 c1 v2 c3 A4 c4,w.heap[b]?=I (U #[y A1 n1 c1,v2,y g 256 c3,y A4 256 c4] 223)/\w.ownsRow lo 5 1 (y g 256 c3) 256 (S.now.map bv) /\
  WsB D B lo b g k v2 S.ws w/\Bls w B (y A1 n1 c1) S.bs/\Bys w B (y A4 256 c4) S.last
section
variable {D:Nat->Prop} {B lo b g:Nat} {k:Option Nat} {S:Sto} {w W:World}
theorem Bch.size(h:Bch D B lo b g k S w):lo<=b/\b<w/\lo<=g/\g<w/\g≠b/\lo<=w/\∀q,k=I q->lo<=q/\q<w.heap.size/\q≠b/\q≠g:=by
 have h1:=h.lob;obtain⟨A1,n1,c1,v2,c3,A4,c4,hr,ho,⟨ps,_,hw,_⟩,_,_⟩:=h.ex;have hb:=(zG.1 hr).1;obtain⟨_,_,yK,xC⟩:=ZI ho;obtain⟨cur,hg⟩:=ZD ho (q:=g) rfl;refine⟨h1,hb,yK,xC,qM hg hr zA1,zO,λq hq=>?_⟩;rcases hw with⟨e,_⟩|⟨q',e,e2,how⟩
 rw[e]at hq;cases hq;rw[e]at hq;cases hq;obtain⟨cur2,hq2⟩:=ZD how e2;have:=Qn how _ e2;exact⟨this.1,this.2,qM hq2 hr zA1,qM hq2 hg zA1⟩
theorem Bch.b3(h:Bch D B lo b g k S w):∀q,B3 b g k q->lo<=q/\q<w.heap.size:=λq hq=>by
 obtain⟨h1,h2,h3,h4,_,_,h5⟩:=h.size;rcases hq with rfl|rfl|e
 exact⟨h1,h2⟩;exact⟨h3,h4⟩;exact⟨(h5 q e).1,(h5 q e).2.1⟩
theorem Bch.off(h:Bch D B lo b g k S w):∀q,q<B->¬B3 b g k q:=λq hq hx=>by have h1:=h.blo;have:=(h.b3 q hx).1;omega
theorem Bch.offk(h:Bch D B lo b g k S w):∀q,B3 b g k q->¬(q<B\/D q):=λq hx hq=>hq.elim (λh1=>h.off q h1 hx) λh1=>(h.dB q h1).2.2 hx
theorem Bch.keep(h:Bch D B lo b g k S w)(hB:Below B w W)(hr:∀q,B3 b g k q\/D q->W.heap[q]?=w.heap[q]?):Bch D B lo b g k S W:=by
 have hs:=hB.size;have hx:qU (Uy B D) w W:=Uy.keep λq hq h1=>h1.elim (λh1=>hB.block q h1) λh1=>hr q (.inr h1);obtain⟨A1,n1,c1,v2,c3,A4,c4,oQ,ho,⟨ps,e,hw,hp⟩,h1,h4⟩:=h.ex;refine⟨h.lob,h.blo,λq hq=>⟨(h.dB q hq).1,by have:=(h.dB q hq).2.1;omega,(h.dB q hq).2.2⟩,A1,n1,c1,v2,c3,A4,c4,(hr _ (.inl (.inl rfl))).trans oQ,QQ ho (λq hq=>by cases hq;exact hr _ (.inl (.inr (.inl rfl)))),⟨ps,e,?_,λp ag=>⟨(hp p ag).1,λC hC=>(hp p ag).2 C (hx.trans hC λ_ _ h=>h)⟩⟩,h1.below hB,h4.below hB⟩;rcases hw with⟨e,hm,A,e2,hr⟩|⟨q,e,e2,how⟩
 exact .inl ⟨e,hm,A,e2,hr.below hB⟩;exact .inr ⟨q,e,e2,QQ how λq' sG=>by rw[e2]at sG;cases sG;exact hr q (.inl (.inr (.inr e)))⟩
theorem Bch.ext(h:Bch D B lo b g k S w)(hx:Ext w W):Bch D B lo b g k S W:=by have h6:=h.size.2.2.2.2.2.1;have h1:=h.blo;exact h.keep (Below.mono hx zO) λq hq=>Below.block hx q (hq.elim (λh2=>(h.b3 q h2).2) λh2=>(h.dB q h2).2.1)
theorem Bch.keepX{X:Nat->Prop}(h:Bch D B lo b g k S w)(hB:Below B w W)(hr:∀q,q<w.heap.size->¬X q->W.heap[q]?=w.heap[q]?)(hX:∀q,B3 b g k q\/D q->¬X q):Bch D B lo b g k S W:=
 h.keep hB λq hq=>hr q (hq.elim (λh2=>(h.b3 q h2).2) λh2=>(h.dB q h2).2.1) (hX q hq)
theorem Bch.mono{D':Nat->Prop}(h:Bch D B lo b g k S w)(hD:∀q,D q->D' q)(hB:∀q,D' q->lo<=q/\q<w.heap.size/\¬B3 b g k q):Bch D' B lo b g k S w:=by obtain⟨A1,n1,c1,v2,c3,A4,c4,oQ,ho,hw,h1,h4⟩:=h.ex;exact⟨h.lob,h.blo,hB,A1,n1,c1,v2,c3,A4,c4,oQ,ho,hw.mono hD,h1,h4⟩
theorem Bch.count(h:Bch D B lo b g k S w){a:Nat}(ha:a<256)(x:UInt8):Bch D B lo b g k (qp S (S.now.set a x)) (w.setCell (g,a) (bv x))/\Qi lo b g k w (w.setCell (g,a) (bv x)):=by
 obtain⟨fZ,_,yK,_,uP,_,h5⟩:=h.size;have cZ:=h.blo;have hkd:=h.offk;obtain⟨A1,n1,c1,v2,c3,A4,c4,hr,ho,⟨ps,e,hw,hp⟩,h1,h4⟩:=h.ex;have hK:Qi lo b g k w (w.setCell (g,a) (bv x)):=⟨Below.setCell (Below.refl _ _) (p:=⟨g,a,E⟩) yK _,λq _ hn=>zJ _ _ _ _ λe=>hn (.inr (.inl e))⟩
 have hX:qU (Uy B D) w (w.setCell (g,a) (bv x)):=Uy.keep λq _ hq=>zJ _ _ _ _ λe=>hkd g (.inr (.inl rfl)) (by have e':q=g:=e;exact e'▸hq);have hB:Below B w (w.setCell (g,a) (bv x)):=Below.setCell (Below.refl _ _) (p:=⟨g,a,E⟩) (by show B<=g;omega) _;refine⟨⟨fZ,cZ,λq hq=>by simpa using h.dB q hq,A1,n1,c1,v2,c3,A4,c4,(zJ _ _ _ _ λe=>uP e.symm).trans hr,qbW ho ha x,⟨ps,e,?_,λp ag=>⟨(hp p ag).1,λC hC=>(hp p ag).2 C (hX.trans hC λ_ _ h=>h)⟩⟩,h1.below hB,h4.below hB⟩,hK⟩;rcases hw with⟨e,hm,A,e2,hr⟩|⟨q,e,e2,how⟩
 exact .inl ⟨e,hm,A,e2,hr.below hB⟩;exact .inr ⟨q,e,e2,QQ how λq' sG=>by rw[e2]at sG;cases sG;exact zJ _ _ _ _ (h5 q e).2.2.2⟩
theorem qhj(ps:List ((Int×List UInt8)×Oe))(p:(Int×List UInt8)×Oe):jF (ps++[p])=jF ps++[Ob Od p.1.1,p.2]:=by
 induction ps with
 |nil=>rfl
 |cons a r ih=>simp[jF,ih]
theorem Bch.sto(h:Bch D B lo b g k S w):∃A1 n1 c1 A2 n2 c2 c3 A4 c4,w.heap[b]?=I (U #[y A1 n1 c1,y A2 n2 c2,y g 256 c3,y A4 256 c4] 223)/\Qh w w (y A1 n1 c1) (y A2 n2 c2) (y g 256 c3) (y A4 256 c4) S:=by
 have h6:=h.size.2.2.2.2.2.1;have cZ:=h.blo;obtain⟨A1,n1,c1,v2,c3,A4,c4,hr,ho,⟨ps,e,hw,hp⟩,h1,h4⟩:=h.ex;have hv:∃A2 n2 c2,v2=y A2 n2 c2/\Wrs w w (y A2 n2 c2) S.ws:=by
  rcases hw with⟨_,hm,A,rfl,sJ⟩|⟨q,_,_,how⟩
  exact⟨A,_,_,rfl,ps,e,⟨A,_,rfl,zM _,hm,sJ.more zO⟩,λp ag=>⟨(hp p ag).1,(hp p ag).2 w (qU.refl _ _)⟩⟩;obtain⟨A,c,rfl,dP,au⟩:=qC how;exact⟨A,_,_,rfl,ps,e,⟨A,c,rfl,dP,au,Rd.of_own how⟩,λp ag=>⟨(hp p ag).1,(hp p ag).2 w (qU.refl _ _)⟩⟩
 obtain⟨A2,n2,c2,rfl,hW⟩:=hv;exact⟨A1,n1,c1,A2,n2,c2,c3,A4,c4,hr,h1.more zO,hW,Bys.of_own ho,h4.more zO⟩
end
structure qgR(F:Fence):Prop where
 fn:∀f,F.fn f
 depth:¬F.depth.isSome=Z
 call:∀{n:Nat}{P:Program}{f:FuncId}{args:Array Oe}{w:Oa}{R:Ending->Oa->Prop},Calls P f args w R->CallsIn F n P f args w R
theorem wideF:qgR Fence.wide:=⟨λ_=>trivial,λh=>(by cases h),λh=>callsIn_wide.2 h⟩
theorem vA(l:Nat):qgR (Fence.wide.inRound l):=⟨λ_=>trivial,λh=>(by cases h),λh=>CallsIn.inRound l (callsIn_wide.2 h)⟩
def Xm(ops:Array Oper):Bool:=ops.toList.all λo=>match o.op with | .defer _=>false|_=>Z
theorem Xn(h:Xm ops=Z)(ho:ops[i]?=o):∀c,o.op≠.defer c:=by intro c hc;have h1:=List.all_eq_true.1 h o (by have:=Array.mem_of_getElem? ho;simpa using this);rw[hc]at h1;cases h1
section
variable {F:Fence} {P:Program} {ops:Array Oper} {n:Nat}
theorem qbK{Q':Exit->Act->Oa->Prop}:∀(l:List Oper)(k:Nat)(listed:Array Bool)(a:Act)(W:Oa),(∀j,j<l.length->l[j]?=ops[k+j]?)->qaa ops l.length k listed=Z->wpListIn F n P ops Q' l a W->wpAnyIn F n P .any ops Q' l.length listed a W
 |[],_,_,_,_,_,hB,h=>⟨by simpa [qaa]using hB,h⟩
 |o::l,k,listed,a,W,hl,hB,h=>by
  simp only[List.length_cons,qaa,Bool.and_eq_true]at hB;obtain⟨hr,mi⟩:=hB;have iq:Region.ready .any ops listed=[k]:=by simpa using hr
  have h0:ops[k]?=o:=by simpa using(hl 0 zA3).symm
  refine⟨λe=>(by rw[iq]at e;cases e),λi hi=>?_⟩;rw[iq]at hi;obtain rfl:i=k:=by simpa using hi
  have xJ:∀j,j<l.length->l[j]?=ops[i+1+j]?:=λj hj=>by have:=hl (j+1) (by simpa using hj);simpa [Nat.add_assoc,Nat.add_comm 1 j]using this
  refine wpOpIn_mono (λa w hw=>qbK l (i+1) _ a w xJ mi hw) ?_;unfold wpOpIn;simp only[h0];exact h
end
section
variable {F0:Fence} {R:Rel} {P:Program} {ops:Array Oper} {w0:World} {n:Nat}
theorem qbR(HF:qgR F0)(HN:Xm ops=Z){H:Nat->Option Qb}{i:Nat}{o:Oper}{a:Act}{F:qN}{K:Act->qN->Prop}{K':Act->Oa->Prop}{Q':Exit->Act->Oa->Prop}{W:Oa}(hi:ops[i]?=o)(hH:∀i h,H i=I h->∀p,qS R (h.φ p))(aJ:∀k,qS R (F k))(hW:R.r w0 W)(hF:∀k,F k W)(hK:∀a' F' W',K a' F'->(∀k,qS R (F' k))->R.r w0 W'->(∀k,F' k W')->K' a' W')(h:FOpG R P ops w0 H i o K a F):wpOpIn F0 n P ops Q' i K' a W:=by
 obtain⟨hh,hok,hn⟩:=h;have go:∀p W',R.r W W'->hh.φ p W'->K' (a.put o.dst (hh.f p)) W':=λp W' he hφ=>by
  have nC:∀k,upd F i o (hh.φ p) k W':=λk=>by unfold upd;split;exact⟨hφ,λj _=>aJ j _ _ he (hF j)⟩;exact aJ k _ _ he (hF k)
  exact hK _ _ W' (hn p ⟨W',R.trans hW he,nC⟩) (jo aJ i o (hok.stable hH p)) (R.trans hW he) nC
 unfold wpOpIn;simp only[hi];rcases hok with⟨x1,rfl⟩|⟨x1,x2,v,rfl,x3⟩|⟨x1,x2,x3⟩
 simp only[x1,Bool.false_eq_true,if_false];exact⟨λf _=>HF.fn f,go () W (R.refl W) trivial⟩;simp only[x1,if_true];obtain⟨w',hr,he⟩:=x3 W hW λk _=>hF k;refine⟨λf _=>HF.fn f,?_⟩;rw[Oper.semAt_eq _ _ _ (Xn HN hi),hr];exact go () w' he trivial;simp only[x1,if_true];have h3:=x3 W hW λk _=>hF k;unfold Qs at h3;refine⟨λf _=>HF.fn f,?_⟩;rw[Oper.semAt_eq _ _ _ (Xn HN hi)];generalize(execOp a.eval o).run P W=r at*;cases r with
 |ok m w'=>
  cases m<;>simp only[Zp]at h3<;>simp only[Oper.uponIn]
  case value u=>obtain⟨p,rfl,hp,he⟩:=h3;exact go p w' he hp
  case skip=>
   obtain⟨p,e,hp,he⟩:=h3;have:=go p w' he hp
   rwa [<-e]at this
  case enter f args=>obtain⟨he,az⟩:=h3;refine⟨λh=>absurd h HF.depth,HF.call (az.mono λe w'' ⟨p,he1,hp,iW⟩=>?_)⟩;subst he1;exact go p w'' (R.trans he iW) hp
 |halt x w'=>simp only[Zp]at h3
theorem YS(HF:qgR F0)(HN:Xm ops=Z){H:Nat->Option Qb}(hH:∀i h,H i=I h->∀p,qS R (h.φ p)){L:Array Bool}{t:Nat}{Q:Act->qN->Prop}{Q':Exit->Act->Oa->Prop}(hQ:∀a F W,Q a F->R.r w0 W->(∀k,F k W)->wpAnyIn F0 n P .any ops Q' t L a W):∀(fuel:Nat)(listed:Array Bool)(a:Act)(F:qN)(W:Oa),(∀k,qS R (F k))->R.r w0 W->(∀k,F k W)->kR R P ops w0 H L Q fuel listed a F->wpAnyIn F0 n P .any ops Q' (fuel+t) listed a W
 |0,listed,a,F,W,_,hW,hF,h=>by rw[h.1,Nat.zero_add];exact hQ a F W h.2 hW hF
 |fuel+1,listed,a,F,W,aJ,hW,hF,h=>by rw[show fuel+1+t=fuel+t+1 by omega];refine⟨λh0=>absurd h0 h.1,λi hi=>?_⟩;obtain⟨_,o,ho,_⟩:=mem_ready.1 hi;exact qbR HF HN ho hH aJ hW hF (λa' F' W' hk eQ bZ nC=>YS HF HN hH hQ fuel _ a' F' W' eQ bZ nC hk) (h.2 i hi o ho)
theorem zv{id:Nat}{l:List Oper}{Q:Exit->Act->Oa->Prop}{a:Act}{w:Oa}(R:Rel)(H:Nat->Option Qb)(M:List Bool)(t:Nat)(HF:qgR F0)(HN:Xm l.toArray=Z)(hm:P.follows .mixedOrders=Z)(hs:Region.noSelect l.toArray=Z)(ht:qfr l.toArray (QW l.length (l.length-t)) ((qv 0 l M).map (·.1))=Z)(dX:YX l.toArray (Array.replicate l.length false)=Z)(hB:Zu l.toArray (QW l.length (l.length-t)) ((qv 0 l M).map (·.1)) (Array.replicate l.length false)=Z)(mD:qaa l.toArray t (l.length-t) (QW l.length (l.length-t))=Z)(hfu:l.length=(qv 0 l M).length+t)(mO:(l.drop (l.length-t)).length=t)(hH:∀i h,H i=I h->∀p,qS R (h.φ p))(hW:R.r w w.drew)(h:∀K:Act->qN->Prop,(∀a' F',(∀W,R.r w W->(∀k,F' k W)->wpListIn F0 n P l.toArray Q (l.drop (l.length-t)) a' W)->K a' F')->jC R P l.toArray w H K (qv 0 l M) a (λ_ _=>True)):(Code.region id l.toArray Z).wpIn F0 n P Q a w:=by
 have h:=h _ (λa' F' hh=>hh);refine wpIn_region_any hm ?_;have key:=TF (w0:=w) hH hs (λ_ _ h=>h.step) (Xy ht) (qv 0 l M) (Array.replicate l.length false) a (λ_ _=>True) (vC dX) (λx hx=>by obtain⟨j,h1,h2⟩:=vK l M 0 x hx;refine⟨?_,List.mem_map.2 ⟨x,hx,rfl⟩⟩;rw[h1,Nat.zero_add];simpa using h2) hB (λ_ _ _ _ _=>trivial) ⟨w.drew,hW,λ_=>trivial⟩ (λ_ _ _=>trivial) h;have:=YS (n:=n) (w0:=w) HF HN hH (t:=t) (Q':=Q) (λa F W hq hW hF=>by
  have:=qbK (F:=F0) (n:=n) (l.drop (l.length-t)) (l.length-t) _ a W (λj _=>by rw[List.getElem?_drop];simp) (by rw[mO];exact mD) (hq W hW hF)
  rwa [mO]at this) _ _ _ _ w.drew (λ_ _ _ _ _=>trivial) hW (λ_=>trivial) key
 rw[<-hfu]at this;simpa using this
end
end Go.Proofs.YtmeadnlmepcmbaaGreat
namespace Go.Proofs.YtmeadnlmepcmbaaGreat
open Go.RowKit Go.Shelf
attribute [local go_sem] Oper.semAt_some
variable {k m B:Nat}{S:Sto}{w:World}{v:Value}
def Yx(S:Sto)(a:Nat):Nat:=(S.last[a]?.getD 0).toNat
def jx(S:Sto)(a:Nat):Bool:=decide (8<=a)&&(decide (js S a=0)&&decide (Yx S a=0))
def JJ(S:Sto)(k:Nat):List Nat:=(List.range k).filter (jx S)
def jd(S:Sto):List Nat:=JJ S 256
theorem XY(S:Sto)(k:Nat):JJ S (k+1)=if jx S k=Z then JJ S k++[k]else JJ S k:=by unfold JJ;rw[List.range_succ,List.filter_append];by_cases h:jx S k=Z;rw[if_pos h];simp[h];rw[if_neg h];simp[h]
theorem qjq(S:Sto)(k:Nat):(JJ S k).length<=k:=Nat.le_trans (List.length_filter_le _ _) zA3
theorem freeTo_8(S:Sto):JJ S 8=[]:=by
 unfold JJ;rw[List.filter_eq_nil_iff];intro a ha;have:a<8:=by simpa using ha
 unfold jx;simp[show ¬8<=a by omega]
theorem qcv(S:Sto)(h:k<=m):JJ S k <+:JJ S m:=by
 induction m with
 |zero=>
  obtain rfl:k=0:=zO;exact List.prefix_refl _
 |succ m ih=>
  rcases Nat.lt_or_ge m k with h1|h1
  obtain rfl:k=m+1:=zO;exact List.prefix_refl _;refine(ih h1).trans ?_;rw[XY];split;exact List.prefix_append _ _;exact List.prefix_refl _
theorem qkY(S:Sto)(a:Nat):js S a<256:=UInt8.toNat_lt _
theorem qhN(S:Sto)(a:Nat):Yx S a<256:=UInt8.toNat_lt _
theorem qld(a b:Nat)(ha:a<256)(hb:b<256):(bits .or .u8 (a:Int) (b:Int)==0)=(decide (a=0)&&decide (b=0)):=by
 have e:bits .or .u8 (a:Int) (b:Int)=((a||| b:Nat):Int):=by
  have e:∀n:Nat,n<256->(BitVec.ofInt 8 (n:Int)).toNat=n:=λn hn=>by simp[BitVec.ofInt_natCast];omega
  have hx:a||| b<2^8:=Nat.or_lt_two_pow zO zO
  show IntKind.u8.wrap (((BitVec.ofInt 8 (a:Int)||| BitVec.ofInt 8 (b:Int)).toNat:Nat):Int)=_;rw[BitVec.toNat_or,e a ha,e b hb];simp[IntKind.wrap,IntKind.bits,IntKind.signed];omega
 rw[e];by_cases h:a=0/\b=0;obtain⟨rfl,rfl⟩:=h;rfl;have h2:a||| b≠0:=by
  intro h3;have h4:a<=a||| b:=Nat.left_le_or
  have h5:b<=a||| b:=Nat.right_le_or
  exact h ⟨zO,zO⟩
 have h6:(decide (a=0)&&decide (b=0))=false:=by
  rcases Nat.eq_zero_or_pos a with h7|h7
  have:b≠0:=λh8=>h ⟨h7,h8⟩;simp[this];simp[show a≠0 by omega]
 rw[h6];simpa using λh9:((a||| b:Nat):Int)=0=>h2 zO
theorem last_at(hS:qj S=Z)(h:Bys w B v S.last):∃b o c,v=y (I ⟨b,o,E⟩) 256 c/\b<B/\∀a,a<256->w.cell? ⟨b,o+a,E⟩=I (Ob .u8 (Yx S a:Int)):=by obtain⟨-,-,-,hl⟩:=qZ hS;obtain⟨A,c,e,hc,hm,hr⟩:=h;obtain⟨b,o,rfl,hb,aF⟩:=hr.2 zO;rw[hl]at e;exact⟨b,o,c,e,hb,λa ha=>aF a _ (by rw[List.getElem?_map,zL zO];unfold Yx;rw[zL zO];rfl)⟩
set_option maxRecDepth 100000 in
theorem free_in(n:Nat)(hn:1<=n)(l bs n₀:Nat)(v1 v2 v3 v4:Oe)(S:Sto)(hS:qj S=Z)(J Jx:List Nat->Oa->Prop)(hY:∀pre x W,J pre W->pre.length<256->YieldAt Fence.wide (n-1) prog l #[Ob Od ((x:Nat):Int)] W λe W'=>(e=.returned (.bool Z)/\J (pre++[x]) W'/\Below n₀ W W')\/(e=.returned (.bool false)/\Jx (pre++[x]) W'))(hJ:∀pre W W',J pre W->Ext W W'->J pre W')(W:Oa)(yl:bs<n₀)(hn₀:n₀<=W)(aC:W.heap[bs]?=I (U #[v1,v2,v3,v4] 28))(aJ:Qh W n₀ v1 v2 v3 v4 S)(h0:J [] W):CallsIn Fence.wide n prog 187 #[.func (.yield l) #[] #[],Of bs] W λe W'=>(∃v,e=.returned v)/\((∃ys,ys=jd S/\J ys W')\/(∃pre,pre <+:jd S/\Jx pre W')):=by
 obtain⟨b3,o3,c3,rfl,dC,su⟩:=qcW hS aJ.now;obtain⟨b4,o4,c4,rfl,lW,hc4⟩:=last_at hS aJ.last;replace aJ:=zH aJ;refine callsIn_of_wp func187 rfl trivial ?_ rfl;simp only[ntmps187,List.size_toArray,List.length_cons,List.length_nil,Nat.reduceAdd,Nat.reduceSub,Array.replicate_succ,Array.replicate_zero,List.push_toArray,List.append_toArray,List.nil_append,List.cons_append]
 gi_wp2_with fail
 gi_loopw [3] (λi wr=>∃k:Nat,8<=k/\k<=256/\i=Ob Od (k:Int)/\J (JJ S k) wr/\Below n₀ W wr) (λi _=>256-(intOf i).toNat)
 case atStart=>exact⟨8,zO,zO,rfl,by rw[freeTo_8];exact h0,Below.refl _ _⟩
 case round=>
  obtain⟨k,hk8,hk,rfl,iI,hB⟩:=hrel;have oQ:=(hB.block bs yl).trans aC;by_cases hlt:k<256
  ·have oH:=(World.cell?_of_block (a:=⟨b3,o3+k,E⟩) (hB.block b3 dC)).trans (su k hlt);have yt:=(World.cell?_of_block (a:=⟨b4,o4+k,E⟩) (hB.block b4 lW)).trans (hc4 k hlt);have gS:∀W',qm.r wr W'->∀i,W'.cell? ⟨bs,i,E⟩=#[v1,v2,y (b3,o3) 256 c3,y (b4,o4) 256 c4][i]?:=λW' h=>qa (qb oQ h);have gX:∀W',qm.r wr W'->W'.cell? (b3,o3+k)=I (Ob .u8 (js S k:Int)):=λW' h=>Ext.cell h oH;have gY:∀W',qm.r wr W'->W'.cell? (b4,o4+k)=I (Ob .u8 (Yx S k:Int)):=λW' h=>Ext.cell h yt;have rO:=zH (XY S k);have uw:jx S k=(decide (js S k=0)&&decide (Yx S k=0)):=by unfold jx;simp[hk8]
   have hbz:(bits .or .u8 ((js S k:Nat):Int) ((Yx S k:Nat):Int)==0)=jx S k:=qld _ _ (qkY S k) (qhN S k)▸uw.symm;generalize js S k=nw at*;generalize Yx S k=lw at*;replace⟨uw,su,hc4,oQ⟩:=zH4 uw su hc4 oQ;have xO:=zH (qjq S k);clear oH yt;rcases Bool.eq_false_or_eq_true (jx S k)with hfr|hfr
   ·rw[hfr]at hbz;replace rO:=zH ((if_pos hfr)▸rO.out);replace hfr:=zH hfr
    gi_upto_region 3 with fail
    refine zv qm (qP []) (List.replicate 15 Z) 3 wideF zQ zQ zQ zQ zQ zQ zQ zQ zQ ?st (Rel.drew _ _) ?walk
    case st=>intro i h hx;simp[qP]at hx
    case walk=>
     intro K hK;dsimp only[qv,List.replicate];refine zB7 ?_
     first
      |(refine qd (Of (I ⟨b3,o3+k,E⟩)) zA0 zA0 (λW hW _=>⟨W,?_,Rel.refl _ W⟩) ?_
        ·go_simp;rw[IntWalk.i64_in (k:Int) zO,if_pos zO];simp
        simp only[Act.put,ql,qf,qc,qg,zA,zB,zC])
      |skip
     refine zB7 ?_
     first
      |(refine qd (Of (I ⟨b4,o4+k,E⟩)) zA0 zA0 (λW hW _=>⟨W,?_,Rel.refl _ W⟩) ?_
        ·go_simp;rw[IntWalk.i64_in (k:Int) zO,if_pos zO];simp
        simp only[Act.put,ql,qf,qc,qg,zA,zB,zC])
      |skip
     refine zB7 ?_;refine qB (hK _ _ λW2 hW hF=>?_);clear hF hK;refine zB6 ?_;obtain⟨fn,tm,asg,bdy,hy,hR⟩:=hY (JJ S k) k W2 (hJ _ _ _ iI hW) (by have:=xO.out;omega)
     gi_wp2_with fail
     refine hR.mono ?_;rintro e W3 (⟨rfl,hJ3,gy⟩|⟨rfl,lY⟩)
     ·gi_wp2_with fail
      go_roundw
      case rel=>exact⟨k+1,zO,zO,by go_num,by rw[rO.out];exact hJ3,hB.trans ((Below.mono hW (Nat.le_trans hn₀ hB.size)).trans gy)⟩
      case measure=>simp[intOf];omega
     gi_wp2_with fail
     refine bodyPost_ret (results_none rfl _ _ _) rfl ?_;exact⟨⟨_,rfl⟩,.inr ⟨_,rO.out▸qcv S zO,lY⟩⟩
   rw[hfr]at hbz;replace rO:=zH ((if_neg (show ¬jx S k=Z by rw[hfr];decide))▸rO.out);replace hfr:=zH hfr
   gi_upto_region 3 with fail
   refine zv qm (qP []) (List.replicate 15 Z) 3 wideF zQ zQ zQ zQ zQ zQ zQ zQ zQ ?st (Rel.drew _ _) ?walk
   case st=>intro i h hx;simp[qP]at hx
   case walk=>
    intro K hK;dsimp only[qv,List.replicate];refine zB7 ?_
    first
     |(refine qd (Of (I ⟨b3,o3+k,E⟩)) zA0 zA0 (λW hW _=>⟨W,?_,Rel.refl _ W⟩) ?_
       ·go_simp;rw[IntWalk.i64_in (k:Int) zO,if_pos zO];simp
       simp only[Act.put,ql,qf,qc,qg,zA,zB,zC])
     |skip
    refine zB7 ?_
    first
     |(refine qd (Of (I ⟨b4,o4+k,E⟩)) zA0 zA0 (λW hW _=>⟨W,?_,Rel.refl _ W⟩) ?_
       ·go_simp;rw[IntWalk.i64_in (k:Int) zO,if_pos zO];simp
       simp only[Act.put,ql,qf,qc,qg,zA,zB,zC])
     |skip
    refine zB7 ?_;refine qB (hK _ _ λW2 hW hF=>?_);clear hF hK;refine zB6 ?_;refine⟨λ_ h=>(by cases h),?_⟩
    gi_wp2_with fail
    go_roundw
    case rel=>exact⟨k+1,zO,zO,by go_num,by rw[rO.out];exact hJ _ _ _ iI hW,hB.trans (Below.mono hW (Nat.le_trans hn₀ hB.size))⟩
    case measure=>simp[intOf];omega
  gi_wp2_with fail
  obtain rfl:k=256:=zO;go_end0;exact⟨⟨_,rfl⟩,.inl ⟨_,rfl,iI⟩⟩
end Go.Proofs.YtmeadnlmepcmbaaGreat
namespace Go.Proofs.YtmeadnlmepcmbaaGreat
open Go.RowKit
variable {F:Fence}{n nf:Nat}{P:Program}{ops:Array Oper}{l rest:List Oper}{a:Act}{w:World}{Q:Exit->Act->World->Prop}{o:Oper}
theorem Yq(h:Qm (wpListIn F n P ops Q l a w)):wpListIn F n P ops Q l a w:=h
theorem Yp(w:Oa)(fV:o.guard=E)(s x:Operand)(t:TypeId)(ho:o.op=.call {callee:=.builtin .append,args:=#[s,x],argTypes:=#[t,t]})(base:Nat)(e:TypeId)(i:TypeInfo)(z:Oe)(size bytes:Nat)(ht:P.underlying t=I (.slice e))(hi:P.info? e=i)(hz:i.zero=z)(fJ:i.size=size)(af:i.bytes=bytes)(sQ:z.cells.size=size)(hsz:0<size)(v:Oe)(n:Nat)(xs:List Oe)(hs:a.eval s=v)(aB:w.ownsRow base e size v n xs)(cs:Array Oe)(hx:a.eval x=y w 1 1)(hl:cs.size=size)(h1:∀u∈cs.toList,u.oneCell'=Z)(hn:n<1073741824)(fD:bytes<=65536)(oG:base<=w)(h:∀v' w',w'.ownsRow base e size v' (n+1) (xs++cs.toList)->w.grownBy w' v.ownBlock->(v'.ownBlock=v.ownBlock\/∃g,v'.ownBlock=I g/\w.heap.size<=g)->wpListIn F nf P ops Q rest (a.put o.dst v') w'):wpListIn F nf P ops Q (o::rest) a (w.alloc (U cs e)):=by
 refine wpListIn_plain fV λK hK=>?_;have hb:(n+1)*bytes<=140737488355328:=Nat.le_trans (Nat.mul_le_mul_left _ fD) zO;have hm:n+1<=maxLen:=zA7;obtain⟨v',w',bH,h2,h3,_,h5⟩:=run_append_own_at (P:=P) (w.alloc (U cs e)) base t o.type e i z size bytes ht hi hz fJ af sQ hsz v n xs (aB.alloc _) ⟨w.heap.size,0,E⟩ 1 1 cs.toList
  (by rw[Array.length_toList];omega) (XR w cs e) h1 hm hb zA2
 have hg:w.grownBy w' v.ownBlock:=⟨h3.os,h3.tape,h3.output,Nat.le_trans zA3 h3.size,λk hk aH=>(h3.block k zA2 aH).trans (zK w _ k hk)⟩
 unfold Oper.wpIn;refine⟨?_,?_⟩;simp[Oper.about,ho,resolve,Target.leads,Sem.run_pure];rw[Oper.semAt_plain F _ _ (by rw[ho];intro c hc';cases hc')];simp only[execOp,ho,resolve,invoke,builtin,Sem.run_bind,Sem.run_pure,Result.andThen_ok,List.map_toArray,List.map_cons,List.map_nil,hs,hx,bH];exact hK _ _ (h v' w' h2 hg (h5.imp id λe=>⟨_,e,zA3⟩))
end Go.Proofs.YtmeadnlmepcmbaaGreat
