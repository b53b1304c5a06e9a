/- Lemmas of the proof. -/
import Derived.OrdersIn
import Derived.TacticsIn
import Derived.CallsIn
import Derived.RangeFuncKeeps
import Derived.Sort.CutIn
import Derived.Test.YtmeadnlmepcmbaaGreatZG10
set_option linter.all false
set_option maxHeartbeats 8000000
open Go.Proofs.Tryz
namespace Go.Proofs.YtmeadnlmepcmbaaGreat
open Go.RowKit
def jx(n:Nat):List UInt8:=List.replicate n 0
theorem ZH(n:Nat):(jx n).length=n:=by simp[jx]
theorem qjm(n:Nat):madeCells #[.int .u8 0] n=((jx n).map bv).toArray:=by
 apply Array.ext_getElem?;intro i;unfold madeCells jx;rw[Array.getElem?_map,Array.getElem?_range,List.getElem?_toArray,List.getElem?_map,List.getElem?_replicate];by_cases h:i<n
 ·rw[if_pos h,if_pos h];simp[Nat.mod_one,bv]
 ·rw[if_neg h,if_neg h];rfl
theorem qjV{n:Nat}(hn:n<1000000)(w:World):(Instr.makeSlice 26 (.int .i64 (n:Int)) (.int .i64 (n:Int))).run prog w=.ok (.slice (some ⟨w.heap.size,0,none⟩) n n) (w.alloc (.cells ((jx n).map bv).toArray 5)):=by obtain⟨i0,hi,hz0,hz1,hz2⟩:=info_parts Tryz.info_u8;have h:=run_make (P:=prog) w 26 5 i0 _ underlying26 hi hz0 .i64 .i64 (n:Int) (n:Int) zO zO (by rw[hz2];omega) zO;rw[hz1,Int.toNat_natCast,Nat.mul_one]at h;rw[<-qjm];exact h
theorem qgm(w:World):Calls prog 186 #[] w (zm (λu W=>u=.slice (some ⟨w.heap.size,0,none⟩) 256 256/\W.heap[w.heap.size]?=some (.cells ((jx 256).map bv).toArray 5 (0,0))) w):=by have hmk:∀w,(Instr.makeSlice 26 (.int .i64 256) (.int .i64 256)).run prog w=.ok (.slice (some ⟨w.heap.size,0,none⟩) 256 256) (w.alloc (.cells ((jx 256).map bv).toArray 5)):=λw=>qjV (n:=256) zO w;go_enter func186,ntmps186;go_wp2;go_ret;exact⟨_,rfl,⟨rfl,zI _ _ _ rfl⟩,zN _ _⟩
structure NewI(w2:World)(BB:Nat)(i:Value)(wr:World):Prop where
 ex:∃(k:Nat)(cs:Array Value),k<=256/\i=.int .i64 (k:Int)/\Below BB w2 wr/\BB<wr.heap.size/\wr.heap[BB]?=some (.cells cs 26 (0,0))/\cs.size=256 /\
  wr.heap[BB+1]?=some (.cells #[.slice (some ⟨BB,0,none⟩) 256 256,.slice none 0 0] 25 (0,0))/\∀i,i<k->∃b,cs[i]?=some (.slice (some ⟨b,0,none⟩) 128 128)/\BB<b/\wr.heap[b]?=some (.cells ((jx 128).map bv).toArray 5 (0,0))
def vB:List (List UInt8):=List.replicate 256 (jx 128)
set_option maxRecDepth 100000 in
theorem dnew_any(w:World):Calls prog 185 #[] w (zm (λu W=>∃BB,u=Xu (some ⟨BB,0,none⟩) 256 256 none 0 0/\∀W2:World,(∀q:Addr,w.heap.size<=q.block->q.block<W.heap.size->W2.cell? q=W.cell? q)->Bls W2 W.heap.size (.slice (some ⟨BB,0,none⟩) 256 256) vB) w):=by
 have hmk:∀w,(Instr.makeSlice 26 (.int .i64 128) (.int .i64 128)).run prog w=.ok (.slice (some ⟨w.heap.size,0,none⟩) 128 128) (w.alloc (.cells ((jx 128).map bv).toArray 5)):=λw=>qjV (n:=128) zO w;have hmk2:∀w,(Instr.makeSlice 22 (.int .i64 256) (.int .i64 256)).run prog w=.ok (.slice (some ⟨w.heap.size,0,none⟩) 256 256) (w.alloc (.cells (madeCells #[.slice none 0 0] 256) 26)):=λw=>Gl (n:=256) zO w;go_enter func185,ntmps185;go_wp2_with fail;generalize hw2:(World.alloc (World.alloc (World.alloc _ _) _) _)=w2;have x2:Ext w w2:=by rw[<-hw2];exact((zN _ _).trans (zN _ _)).trans (zN _ _)
 have q2:w2.heap[w.heap.size]?=some (.cells #[.slice none 0 0,.slice none 0 0] 25 (0,0)):=by rw[<-hw2];exact(zK _ _ _ zA2).trans ((zK _ _ _ zA3).trans (zI _ _ _ rfl))
 have b2:w2.heap[w.heap.size+1]?=some (.cells (madeCells #[.slice none 0 0] 256) 26 (0,0)):=by rw[<-hw2];exact(zK _ _ _ zA3).trans (zI _ _ _ zA3)
 have d2:w2.heap[w.heap.size+1+1]?=some (.cells #[.slice (some ⟨w.heap.size+1,0,none⟩) 256 256,.slice none 0 0] 25 (0,0)):=by rw[<-hw2];exact zI _ _ _ zA3
 have I0:NewI w2 (w.heap.size+1) (.int .i64 0) w2:=⟨0,_,zO,rfl,Below.refl _ _,(zG.1 b2).1,b2,size_madeCells _ _,d2,λi hi=>zO⟩
 have kd:=qa d2;replace I0:=zH I0;clear hw2 hmk2 b2 d2;go_wp2_with fail;go_loopw [8] (λi wr=>NewI w2 (w.heap.size+1) i wr) (λi _=>256-(intOf i).toNat)
 case atStart=>exact I0.out
 case round=>
  obtain⟨k,cs,hk,rfl,hE,hz,hBT,hsz,hd,hcs⟩:=hrel.ex;clear hrel I0 kd;have xw:Below w.heap.size w wr:=Below.trans x2 (Below.mono hE zO);by_cases hlt:k<256
  ·have hCB:=hlt;have g1:∀W,qj.r wr W->∀i,W.cell? ⟨w.heap.size+1+1,i,none⟩=#[.slice (some ⟨w.heap.size+1,0,none⟩) 256 256,.slice none 0 0][i]?:=λW h=>qa (qb hd h);have hwk:=zH (IntWalk.wrap64_in ((k:Int)+1) zO);have hEh:=zH hE;have hcsh:=zH hcs;have wXO:=zH hBT;have hdh:=zH hd;clear hE hcs hBT hd;go_wp2_with fail;refine qt zQ ?_;refine qX (w:=wr) qj (qQ [(3,qaI wr.heap.size 128 128 5 ((jx 128).map bv).toArray)]) [true,true,true,true,true] 1 zQ zQ zQ zQ zQ zQ zQ ?st (Rel.drew _ _) ?walk
   case st=>exact qi (by simp only[List.forall_mem_cons];exact⟨YS _ _ _ _ _,λ_ h=>by cases h⟩)
   case walk=>
    intro K hK;dsimp only[qw];refine zC3 ?_;refine qH (qaI wr.heap.size 128 128 5 ((jx 128).map bv).toArray) zA0 zA0 (λW hW _=>?_) (λ(b:Nat)=>?_)
    ·have hW:Ext wr W:=hW;refine jP (u:=.slice (some ⟨W.heap.size,0,none⟩) 128 128) (w':=W.alloc (.cells ((jx 128).map bv).toArray 5)) ?_ ⟨W.heap.size,rfl,⟨zI _ _ _ rfl,hW.size⟩,zN _ _⟩;go_simp
    refine zC3 ?_
    first
     |(refine qd (.pointer (some ⟨w.heap.size+1,0+k,none⟩)) zA0 zA0 (λW hW _=>⟨W,?_,Rel.refl _ W⟩) ?_
       ·go_simp;rw[IntWalk.i64_in (k:Int) zO,if_pos zO];simp
       simp only[Act.put,ql,qe,qc,qf,zF,zA,zB,zC])
     |skip
    refine zC3 ?_;refine qD (hK _ _ λW hW hF=>?_);have hb:W.heap[b]?=some (.cells ((jx 128).map bv).toArray 5 (0,0))/\wr.heap.size<=b:=(hF 3).1;have hW:Ext wr W:=hW;clear hF hK g1 hmk;refine zB6 ?_;have rB:=qb wXO.out hW;have kB:=qa rB k;have fB:=qg rB k;rw[Array.getElem?_eq_getElem zO]at kB;have IR:NewI w2 (w.heap.size+1) (.int .i64 ((k:Int)+1)) (W.setCell ⟨w.heap.size+1,k,none⟩ (.slice (some ⟨b,0,none⟩) 128 128)):=⟨k+1,_,zO,rfl,Below.setCell (Below.trans hEh.out (Below.mono hW zO)) (p:=⟨w.heap.size+1,k,none⟩) (zM _) _,by have:=hW.size;simp;omega,qo rB k _,by simpa using hsz,
     (zJ _ _ _ _ (by show _≠w.heap.size+1;omega)).trans (qb hdh.out hW),λi hi=>by
      rw[Array.getElem?_setIfInBounds];by_cases e:k=i
      ·subst e;rw[if_pos rfl,if_pos zO];exact⟨b,rfl,zO,(zJ _ _ _ _ (by show _≠w.heap.size+1;omega)).trans hb.1⟩
      ·rw[if_neg e];obtain⟨b',e1,e2,e3⟩:=hcsh.out i zO;exact⟨b',e1,e2,(zJ _ _ _ _ (by show _≠w.heap.size+1;omega)).trans (qb e3 hW)⟩⟩
    replace IR:=zH IR;generalize cs[k]=u0 at*;clear hb hW rB;go_wp2;refine Qn ?_;go_wp2_with fail;try rw[hwk.out]
    refine⟨IR.out,?_⟩;simp[intOf];omega
  ·obtain rfl:k=256:=zO;have qq:=(hE.block w.heap.size zO).trans q2;have kq:=qa qq;have fq:=qg qq;have kd:=qa hd;have rf:=qo (qo qq 0 (.slice (some ⟨w.heap.size+1,0,none⟩) 256 256)) 1 (.slice none 0 0);have kf:=qa rf;have bf:Below w.heap.size w ((wr.setCell ⟨w.heap.size,0,none⟩ (.slice (some ⟨w.heap.size+1,0,none⟩) 256 256)).setCell ⟨w.heap.size,1,none⟩ (.slice none 0 0)):=Below.setCell (Below.setCell xw (p:=⟨w.heap.size,0,none⟩) (zM _) _) (p:=⟨w.heap.size,1,none⟩) (zM _) _;have DF:∀W2:World,(∀q:Addr,w.heap.size<=q.block->q.block<((wr.setCell ⟨w.heap.size,0,none⟩ (.slice (some ⟨w.heap.size+1,0,none⟩) 256 256)).setCell ⟨w.heap.size,1,none⟩ (.slice none 0 0)).heap.size->W2.cell? q=((wr.setCell ⟨w.heap.size,0,none⟩ (.slice (some ⟨w.heap.size+1,0,none⟩) 256 256)).setCell ⟨w.heap.size,1,none⟩ (.slice none 0 0)).cell? q)->Bls W2 ((wr.setCell ⟨w.heap.size,0,none⟩ (.slice (some ⟨w.heap.size+1,0,none⟩) 256 256)).setCell ⟨w.heap.size,1,none⟩ (.slice none 0 0)).heap.size (.slice (some ⟨w.heap.size+1,0,none⟩) 256 256) vB:=by
    have st:∀b,b≠w.heap.size->((wr.setCell ⟨w.heap.size,0,none⟩ (.slice (some ⟨w.heap.size+1,0,none⟩) 256 256)).setCell ⟨w.heap.size,1,none⟩ (.slice none 0 0)).heap[b]?=wr.heap[b]?:=λb hb=>(zJ _ _ _ _ hb).trans (zJ _ _ _ _ hb);generalize World.setCell (World.setCell wr _ _) _ _=wf at*;intro W2 hk;have rB:=(st (w.heap.size+1) zO).trans hBT;have zB:=(zG.1 rB).1;refine⟨cs.toList,some ⟨w.heap.size+1,0,none⟩,256,by simp[vB],by simp[vB],zA7,⟨by simp[vB,hsz],λ_=>⟨w.heap.size+1,0,rfl,zB,λj u hu=>?_⟩⟩,λi u l hu hl=>?_⟩
    ·rw[hk ⟨w.heap.size+1,0+j,none⟩ (by show w.heap.size<=w.heap.size+1;omega) zB,Nat.zero_add,qa rB];simpa using hu
    have hi:i<256:=by have:=(List.getElem?_eq_some_iff.1 hl).1;simpa [vB]using this
    have e0:cs.toList[i]?=cs[i]?:=zA3;obtain⟨b,e1,e2,e3⟩:=hcs i hi;rw[e0,e1]at hu;cases hu;have hl2:l=jx 128:=by
     have:vB[i]?=some (jx 128):=by unfold vB;rw[List.getElem?_replicate,if_pos hi]
     rw[this]at hl;cases hl;rfl
    subst hl2;have e4:=(st b zO).trans e3;have zb:=(zG.1 e4).1;refine⟨_,128,by rw[ZH],by rw[ZH];omega,zA7,zA3,λ_=>⟨b,0,rfl,zb,λj u hu=>?_⟩⟩;rw[hk ⟨b,0+j,none⟩ (by show w.heap.size<=b;omega) zb,Nat.zero_add,qa e4];simpa using hu
   replace⟨kf,bf,DF⟩:=zH3 kf bf DF;clear rf hE hBT hcs hd;go_wp2;have kf:=kf.out;exact bodyPost_ret (v:=Xu (some ⟨w.heap.size+1,0,none⟩) 256 256 none 0 0) (by simp[results,results185,go_sem,kf]) rfl ⟨_,rfl,⟨w.heap.size+1,rfl,DF.out⟩,bf.out⟩
def newS:Sto:=⟨vB,[],jx 256,jx 256⟩
def Qc:Sto:=⟨vB,[(8,Zi (Qx 0 []))],(jx 256).set 8 1,jx 256⟩
theorem newS_may:qm newS=true:=by decide +kernel
theorem Wrs.nil(w:World)(B:Nat):Wrs w B (.slice none 0 0) []:=⟨[],rfl,⟨none,0,rfl,zM _,by simp[maxLen],Rd.none_⟩,λp h=>by cases h⟩
set_option maxRecDepth 100000 in
theorem vt:Uv Qc:=by
 have h1:vB.length=256:=by unfold vB;rw[List.length_replicate]
 have h2:∀l∈vB,l.length<1000000:=λl hl=>by unfold vB at hl;rw[List.mem_replicate]at hl;rw[hl.2,ZH];omega
 have h3:(Zi (Qx 0 [])).length=128:=Vf zA1;refine⟨by show vB.length<_;omega,by show 1<1000000;omega,h2,λp hp=>?_,by show((jx 256).set 8 1).length<_;rw[List.length_set,ZH];omega,by show(jx 256).length<_;rw[ZH];omega⟩;have:p=(8,Zi (Qx 0 [])):=by simpa [Qc]using hp
 rw[this];show(Zi (Qx 0 [])).length<_;omega
set_option maxRecDepth 100000 in
theorem rnew_any(w:World):Calls prog 144 #[] w (zm (λu W=>∃B n1 n2,u=Qp (some ⟨B,0,none⟩) 256 256 none 0 0 (some ⟨n1,0,none⟩) 256 256 (some ⟨n2,0,none⟩) 256 256/\Qq W W.heap.size (.slice (some ⟨B,0,none⟩) 256 256) (.slice none 0 0) (.slice (some ⟨n1,0,none⟩) 256 256) (.slice (some ⟨n2,0,none⟩) 256 256) newS) w):=by
 go_enter func144,ntmps144;go_wp2_with fail;generalize hw1:World.alloc _ _=w1;have x1:Ext w w1:=by rw[<-hw1];exact zN _ _
 have q1:w1.heap[w.heap.size]?=some (.cells #[.slice none 0 0,.slice none 0 0,.slice none 0 0,.slice none 0 0] 28 (0,0)):=by rw[<-hw1];exact zI _ _ _ zA3
 have z0:w1.heap.size=w.heap.size+1:=by rw[<-hw1];simp
 clear hw1;refine(dnew_any w1).mono ?_;rintro e w2 ⟨u,rfl,⟨B,rfl,hbs⟩,hB⟩;have hB:Ext w1 w2:=hB;have x2:=x1.trans hB;have q2:=qb q1 hB;have hx12:=hB;clear q1 hB x1;go_wp2_with fail;refine(qgm w2).mono ?_;rintro e w3 ⟨u,rfl,⟨rfl,hn1⟩,hB⟩;have hB3:Ext w2 w3:=hB;have x3:=x2.trans hB3;have q3:=qb q2 hB3;clear q2 hB;go_wp2_with fail;refine(qgm w3).mono ?_;rintro e w4 ⟨u,rfl,⟨rfl,hn2⟩,hB⟩;have hB4:Ext w3 w4:=hB;have x4:=x3.trans hB4;have q4:=qb q3 hB4;have hn14:=qb hn1 hB4;have kq:=qa q4;have fq:=qg q4;have z23:=hB3.size;have z34:=hB4.size;have z2':=hx12.size;have P5:∀wx:World,wx=Kj w4 w.heap.size 0 [.slice (some ⟨B,0,none⟩) 256 256,.slice none 0 0,.slice (some ⟨w2.heap.size,0,none⟩) 256 256,.slice (some ⟨w3.heap.size,0,none⟩) 256 256] ->
   wx.heap[w.heap.size]?=some (.cells #[.slice (some ⟨B,0,none⟩) 256 256,.slice none 0 0,.slice (some ⟨w2.heap.size,0,none⟩) 256 256,.slice (some ⟨w3.heap.size,0,none⟩) 256 256] 28 (0,0))/\Below w.heap.size w wx /\
    Qq wx wx.heap.size (.slice (some ⟨B,0,none⟩) 256 256) (.slice none 0 0) (.slice (some ⟨w2.heap.size,0,none⟩) 256 256) (.slice (some ⟨w3.heap.size,0,none⟩) 256 256) newS:=λwx e=>by
  have hk:∀b,b≠w.heap.size->wx.heap[b]?=w4.heap[b]?:=λb h1=>by rw[e];exact jE h1 _ _ _
  have hs:wx.heap.size=w4.heap.size:=by rw[e,Jo]
  have h1:=Bys.lit ((hk _ zO).trans hn14) (by rw[ZH];unfold maxLen;omega);have h2:=Bys.lit ((hk _ zO).trans hn2) (by rw[ZH];unfold maxLen;omega);rw[ZH]at h1 h2;refine⟨by rw[e];refine(JT _ _ _ _ q4).trans ?_;simp[XX],by rw[e];exact jD (zM _) _ _ _ x4,?_,Wrs.nil _ _,h1,h2⟩;refine(hbs wx λq h1 h2=>?_).more zO;refine(World.cell?_of_block (hk q.block zO)).trans ((World.cell?_of_block (hB4.block q.block zO)).trans (World.cell?_of_block (hB3.block q.block h2)))
 replace P5:=zH P5;clear hbs hn1 hn2 hn14 q4 q3;go_wp2_with fail;have P5:=P5.out;generalize hw5:World.setCell (World.setCell (World.setCell (World.setCell w4 _ _) _ _) _ _) _ _=w5;obtain⟨r5,x5,h5⟩:=P5 w5 hw5.symm;clear P5 hw5;have k5:=qa r5;exact bodyPost_ret (v:=Qp (some ⟨B,0,none⟩) 256 256 none 0 0 (some ⟨w2.heap.size,0,none⟩) 256 256 (some ⟨w3.heap.size,0,none⟩) 256 256) (by simp[results,results144,go_sem,k5]) rfl ⟨_,rfl,⟨B,_,_,rfl,h5⟩,x5⟩
set_option maxRecDepth 100000 in
theorem qig(A1 c1 A3 c3 A4 c4)(w:World)(h:Qq w w.heap.size (.slice A1 256 c1) (.slice none 0 0) (.slice A3 256 c3) (.slice A4 256 c4) newS):Calls prog 155 #[Qp A1 256 c1 none 0 0 A3 256 c3 A4 256 c4,jL 0 none 0 0] w (zm (λu W=>∃v,u=.tuple #[v,.int .i64 8,.int .i64 0]/\zp w.heap.size Qc v W) w):=by
 have HC:=zH (λW (hW:Ext w W)=>Kh A1 256 c1 none 0 0 A3 256 c3 A4 256 c4 newS W (h.ext hW));rw[newS_may,show vO true=0 from rfl]at HC;have HN:=zH (λW=>Ke 0 none 0 0 [] W (Its.nil W W.heap.size));rw[show Qj 0 []=true from rfl,show vO true=0 from rfl]at HN;have HO:=zH (λW (hW:Ext w W)=>qfb A1 256 c1 none 0 0 A3 256 c3 A4 256 c4 newS (by show(jx 256).length<_;rw[ZH];omega) W (h.ext hW));replace h:=zH h;go_enter func155,ntmps155;go_wp2_with fail;generalize hw1:World.alloc (World.alloc (World.alloc _ _) _) _=w1;have x1:Ext w w1:=by rw[<-hw1];exact((zN _ _).trans (zN _ _)).trans (zN _ _)
 have r1:w1.heap[w.heap.size]?=some (.cells #[.slice A1 256 c1,.slice none 0 0,.slice A3 256 c3,.slice A4 256 c4] 28 (0,0)):=by rw[<-hw1];exact(zK _ _ _ zA2).trans ((zK _ _ _ zA3).trans (zI _ _ _ rfl))
 have p1:w1.heap[w.heap.size+1]?=some (.cells #[.int .i64 0,.slice none 0 0] 113 (0,0)):=by rw[<-hw1];exact(zK _ _ _ zA3).trans (zI _ _ _ zA3)
 have q1:w1.heap[w.heap.size+1+1]?=some (.cells #[.slice none 0 0,.slice none 0 0,.slice none 0 0,.slice none 0 0] 28 (0,0)):=by rw[<-hw1];exact zI _ _ _ zA3
 clear hw1;refine(HC.out w1 x1).mono ?_;rintro e w2 ⟨rfl,hB⟩;have x2:Ext w w2:=x1.trans hB;have r2:=qb r1 hB;have p2:=qb p1 hB;have q2:=qb q1 hB;have kp:=qa p2;clear r1 p1 q1 x1 hB HC;go_wp2_with fail;refine(HN.out w2).mono ?_;rintro e w3 ⟨rfl,hB⟩;have x3:Ext w w3:=x2.trans hB;have r3:=qb r2 hB;have p3:=qb p2 hB;have q3:=qb q2 hB;have kr:=qa r3;clear r2 p2 q2 x2 hB HN kp;go_wp2_with fail;refine(HO.out w3 x3).mono ?_;rintro e w4 ⟨u,rfl,⟨b,B3,d3,rfl,hlo,hBT,hAE⟩,hB⟩;have hB4:Ext w3 w4:=hB;have x4:Ext w w4:=x3.trans hB4;have p4:=qb p3 hB4;have q4:=qb q3 hB4;have kp:=qa p4;have z3:=x3.size;obtain⟨g,rfl⟩:∃g,B3=some ⟨g,0,none⟩:=by
  obtain⟨h1,h2⟩:=hAE;rcases h2 with⟨_,h0⟩|⟨g,_,_,e,_⟩
  ·cases h0
  ·cases e;exact⟨g,rfl⟩
 have hb4:Bls w4 w3.heap.size (.slice A1 256 c1) vB:=(h.out.bs.below x4).more z3;have q3z:=q3;have ha4:Bys w4 w3.heap.size (.slice A4 256 c4) (jx 256):=(h.out.last.below x4).more z3;have HM:=qhX b w3.heap.size A1 256 c1 g d3 A4 c4 vB (jx 256) (jx 256) (ZH _) (ZH _) zA1 zA1 w4 hlo hBT hAE hb4 ha4;replace HM:=zH HM;clear r3 p3 q3 hB kr hb4 ha4 hAE hBT HO;go_wp2_with fail;refine HM.out.mono ?_;rintro e w5 ⟨rfl,hB5,A2,c2,hXO,hS5⟩;have x5:Below w.heap.size w w5:=Below.trans x4 (Below.mono hB5 z3);have z34:=hB4.size;have zq:=(zG.1 q3z).1;have q5:=(hB5.block (w.heap.size+1+1) zq).trans q4;have HT:=zH (Yz b A1 256 c1 A2 1 c2 (some ⟨g,0,none⟩) 256 d3 A4 256 c4 Qc vt w5 hXO hS5);clear HM hXO hS5 kp p4 q4;go_wp2_with fail;refine HT.out.mono ?_;rintro e w6 ⟨u,rfl,hT,hB⟩;have hB6:Ext w5 w6:=hB;have x6:Below w.heap.size w w6:=Below.trans x5 (Below.mono hB6 x5.size);have q6:=qb q5 hB6;have kq:=qa q6;have fq:=qg q6;have z45:=hB5.size;obtain⟨BB,WW,gg,B3,e3,B4,e4,rfl,hD,hN,hL⟩:=hT;have P5:∀wx:World,wx=Kj w6 (w.heap.size+1+1) 0 [.slice (some ⟨BB,0,none⟩) Qc.bs.length Qc.bs.length,.slice (some ⟨WW,0,none⟩) Qc.ws.length (Qc.ws.length+1),.slice B3 Qc.now.length e3,.slice B4 Qc.last.length e4] ->
   wx.heap[w.heap.size+1+1]?=some (.cells #[.slice (some ⟨BB,0,none⟩) Qc.bs.length Qc.bs.length,.slice (some ⟨WW,0,none⟩) Qc.ws.length (Qc.ws.length+1),.slice B3 Qc.now.length e3,.slice B4 Qc.last.length e4] 28 (0,0))/\Below w.heap.size w wx /\
    zp w.heap.size Qc (Qp (some ⟨BB,0,none⟩) Qc.bs.length Qc.bs.length (some ⟨WW,0,none⟩) Qc.ws.length (Qc.ws.length+1) B3 Qc.now.length e3 B4 Qc.last.length e4) wx:=λwx e=>by
  have hk:∀b,w5.heap.size<=b->b<w6.heap.size->wx.heap[b]?=w6.heap[b]?:=λb h1 _=>by rw[e];exact jE zO _ _ _
  have hs:w6.heap.size<=wx.heap.size:=by rw[e,Jo];exact zM _
  refine⟨by rw[e];refine(JT _ _ _ _ q6).trans ?_;simp[XX],by rw[e];exact jD zO _ _ _ x6,BB,WW,gg,B3,e3,B4,e4,rfl,hD.keep x5.size hs hk,QB (ZL hN hk) x5.size,QB (ZL hL hk) x5.size⟩
 replace P5:=zH P5;clear hD hN hL q6 hB q5;go_wp2_with fail;have P5:=P5.out;generalize hw5:World.setCell (World.setCell (World.setCell (World.setCell w6 _ _) _ _) _ _) _ _=w7;obtain⟨r5,x7,h5⟩:=P5 w7 hw5.symm;clear P5 hw5;have k5:=qa r5;exact bodyPost_ret (v:=.tuple #[Qp (some ⟨BB,0,none⟩) Qc.bs.length Qc.bs.length (some ⟨WW,0,none⟩) Qc.ws.length (Qc.ws.length+1) B3 Qc.now.length e3 B4 Qc.last.length e4,.int .i64 8,.int .i64 0]) (by simp[results,results155,go_sem,k5]) rfl ⟨_,rfl,⟨_,rfl,h5⟩,x7⟩
def qbh(lo:Nat)(u:Value)(W:World):Prop:=∃BB WW g A3 c3 A4 c4,u=.agg (Qk (.slice (some ⟨BB,0,none⟩) 256 256) (.slice (some ⟨WW,0,none⟩) 1 2) (.slice A3 256 c3) (.slice A4 256 c4) 0 8 1 (.slice none 0 0))/\JV lo Qc.bs Qc.ws BB WW g W /\
 W.ownsRow lo 5 1 (.slice A3 256 c3) 256 (Qc.now.map bv)/\W.ownsRow lo 5 1 (.slice A4 256 c4) 256 (Qc.last.map bv)
theorem Xv:Qc.bs.length=256/\Qc.ws.length=1/\Qc.now.length=256/\Qc.last.length=256:=by
 refine⟨?_,rfl,?_,ZH _⟩
 ·show vB.length=256;unfold vB;rw[List.length_replicate]
 ·show((jx 256).set 8 1).length=256;rw[List.length_set,ZH]
theorem qbh.sto{lo:Nat}{u:Value}{W:World}(h:qbh lo u W):∃A1 c1 A2 c2 A3 c3 A4 c4,u=.agg (Qk (.slice A1 256 c1) (.slice A2 1 c2) (.slice A3 256 c3) (.slice A4 256 c4) 0 8 1 (.slice none 0 0))/\Qq W W.heap.size (.slice A1 256 c1) (.slice A2 1 c2) (.slice A3 256 c3) (.slice A4 256 c4) Qc:=by obtain⟨BB,WW,g,A3,c3,A4,c4,e,hD,hN,hL⟩:=h;obtain⟨l1,l2,l3,l4⟩:=Xv;obtain⟨k1,k2⟩:=hD.reads vt.bs vt.ws vt.be vt.we W (λ_ _ _=>rfl);rw[l1]at k1;rw[l2]at k2;exact⟨_,_,_,_,A3,c3,A4,c4,e,k1,k2,Bys.of_own hN,Bys.of_own hL⟩
set_option maxRecDepth 100000 in
theorem qkW(A1 c1 A3 c3 A4 c4)(w:World)(h:Qq w w.heap.size (.slice A1 256 c1) (.slice none 0 0) (.slice A3 256 c3) (.slice A4 256 c4) newS):Calls prog 102 #[Qp A1 256 c1 none 0 0 A3 256 c3 A4 256 c4] w (zm (λu W=>∃v,u=.tuple #[v,.int .i64 8,.int .i64 0]/\zp w.heap.size Qc v W) w):=by
 have HM:=zH (λW (hW:Ext w W)=>qig A1 c1 A3 c3 A4 c4 W (h.ext hW));clear h;go_enter func102,ntmps102;go_wp2_with fail;generalize hw1:World.alloc (World.alloc _ _) _=w1;have x1:Ext w w1:=by rw[<-hw1];exact(zN _ _).trans (zN _ _)
 have q1:w1.heap[w.heap.size+1]?=some (.cells #[.slice none 0 0,.slice none 0 0,.slice none 0 0,.slice none 0 0] 28 (0,0)):=by rw[<-hw1];exact zI _ _ _ zA3
 clear hw1;refine(HM.out w1 x1).mono ?_;rintro e w6 ⟨u,rfl,⟨v,rfl,hT⟩,hB⟩;have hB6:Ext w1 w6:=hB;have x6:Below w.heap.size w w6:=x1.trans hB6;have q6:=qb q1 hB6;have kq:=qa q6;have fq:=qg q6;have z1:=(zG.1 q1).1;obtain⟨BB,WW,gg,B3,e3,B4,e4,rfl,hD,hN,hL⟩:=hT;have P5:∀wx:World,wx=Kj w6 (w.heap.size+1) 0 [.slice (some ⟨BB,0,none⟩) Qc.bs.length Qc.bs.length,.slice (some ⟨WW,0,none⟩) Qc.ws.length (Qc.ws.length+1),.slice B3 Qc.now.length e3,.slice B4 Qc.last.length e4] ->
   wx.heap[w.heap.size+1]?=some (.cells #[.slice (some ⟨BB,0,none⟩) Qc.bs.length Qc.bs.length,.slice (some ⟨WW,0,none⟩) Qc.ws.length (Qc.ws.length+1),.slice B3 Qc.now.length e3,.slice B4 Qc.last.length e4] 28 (0,0))/\Below w.heap.size w wx /\
    zp w.heap.size Qc (Qp (some ⟨BB,0,none⟩) Qc.bs.length Qc.bs.length (some ⟨WW,0,none⟩) Qc.ws.length (Qc.ws.length+1) B3 Qc.now.length e3 B4 Qc.last.length e4) wx:=λwx e=>by
  have hk:∀b,w1.heap.size<=b->b<w6.heap.size->wx.heap[b]?=w6.heap[b]?:=λb h1 _=>by rw[e];exact jE zO _ _ _
  have hs:w6.heap.size<=wx.heap.size:=by rw[e,Jo];exact zM _
  refine⟨by rw[e];refine(JT _ _ _ _ q6).trans ?_;simp[XX],by rw[e];exact jD zO _ _ _ x6,BB,WW,gg,B3,e3,B4,e4,rfl,hD.keep x1.size hs hk,QB (ZL hN hk) x1.size,QB (ZL hL hk) x1.size⟩
 replace P5:=zH P5;clear hD hN hL q6 hB q1;go_wp2_with fail;have P5:=P5.out;generalize hw5:World.setCell (World.setCell (World.setCell (World.setCell w6 _ _) _ _) _ _) _ _=w7;obtain⟨r5,x7,h5⟩:=P5 w7 hw5.symm;clear P5 hw5;have k5:=qa r5;exact bodyPost_ret (v:=.tuple #[Qp (some ⟨BB,0,none⟩) Qc.bs.length Qc.bs.length (some ⟨WW,0,none⟩) Qc.ws.length (Qc.ws.length+1) B3 Qc.now.length e3 B4 Qc.last.length e4,.int .i64 8,.int .i64 0]) (by simp[results,results102,go_sem,k5]) rfl ⟨_,rfl,⟨_,rfl,h5⟩,x7⟩
set_option maxRecDepth 100000 in
theorem fnew_any(w:World):Calls prog 86 #[] w (zm (qbh w.heap.size) w):=by
 obtain⟨l1,l2,l3,l4⟩:=Xv;go_enter func86,ntmps86;go_wp2_with fail;generalize hw1:World.alloc _ _=w1;have x1:Ext w w1:=by rw[<-hw1];exact zN _ _
 have q1:w1.heap[w.heap.size]?=some (.cells (Qk (.slice none 0 0) (.slice none 0 0) (.slice none 0 0) (.slice none 0 0) 0 0 0 (.slice none 0 0)) 32 (0,0)):=by rw[<-hw1];exact zI _ _ _ zA3
 clear hw1;refine(rnew_any w1).mono ?_;rintro e w2 ⟨u,rfl,⟨B,n1,n2,rfl,hS⟩,hB⟩;have hB2:Ext w1 w2:=hB;have x2:Ext w w2:=x1.trans hB2;have q2:=qb q1 hB2;have z1:=(zG.1 q1).1;have z12:=hB2.size;clear hB q1;have HP:=zH (qkW _ _ _ _ _ _ w2 hS);clear hS;go_wp2_with fail;refine HP.out.mono ?_;rintro e w6 ⟨u,rfl,⟨v,rfl,hT⟩,hB⟩;have hB6:Ext w2 w6:=hB;have x6:Ext w w6:=x2.trans hB6;have q6:=qb q2 hB6;obtain⟨BB,WW,gg,B3,e3,B4,e4,rfl,hD,hN,hL⟩:=hT;rw[l1,l2,l3,l4];rw[l3]at hN;rw[l4]at hL;clear q2 hB HP;have kq:=qa q6;have fq:=qg q6;have zq:=(zG.1 q6).1;have P5:∀wx:World,wx=Kj w6 w.heap.size 0 [.slice (some ⟨BB,0,none⟩) 256 256,.slice (some ⟨WW,0,none⟩) 1 2,.slice B3 256 e3,.slice B4 256 e4,.int .u32 0,.int .i64 8,.int .u32 1,.slice none 0 0]->∀o:Obj,
   (wx.alloc o).heap[w.heap.size]?=some (.cells (Qk (.slice (some ⟨BB,0,none⟩) 256 256) (.slice (some ⟨WW,0,none⟩) 1 2) (.slice B3 256 e3) (.slice B4 256 e4) 0 8 1 (.slice none 0 0)) 32 (0,0))/\Below w.heap.size w (wx.alloc o) /\
    qbh w.heap.size (.agg (Qk (.slice (some ⟨BB,0,none⟩) 256 256) (.slice (some ⟨WW,0,none⟩) 1 2) (.slice B3 256 e3) (.slice B4 256 e4) 0 8 1 (.slice none 0 0))) (wx.alloc o):=λwx e o=>by
  have hs:wx.heap.size=w6.heap.size:=by rw[e,Jo]
  have hk:∀b,w2.heap.size<=b->b<w6.heap.size->(wx.alloc o).heap[b]?=w6.heap[b]?:=λb h1 h2=>(zK _ _ _ zO).trans (by rw[e];exact jE zO _ _ _);have hs2:w6.heap.size<=(wx.alloc o).heap.size:=zA2;refine⟨(zK _ _ _ zO).trans (by rw[e];refine(JT _ _ _ _ q6).trans ?_;simp[XX,Qk]),Below.alloc (by rw[e];exact jD (zM _) _ _ _ x6) zO _,BB,WW,gg,B3,e3,B4,e4,rfl,hD.keep x2.size hs2 hk,QB (ZL hN hk) x2.size,QB (ZL hL hk) x2.size⟩
 replace P5:=zH P5;clear hD hN hL q6;go_wp2_with fail;have P5:=P5.out;generalize hw5:World.setCell (World.setCell (World.setCell (World.setCell (World.setCell (World.setCell (World.setCell (World.setCell w6 _ _) _ _) _ _) _ _) _ _) _ _) _ _) _ _=w7;obtain⟨r5,x7,h5⟩:=P5 w7 hw5.symm (.cells #[.slice (some ⟨BB,0,none⟩) 256 256,.slice (some ⟨WW,0,none⟩) 1 2,.slice B3 256 e3,.slice B4 256 e4] 28);clear P5 hw5;have k5:=qa r5;exact bodyPost_ret (v:=.agg (Qk (.slice (some ⟨BB,0,none⟩) 256 256) (.slice (some ⟨WW,0,none⟩) 1 2) (.slice B3 256 e3) (.slice B4 256 e4) 0 8 1 (.slice none 0 0))) (by simp[results,results86,go_sem,k5]) rfl ⟨_,rfl,h5,x7⟩
def qT(X:Nat->Prop)(w C:World):Prop:=∀(q:Addr)(v:Value),¬X q.block->w.cell? q=some v->C.cell? q=some v
section
variable {X Y:Nat->Prop} {w W C:World}
theorem qT.refl(X:Nat->Prop)(w:World):qT X w w:=λ_ _ _ h=>h
theorem qT.of_ext(h:Ext w C):qT X w C:=λ_ _ _ hv=>Ext.cell h hv
theorem qT.trans(h:qT X w W)(h':qT Y W C)(hY:∀k,k<w.heap.size->Y k->X k):qT X w C:=λq v hX hv=>h' q v (λhy=>hX (hY _ (World.block_lt_of_cell? w q hv) hy)) (h q v hX hv)
theorem qT.mono(h:qT X w C)(hX:∀k,k<w.heap.size->X k->Y k):qT Y w C:=λq v hY hv=>h q v (λhx=>hY (hX _ (World.block_lt_of_cell? w q hv) hx)) hv
theorem qT.set{p:Addr}(hp:X p.block)(u:Value):qT X w (w.setCell p u):=λq v hX hv=>(World.cell?_setCell_other w p q u (λe=>by subst e;exact hX hp)).trans hv
theorem qT.of_heap(h:∀k,k<w.heap.size->¬X k->C.heap[k]?=w.heap[k]?):qT X w C:=λq v hX hv=>(World.cell?_of_block (h _ (World.block_lt_of_cell? w q hv) hX)).trans hv
theorem Rd.keepX{B size n:Nat}{A:OA}{xs:List Value}(h:Rd w B size A n xs)(hs:0<size)(hk:qT X w C)(hX:∀k,k<B->¬X k):Rd C C.heap.size size A n xs:=⟨h.1,λhn=>by
 obtain⟨b,off,e,hb,hc⟩:=h.2 hn;refine⟨b,off,e,?_,λj u hu=>hk _ _ (hX b hb) (hc j u hu)⟩;have hl:0<xs.length:=by rw[h.1];exact Nat.mul_pos hn hs
 exact World.block_lt_of_cell? C ⟨b,off+0,none⟩ (hk _ _ (hX b hb) (hc 0 _ (zL hl)))⟩
theorem Bys.keepX{B:Nat}{v:Value}{l:List UInt8}(h:Bys w B v l)(hk:qT X w C)(hX:∀k,k<B->¬X k):Bys C C.heap.size v l:=by obtain⟨A,c,e,hc,hm,hr⟩:=h;exact⟨A,c,e,hc,hm,hr.keepX zO hk hX⟩
end
def kO(X:Nat->Prop)(w:World)(v:Value)(xs:List It):Prop:=∀C,qT X w C->Its C C.heap.size v xs
theorem kO.now{X:Nat->Prop}{w:World}{v:Value}{xs:List It}(h:kO X w v xs):Its w w.heap.size v xs:=h w (qT.refl _ _)
theorem kO.trans{X Y:Nat->Prop}{w W:World}{v:Value}{xs:List It}(h:kO X w v xs)(hk:qT X w W)(hY:∀k,k<w.heap.size->Y k->X k):kO Y W v xs:=λC hC=>h C (hk.trans hC hY)
theorem Zb{w w':World}{base size n:Nat}{e:TypeId}{v:Value}{xs:List Value}(h:w.ownsRow base e size v n xs)(hk:∀q,v.ownBlock=some q->w'.heap[q]?=w.heap[q]?):w'.ownsRow base e size v n xs:=
 ⟨h.1,h.2.imp id λ⟨g,cap,cur,e1,h3,h4,h5⟩=>⟨g,cap,cur,e1,h3,(hk g (by rw[e1];rfl)).trans h4,h5⟩⟩
theorem Zz{w:World}{base size n:Nat}{e:TypeId}{v:Value}{xs:List Value}(h:w.ownsRow base e size v n xs){q:Nat}(hq:v.ownBlock=some q):∃cur,w.heap[q]?=some (.cells cur e (0,0)):=by
 rcases h.2 with⟨e1,_⟩|⟨g,cap,cur,e1,_,hg,_⟩
 ·rw[e1]at hq;cases hq
 ·rw[e1]at hq;cases hq;exact⟨cur,hg⟩
def B3(b g:Nat)(k:Option Nat)(q:Nat):Prop:=q=b\/q=g\/k=some q
def TP(B:Nat)(D:Nat->Prop)(q:Nat):Prop:=B<=q/\¬D q
theorem TP.keep{B:Nat}{D:Nat->Prop}{w W:World}(h:∀q,q<w.heap.size->q<B\/D q->W.heap[q]?=w.heap[q]?):qT (TP B D) w W:=qT.of_heap λq hq hX=>h q hq (by
 by_cases hB:q<B
 ·exact .inl hB
 ·right;by_cases hD:D q
  ·exact hD
  ·exact absurd ⟨zO,hD⟩ hX)
def KL(n:Nat)(D D':Nat->Prop):Prop:=∀q,D' q->D q\/n<=q
theorem KL.refl(n:Nat)(D:Nat->Prop):KL n D D:=λ_ h=>.inl h
theorem KL.mono{n n':Nat}{D D':Nat->Prop}(h:KL n D D')(hn:n'<=n):KL n' D D':=λq hq=>(h q hq).imp id λh=>zO
theorem KL.trans{n n':Nat}{D D' D'':Nat->Prop}(h:KL n D D')(h':KL n' D' D'')(hn:n<=n'):KL n D D'':=λq hq=>(h' q hq).elim (λh1=>h q h1) λh1=>.inr zO
structure Qh(lo b g:Nat)(k:Option Nat)(w W:World):Prop where
 below:Below lo w W
 rows:∀q,q<w.heap.size->¬B3 b g k q->W.heap[q]?=w.heap[q]?
def Zj(n:Nat)(k k':Option Nat):Prop:=∀q,k'=some q->k=some q\/n<=q
theorem Zj.refl(n:Nat)(k:Option Nat):Zj n k k:=λ_ h=>.inl h
theorem Zj.mono{n n':Nat}{k k':Option Nat}(h:Zj n k k')(hn:n'<=n):Zj n' k k':=λq hq=>(h q hq).imp id λh=>zO
theorem Zj.trans{n n':Nat}{k k' k'':Option Nat}(h:Zj n k k')(h':Zj n' k' k'')(hn:n<=n'):Zj n k k'':=λq hq=>(h' q hq).elim (λh1=>h q h1) λh1=>.inr zO
section
variable {lo b g:Nat} {k k':Option Nat} {w W C:World}
theorem Qh.refl(lo b g:Nat)(k:Option Nat)(w:World):Qh lo b g k w w:=⟨Below.refl _ _,λ_ _ _=>rfl⟩
theorem Qh.of_ext(h:Ext w W)(hl:lo<=w.heap.size):Qh lo b g k w W:=⟨Below.mono h hl,λq hq _=>Below.block h q hq⟩
theorem Qh.trans(h:Qh lo b g k w W)(h':Qh lo b g k' W C)(hk:Zj w.heap.size k k'):Qh lo b g k w C:=⟨h.below.trans h'.below,λq hq hn=>(h'.rows q (by have:=h.below.size;omega) λhx=>hn (by
 rcases hx with e|e|e
 ·exact .inl e
 ·exact .inr (.inl e)
 ·exact(hk q e).elim (λh=>.inr (.inr h)) λh=>zO)).trans (h.rows q hq hn)⟩
theorem Qh.keepX(h:Qh lo b g k w W):qT (B3 b g k) w W:=qT.of_heap λq hq hX=>h.rows q hq hX
theorem Qh.own(h:Qh lo b g k w W){base n size:Nat}{e:TypeId}{v:Value}{xs:List Value}(ho:w.ownsRow base e size v n xs)(hn:∀q,v.ownBlock=some q->¬B3 b g k q):W.ownsRow base e size v n xs:=Zb ho λq hq=>h.rows q (QM ho q hq).2 (hn q hq)
theorem Qh.row(h:Qh lo b g k w W){q:Nat}{o:Obj}(hr:w.heap[q]?=some o)(hn:¬B3 b g k q):W.heap[q]?=some o:=(h.rows q (zG.1 hr).1 hn).trans hr
theorem B3.of_new(hk:Zj w.heap.size k k'):∀q,q<w.heap.size->B3 b g k' q->B3 b g k q:=λq hq hx=>by
 rcases hx with e|e|e
 ·exact .inl e
 ·exact .inr (.inl e)
 ·exact(hk q e).elim (λh=>.inr (.inr h)) λh=>zO
end
def WsB(D:Nat->Prop)(B lo b g:Nat)(k:Option Nat)(v:Value)(ws:List (Int×List UInt8))(w:World):Prop:=∃ps:List ((Int×List UInt8)×Value),ps.map (·.1)=ws /\
 ((k=none/\ws.length<=maxLen/\∃A,v=.slice A ws.length ws.length/\Rd w B 2 A ws.length (js ps))\/(∃q,k=some q/\v.ownBlock=some q/\w.ownsRow lo 142 2 v ws.length (js ps))) /\
 ∀p∈ps,(∃A c,p.2=.slice A p.1.2.length c)/\∀C,qT (TP B D) w C->Bys C C.heap.size p.2 p.1.2
theorem WsB.ext{D:Nat->Prop}{B lo b g:Nat}{k:Option Nat}{v:Value}{ws:List (Int×List UInt8)}{w W:World}(h:WsB D B lo b g k v ws w)(hx:Ext w W)(hB:B<=w.heap.size):WsB D B lo b g k v ws W:=by
 obtain⟨ps,e,hw,hp⟩:=h;refine⟨ps,e,?_,λp hpm=>⟨(hp p hpm).1,λC hC=>(hp p hpm).2 C ((qT.of_ext hx).trans hC λ_ _ h=>h)⟩⟩;rcases hw with⟨e,hm,A,e2,hr⟩|⟨q,e,e2,how⟩
 ·exact .inl ⟨e,hm,A,e2,hr.below (Below.mono hx hB)⟩
 ·exact .inr ⟨q,e,e2,Zb how λq' hq'=>Below.block hx q' (QM how q' hq').2⟩
theorem WsB.mono{D D':Nat->Prop}{B lo b g:Nat}{k:Option Nat}{v:Value}{ws:List (Int×List UInt8)}{w:World}(h:WsB D B lo b g k v ws w)(hD:∀q,D q->D' q):WsB D' B lo b g k v ws w:=by obtain⟨ps,e,hw,hp⟩:=h;exact⟨ps,e,hw,λp hpm=>⟨(hp p hpm).1,λC hC=>(hp p hpm).2 C (hC.mono λq _ hx=>⟨hx.1,λh=>hx.2 (hD q h)⟩)⟩⟩
structure Bch(D:Nat->Prop)(B lo b g:Nat)(k:Option Nat)(S:Sto)(w:World):Prop where
 lob:lo<=b
 blo:B<=lo
 dB:∀q,D q->lo<=q/\q<w.heap.size/\¬B3 b g k q
 ex:∃A1 n1 c1 v2 c3 A4 c4,w.heap[b]?=some (.cells #[.slice A1 n1 c1,v2,.slice (some ⟨g,0,none⟩) 256 c3,.slice A4 256 c4] 223 (0,0))/\w.ownsRow lo 5 1 (.slice (some ⟨g,0,none⟩) 256 c3) 256 (S.now.map bv) /\
  WsB D B lo b g k v2 S.ws w/\Bls w B (.slice A1 n1 c1) S.bs/\Bys w B (.slice A4 256 c4) S.last
section
variable {D:Nat->Prop} {B lo b g:Nat} {k:Option Nat} {S:Sto} {w W:World}
theorem Bch.size(h:Bch D B lo b g k S w):lo<=b/\b<w.heap.size/\lo<=g/\g<w.heap.size/\g≠b/\lo<=w.heap.size/\∀q,k=some q->lo<=q/\q<w.heap.size/\q≠b/\q≠g:=by
 have h1:=h.lob;obtain⟨A1,n1,c1,v2,c3,A4,c4,hr,ho,⟨ps,_,hw,_⟩,_,_⟩:=h.ex;have hb:=(zG.1 hr).1;obtain⟨_,_,hlg,hzg⟩:=ZW ho;obtain⟨cur,hg⟩:=Zz ho (q:=g) rfl;refine⟨h1,hb,hlg,hzg,qL hg hr zA1,zO,λq hq=>?_⟩;rcases hw with⟨e,_⟩|⟨q',e,e2,how⟩
 ·rw[e]at hq;cases hq
 ·rw[e]at hq;cases hq;obtain⟨cur2,hq2⟩:=Zz how e2;have:=QM how _ e2;exact⟨this.1,this.2,qL hq2 hr zA1,qL hq2 hg zA1⟩
theorem Bch.b3(h:Bch D B lo b g k S w):∀q,B3 b g k q->lo<=q/\q<w.heap.size:=λq hq=>by
 obtain⟨h1,h2,h3,h4,_,_,h5⟩:=h.size;rcases hq with rfl|rfl|e
 ·exact⟨h1,h2⟩
 ·exact⟨h3,h4⟩
 ·exact⟨(h5 q e).1,(h5 q e).2.1⟩
theorem Bch.off(h:Bch D B lo b g k S w):∀q,q<B->¬B3 b g k q:=λq hq hx=>by have h1:=h.blo;have:=(h.b3 q hx).1;omega
theorem Bch.offk(h:Bch D B lo b g k S w):∀q,B3 b g k q->¬(q<B\/D q):=λq hx hq=>hq.elim (λh1=>h.off q h1 hx) λh1=>(h.dB q h1).2.2 hx
theorem Bch.keep(h:Bch D B lo b g k S w)(hB:Below B w W)(hr:∀q,B3 b g k q\/D q->W.heap[q]?=w.heap[q]?):Bch D B lo b g k S W:=by
 have hs:=hB.size;have hx:qT (TP B D) w W:=TP.keep λq hq h1=>h1.elim (λh1=>hB.block q h1) λh1=>hr q (.inr h1);obtain⟨A1,n1,c1,v2,c3,A4,c4,hro,ho,⟨ps,e,hw,hp⟩,h1,h4⟩:=h.ex;refine⟨h.lob,h.blo,λq hq=>⟨(h.dB q hq).1,by have:=(h.dB q hq).2.1;omega,(h.dB q hq).2.2⟩,A1,n1,c1,v2,c3,A4,c4,(hr _ (.inl (.inl rfl))).trans hro,Zb ho (λq hq=>by cases hq;exact hr _ (.inl (.inr (.inl rfl)))),⟨ps,e,?_,λp hpm=>⟨(hp p hpm).1,λC hC=>(hp p hpm).2 C (hx.trans hC λ_ _ h=>h)⟩⟩,h1.below hB,h4.below hB⟩;rcases hw with⟨e,hm,A,e2,hr⟩|⟨q,e,e2,how⟩
 ·exact .inl ⟨e,hm,A,e2,hr.below hB⟩
 ·exact .inr ⟨q,e,e2,Zb how λq' hq'=>by rw[e2]at hq';cases hq';exact hr q (.inl (.inr (.inr e)))⟩
theorem Bch.ext(h:Bch D B lo b g k S w)(hx:Ext w W):Bch D B lo b g k S W:=by have h6:=h.size.2.2.2.2.2.1;have h1:=h.blo;exact h.keep (Below.mono hx zO) λq hq=>Below.block hx q (hq.elim (λh2=>(h.b3 q h2).2) λh2=>(h.dB q h2).2.1)
theorem Bch.keepX{X:Nat->Prop}(h:Bch D B lo b g k S w)(hB:Below B w W)(hr:∀q,q<w.heap.size->¬X q->W.heap[q]?=w.heap[q]?)(hX:∀q,B3 b g k q\/D q->¬X q):Bch D B lo b g k S W:=
 h.keep hB λq hq=>hr q (hq.elim (λh2=>(h.b3 q h2).2) λh2=>(h.dB q h2).2.1) (hX q hq)
theorem Bch.mono{D':Nat->Prop}(h:Bch D B lo b g k S w)(hD:∀q,D q->D' q)(hB:∀q,D' q->lo<=q/\q<w.heap.size/\¬B3 b g k q):Bch D' B lo b g k S w:=by obtain⟨A1,n1,c1,v2,c3,A4,c4,hro,ho,hw,h1,h4⟩:=h.ex;exact⟨h.lob,h.blo,hB,A1,n1,c1,v2,c3,A4,c4,hro,ho,hw.mono hD,h1,h4⟩
theorem Bch.count(h:Bch D B lo b g k S w){a:Nat}(ha:a<256)(x:UInt8):Bch D B lo b g k (qv S (S.now.set a x)) (w.setCell ⟨g,a,none⟩ (bv x))/\Qh lo b g k w (w.setCell ⟨g,a,none⟩ (bv x)):=by
 obtain⟨hlb,_,hlg,_,hgb,_,h5⟩:=h.size;have hbl:=h.blo;have hkd:=h.offk;obtain⟨A1,n1,c1,v2,c3,A4,c4,hr,ho,⟨ps,e,hw,hp⟩,h1,h4⟩:=h.ex;have hK:Qh lo b g k w (w.setCell ⟨g,a,none⟩ (bv x)):=⟨Below.setCell (Below.refl _ _) (p:=⟨g,a,none⟩) hlg _,λq _ hn=>zJ _ _ _ _ λe=>hn (.inr (.inl e))⟩
 have hX:qT (TP B D) w (w.setCell ⟨g,a,none⟩ (bv x)):=TP.keep λq _ hq=>zJ _ _ _ _ λe=>hkd g (.inr (.inl rfl)) (by have e':q=g:=e;exact e'▸hq);have hB:Below B w (w.setCell ⟨g,a,none⟩ (bv x)):=Below.setCell (Below.refl _ _) (p:=⟨g,a,none⟩) (by show B<=g;omega) _;refine⟨⟨hlb,hbl,λq hq=>by simpa using h.dB q hq,A1,n1,c1,v2,c3,A4,c4,(zJ _ _ _ _ λe=>hgb e.symm).trans hr,qfk ho ha x,⟨ps,e,?_,λp hpm=>⟨(hp p hpm).1,λC hC=>(hp p hpm).2 C (hX.trans hC λ_ _ h=>h)⟩⟩,h1.below hB,h4.below hB⟩,hK⟩;rcases hw with⟨e,hm,A,e2,hr⟩|⟨q,e,e2,how⟩
 ·exact .inl ⟨e,hm,A,e2,hr.below hB⟩
 ·exact .inr ⟨q,e,e2,Zb how λq' hq'=>by rw[e2]at hq';cases hq';exact zJ _ _ _ _ (h5 q e).2.2.2⟩
theorem qgg(ps:List ((Int×List UInt8)×Value))(p:(Int×List UInt8)×Value):js (ps++[p])=js ps++[.int .i64 p.1.1,p.2]:=by
 induction ps with
 |nil=>rfl
 |cons a r ih=>simp[js,ih]
theorem Bch.sto(h:Bch D B lo b g k S w):∃A1 n1 c1 A2 n2 c2 c3 A4 c4,w.heap[b]?=some (.cells #[.slice A1 n1 c1,.slice A2 n2 c2,.slice (some ⟨g,0,none⟩) 256 c3,.slice A4 256 c4] 223 (0,0))/\Qq w w.heap.size (.slice A1 n1 c1) (.slice A2 n2 c2) (.slice (some ⟨g,0,none⟩) 256 c3) (.slice A4 256 c4) S:=by
 have h6:=h.size.2.2.2.2.2.1;have hbl:=h.blo;obtain⟨A1,n1,c1,v2,c3,A4,c4,hr,ho,⟨ps,e,hw,hp⟩,h1,h4⟩:=h.ex;have hv:∃A2 n2 c2,v2=.slice A2 n2 c2/\Wrs w w.heap.size (.slice A2 n2 c2) S.ws:=by
  rcases hw with⟨_,hm,A,rfl,hrd⟩|⟨q,_,_,how⟩
  ·exact⟨A,_,_,rfl,ps,e,⟨A,_,rfl,zM _,hm,hrd.more zO⟩,λp hpm=>⟨(hp p hpm).1,(hp p hpm).2 w (qT.refl _ _)⟩⟩
  ·obtain⟨A,c,rfl,hc1,hc2⟩:=qG how;exact⟨A,_,_,rfl,ps,e,⟨A,c,rfl,hc1,hc2,Rd.of_own how⟩,λp hpm=>⟨(hp p hpm).1,(hp p hpm).2 w (qT.refl _ _)⟩⟩
 obtain⟨A2,n2,c2,rfl,hW⟩:=hv;exact⟨A1,n1,c1,A2,n2,c2,c3,A4,c4,hr,h1.more zO,hW,Bys.of_own ho,h4.more zO⟩
end
structure WideF(F:Fence):Prop where
 fn:∀f,F.fn f
 depth:¬F.depth.isSome=true
 call:∀{n:Nat}{P:Program}{f:FuncId}{args:Array Value}{w:World}{R:Ending->World->Prop},Calls P f args w R->CallsIn F n P f args w R
theorem vn(l:Nat):WideF (Fence.wide.inRound l):=⟨λ_=>trivial,λh=>(by cases h),λh=>CallsIn.inRound l (callsIn_wide.2 h)⟩
def YO(ops:Array Oper):Bool:=ops.toList.all λo=>match o.op with | .defer _=>false|_=>true
theorem YP{ops:Array Oper}(h:YO ops=true){i:Nat}{o:Oper}(ho:ops[i]?=some o):∀c,o.op≠.defer c:=by intro c hc;have h1:=List.all_eq_true.1 h o (by have:=Array.mem_of_getElem? ho;simpa using this);rw[hc]at h1;cases h1
section
variable {F:Fence} {P:Program} {ops:Array Oper} {n:Nat}
theorem qaY{Q':Exit->Act->World->Prop}:∀(l:List Oper)(k:Nat)(listed:Array Bool)(a:Act)(W:World),(∀j,j<l.length->l[j]?=ops[k+j]?)->GZ ops l.length k listed=true->wpListIn F n P ops Q' l a W->wpAnyIn F n P .any ops Q' l.length listed a W
 |[],_,_,_,_,_,hB,h=>⟨by simpa [GZ]using hB,h⟩
 |o::l,k,listed,a,W,hl,hB,h=>by
  simp only[List.length_cons,GZ,Bool.and_eq_true]at hB;obtain⟨hr,hB'⟩:=hB;have hr':Region.ready .any ops listed=[k]:=by simpa using hr
  have h0:ops[k]?=some o:=by simpa using(hl 0 zA3).symm
  refine⟨λe=>(by rw[hr']at e;cases e),λi hi=>?_⟩;rw[hr']at hi;obtain rfl:i=k:=by simpa using hi
  have hl':∀j,j<l.length->l[j]?=ops[i+1+j]?:=λj hj=>by have:=hl (j+1) (by simpa using hj);simpa [Nat.add_assoc,Nat.add_comm 1 j]using this
  refine wpOpIn_mono (λa w hw=>qaY l (i+1) _ a w hl' hB' hw) ?_;unfold wpOpIn;simp only[h0];exact h
end
section
variable {F0:Fence} {R:Rel} {P:Program} {ops:Array Oper} {w0:World} {n:Nat}
theorem qbg(HF:WideF F0)(HN:YO ops=true){H:Nat->Option qZ}{i:Nat}{o:Oper}{a:Act}{F:qO}{K:Act->qO->Prop}{K':Act->World->Prop}{Q':Exit->Act->World->Prop}{W:World}(hi:ops[i]?=some o)(hH:∀i h,H i=some h->∀p,qS R (h.φ p))(hst:∀k,qS R (F k))(hW:R.r w0 W)(hF:∀k,F k W)(hK:∀a' F' W',K a' F'->(∀k,qS R (F' k))->R.r w0 W'->(∀k,F' k W')->K' a' W')(h:FOpG R P ops w0 H i o K a F):wpOpIn F0 n P ops Q' i K' a W:=by
 obtain⟨hh,hok,hn⟩:=h;have go:∀p W',R.r W W'->hh.φ p W'->K' (a.put o.dst (hh.f p)) W':=λp W' he hφ=>by
  have hF':∀k,upd F i o (hh.φ p) k W':=λk=>by
   unfold upd;split
   ·exact⟨hφ,λj _=>hst j _ _ he (hF j)⟩
   ·exact hst k _ _ he (hF k)
  exact hK _ _ W' (hn p ⟨W',R.trans hW he,hF'⟩) (jd hst i o (hok.stable hH p)) (R.trans hW he) hF'
 unfold wpOpIn;simp only[hi];rcases hok with⟨x1,rfl⟩|⟨x1,x2,v,rfl,x3⟩|⟨x1,x2,x3⟩
 ·simp only[x1,Bool.false_eq_true,if_false];exact⟨λf _=>HF.fn f,go () W (R.refl W) trivial⟩
 ·simp only[x1,if_true];obtain⟨w',hr,he⟩:=x3 W hW λk _=>hF k;refine⟨λf _=>HF.fn f,?_⟩;rw[Oper.semAt_eq _ _ _ (YP HN hi),hr];exact go () w' he trivial
 ·simp only[x1,if_true];have h3:=x3 W hW λk _=>hF k;unfold Qr at h3;refine⟨λf _=>HF.fn f,?_⟩;rw[Oper.semAt_eq _ _ _ (YP HN hi)];generalize(execOp a.eval o).run P W=r at*;cases r with
  |ok m w'=>
   cases m<;>simp only[Zf]at h3<;>simp only[Oper.uponIn]
   case value u=>obtain⟨p,rfl,hp,he⟩:=h3;exact go p w' he hp
   case skip=>
    obtain⟨p,e,hp,he⟩:=h3;have:=go p w' he hp
    rwa [<-e]at this
   case enter f args=>obtain⟨he,hcl⟩:=h3;refine⟨λh=>absurd h HF.depth,HF.call (hcl.mono λe w'' ⟨p,he1,hp,he2⟩=>?_)⟩;subst he1;exact go p w'' (R.trans he he2) hp
  |halt x w'=>simp only[Zf]at h3
theorem Yv(HF:WideF F0)(HN:YO ops=true){H:Nat->Option qZ}(hH:∀i h,H i=some h->∀p,qS R (h.φ p)){L:Array Bool}{t:Nat}{Q:Act->qO->Prop}{Q':Exit->Act->World->Prop}(hQ:∀a F W,Q a F->R.r w0 W->(∀k,F k W)->wpAnyIn F0 n P .any ops Q' t L a W):∀(fuel:Nat)(listed:Array Bool)(a:Act)(F:qO)(W:World),(∀k,qS R (F k))->R.r w0 W->(∀k,F k W)->kz R P ops w0 H L Q fuel listed a F->wpAnyIn F0 n P .any ops Q' (fuel+t) listed a W
 |0,listed,a,F,W,_,hW,hF,h=>by rw[h.1,Nat.zero_add];exact hQ a F W h.2 hW hF
 |fuel+1,listed,a,F,W,hst,hW,hF,h=>by rw[show fuel+1+t=fuel+t+1 by omega];refine⟨λh0=>absurd h0 h.1,λi hi=>?_⟩;obtain⟨_,o,ho,_⟩:=mem_ready.1 hi;exact qbg HF HN ho hH hst hW hF (λa' F' W' hk hLW hW' hF'=>Yv HF HN hH hQ fuel _ a' F' W' hLW hW' hF' hk) (h.2 i hi o ho)
theorem Zv{id:Nat}{l:List Oper}{Q:Exit->Act->World->Prop}{a:Act}{w:World}(R:Rel)(H:Nat->Option qZ)(M:List Bool)(t:Nat)(HF:WideF F0)(HN:YO l.toArray=true)(hm:P.follows .mixedOrders=true)(hs:Region.noSelect l.toArray=true)(ht:qhu l.toArray (zv l.length (l.length-t)) ((qw 0 l M).map (·.1))=true)(hc0:Te l.toArray (Array.replicate l.length false)=true)(hB:ZP l.toArray (zv l.length (l.length-t)) ((qw 0 l M).map (·.1)) (Array.replicate l.length false)=true)(hVC:GZ l.toArray t (l.length-t) (zv l.length (l.length-t))=true)(hfu:l.length=(qw 0 l M).length+t)(htl:(l.drop (l.length-t)).length=t)(hH:∀i h,H i=some h->∀p,qS R (h.φ p))(hW:R.r w w.drew)(h:∀K:Act->qO->Prop,(∀a' F',(∀W,R.r w W->(∀k,F' k W)->wpListIn F0 n P l.toArray Q (l.drop (l.length-t)) a' W)->K a' F')->jG R P l.toArray w H K (qw 0 l M) a (λ_ _=>True)):(Code.region id l.toArray true).wpIn F0 n P Q a w:=by
 have h:=h _ (λa' F' hh=>hh);refine wpIn_region_any hm ?_;have key:=Ta (w0:=w) hH hs (λ_ _ h=>h.step) (YX ht) (qw 0 l M) (Array.replicate l.length false) a (λ_ _=>True) (vp hc0) (λx hx=>by obtain⟨j,h1,h2⟩:=vx l M 0 x hx;refine⟨?_,List.mem_map.2 ⟨x,hx,rfl⟩⟩;rw[h1,Nat.zero_add];simpa using h2) hB (λ_ _ _ _ _=>trivial) ⟨w.drew,hW,λ_=>trivial⟩ (λ_ _ _=>trivial) h;have:=Yv (n:=n) (w0:=w) HF HN hH (t:=t) (Q':=Q) (λa F W hq hW hF=>by
  have:=qaY (F:=F0) (n:=n) (l.drop (l.length-t)) (l.length-t) _ a W (λj _=>by rw[List.getElem?_drop];simp) (by rw[htl];exact hVC) (hq W hW hF)
  rwa [htl]at this) _ _ _ _ w.drew (λ_ _ _ _ _=>trivial) hW (λ_=>trivial) key
 rw[<-hfu]at this;simpa using this
end
end Go.Proofs.YtmeadnlmepcmbaaGreat
namespace Go.Proofs.YtmeadnlmepcmbaaGreat
open Go.RowKit Go.Shelf
attribute [local go_sem] Oper.semAt_some
def qbQ(S:Sto)(a:Nat):Nat:=(S.last[a]?.getD 0).toNat
def Jv(S:Sto)(a:Nat):Bool:=decide (8<=a)&&(decide (Jh S a=0)&&decide (qbQ S a=0))
def Kc(S:Sto)(k:Nat):List Nat:=(List.range k).filter (Jv S)
def Kb(S:Sto):List Nat:=Kc S 256
theorem qar(S:Sto)(k:Nat):Kc S (k+1)=if Jv S k=true then Kc S k++[k]else Kc S k:=by
 unfold Kc;rw[List.range_succ,List.filter_append];by_cases h:Jv S k=true
 ·rw[if_pos h];simp[h]
 ·rw[if_neg h];simp[h]
theorem qij(S:Sto){k m:Nat}(h:k<=m):Kc S k <+:Kc S m:=by
 induction m with
 |zero=>
  obtain rfl:k=0:=zO;exact List.prefix_refl _
 |succ m ih=>
  rcases Nat.lt_or_ge m k with h1|h1
  ·obtain rfl:k=m+1:=zO;exact List.prefix_refl _
  ·refine(ih h1).trans ?_;rw[qar];split
   ·exact List.prefix_append _ _
   ·exact List.prefix_refl _
theorem nowN_lt(S:Sto)(a:Nat):Jh S a<256:=UInt8.toNat_lt _
theorem lastN_lt(S:Sto)(a:Nat):qbQ S a<256:=UInt8.toNat_lt _
theorem or_zero(a b:Nat)(ha:a<256)(hb:b<256):(bits .or .u8 (a:Int) (b:Int)==0)=(decide (a=0)&&decide (b=0)):=by
 have e:bits .or .u8 (a:Int) (b:Int)=((a||| b:Nat):Int):=by
  have e:∀n:Nat,n<256->(BitVec.ofInt 8 (n:Int)).toNat=n:=λn hn=>by simp[BitVec.ofInt_natCast];omega
  have hx:a||| b<2^8:=Nat.or_lt_two_pow zO zO
  show IntKind.u8.wrap (((BitVec.ofInt 8 (a:Int)||| BitVec.ofInt 8 (b:Int)).toNat:Nat):Int)=_;rw[BitVec.toNat_or,e a ha,e b hb];simp[IntKind.wrap,IntKind.bits,IntKind.signed];omega
 rw[e];by_cases h:a=0/\b=0
 ·obtain⟨rfl,rfl⟩:=h;rfl
 ·have h2:a||| b≠0:=by
   intro h3;have h4:a<=a||| b:=Nat.left_le_or
   have h5:b<=a||| b:=Nat.right_le_or
   exact h ⟨zO,zO⟩
  have h6:(decide (a=0)&&decide (b=0))=false:=by
   rcases Nat.eq_zero_or_pos a with h7|h7
   ·have:b≠0:=λh8=>h ⟨h7,h8⟩;simp[this]
   ·simp[show a≠0 by omega]
  rw[h6];simpa using λh9:((a||| b:Nat):Int)=0=>h2 zO
end Go.Proofs.YtmeadnlmepcmbaaGreat
namespace Go.Proofs.YtmeadnlmepcmbaaGreat
open Go.RowKit
theorem TN{F:Fence}{n:Nat}{P:Program}{ops:Array Oper}{l:List Oper}{a:Act}{w:World}{Q:Exit->Act->World->Prop}(h:Qm (wpListIn F n P ops Q l a w)):wpListIn F n P ops Q l a w:=h
theorem TM{F:Fence}{nf:Nat}{P:Program}(w:World){ops:Array Oper}{rest:List Oper}{o:Oper}{a:Act}{Q:Exit->Act->World->Prop}(hgd:o.guard=none)(s x:Operand)(t:TypeId)(ho:o.op=.call {callee:=.builtin .append,args:=#[s,x],argTypes:=#[t,t]})(base:Nat)(e:TypeId)(i:TypeInfo)(z:Value)(size bytes:Nat)(ht:P.underlying t=some (.slice e))(hi:P.info? e=some i)(hz:i.zero=some z)(hLG:i.size=size)(hby:i.bytes=bytes)(hzs:z.cells.size=size)(hsz:0<size)(v:Value)(n:Nat)(xs:List Value)(hs:a.eval s=v)(hAE:w.ownsRow base e size v n xs)(cs:Array Value)(hx:a.eval x=.slice (some ⟨w.heap.size,0,none⟩) 1 1)(hl:cs.size=size)(h1:∀u∈cs.toList,u.oneCell'=true)(hn:n<1073741824)(hKT:bytes<=65536)(hUO:base<=w.heap.size)(h:∀v' w',w'.ownsRow base e size v' (n+1) (xs++cs.toList)->w.grownBy w' v.ownBlock->(v'.ownBlock=v.ownBlock\/∃g,v'.ownBlock=some g/\w.heap.size<=g)->wpListIn F nf P ops Q rest (a.put o.dst v') w'):wpListIn F nf P ops Q (o::rest) a (w.alloc (.cells cs e)):=by
 refine wpListIn_plain hgd λK hK=>?_;have hb:(n+1)*bytes<=140737488355328:=Nat.le_trans (Nat.mul_le_mul_left _ hKT) zO;have hm:n+1<=maxLen:=zA7;obtain⟨v',w',hEQ,h2,h3,_,h5⟩:=run_append_own_at (P:=P) (w.alloc (.cells cs e)) base t o.type e i z size bytes ht hi hz hLG hby hzs hsz v n xs (hAE.alloc _) ⟨w.heap.size,0,none⟩ 1 1 cs.toList
  (by rw[Array.length_toList];omega) (Xq w cs e) h1 hm hb zA2
 have hg:w.grownBy w' v.ownBlock:=⟨h3.os,h3.tape,h3.output,Nat.le_trans zA3 h3.size,λk hk hne=>(h3.block k zA2 hne).trans (zK w _ k hk)⟩
 unfold Oper.wpIn;refine⟨?_,?_⟩
 ·simp[Oper.about,ho,resolve,Target.leads,Sem.run_pure]
 ·rw[Oper.semAt_plain F _ _ (by rw[ho];intro c hc';cases hc')];simp only[execOp,ho,resolve,invoke,builtin,Sem.run_bind,Sem.run_pure,Result.andThen_ok,List.map_toArray,List.map_cons,List.map_nil,hs,hx,hEQ];exact hK _ _ (h v' w' h2 hg (h5.imp id λe=>⟨_,e,zA3⟩))
end Go.Proofs.YtmeadnlmepcmbaaGreat
namespace Go.Proofs.YtmeadnlmepcmbaaGreat
open Go.RowKit Go.Shelf
attribute [local go_sem] Oper.semAt_some
theorem qha{w:World}{B:Nat}{e:TypeId}{size:Nat}{v:Value}{n:Nat}{xs:List Value}(h:w.ownsRow B e size v n xs):∀g,v.ownBlock=some g->∃c fz,w.heap[g]?=some (.cells c e fz):=by
 intro g hg;rcases h.2 with⟨rfl,_⟩|⟨b,cap,cur,rfl,_,h2,_⟩
 ·simp[Value.ownBlock]at hg
 ·simp[Value.ownBlock]at hg;subst hg;exact⟨cur,(0,0),h2⟩
theorem qgb{B:Nat}{W W':World}{row:Option Nat}(hg:W.grownBy W' row)(hr:∀g,row=some g->B<=g)(hB:B<=W.heap.size:=by omega):Below B W W':=(Below.refl _ _).grown hg hB (λk e=>hr k e)
theorem qgF{w w':World}{B:Nat}{e:TypeId}{size:Nat}{v:Value}{n:Nat}{xs:List Value}(h:w.ownsRow B e size v n xs)(hg:w.grownBy w' v.ownBlock):KeepsOthers w w':=⟨hg.size,λk o hk ho=>(hg.block k (zG.1 hk).1 (λe1=>by obtain⟨c,fz,h3⟩:=qha h k e1.symm;rw[hk]at h3;cases h3;cases ho)).trans hk⟩
end Go.Proofs.YtmeadnlmepcmbaaGreat
namespace Go.Proofs.YtmeadnlmepcmbaaGreat
open Go.RowKit
section
variable {F0:Fence} {P:Program} {ops:Array Oper} {n:Nat}
end


end Go.Proofs.YtmeadnlmepcmbaaGreat
namespace Go.Proofs.YtmeadnlmepcmbaaGreat
open Go.RowKit Go.Shelf
attribute [local go_sem] Oper.semAt_some
def zj(S:Sto):Nat:=(Kb S).headD 0
def vl(S:Sto)(a:Nat)(data:List UInt8):Sto:=⟨S.bs,S.ws++[((a:Int),data)],S.now.set a 1,S.last⟩
theorem KeepsOthers.of_ext{W W':World}(h:Ext W W'):KeepsOthers W W':=⟨h.size,λk _ hk _=>(h.block k (zG.1 hk).1).trans hk⟩
theorem Yp{w W:World}{x0 x1 x2 x3 y z:Value}{ty1 ty2 ty3:TypeId}{u0 u1 u2 u3 u5 u6:Value}(r4:W.heap[w.heap.size+2]?=some (.cells #[u0,u1,u2,u3] ty1 (0,0)))(r5:W.heap[w.heap.size+3]?=some (.cells #[u5] ty2 (0,0)))(r6:W.heap[w.heap.size+4]?=some (.cells #[u6] ty3 (0,0))){C:World}(hC:C=((((((W.setCell ⟨w.heap.size+1+1,0,none⟩ x0).setCell ⟨w.heap.size+1+1,1,none⟩ x1).setCell ⟨w.heap.size+1+1,2,none⟩ x2).setCell ⟨w.heap.size+1+1,3,none⟩ x3).setCell ⟨w.heap.size+1+1+1,0,none⟩ y).setCell ⟨w.heap.size+1+1+1+1,0,none⟩ z)):C.heap[w.heap.size+2]?=some (.cells #[x0,x1,x2,x3] ty1 (0,0))/\C.heap[w.heap.size+3]?=some (.cells #[y] ty2 (0,0))/\C.heap[w.heap.size+4]?=some (.cells #[z] ty3 (0,0))/\(∀{B:Nat}{w0:World},B<=w.heap.size+2->Below B w0 W->Below B w0 C)/\C.heap.size=W.heap.size/\(∀k,w.heap.size+5<=k->C.heap[k]?=W.heap[k]?)/\KeepsOthers W C:=by
 subst hC;have hs:=λ(A:World)(b j:Nat)(v:Value)(k:Nat)(hk:k≠b)=>zJ A ⟨b,j,none⟩ v k hk;refine⟨?_,?_,?_,λhB h=>?_,zA3,λk hk=>?_,?_⟩
 ·rw[hs _ _ _ _ _ zO,hs _ _ _ _ _ zO];exact qcv r4 x0 x1 x2 x3
 ·rw[hs _ _ _ _ _ zO];refine qo (t:=ty2) (cs:=#[u5]) ?_ 0 y;rw[hs _ _ _ _ _ zO,hs _ _ _ _ _ zO,hs _ _ _ _ _ zO,hs _ _ _ _ _ zO];exact r5
 ·refine qo (t:=ty3) (cs:=#[u6]) ?_ 0 z;rw[hs _ _ _ _ _ zO,hs _ _ _ _ _ zO,hs _ _ _ _ _ zO,hs _ _ _ _ _ zO,hs _ _ _ _ _ zO];exact r6
 ·exact Below.setCell (Below.setCell (vR h (b:=w.heap.size+1+1) zO x0 x1 x2 x3) (p:=⟨w.heap.size+1+1+1,0,none⟩) zA2 _) (p:=⟨w.heap.size+1+1+1+1,0,none⟩) zA2 _
 ·rw[hs _ _ _ _ _ zO,hs _ _ _ _ _ zO,hs _ _ _ _ _ zO,hs _ _ _ _ _ zO,hs _ _ _ _ _ zO,hs _ _ _ _ _ zO]
 ·exact(((((KeepsOthers.setCell _ _ _).trans (KeepsOthers.setCell _ _ _)).trans (KeepsOthers.setCell _ _ _)).trans (KeepsOthers.setCell _ _ _)).trans (KeepsOthers.setCell _ _ _)).trans (KeepsOthers.setCell _ _ _)
end Go.Proofs.YtmeadnlmepcmbaaGreat
namespace Go.Proofs.YtmeadnlmepcmbaaGreat
open Go.RowKit
def ZG(t:List UInt8)(a:Nat):Except Int (List UInt8):=if a=0 then .ok t else if qP t a=0 then .error 6 else if qP t a=255 then .error 70 else .ok (QZ t a 1)
def ZM:List Nat->List UInt8->Except Int (List UInt8)
 |[],t=>.ok t
 |a::r,t=>match ZG t a with
  |.error e=>.error e
  |.ok t'=>ZM r t'
theorem Vp:∀(l r:List Nat)(t:List UInt8),ZM (l++r) t=match ZM l t with
  |.error e=>.error e
  |.ok t'=>ZM r t'
 |[],_,_=>rfl
 |a::l,r,t=>by
  simp only[List.cons_append,ZM];cases ZG t a with
  |error e=>rfl
  |ok t'=>exact Vp l r t'
theorem qcG(a:Nat)(t:List UInt8):ZM [a] t=ZG t a:=by simp only[ZM];cases ZG t a<;>rfl
def qB(its:List It):List Nat:=its.map λx=>x.r.toNat
theorem KH{its:List It}{k:Nat}(hk:k<its.length):qB (its.take (k+1))=qB (its.take k)++[(its[k].r).toNat]:=by unfold qB;rw[List.take_succ_eq_append_getElem hk,List.map_append];rfl
theorem qiV{its:List It}(k:Nat):qB its=qB (its.take k)++qB (its.drop k):=by unfold qB;rw[<-List.map_append,List.take_append_drop]
theorem qiY{its:List It}{k:Nat}(hk:k<its.length){t t':List UInt8}{e:Int}(h:ZM (qB (its.take k)) t=.ok t')(h1:ZG t' (its[k].r).toNat=.error e):ZM (qB its) t=.error e:=by rw[qiV (its:=its) (k+1),Vp,KH hk,Vp,h];simp only[qcG,h1]
theorem qhr{its:List It}{k:Nat}(hk:k<its.length){t t' t'':List UInt8}(h:ZM (qB (its.take k)) t=.ok t')(h1:ZG t' (its[k].r).toNat=.ok t''):ZM (qB (its.take (k+1))) t=.ok t'':=by rw[KH hk,Vp,h];simp only[qcG,h1]
def zX(S:Sto)(lvl:Int)(its:List It):Except Int (Nat×Sto):=
 if Qj lvl its=true then
  match ZM (qB its) S.now with
  |.error e=>.error e
  |.ok t=>if Kb (qv S t)=[]\/S.ws.length=4096 then .error 9 else .ok (zj (qv S t),vl (qv S t) (zj (qv S t)) (Zi (Qx lvl its)))
 else .error 8
section
variable {D:Nat->Prop} {B lo b g:Nat} {k:Option Nat} {S:Sto} {w W:World}
theorem Bch.lens(h:Bch D B lo b g k S w):S.now.length=256/\S.last.length=256:=by obtain⟨A1,n1,c1,v2,c3,A4,c4,hr,ho,-,-,h4⟩:=h.ex;have:=ho.1;have h5:=h4.at_.1;exact⟨by simpa using this,h5.symm⟩
theorem Bch.cells(h:Bch D B lo b g k S w):∃A1 n1 c1 v2 c3 A4 c4,(∀i,w.cell? ⟨b,i,none⟩=#[.slice A1 n1 c1,v2,.slice (some ⟨g,0,none⟩) 256 c3,.slice A4 256 c4][i]?)/\(∀a,a<256->w.cell? ⟨g,a,none⟩=some (.int .u8 (Jh S a:Int)))/\(∀a,w.frozen? ⟨g,a,none⟩=false):=by obtain⟨A1,n1,c1,v2,c3,A4,c4,hr,ho,-,-,-⟩:=h.ex;obtain⟨h1,h2,-,-⟩:=ZW ho;exact⟨A1,n1,c1,v2,c3,A4,c4,qa hr,h1,h2⟩
end
theorem TX{R:Ending->World->Prop}{a:Act}{W:World}{v:Value}(h4:a.tmps[4]?.getD undef=v)(hd:a.defers=[])(hR:R (.returned v) W):bodyPost prog Tryz.f170 R .ret a W:=by refine bodyPost_ret (v:=v) ?_ hd hR;simp[results,results170,go_sem,h4]
set_option maxRecDepth 100000 in
theorem qbw(D:Nat->Prop)(B lo b g:Nat)(k:Option Nat)(S:Sto)(a:Nat)(ha:a<256)(w:World)(h:Bch D B lo b g k S w):Calls prog 170 #[.pointer (some ⟨b,0,none⟩),.int .i64 (a:Int)] w λe W=>Qh lo b g k w W /\
   ((qP S.now a=0/\e=.returned (.int .i64 6))\/(qP S.now a=255/\e=.returned (.int .i64 70))\/(qP S.now a≠0/\qP S.now a≠255/\e=.returned (.int .i64 0)/\Bch D B lo b g k (qv S (QZ S.now a 1)) W)):=by
 obtain⟨A1,n1,c1,v2,c3,A4,c4,kr,hk,hf⟩:=h.cells;have hka:=hk a ha;have hfa:=hf a;have hT:Hid (QZ S.now a 1=S.now.set a (UInt8.ofNat (qP S.now a+1))):=rfl;have hNT:=zH (h.count ha (UInt8.ofNat (qP S.now a+1)));have hcn:Jh S a=qP S.now a:=rfl;have hc2:=(S.now[a]?.getD 0).toNat_lt;have hc:qP S.now a=(S.now[a]?.getD 0).toNat:=rfl;rw[hcn]at hka;rw[<-hc]at hc2;have hwv:=qkf (qP S.now a+1);generalize qP S.now a=nv at*;clear hk hf hc hcn h;by_cases h0:nv=0
 ·subst h0;clear hNT hT hwv;go_enter func170,ntmps170;go_wp2_with fail;exact TX rfl rfl ⟨Qh.refl _ _ _ _ _,.inl ⟨by trivial,rfl⟩⟩
 ·have hz1:((nv:Int)==0)=false:=by rw[beq_eq_false_iff_ne];omega
  have hz2:decide (nv=0)=false:=decide_eq_false zO;by_cases h1:nv=255
  ·subst h1;clear hNT hT hwv;go_enter func170,ntmps170;go_wp2_with fail;exact TX rfl rfl ⟨Qh.refl _ _ _ _ _,.inr (.inl ⟨by trivial,rfl⟩)⟩
  ·have hz3:((nv:Int)==255)=false:=by rw[beq_eq_false_iff_ne];omega
   have hz4:decide (nv=255)=false:=decide_eq_false zO;replace⟨h0,h1⟩:=zH2 h0 h1;rw[show((nv+1:Nat):Int)=(nv:Int)+1 from rfl]at hwv;go_enter func170,ntmps170;go_wp2_with fail;refine TX rfl rfl ⟨hNT.out.2,.inr (.inr ⟨h0.out,h1.out,rfl,?_⟩)⟩;rw[hT.out];exact hNT.out.1
set_option maxRecDepth 100000 in
theorem Xr(D:Nat->Prop)(B lo b g:Nat)(k:Option Nat)(S:Sto)(a:Nat)(ha:a<256)(w:World)(h:Bch D B lo b g k S w):Calls prog 141 #[.pointer (some ⟨b,0,none⟩),.int .i64 (a:Int)] w λe W=>Qh lo b g k w W /\
   ((qP S.now a=0/\e=.returned (.int .i64 6))\/(qP S.now a≠0/\e=.returned (.int .i64 0)/\Bch D B lo b g k (qv S (vM S.now a)) W)):=by
 obtain⟨A1,n1,c1,v2,c3,A4,c4,kr,hk,hf⟩:=h.cells;have hka:=hk a ha;have hfa:=hf a;have hT:Hid (vM S.now a=S.now.set a (UInt8.ofNat (qP S.now a-1))):=rfl;have hNT:=zH (h.count ha (UInt8.ofNat (qP S.now a-1)));have hcn:Jh S a=qP S.now a:=rfl;have hc2:=(S.now[a]?.getD 0).toNat_lt;have hc:qP S.now a=(S.now[a]?.getD 0).toNat:=rfl;rw[hcn]at hka;rw[<-hc]at hc2;generalize qP S.now a=nv at*;clear hk hf hc hcn h;by_cases h0:nv=0
 ·subst h0;clear hNT hT;go_enter func141,ntmps141;go_wp2_with fail;exact qbu rfl rfl ⟨Qh.refl _ _ _ _ _,.inl ⟨by trivial,rfl⟩⟩
 ·have hz1:((nv:Int)==0)=false:=by rw[beq_eq_false_iff_ne];omega
  have hwv:=qke (n:=nv) zO hc2;replace h0:=zH h0;go_enter func141,ntmps141;go_wp2_with fail;refine qbu rfl rfl ⟨hNT.out.2,.inr ⟨h0.out,rfl,?_⟩⟩;rw[hT.out];exact hNT.out.1
theorem qdq{P:Program}(w:World)(t ty:TypeId)(e:TypeId)(i:TypeInfo)(z:Value)(size bytes:Nat)(ht:P.underlying t=some (.slice e))(hi:P.info? e=some i)(hz:i.zero=some z)(hLG:i.size=size)(hby:i.bytes=bytes)(hzs:z.cells.size=size)(hsz:0<size)(B:Nat)(A n)(xs:List Value)(hr:Rd w B size A n xs)(cs:Array Value)(hl:cs.size=size)(h1:∀u∈cs.toList,u.oneCell'=true)(hn:n<1073741824)(hKT:bytes<=65536):∃v' w',(Builtin.append_ #[t,t] ty #[.slice A n n,.slice (some ⟨w.heap.size,0,none⟩) 1 1]).run P (w.alloc (.cells cs e))=.ok v' w'/\w'.ownsRow (w.heap.size+1) e size v' (n+1) (xs++cs.toList)/\Ext w w'/\v'.ownBlock=some (w.heap.size+1):=by
 have hb:(n+1)*bytes<=140737488355328:=Nat.le_trans (Nat.mul_le_mul_left _ hKT) zO;have hm:n+1<=maxLen:=zA7;have hm2:((n+1:Nat):Int)<=9223372036854775807:=zO;rcases A with _|ad
 ·have hn0:n=0:=by
   rcases Nat.eq_zero_or_pos n with h0|h0
   ·exact h0
   ·obtain⟨b,off,h,_⟩:=hr.2 h0;cases h
  subst hn0;have hx:xs=[]:=List.eq_nil_of_length_eq_zero (by simpa using hr.1);subst hx;obtain⟨v',w',hEQ,h2,h3,h4,h5⟩:=run_append_own_at (P:=P) (w.alloc (.cells cs e)) (w.heap.size+1) t ty e i z size bytes ht hi hz hLG hby hzs hsz (.slice none 0 0) 0 [] (World.ownsRow_nil _ _ _ _) ⟨w.heap.size,0,none⟩ 1 1 cs.toList
   (by rw[Array.length_toList];omega) (Xq w cs e) h1 hm hb zA3
  refine⟨v',w',hEQ,h2,Ext.trans (zN w (.cells cs e)) ((Below.refl _ _).grown h3 (zM _) (λk hk=>by cases hk)),?_⟩;rcases h5 with h5|h5
  ·exfalso;rcases h2.2 with⟨e0,_⟩|⟨g,cap,cur,e0,_⟩
   ·have:=(h4.1 e0).2;omega
   ·rw[e0]at h5;cases h5
  ·rw[h5];simp
 ·have hJW:∀j u,xs[j]?=some u->w.cell? (ad.add j)=some u:=by
   intro j u hu;rcases Nat.eq_zero_or_pos n with h0|h0
   ·subst h0;have hx:xs=[]:=List.eq_nil_of_length_eq_zero (by simpa using hr.1);subst hx;simp at hu
   ·obtain⟨b,off,h,_⟩:=hr.2 h0;injection h with h;subst h;exact hr.adds h0 j u hu
  subst hLG;subst hby;have hr':=run_append_grow (P:=P) (w.alloc (.cells cs e)) t ty e i z ht hi hz ad n n xs hr.1 (λj u hu=>Ext.cell (zN w _) (hJW j u hu)) ⟨w.heap.size,0,none⟩ 1 1 cs.toList (by rw[Array.length_toList];omega) (Xq w cs e) zO hm2 (growslice_fits zO hb);refine⟨_,_,hr',?_,(zN w _).trans ((Ext.drew _).trans (zN _ _)),by simp[Value.ownBlock]⟩;have hge:=grownCap_ge (w.alloc (.cells cs e)) (n+1) n e;have hcm:grownCap (w.alloc (.cells cs e)) (n+1) n e<=maxLen:=grownCap_le_maxLen _ (n+1) n e hm;have hlen:(xs++cs.toList).length=(n+1)*i.size:=by rw[List.length_append,hr.1,Array.length_toList,hl,Nat.add_mul,Nat.one_mul]
  refine⟨hlen,.inr ⟨_,_,_,rfl,zA3,heap_alloc_new (w.alloc (.cells cs e)).drew _,hge,hcm,?_,?_⟩⟩
  ·simp only[Array.size_append,List.size_toArray,size_zeroCells,hzs,hr.1,hl];rw[<-Nat.succ_mul,<-Nat.add_mul];congr 1;omega
  ·simp only[Array.toList_append,List.append_assoc];rw[<-List.append_assoc,<-hlen];exact List.take_left
theorem WsB.push{D:Nat->Prop}{B lo b g:Nat}{k:Option Nat}{v:Value}{ws:List (Int×List UInt8)}{w:World}(h:WsB D B lo b g k v ws w)(hlo:lo<=w.heap.size)(hk:∀q,k=some q->¬(q<B\/D q))(hws:ws.length<1073741824)(at_:Int)(A0 c0)(l:List UInt8)(hd:∀C,qT (TP B D) w C->Bys C C.heap.size (.slice A0 l.length c0) l)(ty:TypeId):∃v' w' k',(Builtin.append_ #[23,23] ty #[v,.slice (some ⟨w.heap.size,0,none⟩) 1 1]).run prog (w.alloc (.cells #[.int .i64 at_,.slice A0 l.length c0] 142))=.ok v' w'/\WsB D B lo b g k' v' (ws++[(at_,l)]) w'/\Qh lo b g k w w'/\Zj w.heap.size k k'/\(∀q,q<w.heap.size->k≠some q->w'.heap[q]?=w.heap[q]?):=by
 obtain⟨i0,hi,hz0,hz1,hz2⟩:=info_parts Tryz.info_write;obtain⟨ps,rfl,hw,hp⟩:=h;have h1:∀u∈(#[.int .i64 at_,.slice A0 l.length c0]:Array Value).toList,u.oneCell'=true:=zA8;rw[List.length_map]at hws hw;have fin:∀(v':Value)(w':World)(k':Option Nat),w'.ownsRow lo 142 2 v' (ps.length+1) (js ps++[.int .i64 at_,.slice A0 l.length c0])->(∃q,v'.ownBlock=some q/\k'=some q)->(∀q,q<w.heap.size->k≠some q->w'.heap[q]?=w.heap[q]?)->WsB D B lo b g k' v' (ps.map (·.1)++[(at_,l)]) w':=λv' w' k' ho ⟨q,hq1,hq2⟩ hR=>by
  have hX:qT (TP B D) w w':=TP.keep λq hq h1=>hR q hq λe=>hk q e h1;refine⟨ps++[((at_,l),.slice A0 l.length c0)],zA3,.inr ⟨q,hq2,hq1,by rw[qgg];simpa using ho⟩,λp hpm=>?_⟩;rcases List.mem_append.1 hpm with hpm|hpm
  ·exact⟨(hp p hpm).1,λC hC=>(hp p hpm).2 C (hX.trans hC λ_ _ h=>h)⟩
  ·obtain rfl:p=((at_,l),.slice A0 l.length c0):=by simpa using hpm
   exact⟨⟨A0,c0,rfl⟩,λC hC=>hd C (hX.trans hC λ_ _ h=>h)⟩
 rcases hw with⟨rfl,hm,A,rfl,hr⟩|⟨q,rfl,hq,ho⟩
 ·obtain⟨v',w',hEQ,h2,hx,hb⟩:=qdq (P:=prog) w 23 ty 142 i0 (.agg #[.int .i64 0,.slice none 0 0]) 2 32 underlying23 hi hz0 hz1 hz2 rfl zA1 B A ps.length (js ps) hr #[.int .i64 at_,.slice A0 l.length c0] rfl h1 hws zA1;have hN:Zj w.heap.size none (some (w.heap.size+1)):=λq hq=>.inr (by cases hq;omega);have hB:Qh lo b g none w w':=Qh.of_ext hx hlo;exact⟨v',w',some (w.heap.size+1),hEQ,fin v' w' _ (QB h2 zO) ⟨_,hb,rfl⟩ (λq hq _=>Below.block hx q hq),hB,hN,λq hq _=>Below.block hx q hq⟩
 ·obtain⟨v',w',hEQ,h2,h3,_,h5⟩:=run_append_own_at (P:=prog) (w.alloc (.cells #[.int .i64 at_,.slice A0 l.length c0] 142)) lo 23 ty 142 i0 (.agg #[.int .i64 0,.slice none 0 0]) 2 32 underlying23 hi hz0 hz1 hz2 rfl zA1 v ps.length (js ps) (ho.alloc _) ⟨w.heap.size,0,none⟩ 1 1 [.int .i64 at_,.slice A0 l.length c0]
   rfl (Xq w #[.int .i64 at_,.slice A0 l.length c0] 142) h1 zA7 zO zA2
  have hlq:=(QM ho q hq).1;rw[hq]at h3 h5;have hB:Below lo w w':=Below.trans (Below.mono (zN w _) hlo) ((Below.refl lo _).grown h3 zA2 (λk hk=>by cases hk;exact hlq));have hBT:∀q',q'<w.heap.size->(some q≠some q')->w'.heap[q']?=w.heap[q']?:=λq' h1 hne=>(h3.block q' zA2 (λe=>hne e.symm)).trans (zK w _ q' h1);have hK:Qh lo b g (some q) w w':=⟨hB,λq' h1 hn=>hBT q' h1 λe=>hn (.inr (.inr e))⟩
  rcases h5 with h5|h5
  ·exact⟨v',w',some q,hEQ,fin v' w' _ h2 ⟨q,h5,rfl⟩ hBT,hK,Zj.refl _ _,hBT⟩
  ·have hN:Zj w.heap.size (some q) (some (w.heap.size+1)):=λq' hq'=>.inr (by cases hq';omega);exact⟨v',w',some (w.heap.size+1),hEQ,fin v' w' _ h2 ⟨_,by rw[h5];simp,rfl⟩ hBT,hK,hN,hBT⟩
theorem qfF{ops:Array Oper}{rest:List Oper}{o:Oper}{a:Act}{Q:Exit->Act->World->Prop}(hgd:o.guard=none)(s x:Operand)(ho:o.op=.call {callee:=.builtin .append,args:=#[s,x],argTypes:=#[23,23]}){D:Nat->Prop}{B lo b g:Nat}{k:Option Nat}{v:Value}{ws:List (Int×List UInt8)}{w:World}(hs:a.eval s=v)(hx:a.eval x=.slice (some ⟨w.heap.size,0,none⟩) 1 1)(h:WsB D B lo b g k v ws w)(hlo:lo<=w.heap.size)(hk:∀q,k=some q->¬(q<B\/D q))(hws:ws.length<1073741824)(at_:Int)(A0 n0 c0)(l:List UInt8)(hn0:n0=l.length)(hd:∀C,qT (TP B D) w C->Bys C C.heap.size (.slice A0 n0 c0) l)(hK:∀v' w' k',WsB D B lo b g k' v' (ws++[(at_,l)]) w'->Qh lo b g k w w'->Zj w.heap.size k k'->(∀q,q<w.heap.size->k≠some q->w'.heap[q]?=w.heap[q]?)->wpList prog ops Q rest (a.put o.dst v') w'):wpList prog ops Q (o::rest) a (w.alloc (.cells #[.int .i64 at_,.slice A0 n0 c0] 142)):=by
 subst hn0;refine wpList_plain hgd λK hKK=>?_;obtain⟨v',w',k',hEQ,h1,h2,h3,h4⟩:=h.push hlo hk hws at_ A0 c0 l hd o.type;unfold Oper.wp execOp;simp only[ho,resolve,invoke,builtin,Sem.run_bind,Sem.run_pure,Result.andThen_ok,List.map_toArray,List.map_cons,List.map_nil,hs,hx,hEQ];exact hKK _ _ (hK v' w' k' h1 h2 h3 h4)
theorem Bch.put{D:Nat->Prop}{B lo b g:Nat}{k k':Option Nat}{S:Sto}{w W:World}(h:Bch D B lo b g k S w){A1:OA}{n1 c1 c3 c4:Nat}{A4:OA}{v2 v':Value}(hr:w.heap[b]?=some (.cells #[.slice A1 n1 c1,v2,.slice (some ⟨g,0,none⟩) 256 c3,.slice A4 256 c4] 223 (0,0)))(ho:w.ownsRow lo 5 1 (.slice (some ⟨g,0,none⟩) 256 c3) 256 (S.now.map bv))(hb:Bls w B (.slice A1 n1 c1) S.bs)(hl:Bys w B (.slice A4 256 c4) S.last){f:Nat}{l:List UInt8}(hf:f<256)(hw:WsB D B lo b g k' v' (S.ws++[((f:Int),l)]) W)(hB:Qh lo b g k w W)(hN:Zj w.heap.size k k')(wPZ:∀q,q<w.heap.size->k≠some q->W.heap[q]?=w.heap[q]?):Bch D B lo b g k' ⟨S.bs,S.ws++[((f:Int),l)],S.now.set f 1,S.last⟩ ((W.setCell ⟨b,1,none⟩ v').setCell ⟨g,f,none⟩ (.int .u8 1))/\Qh lo b g k w ((W.setCell ⟨b,1,none⟩ v').setCell ⟨g,f,none⟩ (.int .u8 1)):=by
 obtain⟨hlb,hzb,hlg,hzg,hgb,hlw,hkq⟩:=h.size;have hbl:=h.blo;have hkd:=h.offk;have hzW:=hB.below.size;have hrb:=(wPZ b hzb λe=>(hkq b e).2.2.1 rfl).trans hr;have hkq':∀q,k'=some q->q≠b/\q≠g:=λq hq=>(hN q hq).elim (λe=>(hkq q e).2.2) λe=>zO;have st:∀q,q≠b->q≠g->((W.setCell ⟨b,1,none⟩ v').setCell ⟨g,f,none⟩ (.int .u8 1)).heap[q]?=W.heap[q]?:=λq h1 h2=>(zJ _ _ _ _ h2).trans (zJ _ _ _ _ h1);have hB1:Below lo W ((W.setCell ⟨b,1,none⟩ v').setCell ⟨g,f,none⟩ (.int .u8 1)):=Below.setCell (Below.setCell (Below.refl _ _) (p:=⟨b,1,none⟩) hlb _) (p:=⟨g,f,none⟩) hlg _;have hB2:Below lo w ((W.setCell ⟨b,1,none⟩ v').setCell ⟨g,f,none⟩ (.int .u8 1)):=hB.below.trans hB1;have hX:qT (TP B D) W ((W.setCell ⟨b,1,none⟩ v').setCell ⟨g,f,none⟩ (.int .u8 1)):=TP.keep λq _ hq=>st q (λe=>hkd b (.inl rfl) (e▸hq)) (λe=>hkd g (.inr (.inl rfl)) (e▸hq));have ho1:=Zb ho (w':=W) λq hq=>by cases hq;exact wPZ g hzg λe=>(hkq g e).2.2.2 rfl
 have ho2:=qfk (qgZ (k:=1) (v:=v') ho1 hgb) (k:=f) hf 1;refine⟨⟨hlb,hbl,λq hq=>⟨(h.dB q hq).1,by have:=(h.dB q hq).2.1;simp;omega,λhx=>?_⟩,A1,n1,c1,v',c3,A4,c4,(zJ _ _ _ _ λe=>hgb e.symm).trans (qo hrb 1 v'),ho2,?_,hb.below (Below.mono hB2 hbl),hl.below (Below.mono hB2 hbl)⟩,⟨hB2,λq hq hn=>(st q (λe=>hn (.inl e)) (λe=>hn (.inr (.inl e)))).trans (hB.rows q hq hn)⟩⟩
 ·exact(h.dB q hq).2.2 (B3.of_new hN q (h.dB q hq).2.1 hx)
 ·obtain⟨ps,e,hc,hp⟩:=hw;refine⟨ps,e,?_,λp hpm=>⟨(hp p hpm).1,λC hC=>(hp p hpm).2 C (hX.trans hC λ_ _ h=>h)⟩⟩;rcases hc with⟨e1,hm,A,e2,hrd⟩|⟨q,e1,e2,how⟩
  ·exact .inl ⟨e1,hm,A,e2,hrd.below (Below.mono hB1 hbl)⟩
  ·exact .inr ⟨q,e1,e2,Zb how λq' hq'=>by rw[e2]at hq';cases hq';exact st q (hkq' q e1).1 (hkq' q e1).2⟩
end Go.Proofs.YtmeadnlmepcmbaaGreat
