/- Texts NewD, NewP, NewF, DMake, NewOk, FVols, DLeave, SetX, joined. -/
import Derived.Test.YtpbniokljofedaaGreatZI29
set_option linter.unusedSimpArgs false
set_option linter.unusedVariables false
set_option maxHeartbeats 8000000
open Go.Proofs.Tryz
namespace Go.Proofs.YtpbniokljofedaaGreat
open Go.RowKit
def ZH (n:Nat):List UInt8:=List.replicate n 0
theorem Zd (n:Nat):(ZH n).length=n:=by simp[ZH]
theorem qfX (n:Nat):madeCells #[.int .u8 0] n=((ZH n).map bv).toArray:=by
 apply Array.ext_getElem?;intro i;unfold madeCells ZH;rw[Array.getElem?_map,Array.getElem?_range,List.getElem?_toArray,List.getElem?_map,List.getElem?_replicate];by_cases h:i<n
 ·rw[if_pos h,if_pos h];simp[Nat.mod_one,bv]
 ·rw[if_neg h,if_neg h];rfl
theorem qgy {n:Nat} (hn:n<1000000) (w:World):(Instr.makeSlice 26 (.int .i64 (n:Int)) (.int .i64 (n:Int))).run prog w=.ok (.slice (some ⟨w.heap.size,0,none⟩) n n) (w.alloc (.cells ((ZH n).map bv).toArray 5)):=by obtain⟨i0,hi,aY,aV,aX⟩:=info_parts Tryz.info_u8;have h:=run_make (P:=prog) w 26 5 i0 _ underlying26 hi aY .i64 .i64 (n:Int) (n:Int) zO zO (by rw[aX];omega) zO;rw[aV,Int.toNat_natCast,Nat.mul_one] at h;rw[<-qfX];exact h
theorem qdi (w:World):Calls prog 94 #[] w (QV (fun u W=>u=.slice (some ⟨w.heap.size,0,none⟩) 256 256/\W.heap[w.heap.size]?=some (.cells ((ZH 256).map bv).toArray 5 (0,0))) w):=by have hmk:∀ w,(Instr.makeSlice 26 (.int .i64 256) (.int .i64 256)).run prog w=.ok (.slice (some ⟨w.heap.size,0,none⟩) 256 256) (w.alloc (.cells ((ZH 256).map bv).toArray 5)):=fun w=>qgy (n:=256) zO w;go_enter func94,ntmps94;go_wp2;go_ret;exact⟨_,rfl,⟨rfl,zI _ _ _ rfl⟩,zN _ _⟩
structure NewI (w2:World) (BB:Nat) (i:Value) (wr:World):Prop where
 ex:∃ (k:Nat) (cs:Array Value),k<=256/\i=.int .i64 (k:Int)/\Below BB w2 wr/\BB<wr.heap.size/\wr.heap[BB]?=some (.cells cs 26 (0,0))/\cs.size=256 /\
  wr.heap[BB+1]?=some (.cells #[.slice (some ⟨BB,0,none⟩) 256 256,.slice none 0 0] 25 (0,0))/\∀ i,i<k->∃ b,cs[i]?=some (.slice (some ⟨b,0,none⟩) 128 128)/\BB<b/\wr.heap[b]?=some (.cells ((ZH 128).map bv).toArray 5 (0,0))
def Ja:List (List UInt8):=List.replicate 256 (ZH 128)
set_option maxRecDepth 100000 in
theorem dnew_any (w:World):Calls prog 93 #[] w (QV (fun u W=>∃ BB,u=VK (some ⟨BB,0,none⟩) 256 256 none 0 0/\∀ W2:World,(∀ q:Addr,w.heap.size<=q.block->q.block<W.heap.size->W2.cell? q=W.cell? q)->Bls W2 W.heap.size (.slice (some ⟨BB,0,none⟩) 256 256) Ja) w):=by
 have hmk:∀ w,(Instr.makeSlice 26 (.int .i64 128) (.int .i64 128)).run prog w=.ok (.slice (some ⟨w.heap.size,0,none⟩) 128 128) (w.alloc (.cells ((ZH 128).map bv).toArray 5)):=fun w=>qgy (n:=128) zO w;have hmk2:∀ w,(Instr.makeSlice 22 (.int .i64 256) (.int .i64 256)).run prog w=.ok (.slice (some ⟨w.heap.size,0,none⟩) 256 256) (w.alloc (.cells (madeCells #[.slice none 0 0] 256) 26)):=fun w=>Te (n:=256) zO w;go_enter func93,ntmps93;go_wp2_with fail;generalize dA:(World.alloc (World.alloc (World.alloc _ _) _) _)=w2;have x2:Ext w w2:=by rw[<-dA];exact((zN _ _).trans (zN _ _)).trans (zN _ _)
 have q2:w2.heap[w.heap.size]?=some (.cells #[.slice none 0 0,.slice none 0 0] 25 (0,0)):=by rw[<-dA];exact(zK _ _ _ zA2).trans ((zK _ _ _ zA3).trans (zI _ _ _ rfl))
 have b2:w2.heap[w.heap.size+1]?=some (.cells (madeCells #[.slice none 0 0] 256) 26 (0,0)):=by rw[<-dA];exact(zK _ _ _ zA3).trans (zI _ _ _ zA3)
 have d2:w2.heap[w.heap.size+1+1]?=some (.cells #[.slice (some ⟨w.heap.size+1,0,none⟩) 256 256,.slice none 0 0] 25 (0,0)):=by rw[<-dA];exact zI _ _ _ zA3
 have I0:NewI w2 (w.heap.size+1) (.int .i64 0) w2:=⟨0,_,zO,rfl,Below.refl _ _,(zG.1 b2).1,b2,size_madeCells _ _,d2,fun i hi=>zO⟩
 have kd:=qa d2;replace I0:=zH I0;clear dA hmk2 b2 d2;go_wp2_with fail;go_loopw [8] (fun i wr=>NewI w2 (w.heap.size+1) i wr) (fun i _=>256-(intOf i).toNat)
 case atStart=>exact I0.out
 case round =>
  obtain⟨k,cs,hk,rfl,hE,hz,aC,hsz,hd,bV⟩:=hrel.ex;clear hrel I0 kd;have xw:Below w.heap.size w wr:=Below.trans x2 (Below.mono hE zO);by_cases hlt:k<256
  ·have aJ:=hlt;have g1:∀ W,qk.r wr W->∀ i,W.cell? ⟨w.heap.size+1+1,i,none⟩=#[.slice (some ⟨w.heap.size+1,0,none⟩) 256 256,.slice none 0 0][i]?:=fun W h=>qa (qb hd h);have uS:=zH (IntWalk.wrap64_in ((k:Int)+1) zO);have hEh:=zH hE;have hcsh:=zH bV;have hRV:=zH aC;have hdh:=zH hd;clear hE bV aC hd;go_wp2_with fail;refine qm zQ ?_;refine qL (w:=wr) qk (qD [(3,Uo wr.heap.size 128 128 5 ((ZH 128).map bv).toArray)]) [true,true,true,true,true] 1 zQ zQ zQ zQ zQ zQ zQ ?st (Rel.drew _ _) ?walk
   case st=>exact qj (by simp only[List.forall_mem_cons];exact⟨kZ _ _ _ _ _,fun _ h=>by cases h⟩)
   case walk =>
    intro K hK;dsimp only[qp];repeat ((first|(refine qd ?_ zA0 zA0 (fun W hW _=>⟨W,?_,Rel.refl _ W⟩) ?_;rotate_left;(go_simp<;>with_reducible rfl))|(refine qh zA0 ?_));try simp only[Act.put,ql,qf,qc,qg,QS,zA,zB,zC])
    refine qw (Uo wr.heap.size 128 128 5 ((ZH 128).map bv).toArray) zA0 zA0 (fun W hW _=>?_) (fun (b:Nat)=>?_)
    ·have hW:Ext wr W:=hW;refine ZW (u:=.slice (some ⟨W.heap.size,0,none⟩) 128 128) (w':=W.alloc (.cells ((ZH 128).map bv).toArray 5)) ?_ ⟨W.heap.size,rfl,⟨zI _ _ _ rfl,hW.size⟩,zN _ _⟩;go_simp
    simp only[Act.put,qf,qc,qg,QS,zA,zB,zC];repeat ((first|(refine qd ?_ zA0 zA0 (fun W hW _=>⟨W,?_,Rel.refl _ W⟩) ?_;rotate_left;(go_simp<;>with_reducible rfl))|(refine qh zA0 ?_));try simp only[Act.put,ql,qf,qc,qg,QS,zA,zB,zC])
    first
     |(refine qd (.pointer (some ⟨w.heap.size+1,0+k,none⟩)) zA0 zA0 (fun W hW _=>⟨W,?_,Rel.refl _ W⟩) ?_
       ·go_simp;rw[IntWalk.i64_in (k:Int) zO,if_pos zO];simp
       simp only[Act.put,ql,qf,qc,qg,QS,zA,zB,zC])
     |skip
    repeat ((first|(refine qd ?_ zA0 zA0 (fun W hW _=>⟨W,?_,Rel.refl _ W⟩) ?_;rotate_left;(go_simp<;>with_reducible rfl))|(refine qh zA0 ?_));try simp only[Act.put,ql,qf,qc,qg,QS,zA,zB,zC])
    refine qt (hK _ _ fun W hW hF=>?_);have hb:W.heap[b]?=some (.cells ((ZH 128).map bv).toArray 5 (0,0))/\wr.heap.size<=b:=(hF 3).1;have hW:Ext wr W:=hW;clear hF hK g1 hmk;refine zB5 ?_;have rB:=qb hRV.out hW;have kB:=qa rB k;have fB:=qe rB k;rw[Array.getElem?_eq_getElem zO] at kB;have IR:NewI w2 (w.heap.size+1) (.int .i64 ((k:Int)+1)) (W.setCell ⟨w.heap.size+1,k,none⟩ (.slice (some ⟨b,0,none⟩) 128 128)):=⟨k+1,_,zO,rfl,Below.setCell (Below.trans hEh.out (Below.mono hW zO)) (p:=⟨w.heap.size+1,k,none⟩) (zM _) _,by have:=hW.size;simp;omega,qi rB k _,by simpa using hsz,
     (zJ _ _ _ _ (by show _≠w.heap.size+1;omega)).trans (qb hdh.out hW),fun i hi=>by
      rw[Array.getElem?_setIfInBounds];by_cases e:k=i
      ·subst e;rw[if_pos rfl,if_pos zO];exact⟨b,rfl,zO,(zJ _ _ _ _ (by show _≠w.heap.size+1;omega)).trans hb.1⟩
      ·rw[if_neg e];obtain⟨b',e1,e2,e3⟩:=hcsh.out i zO;exact⟨b',e1,e2,(zJ _ _ _ _ (by show _≠w.heap.size+1;omega)).trans (qb e3 hW)⟩⟩
    replace IR:=zH IR;generalize cs[k]=u0 at *;clear hb hW rB;go_wp2;refine Qm ?_;go_wp2_with fail;try rw[uS.out]
    refine⟨IR.out,?_⟩;simp[intOf];omega
  ·obtain rfl:k=256:=zO;have qq:=(hE.block w.heap.size zO).trans q2;have kq:=qa qq;have fq:=qe qq;have kd:=qa hd;have rf:=qi (qi qq 0 (.slice (some ⟨w.heap.size+1,0,none⟩) 256 256)) 1 (.slice none 0 0);have kf:=qa rf;have bf:Below w.heap.size w ((wr.setCell ⟨w.heap.size,0,none⟩ (.slice (some ⟨w.heap.size+1,0,none⟩) 256 256)).setCell ⟨w.heap.size,1,none⟩ (.slice none 0 0)):=Below.setCell (Below.setCell xw (p:=⟨w.heap.size,0,none⟩) (zM _) _) (p:=⟨w.heap.size,1,none⟩) (zM _) _;have DF:∀ W2:World,(∀ q:Addr,w.heap.size<=q.block->q.block<((wr.setCell ⟨w.heap.size,0,none⟩ (.slice (some ⟨w.heap.size+1,0,none⟩) 256 256)).setCell ⟨w.heap.size,1,none⟩ (.slice none 0 0)).heap.size->W2.cell? q=((wr.setCell ⟨w.heap.size,0,none⟩ (.slice (some ⟨w.heap.size+1,0,none⟩) 256 256)).setCell ⟨w.heap.size,1,none⟩ (.slice none 0 0)).cell? q)->Bls W2 ((wr.setCell ⟨w.heap.size,0,none⟩ (.slice (some ⟨w.heap.size+1,0,none⟩) 256 256)).setCell ⟨w.heap.size,1,none⟩ (.slice none 0 0)).heap.size (.slice (some ⟨w.heap.size+1,0,none⟩) 256 256) Ja:=by
    have st:∀ b,b≠w.heap.size->((wr.setCell ⟨w.heap.size,0,none⟩ (.slice (some ⟨w.heap.size+1,0,none⟩) 256 256)).setCell ⟨w.heap.size,1,none⟩ (.slice none 0 0)).heap[b]?=wr.heap[b]?:=fun b hb=>(zJ _ _ _ _ hb).trans (zJ _ _ _ _ hb);generalize World.setCell (World.setCell wr _ _) _ _=wf at *;intro W2 hk;have rB:=(st (w.heap.size+1) zO).trans aC;have zB:=(zG.1 rB).1;refine⟨cs.toList,some ⟨w.heap.size+1,0,none⟩,256,by simp[Ja],by simp[Ja],zA7,⟨by simp[Ja,hsz],fun _=>⟨w.heap.size+1,0,rfl,zB,fun j u hu=>?_⟩⟩,fun i u l hu hl=>?_⟩
    ·rw[hk ⟨w.heap.size+1,0+j,none⟩ (by show w.heap.size<=w.heap.size+1;omega) zB,Nat.zero_add,qa rB];simpa using hu
    have hi:i<256:=by have:=(List.getElem?_eq_some_iff.1 hl).1;simpa [Ja] using this
    have e0:cs.toList[i]?=cs[i]?:=zA3;obtain⟨b,e1,e2,e3⟩:=bV i hi;rw[e0,e1] at hu;cases hu;have um:l=ZH 128:=by
     have:Ja[i]?=some (ZH 128):=by unfold Ja;rw[List.getElem?_replicate,if_pos hi]
     rw[this] at hl;cases hl;rfl
    subst um;have e4:=(st b zO).trans e3;have zb:=(zG.1 e4).1;refine⟨_,128,by rw[Zd],by rw[Zd];omega,zA7,zA3,fun _=>⟨b,0,rfl,zb,fun j u hu=>?_⟩⟩;rw[hk ⟨b,0+j,none⟩ (by show w.heap.size<=b;omega) zb,Nat.zero_add,qa e4];simpa using hu
   replace kf:=zH kf;replace bf:=zH bf;replace DF:=zH DF;clear rf hE aC bV hd;go_wp2;have kf:=kf.out;exact bodyPost_ret (v:=VK (some ⟨w.heap.size+1,0,none⟩) 256 256 none 0 0) (by simp[results,results93,go_sem,kf]) rfl ⟨_,rfl,⟨w.heap.size+1,rfl,DF.out⟩,bf.out⟩
def newS:Sto:=⟨Ja,[],ZH 256,ZH 256⟩
def qH:Sto:=⟨Ja,[(8,jf (zX 0 []))],(ZH 256).set 8 1,ZH 256⟩
theorem newS_may:qo newS=true:=by decide +kernel
theorem Wrs.nil (w:World) (B:Nat):Wrs w B (.slice none 0 0) []:=⟨[],rfl,⟨none,0,rfl,zM _,by simp[maxLen],Rd.none_⟩,fun p h=>by cases h⟩
set_option maxRecDepth 100000 in
theorem jW:Xs qH:=by
 have h1:Ja.length=256:=by unfold Ja;rw[List.length_replicate]
 have h2:∀ l∈Ja,l.length<1000000:=fun l hl=>by unfold Ja at hl;rw[List.mem_replicate] at hl;rw[hl.2,Zd];omega
 have h3:(jf (zX 0 [])).length=128:=vD zA1;refine⟨by show Ja.length<_;omega,by show 1<1000000;omega,h2,fun p hp=>?_,by show ((ZH 256).set 8 1).length<_;rw[List.length_set,Zd];omega,by show (ZH 256).length<_;rw[Zd];omega⟩;have:p=(8,jf (zX 0 [])):=by simpa [qH] using hp
 rw[this];show (jf (zX 0 [])).length<_;omega
set_option maxRecDepth 100000 in
theorem rnew_any (w:World):Calls prog 52 #[] w (QV (fun u W=>∃ B n1 n2,u=Qd (some ⟨B,0,none⟩) 256 256 none 0 0 (some ⟨n1,0,none⟩) 256 256 (some ⟨n2,0,none⟩) 256 256/\qU W W.heap.size (.slice (some ⟨B,0,none⟩) 256 256) (.slice none 0 0) (.slice (some ⟨n1,0,none⟩) 256 256) (.slice (some ⟨n2,0,none⟩) 256 256) newS) w):=by
 go_enter func52,ntmps52;go_wp2_with fail;generalize aA:World.alloc _ _=w1;have x1:Ext w w1:=by rw[<-aA];exact zN _ _
 have q1:w1.heap[w.heap.size]?=some (.cells #[.slice none 0 0,.slice none 0 0,.slice none 0 0,.slice none 0 0] 28 (0,0)):=by rw[<-aA];exact zI _ _ _ zA3
 have z0:w1.heap.size=w.heap.size+1:=by rw[<-aA];simp
 clear aA;refine(dnew_any w1).mono ?_;rintro e w2 ⟨u,rfl,⟨B,rfl,hbs⟩,hB⟩;have hB:Ext w1 w2:=hB;have x2:=x1.trans hB;have q2:=qb q1 hB;have hx12:=hB;clear q1 hB x1;go_wp2_with fail;refine(qdi w2).mono ?_;rintro e w3 ⟨u,rfl,⟨rfl,oQ⟩,hB⟩;have pJ:Ext w2 w3:=hB;have x3:=x2.trans pJ;have q3:=qb q2 pJ;clear q2 hB;go_wp2_with fail;refine(qdi w3).mono ?_;rintro e w4 ⟨u,rfl,⟨rfl,hn2⟩,hB⟩;have dG:Ext w3 w4:=hB;have x4:=x3.trans dG;have q4:=qb q3 dG;have hn14:=qb oQ dG;have kq:=qa q4;have fq:=qe q4;have z23:=pJ.size;have z34:=dG.size;have z2':=hx12.size;have P5:∀ wx:World,wx=vR w4 w.heap.size 0 [.slice (some ⟨B,0,none⟩) 256 256,.slice none 0 0,.slice (some ⟨w2.heap.size,0,none⟩) 256 256,.slice (some ⟨w3.heap.size,0,none⟩) 256 256] ->
   wx.heap[w.heap.size]?=some (.cells #[.slice (some ⟨B,0,none⟩) 256 256,.slice none 0 0,.slice (some ⟨w2.heap.size,0,none⟩) 256 256,.slice (some ⟨w3.heap.size,0,none⟩) 256 256] 28 (0,0))/\Below w.heap.size w wx /\
    qU wx wx.heap.size (.slice (some ⟨B,0,none⟩) 256 256) (.slice none 0 0) (.slice (some ⟨w2.heap.size,0,none⟩) 256 256) (.slice (some ⟨w3.heap.size,0,none⟩) 256 256) newS:=fun wx e=>by
  have hk:∀ b,b≠w.heap.size->wx.heap[b]?=w4.heap[b]?:=fun b h1=>by rw[e];exact ZO h1 _ _ _
  have hs:wx.heap.size=w4.heap.size:=by rw[e,jp]
  have h1:=Bys.lit ((hk _ zO).trans hn14) (by rw[Zd];unfold maxLen;omega);have h2:=Bys.lit ((hk _ zO).trans hn2) (by rw[Zd];unfold maxLen;omega);rw[Zd] at h1 h2;refine⟨by rw[e];refine(jQ _ _ _ _ q4).trans ?_;simp[Yb],by rw[e];exact ZN (zM _) _ _ _ x4,?_,Wrs.nil _ _,h1,h2⟩;refine(hbs wx fun q h1 h2=>?_).more zO;refine(World.cell?_of_block (hk q.block zO)).trans ((World.cell?_of_block (dG.block q.block zO)).trans (World.cell?_of_block (pJ.block q.block h2)))
 replace P5:=zH P5;clear hbs oQ hn2 hn14 q4 q3;go_wp2_with fail;have P5:=P5.out;generalize aK:World.setCell (World.setCell (World.setCell (World.setCell w4 _ _) _ _) _ _) _ _=w5;obtain⟨r5,x5,h5⟩:=P5 w5 aK.symm;clear P5 aK;have k5:=qa r5;exact bodyPost_ret (v:=Qd (some ⟨B,0,none⟩) 256 256 none 0 0 (some ⟨w2.heap.size,0,none⟩) 256 256 (some ⟨w3.heap.size,0,none⟩) 256 256) (by simp[results,results52,go_sem,k5]) rfl ⟨_,rfl,⟨B,_,_,rfl,h5⟩,x5⟩
set_option maxRecDepth 100000 in
theorem qeU (A1:Option Addr) (c1:Nat) (A3:Option Addr) (c3:Nat) (A4:Option Addr) (c4:Nat) (w:World) (h:qU w w.heap.size (.slice A1 256 c1) (.slice none 0 0) (.slice A3 256 c3) (.slice A4 256 c4) newS):Calls prog 92 #[Qd A1 256 c1 none 0 0 A3 256 c3 A4 256 c4,je 0 none 0 0] w (QV (fun u W=>∃ v,u=.tuple #[v,.int .i64 8,.int .i64 0]/\QF w.heap.size qH v W) w):=by
 have HC:=zH (fun W (hW:Ext w W)=>jP A1 256 c1 none 0 0 A3 256 c3 A4 256 c4 newS W (h.ext hW));rw[newS_may,show Jh true=0 from rfl] at HC;have HN:=zH (fun W=>vK 0 none 0 0 [] W (Its.nil W W.heap.size));rw[show Qe 0 []=true from rfl,show Jh true=0 from rfl] at HN;have HO:=zH (fun W (hW:Ext w W)=>GE A1 256 c1 none 0 0 A3 256 c3 A4 256 c4 newS (by show (ZH 256).length<_;rw[Zd];omega) W (h.ext hW));replace h:=zH h;go_enter func92,ntmps92;go_wp2_with fail;generalize aA:World.alloc (World.alloc (World.alloc _ _) _) _=w1;have x1:Ext w w1:=by rw[<-aA];exact((zN _ _).trans (zN _ _)).trans (zN _ _)
 have r1:w1.heap[w.heap.size]?=some (.cells #[.slice A1 256 c1,.slice none 0 0,.slice A3 256 c3,.slice A4 256 c4] 28 (0,0)):=by rw[<-aA];exact(zK _ _ _ zA2).trans ((zK _ _ _ zA3).trans (zI _ _ _ rfl))
 have p1:w1.heap[w.heap.size+1]?=some (.cells #[.int .i64 0,.slice none 0 0] 49 (0,0)):=by rw[<-aA];exact(zK _ _ _ zA3).trans (zI _ _ _ zA3)
 have q1:w1.heap[w.heap.size+1+1]?=some (.cells #[.slice none 0 0,.slice none 0 0,.slice none 0 0,.slice none 0 0] 28 (0,0)):=by rw[<-aA];exact zI _ _ _ zA3
 clear aA;refine(HC.out w1 x1).mono ?_;rintro e w2 ⟨rfl,hB⟩;have x2:Ext w w2:=x1.trans hB;have r2:=qb r1 hB;have p2:=qb p1 hB;have q2:=qb q1 hB;have kp:=qa p2;clear r1 p1 q1 x1 hB HC;go_wp2_with fail;refine(HN.out w2).mono ?_;rintro e w3 ⟨rfl,hB⟩;have x3:Ext w w3:=x2.trans hB;have r3:=qb r2 hB;have p3:=qb p2 hB;have q3:=qb q2 hB;have kr:=qa r3;clear r2 p2 q2 x2 hB HN kp;go_wp2_with fail;refine(HO.out w3 x3).mono ?_;rintro e w4 ⟨u,rfl,⟨b,B3,d3,rfl,aP,aC,aB⟩,hB⟩;have dG:Ext w3 w4:=hB;have x4:Ext w w4:=x3.trans dG;have p4:=qb p3 dG;have q4:=qb q3 dG;have kp:=qa p4;have z3:=x3.size;obtain⟨g,rfl⟩:∃ g,B3=some ⟨g,0,none⟩:=by
  obtain⟨h1,h2⟩:=aB;rcases h2 with ⟨_,h0⟩|⟨g,_,_,e,_⟩
  ·cases h0
  ·cases e;exact⟨g,rfl⟩
 have iI:Bls w4 w3.heap.size (.slice A1 256 c1) Ja:=(h.out.bs.below x4).more z3;have q3z:=q3;have ha4:Bys w4 w3.heap.size (.slice A4 256 c4) (ZH 256):=(h.out.last.below x4).more z3;have HM:=qeM b w3.heap.size A1 256 c1 g d3 A4 c4 Ja (ZH 256) (ZH 256) (Zd _) (Zd _) zA1 zA1 w4 aP aC aB iI ha4;replace HM:=zH HM;clear r3 p3 q3 hB kr iI ha4 aB aC HO;go_wp2_with fail;refine HM.out.mono ?_;rintro e w5 ⟨rfl,rW,A2,c2,og,hS5⟩;have x5:Below w.heap.size w w5:=Below.trans x4 (Below.mono rW z3);have z34:=dG.size;have zq:=(zG.1 q3z).1;have q5:=(rW.block (w.heap.size+1+1) zq).trans q4;have HT:=zH (vH b A1 256 c1 A2 1 c2 (some ⟨g,0,none⟩) 256 d3 A4 256 c4 qH jW w5 og hS5);clear HM og hS5 kp p4 q4;go_wp2_with fail;refine HT.out.mono ?_;rintro e w6 ⟨u,rfl,hT,hB⟩;have eQ:Ext w5 w6:=hB;have x6:Below w.heap.size w w6:=Below.trans x5 (Below.mono eQ x5.size);have q6:=qb q5 eQ;have kq:=qa q6;have fq:=qe q6;have z45:=rW.size;obtain⟨BB,WW,gg,B3,e3,B4,e4,rfl,hD,hN,hL⟩:=hT;have P5:∀ wx:World,wx=vR w6 (w.heap.size+1+1) 0 [.slice (some ⟨BB,0,none⟩) qH.bs.length qH.bs.length,.slice (some ⟨WW,0,none⟩) qH.ws.length (qH.ws.length+1),.slice B3 qH.now.length e3,.slice B4 qH.last.length e4] ->
   wx.heap[w.heap.size+1+1]?=some (.cells #[.slice (some ⟨BB,0,none⟩) qH.bs.length qH.bs.length,.slice (some ⟨WW,0,none⟩) qH.ws.length (qH.ws.length+1),.slice B3 qH.now.length e3,.slice B4 qH.last.length e4] 28 (0,0))/\Below w.heap.size w wx /\
    QF w.heap.size qH (Qd (some ⟨BB,0,none⟩) qH.bs.length qH.bs.length (some ⟨WW,0,none⟩) qH.ws.length (qH.ws.length+1) B3 qH.now.length e3 B4 qH.last.length e4) wx:=fun wx e=>by
  have hk:∀ b,w5.heap.size<=b->b<w6.heap.size->wx.heap[b]?=w6.heap[b]?:=fun b h1 _=>by rw[e];exact ZO zO _ _ _
  have hs:w6.heap.size<=wx.heap.size:=by rw[e,jp];exact zM _
  refine⟨by rw[e];refine(jQ _ _ _ _ q6).trans ?_;simp[Yb],by rw[e];exact ZN zO _ _ _ x6,BB,WW,gg,B3,e3,B4,e4,rfl,hD.keep x5.size hs hk,Qw (Zh hN hk) x5.size,Qw (Zh hL hk) x5.size⟩
 replace P5:=zH P5;clear hD hN hL q6 hB q5;go_wp2_with fail;have P5:=P5.out;generalize aK:World.setCell (World.setCell (World.setCell (World.setCell w6 _ _) _ _) _ _) _ _=w7;obtain⟨r5,x7,h5⟩:=P5 w7 aK.symm;clear P5 aK;have k5:=qa r5;exact bodyPost_ret (v:=.tuple #[Qd (some ⟨BB,0,none⟩) qH.bs.length qH.bs.length (some ⟨WW,0,none⟩) qH.ws.length (qH.ws.length+1) B3 qH.now.length e3 B4 qH.last.length e4,.int .i64 8,.int .i64 0]) (by simp[results,results92,go_sem,k5]) rfl ⟨_,rfl,⟨_,rfl,h5⟩,x7⟩
def UH (lo:Nat) (u:Value) (W:World):Prop:=∃ BB WW g A3 c3 A4 c4,u=.agg (qB (.slice (some ⟨BB,0,none⟩) 256 256) (.slice (some ⟨WW,0,none⟩) 1 2) (.slice A3 256 c3) (.slice A4 256 c4) 0 8 1 (.slice none 0 0))/\jS lo qH.bs qH.ws BB WW g W /\
 W.ownsRow lo 5 1 (.slice A3 256 c3) 256 (qH.now.map bv)/\W.ownsRow lo 5 1 (.slice A4 256 c4) 256 (qH.last.map bv)
theorem KD:qH.bs.length=256/\qH.ws.length=1/\qH.now.length=256/\qH.last.length=256:=by
 refine⟨?_,rfl,?_,Zd _⟩
 ·show Ja.length=256;unfold Ja;rw[List.length_replicate]
 ·show ((ZH 256).set 8 1).length=256;rw[List.length_set,Zd]
theorem UH.sto {lo:Nat} {u:Value} {W:World} (h:UH lo u W):∃ A1 c1 A2 c2 A3 c3 A4 c4,u=.agg (qB (.slice A1 256 c1) (.slice A2 1 c2) (.slice A3 256 c3) (.slice A4 256 c4) 0 8 1 (.slice none 0 0))/\qU W W.heap.size (.slice A1 256 c1) (.slice A2 1 c2) (.slice A3 256 c3) (.slice A4 256 c4) qH:=by obtain⟨BB,WW,g,A3,c3,A4,c4,e,hD,hN,hL⟩:=h;obtain⟨l1,l2,l3,l4⟩:=KD;obtain⟨k1,k2⟩:=hD.reads jW.bs jW.ws jW.be jW.we W (fun _ _ _=>rfl);rw[l1] at k1;rw[l2] at k2;exact⟨_,_,_,_,A3,c3,A4,c4,e,k1,k2,Bys.of_own hN,Bys.of_own hL⟩
set_option maxRecDepth 100000 in
theorem qhr (A1:Option Addr) (c1:Nat) (A3:Option Addr) (c3:Nat) (A4:Option Addr) (c4:Nat) (w:World) (h:qU w w.heap.size (.slice A1 256 c1) (.slice none 0 0) (.slice A3 256 c3) (.slice A4 256 c4) newS):Calls prog 51 #[Qd A1 256 c1 none 0 0 A3 256 c3 A4 256 c4] w (QV (fun u W=>∃ v,u=.tuple #[v,.int .i64 8,.int .i64 0]/\QF w.heap.size qH v W) w):=by
 have HM:=zH (fun W (hW:Ext w W)=>qeU A1 c1 A3 c3 A4 c4 W (h.ext hW));clear h;go_enter func51,ntmps51;go_wp2_with fail;generalize aA:World.alloc (World.alloc _ _) _=w1;have x1:Ext w w1:=by rw[<-aA];exact(zN _ _).trans (zN _ _)
 have q1:w1.heap[w.heap.size+1]?=some (.cells #[.slice none 0 0,.slice none 0 0,.slice none 0 0,.slice none 0 0] 28 (0,0)):=by rw[<-aA];exact zI _ _ _ zA3
 clear aA;refine(HM.out w1 x1).mono ?_;rintro e w6 ⟨u,rfl,⟨v,rfl,hT⟩,hB⟩;have eQ:Ext w1 w6:=hB;have x6:Below w.heap.size w w6:=x1.trans eQ;have q6:=qb q1 eQ;have kq:=qa q6;have fq:=qe q6;have z1:=(zG.1 q1).1;obtain⟨BB,WW,gg,B3,e3,B4,e4,rfl,hD,hN,hL⟩:=hT;have P5:∀ wx:World,wx=vR w6 (w.heap.size+1) 0 [.slice (some ⟨BB,0,none⟩) qH.bs.length qH.bs.length,.slice (some ⟨WW,0,none⟩) qH.ws.length (qH.ws.length+1),.slice B3 qH.now.length e3,.slice B4 qH.last.length e4] ->
   wx.heap[w.heap.size+1]?=some (.cells #[.slice (some ⟨BB,0,none⟩) qH.bs.length qH.bs.length,.slice (some ⟨WW,0,none⟩) qH.ws.length (qH.ws.length+1),.slice B3 qH.now.length e3,.slice B4 qH.last.length e4] 28 (0,0))/\Below w.heap.size w wx /\
    QF w.heap.size qH (Qd (some ⟨BB,0,none⟩) qH.bs.length qH.bs.length (some ⟨WW,0,none⟩) qH.ws.length (qH.ws.length+1) B3 qH.now.length e3 B4 qH.last.length e4) wx:=fun wx e=>by
  have hk:∀ b,w1.heap.size<=b->b<w6.heap.size->wx.heap[b]?=w6.heap[b]?:=fun b h1 _=>by rw[e];exact ZO zO _ _ _
  have hs:w6.heap.size<=wx.heap.size:=by rw[e,jp];exact zM _
  refine⟨by rw[e];refine(jQ _ _ _ _ q6).trans ?_;simp[Yb],by rw[e];exact ZN zO _ _ _ x6,BB,WW,gg,B3,e3,B4,e4,rfl,hD.keep x1.size hs hk,Qw (Zh hN hk) x1.size,Qw (Zh hL hk) x1.size⟩
 replace P5:=zH P5;clear hD hN hL q6 hB q1;go_wp2_with fail;have P5:=P5.out;generalize aK:World.setCell (World.setCell (World.setCell (World.setCell w6 _ _) _ _) _ _) _ _=w7;obtain⟨r5,x7,h5⟩:=P5 w7 aK.symm;clear P5 aK;have k5:=qa r5;exact bodyPost_ret (v:=.tuple #[Qd (some ⟨BB,0,none⟩) qH.bs.length qH.bs.length (some ⟨WW,0,none⟩) qH.ws.length (qH.ws.length+1) B3 qH.now.length e3 B4 qH.last.length e4,.int .i64 8,.int .i64 0]) (by simp[results,results51,go_sem,k5]) rfl ⟨_,rfl,⟨_,rfl,h5⟩,x7⟩
set_option maxRecDepth 100000 in
theorem fnew_any (w:World):Calls prog 23 #[] w (QV (UH w.heap.size) w):=by
 obtain⟨l1,l2,l3,l4⟩:=KD;go_enter func23,ntmps23;go_wp2_with fail;generalize aA:World.alloc _ _=w1;have x1:Ext w w1:=by rw[<-aA];exact zN _ _
 have q1:w1.heap[w.heap.size]?=some (.cells (qB (.slice none 0 0) (.slice none 0 0) (.slice none 0 0) (.slice none 0 0) 0 0 0 (.slice none 0 0)) 32 (0,0)):=by rw[<-aA];exact zI _ _ _ zA3
 clear aA;refine(rnew_any w1).mono ?_;rintro e w2 ⟨u,rfl,⟨B,n1,n2,rfl,hS⟩,hB⟩;have lF:Ext w1 w2:=hB;have x2:Ext w w2:=x1.trans lF;have q2:=qb q1 lF;have z1:=(zG.1 q1).1;have z12:=lF.size;clear hB q1;have HP:=zH (qhr _ _ _ _ _ _ w2 hS);clear hS;go_wp2_with fail;refine HP.out.mono ?_;rintro e w6 ⟨u,rfl,⟨v,rfl,hT⟩,hB⟩;have eQ:Ext w2 w6:=hB;have x6:Ext w w6:=x2.trans eQ;have q6:=qb q2 eQ;obtain⟨BB,WW,gg,B3,e3,B4,e4,rfl,hD,hN,hL⟩:=hT;rw[l1,l2,l3,l4];rw[l3] at hN;rw[l4] at hL;clear q2 hB HP;have kq:=qa q6;have fq:=qe q6;have zq:=(zG.1 q6).1;have P5:∀ wx:World,wx=vR w6 w.heap.size 0 [.slice (some ⟨BB,0,none⟩) 256 256,.slice (some ⟨WW,0,none⟩) 1 2,.slice B3 256 e3,.slice B4 256 e4,.int .u32 0,.int .i64 8,.int .u32 1,.slice none 0 0]->∀ o:Obj,
   (wx.alloc o).heap[w.heap.size]?=some (.cells (qB (.slice (some ⟨BB,0,none⟩) 256 256) (.slice (some ⟨WW,0,none⟩) 1 2) (.slice B3 256 e3) (.slice B4 256 e4) 0 8 1 (.slice none 0 0)) 32 (0,0))/\Below w.heap.size w (wx.alloc o) /\
    UH w.heap.size (.agg (qB (.slice (some ⟨BB,0,none⟩) 256 256) (.slice (some ⟨WW,0,none⟩) 1 2) (.slice B3 256 e3) (.slice B4 256 e4) 0 8 1 (.slice none 0 0))) (wx.alloc o):=fun wx e o=>by
  have hs:wx.heap.size=w6.heap.size:=by rw[e,jp]
  have hk:∀ b,w2.heap.size<=b->b<w6.heap.size->(wx.alloc o).heap[b]?=w6.heap[b]?:=fun b h1 h2=>(zK _ _ _ zO).trans (by rw[e];exact ZO zO _ _ _);have hs2:w6.heap.size<=(wx.alloc o).heap.size:=zA2;refine⟨(zK _ _ _ zO).trans (by rw[e];refine(jQ _ _ _ _ q6).trans ?_;simp[Yb,qB]),Below.alloc (by rw[e];exact ZN (zM _) _ _ _ x6) zO _,BB,WW,gg,B3,e3,B4,e4,rfl,hD.keep x2.size hs2 hk,Qw (Zh hN hk) x2.size,Qw (Zh hL hk) x2.size⟩
 replace P5:=zH P5;clear hD hN hL q6;go_wp2_with fail;have P5:=P5.out;generalize aK:World.setCell (World.setCell (World.setCell (World.setCell (World.setCell (World.setCell (World.setCell (World.setCell w6 _ _) _ _) _ _) _ _) _ _) _ _) _ _) _ _=w7;obtain⟨r5,x7,h5⟩:=P5 w7 aK.symm (.cells #[.slice (some ⟨BB,0,none⟩) 256 256,.slice (some ⟨WW,0,none⟩) 1 2,.slice B3 256 e3,.slice B4 256 e4] 28);clear P5 aK;have k5:=qa r5;exact bodyPost_ret (v:=.agg (qB (.slice (some ⟨BB,0,none⟩) 256 256) (.slice (some ⟨WW,0,none⟩) 1 2) (.slice B3 256 e3) (.slice B4 256 e4) 0 8 1 (.slice none 0 0))) (by simp[results,results23,go_sem,k5]) rfl ⟨_,rfl,h5,x7⟩
def kR (S:Sto):Except Int (Nat×Sto):=if qo S=true then zh S 0 [] else .error 8
def MadeQ (lo:Nat) (q:Except Int (Nat×Sto)) (u:Value) (W:World):Prop:=match q with
 | .error e=>u=.tuple #[Qd none 0 0 none 0 0 none 0 0 none 0 0,.int .i64 0,.int .i64 e]
 | .ok (r,S')=>∃ v,u=.tuple #[v,.int .i64 (r:Int),.int .i64 0]/\QF lo S' v W
theorem JZ.nil (X:Nat->Prop) (w:World):JZ X w (.slice none 0 0) []:=fun C _=>Its.nil C _
theorem XN {S S':Sto} {r:Nat} (h:kR S=.ok (r,S')):qo S=true/\zh S 0 []=.ok (r,S')/\qo S'=true/\8<=r/\r<256:=by
 unfold kR at h;split at h
 ·rename_i hS;obtain⟨h1,h2,h3,_⟩:=vB (fun x hx=>by cases hx) hS h;exact⟨hS,h,h1,h2,h3⟩
 ·cases h
theorem Ts {R:Ending->World->Prop} {a:Act} {W:World} {b:Nat} {x0 x1 x2 x3 u v:Value} (h4:a.tmps[4]?.getD undef=.pointer (some ⟨b,0,none⟩)) (h5:a.tmps[5]?.getD undef=u) (h6:a.tmps[6]?.getD undef=v) (hd:a.defers=[]) (aC:W.heap[b]?=some (.cells #[x0,x1,x2,x3] 28 (0,0))) (hR:R (.returned (.tuple #[.agg #[x0,x1,x2,x3],u,v])) W):bodyPost prog Tryz.f92 R .ret a W:=by
 refine bodyPost_ret (v:=.tuple #[.agg #[x0,x1,x2,x3],u,v]) ?_ hd hR;have k:=qa aC;simp[results,results92,go_sem,h4,h5,h6,k]
theorem qdY {R:Ending->World->Prop} {a:Act} {W:World} {b:Nat} {x0 x1 x2 x3 u v:Value} (h4:a.tmps[2]?.getD undef=.pointer (some ⟨b,0,none⟩)) (h5:a.tmps[3]?.getD undef=u) (h6:a.tmps[4]?.getD undef=v) (hd:a.defers=[]) (aC:W.heap[b]?=some (.cells #[x0,x1,x2,x3] 28 (0,0))) (hR:R (.returned (.tuple #[.agg #[x0,x1,x2,x3],u,v])) W):bodyPost prog Tryz.f51 R .ret a W:=by
 refine bodyPost_ret (v:=.tuple #[.agg #[x0,x1,x2,x3],u,v]) ?_ hd hR;have k:=qa aC;simp[results,results51,go_sem,h4,h5,h6,k]
set_option maxRecDepth 100000 in
theorem qgT (A1:Option Addr) (n1 c1:Nat) (A2:Option Addr) (n2 c2:Nat) (A3:Option Addr) (n3 c3:Nat) (A4:Option Addr) (n4 c4:Nat) (S:Sto) (w:World) (h:qU w w.heap.size (.slice A1 n1 c1) (.slice A2 n2 c2) (.slice A3 n3 c3) (.slice A4 n4 c4) S):Calls prog 92 #[Qd A1 n1 c1 A2 n2 c2 A3 n3 c3 A4 n4 c4,je 0 none 0 0] w (QV (MadeQ w.heap.size (kR S)) w):=by
 have HC:=zH (fun W (hW:Ext w W)=>jP A1 n1 c1 A2 n2 c2 A3 n3 c3 A4 n4 c4 S W (h.ext hW));have HN:=zH (fun W=>vK 0 none 0 0 [] W (Its.nil W W.heap.size));rw[show Qe 0 []=true from rfl,show Jh true=0 from rfl] at HN;have HO:=zH (fun (hS:qo S=true) W (hW:Ext w W)=>GE A1 n1 c1 A2 n2 c2 A3 n3 c3 A4 n4 c4 S (by have:=(qQ hS).2.2.1;omega) W (h.ext hW));replace h:=zH h;go_enter func92,ntmps92;go_wp2_with fail;generalize aA:World.alloc (World.alloc (World.alloc _ _) _) _=w1;have x1:Ext w w1:=by rw[<-aA];exact((zN _ _).trans (zN _ _)).trans (zN _ _)
 have r1:w1.heap[w.heap.size]?=some (.cells #[.slice A1 n1 c1,.slice A2 n2 c2,.slice A3 n3 c3,.slice A4 n4 c4] 28 (0,0)):=by rw[<-aA];exact(zK _ _ _ zA2).trans ((zK _ _ _ zA3).trans (zI _ _ _ rfl))
 have p1:w1.heap[w.heap.size+1]?=some (.cells #[.int .i64 0,.slice none 0 0] 49 (0,0)):=by rw[<-aA];exact(zK _ _ _ zA3).trans (zI _ _ _ zA3)
 have q1:w1.heap[w.heap.size+1+1]?=some (.cells #[.slice none 0 0,.slice none 0 0,.slice none 0 0,.slice none 0 0] 28 (0,0)):=by rw[<-aA];exact zI _ _ _ zA3
 clear aA;refine(HC.out w1 x1).mono ?_;rintro e w2 ⟨rfl,hB⟩;have x2:Ext w w2:=x1.trans hB;have r2:=qb r1 hB;have p2:=qb p1 hB;have q2:=qb q1 hB;have kp:=qa p2;have kq:=qa q2;have fq:=qe q2;have zq2:w.heap.size+1+1<w2.heap.size:=(zG.1 q2).1;clear r1 p1 q1 x1 hB HC;rcases hS:qo S with _|_
 ·have hq:=zH (show kR S=.error 8 by unfold kR;rw[hS];rfl);rw[jX rfl];replace hS:=zH hS;go_wp2_with fail;exact Ts (b:=w.heap.size+2) rfl rfl rfl rfl (Xn q2 _ _ _ _) ⟨_,rfl,by rw[hq.out];rfl,ZY x2 zO _ _ _ _⟩
 ·have hq:=zH (show kR S=zh S 0 [] by unfold kR;rw[if_pos hS]);rw[Jw rfl];have HOS:=zH (HO.out hS);replace hS:=zH hS;clear HO;go_wp2_with fail;refine(HN.out w2).mono ?_;rintro e w3 ⟨rfl,hB⟩;have x3:Ext w w3:=x2.trans hB;have r3:=qb r2 hB;have p3:=qb p2 hB;have q3:=qb q2 hB;have kr:=qa r3;clear r2 p2 q2 x2 hB HN kp kq fq zq2;go_wp2_with fail;refine(HOS.out w3 x3).mono ?_;rintro e w4 ⟨u,rfl,⟨b,P3,d3,rfl,aP,aC,aB⟩,hB⟩;have dG:Ext w3 w4:=hB;have x4:Ext w w4:=x3.trans dG;have p4:=qb p3 dG;have q4:=qb q3 dG;have kp:=qa p4;have z3:=x3.size;obtain⟨g,iJ⟩:=Bch.of_on (B:=w.heap.size) z3 hS.out (h.out.below x4) aP aC aB;have HM:=zH (Tq (fun _=>False) w.heap.size w3.heap.size b g none S 0 none 0 0 [] (fun x hx=>by cases hx) (qQ hS.out).2.1 w4 iJ (JZ.nil _ _));replace iJ:=zH iJ;clear hB aC aB r3 p3 q3 kr HOS;go_wp2_with fail;refine HM.out.mono ?_;clear HM;rintro e w5 ⟨bQ,aQ⟩;have nB:∀ {q cs ty fr},w4.heap[q]?=some (.cells cs ty fr)->ty≠191->ty≠5->ty≠130->¬B3 b g none q:=fun hr h1 h2 h3=>iJ.out.notB3 hr h1 h2 h3;have q5:=bQ.row q4 (nB q4 zA1 zA1 zA1);have x5:Below w.heap.size w w5:=Below.trans (B:=w.heap.size) x4 (Below.mono bQ.below z3);have kq:=qa q5;have fq:=qe q5;have zq5:w.heap.size+1+1<w5.heap.size:=(zG.1 q5).1;clear nB bQ kp p4 q4;rcases hmx:zh S 0 [] with er|⟨f,S'⟩
  ·rw[hmx] at aQ;obtain rfl:=aQ;have hne0:(er != 0)=true:=by rw[bne_iff_ne];exact Yn hmx
   replace hmx:=zH hmx;go_wp2_with fail;exact Ts (b:=w.heap.size+2) rfl rfl rfl rfl (Xn q5 _ _ _ _) ⟨_,rfl,by rw[hq.out,hmx.out];rfl,ZY x5 zO _ _ _ _⟩
  ·rw[hmx] at aQ;obtain⟨rfl,k',D',yQ,hND,bg⟩:=aQ;have iy:Xs S':=za (vB (fun x hx=>by cases hx) hS.out hmx).1;obtain⟨E1,m1,e1,E2,m2,e2,e3,E4,e4,xG,hsb⟩:=bg.sto;have HT:=zH (vH b E1 m1 e1 E2 m2 e2 (some ⟨g,0,none⟩) 256 e3 E4 256 e4 S' iy w5 xG hsb);replace hmx:=zH hmx;clear bg xG hsb iy kq fq yQ hND;go_wp2_with fail;refine HT.out.mono ?_;rintro e w6 ⟨u,rfl,hT,hB⟩;have eQ:Ext w5 w6:=hB;have x6:Below w.heap.size w w6:=x5.trans (Below.mono eQ x5.size);have q6:=qb q5 eQ;have kq:=qa q6;have fq:=qe q6;obtain⟨BB,WW,gg,B3,d3',B4,d4,rfl,-⟩:=id hT;replace hT:=zH hT;clear HT hB q5;go_wp2_with fail;refine Ts (b:=w.heap.size+2) rfl rfl rfl rfl (Xn q6 _ _ _ _) ⟨_,rfl,?_,ZY x6 zO _ _ _ _⟩;rw[hq.out,hmx.out];exact⟨_,rfl,QF.set4 hT.out zO zO _ _ _ _⟩
set_option maxRecDepth 100000 in
theorem pnew_any (A1:Option Addr) (n1 c1:Nat) (A2:Option Addr) (n2 c2:Nat) (A3:Option Addr) (n3 c3:Nat) (A4:Option Addr) (n4 c4:Nat) (S:Sto) (w:World) (h:qU w w.heap.size (.slice A1 n1 c1) (.slice A2 n2 c2) (.slice A3 n3 c3) (.slice A4 n4 c4) S):Calls prog 51 #[Qd A1 n1 c1 A2 n2 c2 A3 n3 c3 A4 n4 c4] w (QV (MadeQ w.heap.size (kR S)) w):=by
 have HM:=zH (fun W (hW:Ext w W)=>qgT A1 n1 c1 A2 n2 c2 A3 n3 c3 A4 n4 c4 S W (h.ext hW));clear h;go_enter func51,ntmps51;go_wp2_with fail;generalize aA:World.alloc (World.alloc _ _) _=w1;have x1:Ext w w1:=by rw[<-aA];exact(zN _ _).trans (zN _ _)
 have q1:w1.heap[w.heap.size+1]?=some (.cells #[.slice none 0 0,.slice none 0 0,.slice none 0 0,.slice none 0 0] 28 (0,0)):=by rw[<-aA];exact zI _ _ _ zA3
 clear aA;refine(HM.out w1 x1).mono ?_;clear HM;rintro e w6 ⟨u,rfl,hu,hB⟩;have eQ:Ext w1 w6:=hB;have x6:Below w.heap.size w w6:=x1.trans eQ;have q6:=qb q1 eQ;have kq:=qa q6;have fq:=qe q6;have z1:=(zG.1 q1).1;rcases hq:kR S with er|⟨r,S'⟩
 ·rw[hq] at hu;obtain rfl:u=_:=hu;replace hq:=zH hq;clear hB q1;go_wp2_with fail;exact qdY (b:=w.heap.size+1) rfl rfl rfl rfl (Xn q6 _ _ _ _) ⟨_,rfl,by rw[hq.out];rfl,ZY x6 zO _ _ _ _⟩
 ·rw[hq] at hu;obtain⟨v,rfl,hT⟩:=hu;obtain⟨BB,WW,gg,B3,d3',B4,d4,rfl,-⟩:=id hT;replace hT:=zH hT;replace hq:=zH hq;clear hB q1;go_wp2_with fail;refine qdY (b:=w.heap.size+1) rfl rfl rfl rfl (Xn q6 _ _ _ _) ⟨_,rfl,?_,ZY x6 zO _ _ _ _⟩;rw[hq.out];exact⟨_,rfl,QF.set4 hT.out zO zO _ _ _ _⟩
theorem qhJ (S:Sto) (a:Nat) (data:List UInt8):Jd (KX S a data) a=data:=by
 have h:jB (S.ws++[((a:Int),data)]) (a:Int)=some data:=by unfold jB;rw[List.reverse_append,List.reverse_singleton,List.singleton_append,List.find?_cons];simp
 unfold Jd KX;simp only;rw[h]
theorem node_put {S:Sto} {a:Nat} (ha:a<S.now.length) (data:List UInt8):qv (KX S a data) a=QD data:=by
 unfold qv;rw[qhJ];have:(KX S a data).now[a]?=some 1:=by show (S.now.set a 1)[a]?=some 1;rw[List.getElem?_set_self ha]
 rw[this];rfl
theorem qeV:QD (jf (zX 0 []))=some (0,[]):=by decide +kernel
theorem new_node {S S':Sto} {r:Nat} (h:kR S=.ok (r,S')):qv S' r=some (0,[]):=by obtain⟨hS,hm,_,h8,h256⟩:=XN h;obtain⟨t,_,_,_,_,_,_,rfl,ht⟩:=qdI hS hm;rw[node_put (by show r<t.length;rw[qac ht];exact h256),qeV]
theorem new_tree {S S':Sto} {r:Nat} (h:kR S=.ok (r,S')):okL S' (-1) (r:Int)=true:=by obtain⟨_,_,_,h8,h256⟩:=XN h;unfold okL;rw[if_pos zO,Int.toNat_natCast,new_node h];rfl
def qeC (S:Sto) (root next:Int) (dead:List Int) (w:World) (e:Ending) (w':World):Prop:=Below w.heap.size w w' /\
 ((e=.returned (.tuple #[.slice none 0 0,.int .i64 8])/\∀ vs,zY S root next dead vs->∃ refs nodes,Qr S (zF root dead vs) refs nodes/\¬Zu S refs) \/
  ∃ vs refs nodes cb ca vv lo,e=.returned (.tuple #[vv,.int .i64 0])/\w.heap.size<=lo/\Taken S root next dead vs refs nodes lo cb ca vv w')
theorem qaZ {R:Ending->World->Prop} {a:Act} {W:World} {u v:Value} (h2:a.tmps[2]?.getD undef=u) (h3:a.tmps[3]?.getD undef=v) (hd:a.defers=[]) (hR:R (.returned (.tuple #[u,v])) W):bodyPost prog Tryz.f17 R .ret a W:=by refine bodyPost_ret (v:=.tuple #[u,v]) ?_ hd hR;simp[results,results17,go_sem,h2,h3]
set_option maxRecDepth 100000 in
theorem qgZ (A1:Option Addr) (n1 c1:Nat) (A2:Option Addr) (n2 c2:Nat) (A3:Option Addr) (n3 c3:Nat) (A4:Option Addr) (n4 c4:Nat) (gen root next:Int) (A5:Option Addr) (c5:Nat) (S:Sto) (dead:List Int) (w:World) (h:qU w w.heap.size (.slice A1 n1 c1) (.slice A2 n2 c2) (.slice A3 n3 c3) (.slice A4 n4 c4) S) (hd:Zk w w.heap.size (.slice A5 dead.length c5) dead):Calls prog 17 #[.agg (qB (.slice A1 n1 c1) (.slice A2 n2 c2) (.slice A3 n3 c3) (.slice A4 n4 c4) gen root next (.slice A5 dead.length c5))] w (qeC S root next dead w):=by
 have HT:=zH (fun W (hx:Ext w W)=>Tg A1 n1 c1 A2 n2 c2 A3 n3 c3 A4 n4 c4 gen root next A5 c5 S dead W (h.ext hx) (by obtain⟨A,c,e,q1,q2,q3⟩:=hd;exact⟨A,c,e,q1,q2,(q3.below hx).more hx.size⟩));clear h hd;go_enter func17,ntmps17;go_wp2_with fail;generalize aA:World.alloc w _=w1;have x1:Ext w w1:=by rw[<-aA];exact zN _ _
 clear aA;refine(HT.out w1 x1).mono ?_;rintro e w2 ⟨hB,hQ⟩;have x2:Below w.heap.size w w2:=Ext.trans x1 hB;rcases hQ with ⟨rfl,bT⟩|⟨vs,refs,nodes,cb,ca,vv,rfl,hT⟩
 ·have HB:qeC S root next dead w (.returned (.tuple #[.slice none 0 0,.int .i64 8])) w2:=⟨x2,.inl ⟨rfl,bT⟩⟩
  replace HB:=zH HB;clear bT hB;go_wp2_with fail;exact qaZ rfl rfl rfl HB.out
 ·have kc:w2.cell? ⟨cb,518,none⟩=some vv:=by rw[qa hT.row];exact hT.ar.vol
  obtain⟨AV,cV,rfl,-,-⟩:=qy hT.own;have HB:qeC S root next dead w (.returned (.tuple #[.slice AV vs.length cV,.int .i64 0])) w2:=⟨x2,.inr ⟨vs,refs,nodes,cb,ca,_,_,rfl,x1.size,hT⟩⟩
  replace HB:=zH HB;clear hT hB;go_wp2_with fail;exact qaZ rfl rfl rfl HB.out
def leaveP (S:Sto) (a:Nat):Except Int Sto:=match Qz S (-1) S.now a with
 |none=>.error 8
 |some t=>.ok (qu S t)
def leaveE (S:Sto) (a:Int):Except Int Sto:=if ZQ S a=0 then leaveP S a.toNat else .error (ZQ S a)
def qbz (S:Sto) (root next:Int) (dead:List Int) (v:Vol) (er:Int):Prop:=(er=8/\zv S root next dead)\/∃ vs refs nodes,zY S root next dead vs/\Qr S (zF root dead vs) refs nodes/\Zu S refs /\
 (ZJ S next v vs refs=er\/(ZJ S next v vs refs=0/\(setE S root v=.error er\/(er=8/\∃ r S',setE S root v=.ok (r,S')/\zv S' (r:Int) next dead))))
def qcF (S:Sto) (root next:Int) (dead:List Int) (v:Vol) (r:Nat) (S':Sto) (vs':List Vol):Prop:=∃ vs refs nodes,zY S root next dead vs/\Qr S (zF root dead vs) refs nodes/\Zu S refs /\
 ZJ S next v vs refs=0/\setE S root v=.ok (r,S')/\qeF S' (r:Int) next dead vs'
theorem SetQ.split {S:Sto} {gen root next:Int} {dead:List Int} {v:Vol} {w w':World} {e:Ending} (h:SetQ S gen root next dead v w e w'):Below w.heap.size w w' /\ ((∃ er,er≠0/\e=.returned (.tuple #[vN,.int .i64 er])/\qbz S root next dead v er) \/
   ∃ r S' vs' u,qcF S root next dead v r S' vs'/\e=.returned (.tuple #[u,.int .i64 0])/\Jg w.heap.size S' gen (r:Int) next dead u w'):=by
 obtain⟨hB,h⟩:=h;refine⟨hB,?_⟩;rcases h with ⟨rfl,hb⟩|⟨vs,refs,nodes,hp,hc,he,h⟩
 ·exact .inl ⟨8,zA1,rfl,.inl ⟨rfl,hb⟩⟩
 ·rcases h with ⟨er,h0,e1,h⟩|⟨r,S',vs',u,h1,h2,h3,h4,h5⟩
  ·exact .inl ⟨er,h0,e1,.inr ⟨vs,refs,nodes,hp,hc,he,h⟩⟩
  ·exact .inr ⟨r,S',vs',u,⟨vs,refs,nodes,hp,hc,he,h1,h2,h3⟩,h4,h5⟩
theorem Jg.sto {lo:Nat} {S:Sto} {gen root next:Int} {dead:List Int} {u:Value} {W:World} (h:Jg lo S gen root next dead u W):∃ A1 c1 A2 c2 A3 c3 A4 c4 A5 c5,u=.agg (qB (.slice A1 S.bs.length c1) (.slice A2 S.ws.length c2) (.slice A3 S.now.length c3) (.slice A4 S.last.length c4) gen root next (.slice A5 dead.length c5)) /\
  qU W W.heap.size (.slice A1 S.bs.length c1) (.slice A2 S.ws.length c2) (.slice A3 S.now.length c3) (.slice A4 S.last.length c4) S/\Zk W W.heap.size (.slice A5 dead.length c5) dead:=by
 obtain⟨A1,c1,A2,c2,A3,c3,A4,c4,A5,c5,e,h⟩:=h;exact⟨A1,c1,A2,c2,A3,c3,A4,c4,A5,c5,e,h W fun q v h1 h2 h3=>(Yw h3).1⟩
theorem Jg.keep {lo lo':Nat} {S:Sto} {gen root next:Int} {dead:List Int} {u:Value} {W W':World} (h:Jg lo S gen root next dead u W) (hl:lo'<=lo) (hs:W.heap.size<=W'.heap.size) (hk:∀ k,lo<=k->k<W.heap.size->W'.heap[k]?=W.heap[k]?):Jg lo' S gen root next dead u W':=by obtain⟨A1,c1,A2,c2,A3,c3,A4,c4,A5,c5,e,h⟩:=h;refine⟨A1,c1,A2,c2,A3,c3,A4,c4,A5,c5,e,fun C hC=>?_⟩;obtain⟨h1,h2⟩:=h C fun q v h1 h2 h3=>hC q v zO zO ((QR (hk q.block h1 h2)).trans h3);exact⟨h1.more hs,h2.more hs⟩
theorem same8 {w:World} {b:Nat} {x0 x1 x2 x3 x4 x5 x6 x7:Value} {ty:TypeId} (h:w.heap[b]?=some (.cells #[x0,x1,x2,x3,x4,x5,x6,x7] ty (0,0))):Ext w ((((((((w.setCell ⟨b,0,none⟩ x0).setCell ⟨b,1,none⟩ x1).setCell ⟨b,2,none⟩ x2).setCell ⟨b,3,none⟩ x3).setCell ⟨b,4,none⟩ x4).setCell ⟨b,5,none⟩ x5).setCell ⟨b,6,none⟩ x6).setCell ⟨b,7,none⟩ x7):=by have e0:=Qo (j:=0) (v:=x0) h rfl;have h0:=qb h e0;have e1:=Qo (j:=1) (v:=x1) h0 rfl;have h1:=qb h0 e1;have e2:=Qo (j:=2) (v:=x2) h1 rfl;have h2:=qb h1 e2;have e3:=Qo (j:=3) (v:=x3) h2 rfl;have h3:=qb h2 e3;have e4:=Qo (j:=4) (v:=x4) h3 rfl;have h4:=qb h3 e4;have e5:=Qo (j:=5) (v:=x5) h4 rfl;have h5:=qb h4 e5;have e6:=Qo (j:=6) (v:=x6) h5 rfl;have h6:=qb h5 e6;exact((((((e0.trans e1).trans e2).trans e3).trans e4).trans e5).trans e6).trans (Qo (j:=7) (v:=x7) h6 rfl)
structure Sets (X:Nat->Prop) (W C:World):Prop where
 os:C.os=W.os
 tape:C.tape=W.tape
 output:C.output=W.output
 size:C.heap.size=W.heap.size
 same:∀ k,¬X k->C.heap[k]?=W.heap[k]?
theorem Sets.refl (X:Nat->Prop) (W:World):Sets X W W:=⟨rfl,rfl,rfl,rfl,fun _ _=>rfl⟩
theorem Sets.set {X:Nat->Prop} {W C:World} (h:Sets X W C) {b:Nat} (j:Nat) (hb:X b) (v:Value):Sets X W (C.setCell ⟨b,j,none⟩ v):=⟨h.os,h.tape,h.output,by simpa using h.size,fun k hk=>(zJ _ _ _ _ fun e=>hk (by have e':k=b:=e;rw[e'];exact hb)).trans (h.same k hk)⟩
theorem Sets.row {X:Nat->Prop} {W C:World} (h:Sets X W C) {b:Nat} {o:Obj} (hr:W.heap[b]?=some o) (hb:¬X b):C.heap[b]?=some o:=(h.same b hb).trans hr
theorem Sets.below {X:Nat->Prop} {W C w:World} {B:Nat} (h:Sets X W C) (hB:Below B w W) (hX:∀ k,X k->B<=k):Below B w C:=hB.trans ⟨h.os,h.tape,h.output,by rw[h.size];exact zM _,fun k hk=>h.same k fun hx=>by have:=hX k hx;omega⟩
end Go.Proofs.YtpbniokljofedaaGreat
