/- Lemmas of the proof. -/
import Derived.Defers
import Derived.Test.YtmeadnlmepcmbaaGreatZN14
set_option linter.all false
set_option maxHeartbeats 8000000
open Go.Proofs.Tryz
namespace Go.Proofs.YtmeadnlmepcmbaaGreat
open Go.RowKit
abbrev vE:Value:=.agg (qC (.slice none 0 0) (.slice none 0 0) (.slice none 0 0) (.slice none 0 0) 0 0 0 (.slice none 0 0))
def jx (lo:Nat) (S:Sto) (gen root next:Int) (dead:List Int) (u:Value) (W:World):Prop:=∃ A1 c1 A2 c2 A3 c3 A4 c4 A5 c5,u=.agg (qC (.slice A1 S.bs.length c1) (.slice A2 S.ws.length c2) (.slice A3 S.now.length c3) (.slice A4 S.last.length c4) gen root next (.slice A5 dead.length c5)) /\
 ∀ C:World,PosZ lo W C->qZ C W.heap.size (.slice A1 S.bs.length c1) (.slice A2 S.ws.length c2) (.slice A3 S.now.length c3) (.slice A4 S.last.length c4) S/\Zw C W.heap.size (.slice A5 dead.length c5) dead
theorem Rd.pos {w C:World} {B size lo n c:Nat} {A:OA} {xs:List Value} (h:Rd w B size A n xs) (hf:Zv lo (.slice A n c)) (hk:∀ (q:Addr) (v:Value),lo<=q.block->q.block<B->w.cell? q=some v->C.cell? q=some v):Rd C B size A n xs:=
 ⟨h.1,fun hn=>by obtain⟨b,off,rfl,hb,hc⟩:=h.2 hn;exact⟨b,off,rfl,hb,fun j u hu=>hk _ _ (hf ⟨b,off,none⟩ n c rfl) hb (hc j u hu)⟩⟩
theorem Zw.pos {w C:World} {B lo:Nat} {v:Value} {l:List Int} (h:Zw w B v l) (hf:Zv lo v) (hk:∀ (q:Addr) (v:Value),lo<=q.block->q.block<B->w.cell? q=some v->C.cell? q=some v):Zw C B v l:=by obtain⟨A,c,e,hc,hm,hr⟩:=h;subst e;exact⟨A,c,rfl,hc,hm,Rd.pos hr hf hk⟩
theorem zl.newSto {lo:Nat} {S:Sto} {u:Value} {W:World} (h:zl lo S u W) (hS:XY S):qhp lo S u W:=by obtain⟨BB,WW,g,A3,c3,A4,c4,e,h1,h2,h3⟩:=h;refine⟨_,_,_,_,A3,c3,A4,c4,e,qdM (W:=thaw W) (Φ:=fun C=>qZ C W.heap.size _ _ _ _ S) (fun A C hAC hA=>hA.some_ hAC) fun W2 hk=>?_⟩;obtain⟨k1,k2⟩:=h1.readsT hS.bs hS.ws hS.be hS.we W2 hk;exact⟨k1,k2,(Bys.of_ownT h2).keepN (Zv.of_own h2) hk,(Bys.of_ownT h3).keepN (Zv.of_own h3) hk⟩
theorem Zw.of_ownT {w:World} {base:Nat} {v:Value} {l:List Int} (h:w.ownsRow base 3 1 v l.length (GA l)):Zw (thaw w) w.heap.size v l:=by obtain⟨A,c,e,hc,hm,hr⟩:=Zw.of_own h;refine⟨A,c,e,hc,hm,hr.1,fun hn=>?_⟩;obtain⟨b,off,e2,hb,hcs⟩:=hr.2 hn;obtain⟨cs,t,hCA⟩:=Thaw.of_own h ⟨b,off,none⟩ l.length c (by rw[e,e2]) hn;exact⟨b,off,e2,hb,fun j u hu=>(JW hCA _).trans (hcs j u hu)⟩
def outN (lo n:Nat) (l:List Int):Qe:=⟨OA×Nat,fun p=>.slice p.1 n p.2,fun p W=>Zw (thaw W) W.heap.size (.slice p.1 n p.2) l/\Zv lo (.slice p.1 n p.2)⟩
theorem Zi (lo n:Nat) (l:List Int) (A c):(outN lo n l).f (A,c)=.slice A n c:=rfl
theorem Xl (lo n:Nat) (l:List Int):∀ p,QW ((outN lo n l).φ p):=fun p W W' he h=>⟨by have h1:=h.1;rw[<-KJ W] at h1;have h2:=h1.ext_ (Ext.thaw he);rw[KJ] at h2;exact h2,h.2⟩
def PoolR (er:Int) (S:Sto) (gen root next:Int) (dead:List Int) (lo:Nat) (u:Value) (W:World):Prop:=(er≠0/\u=.tuple #[vE,.int .i64 er])\/(er=0/\∃ v,u=.tuple #[v,.int .i64 0]/\jx lo S gen root next dead v W)
def VolSQ (S:Sto) (gen root next:Int) (dead:List Int) (er:(Nat->Nat)->(Nat->Nat)->Int) (S':Sto) (w:World) (e:Ending) (w':World):Prop:=Below w.heap.size w w' /\
 ((e=.returned (.tuple #[vE,.int .i64 8])/\∀ vs,Qo S root next dead vs->∃ refs nodes,qY S (Qj root dead vs) refs nodes/\¬QB S refs) \/
  ∃ vs refs nodes u,Qo S root next dead vs/\qY S (Qj root dead vs) refs nodes/\QB S refs/\e=.returned u/\PoolR (er refs nodes) S' gen root next dead w.heap.size u w')
def YA (S:Sto) (a:Int) (refs nodes:Nat->Nat):Int:=if QX S refs nodes a true≠0 then QX S refs nodes a true else jt S a
theorem qcG {S:Sto} {a:Int} (h:Zn S a=0):jt S a=0:=by
 unfold Zn at h;split at h
 ·rename_i h1;exact absurd h h1
 ·rename_i h1;simpa using h1
theorem qkH {S:Sto} {t:List UInt8} (h:ql S=true) (ht:t.length=S.now.length):XY (qy S t):=by have hs:=QS h;exact⟨hs.bs,hs.ws,hs.be,hs.we,by rw[ht];exact hs.now,hs.last⟩
theorem YB {R:Ending->World->Prop} {a:Act} {W:World} {b:Nat} {x0 x1 x2 x3 x4 x5 x6 x7 v:Value} (h4:a.tmps[4]?.getD undef=.pointer (some ⟨b,0,none⟩)) (h5:a.tmps[5]?.getD undef=v) (hd:a.defers=[]) (hCA:W.heap[b]?=some (.cells #[x0,x1,x2,x3,x4,x5,x6,x7] 32 (0,0))) (hR:R (.returned (.tuple #[.agg #[x0,x1,x2,x3,x4,x5,x6,x7],v])) W):bodyPost prog Tryz.f36 R .ret a W:=by
 refine bodyPost_ret (v:=.tuple #[.agg #[x0,x1,x2,x3,x4,x5,x6,x7],v]) ?_ hd hR;have k:=qa hCA;simp[results,results36,go_sem,h4,h5,k]
set_option maxRecDepth 100000 in
theorem qct (A1 n1 c1 A2 n2 c2 A3 n3 c3 A4 n4 c4) (gen root next:Int) (A5 c5) (S:Sto) (dead:List Int) (a:Int) (w:World) (h:qZ w w.heap.size (.slice A1 n1 c1) (.slice A2 n2 c2) (.slice A3 n3 c3) (.slice A4 n4 c4) S) (hd:Zw w w.heap.size (.slice A5 dead.length c5) dead):Calls prog 36 #[.agg (qC (.slice A1 n1 c1) (.slice A2 n2 c2) (.slice A3 n3 c3) (.slice A4 n4 c4) gen root next (.slice A5 dead.length c5)),.int .i64 a] w (VolSQ S gen root next dead (YA S a) (qy S (ju S.now a.toNat)) w):=by
 have HD:=zH (fun W (hx:Ext w W)=>qbe A1 n1 c1 A2 n2 c2 A3 n3 c3 A4 n4 c4 gen root next A5 c5 S dead a true W (h.ext hx) (hd.ext_ hx));have HS:=zH (fun W (hx:Ext w W)=>qhF A1 n1 c1 A2 n2 c2 A3 n3 c3 A4 n4 c4 S a W (h.ext hx));replace h:=zH h;replace hd:=zH hd;go_enter func36,ntmps36;go_wp2_with fail;generalize hw1:(World.alloc (World.alloc _ _) _)=w1;have x1:Ext w w1:=by rw[<-hw1];exact(zN _ _).trans (zN _ _)
 have rp1:w1.heap[w.heap.size]?=some (.cells (qC (.slice A1 n1 c1) (.slice A2 n2 c2) (.slice A3 n3 c3) (.slice A4 n4 c4) gen root next (.slice A5 dead.length c5)) 32 (0,0)):=by rw[<-hw1];exact(zK _ _ _ zA2).trans (zI _ _ _ rfl)
 have ro1:w1.heap[w.heap.size+1]?=some (.cells (qC (.slice none 0 0) (.slice none 0 0) (.slice none 0 0) (.slice none 0 0) 0 0 0 (.slice none 0 0)) 32 (0,0)):=by rw[<-hw1];exact zI _ _ _ zA2
 clear hw1;refine(HD.out w1 x1).mono ?_;clear HD;rintro e w2 ⟨hB,hQ⟩;have x2:Ext w w2:=Ext.trans x1 hB;have rp2:=qb rp1 hB;have ro2:=qb ro1 hB;clear hB rp1 ro1 x1;have kp2:=qa rp2;have ko2:=qa ro2;have fo2:=qd ro2;rcases hQ with ⟨rfl,hno⟩|⟨vs,refs,nodes,hEG,hMD,hen,rfl⟩
 ·replace hno:=zH hno;go_wp2_with fail;exact YB (b:=w.heap.size+1) rfl rfl rfl (vA ro2 _ _ _ _ _ _ _ _) ⟨ZV x2 zO _ _ _ _ _ _ _ _,.inl ⟨rfl,hno.out⟩⟩
 ·replace hEG:=zH hEG;replace hMD:=zH hMD;replace hen:=zH hen;have hE0:=zH (show YA S a refs nodes=if QX S refs nodes a true≠0 then QX S refs nodes a true else jt S a from rfl);by_cases h0:QX S refs nodes a true=0
  ·rw[h0];replace h0:=zH h0;go_wp2_with fail;refine(HS.out w2 x2).mono ?_;clear HS;rintro e w3 ⟨u,rfl,hu,hB⟩;have x3:Ext w w3:=x2.trans hB;have z23':=hB.size;have rp3:=qb rp2 hB;have ro3:=qb ro2 hB;have kp3:=qa rp3;have ko3:=qa ro3;have ro2':=ro2;have fo3:=qd ro3;clear rp2 ro2 kp2 ko2 fo2;rcases hu with ⟨h1,rfl⟩|⟨h1,v,rfl,hv⟩
   ·generalize jt S a=er at *;have he:(er != 0)=true:=by rw[bne_iff_ne];exact h1
    have hq:=zH h1;have zo3:w.heap.size+1<w3.heap.size:=(zG.1 ro3).1;clear h1;go_wp2_with fail;exact YB (b:=w.heap.size+1) rfl rfl rfl (qb (vA ro3 _ _ _ _ _ _ _ _) (zN _ _)) ⟨Below.alloc (ZV x3 zO _ _ _ _ _ _ _ _) (by have:=x3.size;simpa using this) _,.inr ⟨vs,refs,nodes,_,hEG.out,hMD.out,hen.out,rfl,.inl ⟨by rw[hE0.out,if_neg (by simpa using h0.out)];exact hq.out,by rw[hE0.out,if_neg (by simpa using h0.out)];rfl⟩⟩⟩
   ·have hsh:XY (qy S (ju S.now a.toNat)):=qkH (Vt (a:=a) (by have:=h1;first|exact qcG this|exact this)).1 (by first|exact qcp _ _ _|exact qfV _ _);have hns:=hv.newSto hsh;obtain⟨B1,d1,B2,d2,B3,d3,B4,d4,rfl,wNC⟩:=hns;have hns:∀ C:World,PosZ w2.heap.size w3 C->qZ C w3.heap.size (.slice B1 S.bs.length d1) (.slice B2 S.ws.length d2) (.slice B3 (ju S.now a.toNat).length d3) (.slice B4 S.last.length d4) (qy S (ju S.now a.toNat)):=wNC;replace hns:=zH hns;clear hv wNC;have z12:=x2.size;have zo:w.heap.size+1<w2.heap.size:=(zG.1 ro2').1;have wVZ:=hns.out;clear hns;go_upto_region 7 with fail;obtain⟨nl,hnl⟩:∃ nl,(ju S.now a.toNat).length=nl:=⟨_,rfl⟩
    rw[hnl];rw[hnl] at wVZ;replace hnl:=zH hnl;replace wVZ:=zH wVZ;have x4:Ext w3 (w3.alloc (.cells #[.slice B1 S.bs.length d1,.slice B2 S.ws.length d2,.slice B3 nl d3,.slice B4 S.last.length d4] 28)):=zN _ _;have r4:(w3.alloc (.cells #[.slice B1 S.bs.length d1,.slice B2 S.ws.length d2,.slice B3 nl d3,.slice B4 S.last.length d4] 28)).heap[w3.heap.size]?=_:=zI _ _ _ rfl;generalize hw4:w3.alloc _=w4 at *;clear hw4;have rp4:=qb rp3 x4;have ro4:=qb ro3 x4;have gP:∀ W,Ext w4 W->∀ i,W.cell? ⟨w.heap.size,i,none⟩=(qC (.slice A1 n1 c1) (.slice A2 n2 c2) (.slice A3 n3 c3) (.slice A4 n4 c4) gen root next (.slice A5 dead.length c5))[i]?:=fun W h=>qa (qb rp4 h);have gS:∀ W,Ext w4 W->∀ i,W.cell? ⟨w3.heap.size,i,none⟩=#[.slice B1 S.bs.length d1,.slice B2 S.ws.length d2,.slice B3 nl d3,.slice B4 S.last.length d4][i]?:=fun W h=>qa (qb r4 h);have HI:=zH (fun W (hW:Ext w4 W)=>TG (.slice A5 dead.length c5) dead (by have:=hEG.out.few;omega) W (hd.out.ext_ ((x3.trans x4).trans hW)));clear kp3 ko3 fo3 rp3 ro3;refine zj (qM [(3,outN w4.heap.size dead.length dead)]) 5 zQ zQ zQ zD zQ zQ ?st ?walk
    case st=>exact zv (by simp only[List.forall_mem_cons];exact⟨Xl _ _ _,fun _ h=>by cases h⟩)
    case walk =>
     intro K hK;dsimp only[List.take];refine zC4 ?_;refine QC (outN w4.heap.size dead.length dead) zA0 zA0 (fun W hW _=>?_) (fun p=>?_)
     ·refine QP ?_ ((HI.out W hW).mono fun e w' h=>?_)
      ·go_simp
      obtain⟨u,rfl,hu,hB⟩:=h;obtain⟨A',c',rfl,_,_⟩:=qB hu;exact⟨(A',c'),rfl,⟨Zw.of_ownT hu,(Zv.of_own hu).mono hW.size⟩,hB⟩
     obtain⟨B5,d5⟩:=p;refine zC4 ?_;refine Zz (hK _ _ fun W hW hF=>?_);have hI:Zw (thaw W) W.heap.size (.slice B5 dead.length d5) dead/\Zv w4.heap.size (.slice B5 dead.length d5):=(hF 3).1;clear hF hK gP gS;dsimp only[List.drop];have zr:=rp4;have rp5:=qb rp4 hW;have ro5:=qb ro4 hW;have kp5:=qa rp5;have fp5:=qd rp5;have ko5:=qa ro5;have fo5:=qd ro5;have zp5:w.heap.size<W.heap.size:=(zG.1 rp5).1;have zo5:w.heap.size+1<W.heap.size:=(zG.1 ro5).1;replace hI:=zH hI;clear HI rp4 ro4 r4;go_wp2_with fail;generalize hWp:(((((W.setCell ⟨w.heap.size,0,none⟩ _).setCell ⟨w.heap.size,1,none⟩ _).setCell ⟨w.heap.size,2,none⟩ _).setCell ⟨w.heap.size,3,none⟩ _).setCell ⟨w.heap.size,7,none⟩ _)=Wp;have hop:∀ k,k≠w.heap.size->Wp.heap[k]?=W.heap[k]?:=fun k hk=>by rw[<-hWp,zJ _ _ _ _ hk,zJ _ _ _ _ hk,zJ _ _ _ _ hk,zJ _ _ _ _ hk,zJ _ _ _ _ hk]
     have zp:Wp.heap.size=W.heap.size:=by rw[<-hWp];simp
     have xp:Below w.heap.size w Wp:=by rw[<-hWp];exact Below.setCell (zm ((x3.trans x4).trans hW) (b:=w.heap.size) (zM _) _ _ _ _) (p:=⟨w.heap.size,7,none⟩) (zM _) _
     clear hWp;have rop:Wp.heap[w.heap.size+1]?=_:=(hop _ zO).trans ro5;have z34:=x4.size;have z4W:=Below.size hW;have z23:w2.heap.size<=w3.heap.size:=z23';refine YB (b:=w.heap.size+1) rfl rfl rfl (vA rop _ _ _ _ _ _ _ _) ⟨ZV xp zO _ _ _ _ _ _ _ _,.inr ⟨vs,refs,nodes,_,hEG.out,hMD.out,hen.out,rfl,.inr ⟨by rw[hE0.out,if_neg (by simpa using h0.out)];exact h1,_,rfl,B1,d1,B2,d2,B3,d3,B4,d4,B5,d5,by rw[<-hnl.out],fun C hC=>?_⟩⟩⟩;have hsz:((((((((Wp.setCell ⟨w.heap.size+1,0,none⟩ (.slice B1 S.bs.length d1)).setCell ⟨w.heap.size+1,1,none⟩ (.slice B2 S.ws.length d2)).setCell ⟨w.heap.size+1,2,none⟩ (.slice B3 nl d3)).setCell ⟨w.heap.size+1,3,none⟩ (.slice B4 S.last.length d4)).setCell ⟨w.heap.size+1,4,none⟩ (.int .u32 gen)).setCell ⟨w.heap.size+1,5,none⟩ (.int .i64 root)).setCell ⟨w.heap.size+1,6,none⟩ (.int .u32 next)).setCell ⟨w.heap.size+1,7,none⟩ (.slice B5 dead.length d5)).heap.size=W.heap.size:=by simp[zp]
     rw[hsz];have wCO:=fun (k:Nat) (hk:w.heap.size+1<k)=>(jI (w:=Wp) (show k≠w.heap.size+1 by omega) (.slice B1 S.bs.length d1) (.slice B2 S.ws.length d2) (.slice B3 nl d3) (.slice B4 S.last.length d4) (.int .u32 gen) (.int .i64 root) (.int .u32 next) (.slice B5 dead.length d5)).trans (hop k zO);have q1:=wVZ.out C fun q v h1 h2 h3=>hC q v zO (by rw[hsz];omega) ((Qu ((wCO q.block zO).trans ((Below.block hW _ zO).trans (x4.block _ zO)))).trans h3);have q2:=hI.out.1.pos hI.out.2 (C:=C) fun q v h1 h2 h3=>hC q v zO (by rw[hsz];omega) ((Qu (wCO q.block zO)).trans h3);rw[<-hnl.out] at q1;exact⟨q1.more zO,q2⟩
  ·generalize QX S refs nodes a true=er at *;have he:(er != 0)=true:=by rw[bne_iff_ne];exact h0
   have hq:=zH h0;clear h0;go_wp2_with fail;exact YB (b:=w.heap.size+1) rfl rfl rfl (vA ro2 _ _ _ _ _ _ _ _) ⟨ZV x2 zO _ _ _ _ _ _ _ _,.inr ⟨vs,refs,nodes,_,hEG.out,hMD.out,hen.out,rfl,.inl ⟨by rw[hE0.out,if_pos hq.out];exact hq.out,by rw[hE0.out,if_pos hq.out];rfl⟩⟩⟩
def Zt (S:Sto):Int:=if ql S=true/\16<=(Zc S).length then 0 else 9
structure Two (bp be:Nat) (W W':World):Prop where
 os:W'.os=W.os
 tape:W'.tape=W.tape
 output:W'.output=W.output
 size:W.heap.size<=W'.heap.size
 same:∀ k,k<W.heap.size->k≠bp->k≠be->W'.heap[k]?=W.heap[k]?
theorem Two.of_ext {bp be:Nat} {W W':World} (h:Ext W W'):Two bp be W W':=⟨h.os,h.tape,h.output,h.size,fun k hk _ _=>h.block k hk⟩
theorem Two.below {bp be B:Nat} {w0 W W':World} (h:Two bp be W W') (hb:Below B w0 W) (h1:B<=bp) (h2:B<=be) (hB:B<=W.heap.size):Below B w0 W':=hb.trans ⟨h.os,h.tape,h.output,h.size,fun k hk=>h.same k zO zO zO⟩
abbrev YC:Array Value:=qC (.slice none 0 0) (.slice none 0 0) (.slice none 0 0) (.slice none 0 0) 0 0 0 (.slice none 0 0)
theorem Two.trans {bp be:Nat} {A B C:World} (h:Two bp be A B) (k:Two bp be B C):Two bp be A C:=⟨k.os.trans h.os,k.tape.trans h.tape,k.output.trans h.output,Nat.le_trans h.size k.size,fun i hi h1 h2=>(k.same i (Nat.lt_of_lt_of_le hi h.size) h1 h2).trans (h.same i hi h1 h2)⟩
theorem Two.setP {bp be:Nat} (A:World) (j:Nat) (v:Value):Two bp be A (A.setCell ⟨bp,j,none⟩ v):=⟨rfl,rfl,rfl,zA2,fun k _ hk _=>zJ _ _ _ _ hk⟩
theorem Two.setE {bp be:Nat} (A:World) (j:Nat) (v:Value):Two bp be A (A.setCell ⟨be,j,none⟩ v):=⟨rfl,rfl,rfl,zA2,fun k _ _ hk=>zJ _ _ _ _ hk⟩
theorem Two.set8 {bp be:Nat} (w:World) (x0 x1 x2 x3 x4 x5 x6 x7:Value):Two bp be w ((((((((w.setCell ⟨bp,0,none⟩ x0).setCell ⟨bp,1,none⟩ x1).setCell ⟨bp,2,none⟩ x2).setCell ⟨bp,3,none⟩ x3).setCell ⟨bp,4,none⟩ x4).setCell ⟨bp,5,none⟩ x5).setCell ⟨bp,6,none⟩ x6).setCell ⟨bp,7,none⟩ x7):=
 (Two.setP _ _ _).trans ((Two.setP _ _ _).trans ((Two.setP _ _ _).trans ((Two.setP _ _ _).trans ((Two.setP _ _ _).trans ((Two.setP _ _ _).trans ((Two.setP _ _ _).trans (Two.setP _ _ _)))))))
def RoomyQ (bp be:Nat) (cs:Array Value) (e:Int) (S:Sto) (W W':World):Prop:=Two bp be W W' /\
 ((e=0/\Zt S=0/\W'.heap[bp]?=some (.cells cs 32 (0,0))/\W'.heap[be]?=some (.cells #[.int .i64 0] 37 (0,0))) \/
  ∃ e',e'≠0/\((e=0/\e'=Zt S)\/(e≠0/\e'=e))/\W'.heap[bp]?=some (.cells YC 32 (0,0))/\W'.heap[be]?=some (.cells #[.int .i64 e'] 37 (0,0)))
set_option maxRecDepth 100000 in
theorem qdP (bp be:Nat) (hne:bp≠be) (A1 n1 c1 A2 n2 c2 A3 n3 c3 A4 n4 c4) (gen root next:Int) (v5:Value) (e:Int) (S:Sto) (w:World) (hp:w.heap[bp]?=some (.cells (qC (.slice A1 n1 c1) (.slice A2 n2 c2) (.slice A3 n3 c3) (.slice A4 n4 c4) gen root next v5) 32 (0,0))) (he:w.heap[be]?=some (.cells #[.int .i64 e] 37 (0,0))) (h:e=0->qZ w w.heap.size (.slice A1 n1 c1) (.slice A2 n2 c2) (.slice A3 n3 c3) (.slice A4 n4 c4) S):Calls prog 89 #[.pointer (some ⟨bp,0,none⟩),.pointer (some ⟨be,0,none⟩)] w (fun x w'=>x=.returned (.tuple #[])/\RoomyQ bp be (qC (.slice A1 n1 c1) (.slice A2 n2 c2) (.slice A3 n3 c3) (.slice A4 n4 c4) gen root next v5) e S w w'):=by
 have kp:=qa hp;have ke:=qa he;have fp:=qd hp;have fe:=qd he;by_cases h0:e=0
 ·subst h0;have HF:=qdN A1 n1 c1 A2 n2 c2 A3 n3 c3 A4 n4 c4 S w (h rfl);clear h;go_enter func89,ntmps89;go_wp2_with fail;refine HF.mono ?_;rintro x w2 ⟨hB,hQ⟩;have x2:Ext w w2:=hB;have hp2:=qb hp x2;have he2:=qb he x2;have kp2:=qa hp2;have ke2:=qa he2;have fp2:=qd hp2;have fe2:=qd he2;clear kp ke fp fe hB HF hp he;rcases hQ with ⟨hm,rfl⟩|⟨hm,v,rfl,hBQ⟩
  ·have hE:Zt S=9:=by unfold Zt;rw[hm];rfl
   replace hE:=zH hE;replace hm:=zH hm;have wMZ:¬be=bp:=fun e=>hne e.symm;go_wp2_with fail;go_end0;exact⟨rfl,(Two.of_ext x2).trans ((Two.setE _ _ _).trans (Two.set8 _ _ _ _ _ _ _ _ _)),.inr ⟨9,zD,.inl ⟨rfl,hE.out.symm⟩,vA ((zJ _ _ _ _ hne).trans hp2) _ _ _ _ _ _ _ _,(jI wMZ _ _ _ _ _ _ _ _).trans (qi he2 0 _)⟩⟩
  ·obtain⟨A,c,rfl,-,-⟩:=qB hBQ;clear hBQ;by_cases hl:(Zc S).length<16
   ·have hE:Zt S=9:=by unfold Zt;rw[if_neg zO]
    replace hE:=zH hE;have d1:decide (((Zc S).length:Int)<16)=true:=decide_eq_true zO;replace hl:=zH hl;replace hm:=zH hm;have wMZ:¬be=bp:=fun e=>hne e.symm;go_wp2_with fail;go_end0;exact⟨rfl,(Two.of_ext x2).trans ((Two.setE _ _ _).trans (Two.set8 _ _ _ _ _ _ _ _ _)),.inr ⟨9,zD,.inl ⟨rfl,hE.out.symm⟩,vA ((zJ _ _ _ _ hne).trans hp2) _ _ _ _ _ _ _ _,(jI wMZ _ _ _ _ _ _ _ _).trans (qi he2 0 _)⟩⟩
   ·have hE:Zt S=0:=by unfold Zt;rw[if_pos ⟨hm,zO⟩]
    replace hE:=zH hE;have d1:decide (((Zc S).length:Int)<16)=false:=decide_eq_false zO;replace hl:=zH hl;replace hm:=zH hm;go_wp2_with fail;go_end0;exact⟨rfl,Two.of_ext x2,.inl ⟨rfl,hE.out,hp2,he2⟩⟩
 ·have b0:(e == 0)=false:=by rw[beq_eq_false_iff_ne];exact h0
  have b1:(e != 0)=true:=by rw[bne_iff_ne];exact h0
  replace h0:=zH h0;replace hne:=zH hne;clear h;go_enter func89,ntmps89;go_wp2_with fail;go_end0;exact⟨rfl,Two.set8 _ _ _ _ _ _ _ _ _,.inr ⟨e,h0.out,.inr ⟨h0.out,rfl⟩,vA hp _ _ _ _ _ _ _ _,(jI (fun x=>hne.out x.symm) _ _ _ _ _ _ _ _).trans he⟩⟩
structure vX (bp be ba:Nat) (W W':World):Prop where
 os:W'.os=W.os
 tape:W'.tape=W.tape
 output:W'.output=W.output
 size:W.heap.size<=W'.heap.size
 same:∀ k,k<W.heap.size->k≠bp->k≠be->k≠ba->W'.heap[k]?=W.heap[k]?
theorem vX.of_two {bp be ba:Nat} {W W':World} (h:Two bp be W W'):vX bp be ba W W':=⟨h.os,h.tape,h.output,h.size,fun k hk h1 h2 _=>h.same k hk h1 h2⟩
theorem vX.set {bp be ba:Nat} {W W':World} (h:vX bp be ba W W') (v:Value):vX bp be ba W (W'.setCell ⟨ba,0,none⟩ v):=⟨h.os,h.tape,h.output,by simpa using h.size,fun k hk h1 h2 h3=>(zJ _ _ _ _ h3).trans (h.same k hk h1 h2 h3)⟩
theorem vX.below {bp be ba B:Nat} {w0 W W':World} (h:vX bp be ba W W') (hb:Below B w0 W) (h1:B<=bp) (h2:B<=be) (h3:B<=ba) (hB:B<=W.heap.size):Below B w0 W':=hb.trans ⟨h.os,h.tape,h.output,h.size,fun k hk=>h.same k zO zO zO zO⟩
def LayEnd (bp be ba:Nat) (cs:Array Value) (a e:Int) (S:Sto) (W W':World):Prop:=vX bp be ba W W' /\
 ((e=0/\Zt S=0/\W'.heap[bp]?=some (.cells cs 32 (0,0))/\W'.heap[be]?=some (.cells #[.int .i64 0] 37 (0,0))/\W'.heap[ba]?=some (.cells #[.int .i64 a] 3 (0,0))) \/
  ∃ e',e'≠0/\((e=0/\e'=Zt S)\/(e≠0/\e'=e))/\W'.heap[bp]?=some (.cells YC 32 (0,0))/\W'.heap[be]?=some (.cells #[.int .i64 e'] 37 (0,0))/\W'.heap[ba]?=some (.cells #[.int .i64 0] 3 (0,0)))
set_option maxRecDepth 100000 in
theorem lay1_any (bp be ba:Nat) (h12:bp≠be) (h13:bp≠ba) (h23:be≠ba) (A1 n1 c1 A2 n2 c2 A3 n3 c3 A4 n4 c4) (gen root next:Int) (v5:Value) (a e:Int) (S:Sto) (u:FrameMode) (w:World) (hp:w.heap[bp]?=some (.cells (qC (.slice A1 n1 c1) (.slice A2 n2 c2) (.slice A3 n3 c3) (.slice A4 n4 c4) gen root next v5) 32 (0,0))) (he:w.heap[be]?=some (.cells #[.int .i64 e] 37 (0,0))) (ha:w.heap[ba]?=some (.cells #[.int .i64 a] 3 (0,0))) (h:e=0->qZ w w.heap.size (.slice A1 n1 c1) (.slice A2 n2 c2) (.slice A3 n3 c3) (.slice A4 n4 c4) S):CallsD prog 88 #[.pointer (some ⟨bp,0,none⟩),.pointer (some ⟨be,0,none⟩),.pointer (some ⟨ba,0,none⟩)] u w (fun x u' w'=>u'=u/\x=.returned (.tuple #[])/\LayEnd bp be ba (qC (.slice A1 n1 c1) (.slice A2 n2 c2) (.slice A3 n3 c3) (.slice A4 n4 c4) gen root next v5) a e S w w'):=by
 have HR:=qdP bp be h12 A1 n1 c1 A2 n2 c2 A3 n3 c3 A4 n4 c4 gen root next v5 e S w hp he h
 clear h hp he;go_enter_d func88,ntmps88;go_wp2_with fail;refine HR.mono ?_;rintro x w2 ⟨rfl,hT,⟨h0,hE,hp2,he2⟩|⟨e',h0,hE,hp2,he2⟩⟩
 ·have ha2:=(hT.same ba (zG.1 ha).1 (Ne.symm h13) (Ne.symm h23)).trans ha;have ke2:=qa he2;have hz:=zH h0;clear h0;go_wp2_with fail;go_end0;exact⟨rfl,vX.of_two hT,.inl ⟨hz.out,hE,hp2,he2,ha2⟩⟩
 ·have ha2:=(hT.same ba (zG.1 ha).1 (Ne.symm h13) (Ne.symm h23)).trans ha;have ke2:=qa he2;have ka2:=qa ha2;have fa2:=qd ha2;have b1:(e' != 0)=true:=by rw[bne_iff_ne];exact h0
  replace h0:=zH h0;replace hE:=zH hE;go_wp2_with fail;go_end0;exact⟨rfl,(vX.of_two hT).set _,.inr ⟨e',h0.out,hE.out,(zJ _ _ _ _ h13).trans hp2,(zJ _ _ _ _ h23).trans he2,qi ha2 0 _⟩⟩
def qaC (S:Sto) (data:List UInt8):Int:=if 128<data.length then 3 else if Vr S (Jh 128 data)≠0 then Vr S (Jh 128 data) else Zt (ZF S (Qm S) (Jh 128 data))
def VLayQ (S:Sto) (gen root next:Int) (dead:List Int) (data:List UInt8) (w:World) (e:Ending) (w':World):Prop:=Below w.heap.size w w' /\
 ((e=.returned (.tuple #[vE,.int .i64 0,.int .i64 8])/\∀ vs,Qo S root next dead vs->∃ refs nodes,qY S (Qj root dead vs) refs nodes/\¬QB S refs) \/
  ∃ vs refs nodes,Qo S root next dead vs/\qY S (Qj root dead vs) refs nodes/\QB S refs/\((qaC S data≠0/\e=.returned (.tuple #[vE,.int .i64 0,.int .i64 (qaC S data)])) \/
   (qaC S data=0/\∃ v,e=.returned (.tuple #[v,.int .i64 (Qm S:Int),.int .i64 0])/\jx w.heap.size (ZF S (Qm S) (Jh 128 data)) gen root next dead v w')))
theorem qjf {R:Ending->World->Prop} {tmps:Array Value} {W:World} {b:Nat} {x0 x1 x2 x3 x4 x5 x6 x7 y z:Value} (h4:tmps[4]?.getD undef=.pointer (some ⟨b+1,0,none⟩)) (h5:tmps[5]?.getD undef=.pointer (some ⟨b+1+1,0,none⟩)) (h6:tmps[6]?.getD undef=.pointer (some ⟨b+1+1+1,0,none⟩)) (r4:W.heap[b+1]?=some (.cells #[x0,x1,x2,x3,x4,x5,x6,x7] 32 (0,0))) (r5:W.heap[b+2]?=some (.cells #[y] 3 (0,0))) (r6:W.heap[b+3]?=some (.cells #[z] 37 (0,0))) (hR:R (.returned (.tuple #[.agg #[x0,x1,x2,x3,x4,x5,x6,x7],y,z])) W):Leaves prog Tryz.f34 tmps R [] .returning W:=by
 have k4:=qa r4;have k5:=qa r5;have k6:=qa r6;refine⟨.tuple #[.agg #[x0,x1,x2,x3,x4,x5,x6,x7],y,z],?_,hR⟩;simp[results,results34,go_sem,h4,h5,h6,k4,k5,k6]
theorem Um {R:Ending->World->Prop} {tmps:Array Value} {W:World} {b:Nat} (A1 n1 c1 A2 n2 c2 A3 n3 c3 A4 n4 c4) (gen root next:Int) (v5:Value) (y e:Int) (S:Sto) (h4:tmps[4]?.getD undef=.pointer (some ⟨b+1,0,none⟩)) (h5:tmps[5]?.getD undef=.pointer (some ⟨b+1+1,0,none⟩)) (h6:tmps[6]?.getD undef=.pointer (some ⟨b+1+1+1,0,none⟩)) (r4:W.heap[b+1]?=some (.cells (qC (.slice A1 n1 c1) (.slice A2 n2 c2) (.slice A3 n3 c3) (.slice A4 n4 c4) gen root next v5) 32 (0,0))) (r5:W.heap[b+2]?=some (.cells #[.int .i64 y] 3 (0,0))) (r6:W.heap[b+3]?=some (.cells #[.int .i64 e] 37 (0,0))) (h:e=0->qZ W W.heap.size (.slice A1 n1 c1) (.slice A2 n2 c2) (.slice A3 n3 c3) (.slice A4 n4 c4) S) (hR1:e=0->Zt S=0->∀ W',vX (b+1) (b+3) (b+2) W W'->R (.returned (.tuple #[.agg (qC (.slice A1 n1 c1) (.slice A2 n2 c2) (.slice A3 n3 c3) (.slice A4 n4 c4) gen root next v5),.int .i64 y,.int .i64 0])) W') (hR2:∀ e' W',e'≠0->((e=0/\e'=Zt S)\/(e≠0/\e'=e))->vX (b+1) (b+3) (b+2) W W'->R (.returned (.tuple #[vE,.int .i64 0,.int .i64 e'])) W'):bodyPostD prog Tryz.f34 R .ret { tmps:=tmps,defers:=[{ target:=.fn (.func 88) #[.pointer (some ⟨b+1,0,none⟩),.pointer (some ⟨b+1+1+1,0,none⟩),.pointer (some ⟨b+1+1,0,none⟩)],args:=#[] }] } W:=by
 refine leaves_cons (f:=88) (args:=#[.pointer (some ⟨b+1,0,none⟩),.pointer (some ⟨b+1+1+1,0,none⟩),.pointer (some ⟨b+1+1,0,none⟩)]) zA2 (by simp[go_sem]) ?_;refine(lay1_any (b+1) (b+3) (b+2) zO zO zO A1 n1 c1 A2 n2 c2 A3 n3 c3 A4 n4 c4 gen root next v5 y e S .returning W r4 r6 r5 h).mono ?_;rintro x u' w' ⟨rfl,rfl,hT,⟨h0,hE,g4,g6,g5⟩|⟨e',h0,hE,g4,g6,g5⟩⟩
 ·exact qjf h4 h5 h6 g4 g5 g6 (hR1 h0 hE w' hT)
 ·exact qjf h4 h5 h6 g4 g5 g6 (hR2 e' w' h0 hE hT)
theorem VS {W:World} {b:Nat} {x0 x1 x2 x3 x4 x5 x6 x7 y z u0 u1 u2 u3 u4 u5 u6 u7 p q:Value} {ty1 ty2 ty3:TypeId} (r4:W.heap[b+1]?=some (.cells #[u0,u1,u2,u3,u4,u5,u6,u7] ty1 (0,0))) (r5:W.heap[b+2]?=some (.cells #[p] ty2 (0,0))) (r6:W.heap[b+3]?=some (.cells #[q] ty3 (0,0))) {C:World} (hC:C=((((((((((W.setCell ⟨b+1,0,none⟩ x0).setCell ⟨b+1,1,none⟩ x1).setCell ⟨b+1,2,none⟩ x2).setCell ⟨b+1,3,none⟩ x3).setCell ⟨b+1,4,none⟩ x4).setCell ⟨b+1,5,none⟩ x5).setCell ⟨b+1,6,none⟩ x6).setCell ⟨b+1,7,none⟩ x7).setCell ⟨b+1+1,0,none⟩ y).setCell ⟨b+1+1+1,0,none⟩ z)):C.heap[b+1]?=some (.cells #[x0,x1,x2,x3,x4,x5,x6,x7] ty1 (0,0))/\C.heap[b+2]?=some (.cells #[y] ty2 (0,0))/\C.heap[b+3]?=some (.cells #[z] ty3 (0,0))/\(∀ {B:Nat} {w0:World},B<=b+1->Below B w0 W->Below B w0 C)/\C.heap.size=W.heap.size/\(∀ k,k≠b+1->k≠b+2->k≠b+3->C.heap[k]?=W.heap[k]?):=by
 subst hC;have hs:=fun (A:World) (b j:Nat) (v:Value) (k:Nat) (hk:k≠b)=>zJ A ⟨b,j,none⟩ v k hk;refine⟨?_,?_,?_,fun hB h=>?_,zA2,fun k h1 h2 h3=>?_⟩
 ·rw[hs _ _ _ _ _ zO,hs _ _ _ _ _ zO];exact vA r4 x0 x1 x2 x3 x4 x5 x6 x7
 ·rw[hs _ _ _ _ _ zO];refine qi (t:=ty2) (cs:=#[p]) ?_ 0 y;rw[jI zO];exact r5
 ·refine qi (t:=ty3) (cs:=#[q]) ?_ 0 z;rw[hs _ _ _ _ _ zO,jI zO];exact r6
 ·exact Below.setCell (Below.setCell (ZV h (b:=b+1) zO x0 x1 x2 x3 x4 x5 x6 x7) (p:=⟨b+1+1,0,none⟩) zA1 _) (p:=⟨b+1+1+1,0,none⟩) zA1 _
 ·rw[hs _ _ _ _ _ zO,hs _ _ _ _ _ zO,jI zO]
theorem US {W:World} {b:Nat} {p q p0 q0:Value} {ty2 ty3:TypeId} (r5:W.heap[b+2]?=some (.cells #[p0] ty2 (0,0))) (r6:W.heap[b+3]?=some (.cells #[q0] ty3 (0,0))) {C:World} (hC:(W.setCell ⟨b+1+1,0,none⟩ p).setCell ⟨b+1+1+1,0,none⟩ q=C):C.heap[b+2]?=some (.cells #[p] ty2 (0,0))/\C.heap[b+3]?=some (.cells #[q] ty3 (0,0))/\(∀ {B:Nat} {w0:World},B<=b+1->Below B w0 W->Below B w0 C)/\C.heap.size=W.heap.size/\(∀ k,k≠b+2->k≠b+3->C.heap[k]?=W.heap[k]?):=by
 subst hC;have hs:=fun (A:World) (b j:Nat) (v:Value) (k:Nat) (hk:k≠b)=>zJ A ⟨b,j,none⟩ v k hk;refine⟨?_,?_,fun hB h=>?_,zA2,fun k h2 h3=>?_⟩
 ·rw[hs _ _ _ _ _ zO];exact qi (t:=ty2) (cs:=#[p0]) r5 0 p
 ·refine qi (t:=ty3) (cs:=#[q0]) ?_ 0 q;rw[hs _ _ _ _ _ zO];exact r6
 ·exact Below.setCell (Below.setCell h (p:=⟨b+1+1,0,none⟩) zA1 _) (p:=⟨b+1+1+1,0,none⟩) zA1 _
 ·rw[hs _ _ _ _ _ zO,hs _ _ _ _ _ zO]
theorem GX {P:Program} {o:Oper} {a:Act} {W:World} {B:Nat} {ty:TypeId} {y0 y1 y2 y3 y4 y5 y6 y7 x0 x1 x2 x3 x4 x5 x6 x7:Value} (h:W.heap[B]?=some (.cells #[y0,y1,y2,y3,y4,y5,y6,y7] ty (0,0))) (hr:(execOp a.eval o).run P W=.ok .skip ((((((((W.setCell ⟨B,0,none⟩ x0).setCell ⟨B,1,none⟩ x1).setCell ⟨B,2,none⟩ x2).setCell ⟨B,3,none⟩ x3).setCell ⟨B,4,none⟩ x4).setCell ⟨B,5,none⟩ x5).setCell ⟨B,6,none⟩ x6).setCell ⟨B,7,none⟩ x7)):QA (TM B ty #[x0,x1,x2,x3,x4,x5,x6,x7]) P o a W (XE B ty #[x0,x1,x2,x3,x4,x5,x6,x7]):=
 qgd hr (Qi.trans (Qi.trans (Qi.trans (Qi.trans (Qi.trans (Qi.trans (Qi.trans Qi))))))) (vA h _ _ _ _ _ _ _ _)
set_option maxRecDepth 100000 in
theorem vlay_any (A1 n1 c1 A2 n2 c2 A3 n3 c3 A4 n4 c4) (gen root next:Int) (A5 c5) (S:Sto) (dead:List Int) (A c) (data:List UInt8) (w:World) (h:qZ w w.heap.size (.slice A1 n1 c1) (.slice A2 n2 c2) (.slice A3 n3 c3) (.slice A4 n4 c4) S) (hd:Zw w w.heap.size (.slice A5 dead.length c5) dead) (hb:Bys w w.heap.size (.slice A data.length c) data):Calls prog 34 #[.agg (qC (.slice A1 n1 c1) (.slice A2 n2 c2) (.slice A3 n3 c3) (.slice A4 n4 c4) gen root next (.slice A5 dead.length c5)),.slice A data.length c] w (VLayQ S gen root next dead data w):=by
 have hmk:∀ w,(Instr.makeSlice 26 (.int .i64 128) (.int .i64 128)).run prog w=.ok (.slice (some ⟨w.heap.size,0,none⟩) 128 128) (w.alloc (.cells ((List.replicate 128 (0:UInt8)).map bv).toArray 5)):=fun _=>zQ;have hmf:∀ (fn:Fn) (first cap:Array Value) (w:World),(Instr.makeFunc fn first cap).run prog w=.ok (.func fn first cap) w:=fun _ _ _ _=>rfl;have hsz:(Tryz.prog.info? 5).map (·.size)=some 1:=zQ;have HC:=zH (fun W (hx:Ext w W)=>qbU A1 n1 c1 A2 n2 c2 A3 n3 c3 A4 n4 c4 gen root next A5 c5 S dead W (h.ext hx) (hd.ext_ hx));replace h:=zH h;replace hd:=zH hd;replace hb:=zH hb;go_enter_defers func34,ntmps34;go_wp2_with fail;generalize hw1:(World.alloc (World.alloc _ _) _)=w1;have x1:Ext w w1:=by rw[<-hw1];exact(((zN _ _).trans (zN _ _)).trans (zN _ _)).trans (zN _ _)
 have s1:w1.heap.size=w.heap.size+4:=by rw[<-hw1];simp
 have ra1:w1.heap[w.heap.size]?=some (.cells (qC (.slice A1 n1 c1) (.slice A2 n2 c2) (.slice A3 n3 c3) (.slice A4 n4 c4) gen root next (.slice A5 dead.length c5)) 32 (0,0)):=by rw[<-hw1];exact(zK _ _ _ zA3).trans ((zK _ _ _ zA3).trans ((zK _ _ _ zA3).trans (zI _ _ _ rfl)))
 have rb1:w1.heap[w.heap.size+1]?=some (.cells YC 32 (0,0)):=by rw[<-hw1];exact(zK _ _ _ zA3).trans ((zK _ _ _ zA3).trans (zI _ _ _ zA2))
 have rc1:w1.heap[w.heap.size+2]?=some (.cells #[.int .i64 0] 3 (0,0)):=by rw[<-hw1];exact(zK _ _ _ zA3).trans (zI _ _ _ zA2)
 have rd1:w1.heap[w.heap.size+3]?=some (.cells #[.int .i64 0] 37 (0,0)):=by rw[<-hw1];exact zI _ _ _ zA2
 clear hw1;refine(HC.out w1 x1).mono ?_;clear HC;rintro e w2 ⟨hB,hQ⟩;have x2:Ext w w2:=Ext.trans x1 hB;have z2:w.heap.size+3<w2.heap.size:=by have:=Below.size hB;omega
 have ra2:=qb ra1 hB;have rb2:=qb rb1 hB;have rc2:=qb rc1 hB;have rd2:=qb rd1 hB;clear hB ra1 rb1 rc1 rd1 x1;have ka2:=qa ra2;have kb2:=qa rb2;have kc2:=qa rc2;have kd2:=qa rd2;have fb2:=qd rb2;have fc2:=qd rc2;have fd2:=qd rd2;rcases hQ with ⟨rfl,hno⟩|⟨rfl,vs,refs,nodes,hEG,hMD,hen⟩
 ·replace hno:=zH hno;go_wp2_with fail;obtain⟨g4,g5,g6,hbl,hz,-⟩:=VS (b:=w.heap.size) rb2 rc2 rd2 rfl;refine Um none 0 0 none 0 0 none 0 0 none 0 0 0 0 0 (.slice none 0 0) 0 8 S rfl rfl rfl g4 g5 g6 (fun h=>by cases h) (fun h=>by cases h) (fun e' W' h0 hE' hT=>?_);obtain rfl:e'=8:=by
   rcases hE' with ⟨h,_⟩|⟨_,h⟩
   ·cases h
   ·exact h
  have hBW:=hT.below (hbl (B:=w.heap.size) zO x2) zO zO zO (by rw[hz];omega);exact⟨hBW,.inl ⟨rfl,hno.out⟩⟩
 ·replace hEG:=zH hEG;replace hMD:=zH hMD;replace hen:=zH hen;by_cases hl:128<data.length
  ·have hE:qaC S data=3:=by unfold qaC;rw[if_pos hl]
   have d1:decide ((data.length:Int)>128)=true:=decide_eq_true zO;have d2:decide (128<data.length)=true:=decide_eq_true hl;replace hE:=zH hE;replace hl:=zH hl;go_wp2_with fail;obtain⟨g4,g5,g6,hbl,hz,-⟩:=VS (b:=w.heap.size) rb2 rc2 rd2 rfl;refine Um none 0 0 none 0 0 none 0 0 none 0 0 0 0 0 (.slice none 0 0) 0 3 S rfl rfl rfl g4 g5 g6 (fun h=>by cases h) (fun h=>by cases h) (fun e' W' h0 hE' hT=>?_);obtain rfl:e'=3:=by
    rcases hE' with ⟨h,_⟩|⟨_,h⟩
    ·cases h
    ·exact h
   have hBW:=hT.below (hbl (B:=w.heap.size) zO x2) zO zO zO (by rw[hz];omega);exact⟨hBW,.inr ⟨vs,refs,nodes,hEG.out,hMD.out,hen.out,.inl ⟨by rw[hE.out];decide,by rw[hE.out]⟩⟩⟩
  ·have d1:decide ((data.length:Int)>128)=false:=decide_eq_false zO;have d2:decide (128<data.length)=false:=decide_eq_false hl;have wJN:data.length<=128:=zO;replace hl:=zH hl;replace wJN:=zH wJN;go_wp2_with fail;have xa:Ext w2 (w2.alloc (.cells ((List.replicate 128 (0:UInt8)).map bv).toArray 5)):=zN _ _;have r3:(w2.alloc (.cells ((List.replicate 128 (0:UInt8)).map bv).toArray 5)).heap[w2.heap.size]?=some (.cells ((List.replicate 128 (0:UInt8)).map bv).toArray 5 (0,0)):=zI _ _ _ rfl;change Oper.upon _ _ _ _ _ (Result.andThen (Sem.run _ _ (w2.alloc (.cells ((List.replicate 128 (0:UInt8)).map bv).toArray 5))) _);generalize hw3:w2.alloc _=w3 at *;clear hw3 hmk;have hcp:=Yu (P:=prog) w3 26 26 3 5 w2.heap.size 0 128 128 A c data _ _ underlying26 hsz r3 (hb.out.below (x2.trans xa)) wJN.out (by simp;exact wJN.out);rw[hcp];clear hcp;have r4:=setRow_heap w3 w2.heap.size _ (List.take 0 (List.map bv (List.replicate 128 0)).toArray.toList++List.map bv data++List.drop (0+data.length) (List.map bv (List.replicate 128 0)).toArray.toList).toArray _ _ r3;have x4:Below w2.heap.size w2 (w3.setRow w2.heap.size (List.take 0 (List.map bv (List.replicate 128 0)).toArray.toList++List.map bv data++List.drop (0+data.length) (List.map bv (List.replicate 128 0)).toArray.toList).toArray):=
    Below.grown xa (Yv _ _ _) xa.size (fun g e=>by cases e;exact zM _)
   generalize hw4:w3.setRow w2.heap.size (List.take 0 (List.map bv (List.replicate 128 0)).toArray.toList++List.map bv data++List.drop (0+data.length) (List.map bv (List.replicate 128 0)).toArray.toList).toArray=w4 at *;rw[qjp] at r4;have x24:Ext w2 w4:=x4;have y4:Ext w w4:=x2.trans x24;have hpl:(Jh 128 data).length=128:=VZ wJN.out;have hpb:Bys w4 w4.heap.size (.slice (some ⟨w2.heap.size,0,none⟩) 128 128) (Jh 128 data):=by refine⟨_,128,by rw[hpl],Nat.le_of_eq hpl,zA6,by rw[hpl];simp[hpl],fun _=>⟨w2.heap.size,0,rfl,(zG.1 r4).1,fun j u hu=>?_⟩⟩;rw[Nat.zero_add,qa r4];simpa using hu
   have HT:=qkz A1 n1 c1 A2 n2 c2 A3 n3 c3 A4 n4 c4 S (some ⟨w2.heap.size,0,none⟩) 128 (Jh 128 data) w4 (h.out.ext y4) (by rw[hpl];exact hpb);rw[hpl] at HT;clear hw4 r3 r4 xa hpb x4 ka2 kb2 kc2 kd2 fb2 fc2 fd2;have ra4:=qb ra2 x24;have rb4:=qb rb2 x24;have rc4:=qb rc2 x24;have rd4:=qb rd2 x24;have ka4:=qa ra4;replace hpl:=zH hpl;go_wp2_with fail;refine HT.mono ?_;clear HT;rintro e w5 ⟨u,rfl,hu,hB⟩;have x45:Ext w4 w5:=hB;have y5:Ext w w5:=y4.trans hB;have z45:=x45.size;have z24:=x24.size;have ra5:=qb ra4 hB;have rb5:=qb rb4 hB;have rc5:=qb rc4 hB;have rd5:=qb rd4 hB;clear hB ra4 rb4 rc4 rd4 ra2 rb2 rc2 rd2 ka4;have ka5:=qa ra5;have kb5:=qa rb5;have kc5:=qa rc5;have kd5:=qa rd5;have fa5:=qd ra5;have fb5:=qd rb5;have fc5:=qd rc5;have fd5:=qd rd5;have za5:w.heap.size<w5.heap.size:=zO;have zb5:w.heap.size+1<w5.heap.size:=zO;have zc5:w.heap.size+1+1<w5.heap.size:=zO;have zd5:w.heap.size+1+1+1<w5.heap.size:=zO;have hLE:qaC S data=if Vr S (Jh 128 data)≠0 then Vr S (Jh 128 data) else Zt (ZF S (Qm S) (Jh 128 data)):=by unfold qaC;rw[if_neg hl.out]
   replace hLE:=zH hLE;rcases hu with ⟨h1,rfl⟩|⟨h1,v,rfl,hns⟩
   ·have wPA:=zH (hLE.out.trans (if_pos h1));clear hLE;generalize Vr S (Jh 128 data)=er at *;have b1:(er != 0)=true:=by rw[bne_iff_ne];exact h1
    replace h1:=zH h1;go_wp2_with fail;generalize hw6:(w5.setCell _ _).setCell ⟨w.heap.size+1+1+1,0,none⟩ _=w6;obtain⟨rc6,rd6,hb6,z6,ho6⟩:=US rc5 rd5 hw6;have rb6:w6.heap[w.heap.size+1]?=_:=(ho6 _ zO zO).trans rb5;clear hw6;obtain⟨g4,g5,g6,hbl,hz,-⟩:=VS (b:=w.heap.size) rb6 rc6 rd6 rfl;refine Um none 0 0 none 0 0 none 0 0 none 0 0 0 0 0 (.slice none 0 0) 0 er S rfl rfl rfl (qb g4 (zN _ _)) (qb g5 (zN _ _)) (qb g6 (zN _ _)) (fun h=>absurd h h1.out) (fun h=>absurd h h1.out) (fun e' W' h0 hE' hT=>?_);obtain rfl:e'=er:=by
     rcases hE' with ⟨h,_⟩|⟨_,h⟩
     ·exact absurd h h1.out
     ·exact h
    have hBW:=hT.below (Below.alloc (hbl (B:=w.heap.size) zO (hb6 zO y5)) (by rw[hz,z6];omega) _) zO zO zO (by simp[hz,z6];omega);exact⟨hBW,.inr ⟨vs,refs,nodes,hEG.out,hMD.out,hen.out,.inl ⟨by rw[wPA.out];exact h1.out,by rw[wPA.out]⟩⟩⟩
   ·have wPA:=zH (hLE.out.trans (if_neg (by simpa using h1)));obtain⟨B1,d1,B2,d2,B3,d3,B4,d4,rfl,wNC⟩:=hns;replace h1:=zH h1;replace wNC:=zH wNC;clear hLE;generalize hff:Qm S=ff at *;generalize hS':ZF S ff (Jh 128 data)=S' at *;go_upto_region 12 with fail;generalize hw6:(w5.setCell _ _).setCell ⟨w.heap.size+1+1+1,0,none⟩ _=w6;obtain⟨rc6,rd6,hb6,z6,ho6⟩:=US rc5 rd5 hw6;have rb6:w6.heap[w.heap.size+1]?=_:=(ho6 _ zO zO).trans rb5;have ra6:w6.heap[w.heap.size]?=_:=(ho6 _ zO zO).trans ra5;have y6:Below w.heap.size w w6:=hb6 zO y5;clear hw6;have x67:Ext w6 (w6.alloc (.cells #[.slice B1 S'.bs.length d1,.slice B2 S'.ws.length d2,.slice B3 S'.now.length d3,.slice B4 S'.last.length d4] 28)):=zN _ _;have rt7:(w6.alloc (.cells #[.slice B1 S'.bs.length d1,.slice B2 S'.ws.length d2,.slice B3 S'.now.length d3,.slice B4 S'.last.length d4] 28)).heap[w5.heap.size]?=_:=zI _ _ _ z6.symm;have z7:(w6.alloc (.cells #[.slice B1 S'.bs.length d1,.slice B2 S'.ws.length d2,.slice B3 S'.now.length d3,.slice B4 S'.last.length d4] 28)).heap.size=w5.heap.size+1:=by simp[z6]
    generalize hw7:w6.alloc _=w7 at *;clear hw7 ka5 kb5 kc5 kd5 fa5 fb5 fc5 fd5;have ra7:=qb ra6 x67;have rb7:=qb rb6 x67;have rc7:=qb rc6 x67;have rd7:=qb rd6 x67;have y7:Ext w w7:=Ext.trans y6 x67;have h57:∀ k,k<w5.heap.size->k≠w.heap.size+2->k≠w.heap.size+3->w7.heap[k]?=w5.heap[k]?:=fun k h1 h2 h3=>(x67.block k zO).trans (ho6 k h2 h3);have gP:∀ W,Ext w7 W->∀ i,W.cell? ⟨w.heap.size,i,none⟩=(qC (.slice A1 n1 c1) (.slice A2 n2 c2) (.slice A3 n3 c3) (.slice A4 n4 c4) gen root next (.slice A5 dead.length c5))[i]?:=fun W h=>qa (qb ra7 h);have gS:∀ W,Ext w7 W->∀ i,W.cell? ⟨w5.heap.size,i,none⟩=#[.slice B1 S'.bs.length d1,.slice B2 S'.ws.length d2,.slice B3 S'.now.length d3,.slice B4 S'.last.length d4][i]?:=fun W h=>qa (qb rt7 h);have HI:=zH (fun W (hW:Ext w7 W)=>TG (.slice A5 dead.length c5) dead (by have:=hEG.out.few;omega) W (hd.out.ext_ (y7.trans hW)));replace ho6:=zH ho6;replace h57:=zH h57;clear ra5 rb5 rc5 rd5 ra6 rb6 rc6 rd6 x67 hb6;refine zj (qM [(3,outN w7.heap.size dead.length dead)]) 5 zQ zQ zQ zD zQ zQ ?st ?walk
    case st=>exact zv (by simp only[List.forall_mem_cons];exact⟨Xl _ _ _,fun _ h=>by cases h⟩)
    case walk =>
     intro K hK;dsimp only[List.take];refine zC5 ?_;refine QC (outN w7.heap.size dead.length dead) zA0 zA0 (fun W hW _=>?_) (fun p=>?_)
     ·refine QP ?_ ((HI.out W hW).mono fun e w' h=>?_)
      ·go_simp
      obtain⟨u,rfl,hu,hB⟩:=h;obtain⟨A',c',rfl,_,_⟩:=qB hu;exact⟨(A',c'),rfl,⟨Zw.of_ownT hu,(Zv.of_own hu).mono hW.size⟩,hB⟩
     obtain⟨B5,d5⟩:=p;refine zC5 ?_;refine Zz (hK _ _ fun W hW hF=>?_);have hI:Zw (thaw W) W.heap.size (.slice B5 dead.length d5) dead/\Zv w7.heap.size (.slice B5 dead.length d5):=(hF 3).1;clear hF hK gP gS;dsimp only[List.drop];have ra8:=qb ra7 hW;have rb8:=qb rb7 hW;have rc8:=qb rc7 hW;have rd8:=qb rd7 hW;have ka8:=qa ra8;have fa8:=qd ra8;have za8:w.heap.size<W.heap.size:=(zG.1 ra8).1;have zd8:w.heap.size+3<W.heap.size:=(zG.1 rd8).1;replace hI:=zH hI;clear HI ra7 rb7 rc7 rd7 rt7;go_upto_region 13 with fail;generalize hWp:(((((W.setCell ⟨w.heap.size,0,none⟩ _).setCell ⟨w.heap.size,1,none⟩ _).setCell ⟨w.heap.size,2,none⟩ _).setCell ⟨w.heap.size,3,none⟩ _).setCell ⟨w.heap.size,7,none⟩ _)=Wp;have hop:∀ k,k≠w.heap.size->Wp.heap[k]?=W.heap[k]?:=fun k hk=>by rw[<-hWp,zJ _ _ _ _ hk,zJ _ _ _ _ hk,zJ _ _ _ _ hk,zJ _ _ _ _ hk,zJ _ _ _ _ hk]
     have rap:Wp.heap[w.heap.size]?=some (.cells (qC (.slice B1 S'.bs.length d1) (.slice B2 S'.ws.length d2) (.slice B3 S'.now.length d3) (.slice B4 S'.last.length d4) gen root next (.slice B5 dead.length d5)) 32 (0,0)):=by rw[<-hWp];exact qi (qi (qi (qi (qi ra8 0 _) 1 _) 2 _) 3 _) 7 _
     have zp:Wp.heap.size=W.heap.size:=by rw[<-hWp];simp
     have xp:Below w.heap.size w Wp:=by rw[<-hWp];exact Below.setCell (zm (y7.trans hW) (b:=w.heap.size) (zM _) _ _ _ _) (p:=⟨w.heap.size,7,none⟩) (zM _) _
     clear hWp;have rbp:Wp.heap[w.heap.size+1]?=_:=(hop _ zO).trans rb8;have rcp:Wp.heap[w.heap.size+2]?=_:=(hop _ zO).trans rc8;have rdp:Wp.heap[w.heap.size+3]?=_:=(hop _ zO).trans rd8;have z7W:=Below.size hW;have hWb:∀ k,k<w7.heap.size->W.heap[k]?=w7.heap[k]?:=fun k hk=>Below.block hW k hk;replace hWb:=zH hWb;replace hop:=zH hop;clear ra8 rb8 rc8 rd8 ka8 fa8 hW;obtain⟨csP,hcs⟩:∃ csP,csP=qC (.slice B1 S'.bs.length d1) (.slice B2 S'.ws.length d2) (.slice B3 S'.now.length d3) (.slice B4 S'.last.length d4) gen root next (.slice B5 dead.length d5):=⟨_,rfl⟩
     replace hcs:=zH hcs;obtain⟨RR,hRR⟩:∃ RR:Rel,RR=TM (w.heap.size+1) 32 csP:=⟨_,rfl⟩
     replace hRR:=zH hRR;have gA:∀ W,RR.r Wp W->∀ i,W.cell? ⟨w.heap.size,i,none⟩=(qC (.slice B1 S'.bs.length d1) (.slice B2 S'.ws.length d2) (.slice B3 S'.now.length d3) (.slice B4 S'.last.length d4) gen root next (.slice B5 dead.length d5))[i]?:=fun W h=>qa (Ys (hRR.out ▸ h) zO rap);have gC:∀ W,RR.r Wp W->∀ i,W.cell? ⟨w.heap.size+1+1,i,none⟩=#[.int .i64 (ff:Int)][i]?:=fun W h=>qa (Ys (hRR.out ▸ h) zO rcp);refine qp zQ ?_;refine Qa (w:=Wp) RR (qM [(2,XE (w.heap.size+1) 32 csP)]) [true,true,true] 2 zQ zQ zQ zQ zQ zQ zQ ?st (Rel.drew _ _) ?walk
     case st=>rw[hRR.out];exact qj (by simp only[List.forall_mem_cons];exact⟨qbR,fun _ h=>by cases h⟩)
     case walk =>
      intro K hK;dsimp only[qw];refine zC6 ?_;refine qz (XE (w.heap.size+1) 32 csP) zA0 zA0 (fun W hW hp=>?_) (fun p=>?_)
      ·rw[hRR.out] at hW ⊢;rw[hcs.out];have zo:w.heap.size+1<W.heap.size:=by have:=hW.1.size;omega
       rcases qcb hW rbp with h8|h8
       ·have k8:=qa h8;have f8:=qd h8;refine GX h8 ?_;go_simp
       ·rw[hcs.out] at h8;have k8:=qa h8;have f8:=qd h8;refine GX h8 ?_;go_simp
      refine zC6 ?_;refine qA (hK _ _ fun W9 hW9 hF=>?_);have rb9:W9.heap[w.heap.size+1]?=some (.cells csP 32 (0,0)):=(hF 2).1;clear hF hK gA gC;rw[hRR.out] at hW9;have h9:∀ k,k<Wp.heap.size->k≠w.heap.size+1->W9.heap[k]?=Wp.heap[k]?:=fun k h1 h2=>hW9.1.block k h1 (fun e=>h2 (by simpa using e));have y9:Below w.heap.size w W9:=xp.trans (qeV hW9 zO zO);have z9:=hW9.1.size;have rc9:=Ys hW9 zO rcp;have rd9:=Ys hW9 zO rdp;rw[hcs.out] at rb9;replace h9:=zH h9;clear rap rbp rcp rdp hW9 hRR;refine zB4 ?_;have kc9:=qa rc9;have kd9:=qa rd9;have fc9:=qd rc9;have fd9:=qd rd9;go_wp2_with fail;refine Qw ?_;go_wp2_with fail;generalize hWf:(W9.setCell _ _).setCell ⟨w.heap.size+1+1+1,0,none⟩ _=Wf;obtain⟨rcf,rdf,hbf,zf,hof⟩:=US rc9 rd9 hWf;have rbf:Wf.heap[w.heap.size+1]?=_:=(hof _ zO zO).trans rb9;clear hWf kc9 kd9 fc9 fd9;have wCO:∀ k,w.heap.size+3<k->k<W.heap.size->Wf.heap[k]?=W.heap[k]?:=fun k h1 h2=>(hof k zO zO).trans ((h9.out k zO zO).trans (hop.out k zO));have wYM:∀ k,w.heap.size+3<k->k<w5.heap.size->Wf.heap[k]?=w5.heap[k]?:=fun k h1 h2=>(wCO k h1 zO).trans ((hWb.out k zO).trans (h57.out k h2 zO zO));refine Um B1 S'.bs.length d1 B2 S'.ws.length d2 B3 S'.now.length d3 B4 S'.last.length d4 gen root next (.slice B5 dead.length d5) (ff:Int) 0 S' rfl rfl rfl rbf rcf rdf (fun _=>?_) (fun _ hE W' hT=>?_) (fun e' W' h0 hE hT=>?_)
      ·exact(wNC.out Wf fun q v h1 h2 h3=>(World.cell?_of_block (wYM q.block zO h2)).trans (XN h3).1).more zO
      ·have hBW:=hT.below (hbf (B:=w.heap.size) zO y9) zO zO zO zO;refine⟨hBW,.inr ⟨vs,refs,nodes,hEG.out,hMD.out,hen.out,.inr ⟨by rw[wPA.out];exact hE,_,by rw[hff],?_⟩⟩⟩;rw[hff,hS'];have hzT:=hT.size;refine⟨B1,d1,B2,d2,B3,d3,B4,d4,B5,d5,rfl,fun C hC=>⟨(wNC.out C fun q v h1 h2 h3=>?_).more zO,(hI.out.1.pos hI.out.2 fun q v h1 h2 h3=>?_).more zO⟩⟩
       ·exact hC q v zO zO ((Qu ((hT.same q.block zO zO zO zO).trans (wYM q.block zO h2))).trans h3)
       ·exact hC q v zO zO ((Qu ((hT.same q.block zO zO zO zO).trans (wCO q.block zO h2))).trans h3)
      ·have hBW:=hT.below (hbf (B:=w.heap.size) zO y9) zO zO zO zO;obtain rfl:e'=Zt S':=by
        rcases hE with ⟨_,h⟩|⟨h,_⟩
        ·exact h
        ·exact absurd rfl h
       exact⟨hBW,.inr ⟨vs,refs,nodes,hEG.out,hMD.out,hen.out,.inl ⟨by rw[wPA.out];exact h0,by rw[wPA.out]⟩⟩⟩
theorem qgk (ws:List (Int×List UInt8)) (a r:Int) (l:List UInt8) (h:a≠r):jp (ws++[(a,l)]) r=jp ws r:=by
 unfold jp;rw[List.reverse_append,List.reverse_singleton,List.singleton_append,List.find?_cons];have:(a == r)=false:=by rw[beq_eq_false_iff_ne];exact h
 simp only[this]
theorem seen_put (S:Sto) {a r:Nat} (l:List UInt8) (h:r≠a):Zu (ZF S a l) r=Zu S r:=by unfold Zu ZF;simp only;rw[qgk _ _ _ _ (show (a:Int)≠(r:Int) by omega)]
theorem qji (t:List UInt8) {a r:Nat} (v:UInt8) (h:r≠a):(t.set a v)[r]?.getD 0=t[r]?.getD 0:=by rw[List.getElem?_set_ne (Ne.symm h)]
theorem qig (t:List UInt8) {a:Nat} (v:UInt8) (h:a<t.length):(t.set a v)[a]?.getD 0=v:=by rw[List.getElem?_set_self h];rfl
theorem sm_put {S:Sto} {a:Nat} (l:List UInt8) (h0:Zo S a=0) (hl:a<S.now.length):SM S (ZF S a l) where
 node r nd e:=by
  by_cases hr:r=a
  ·subst hr;unfold qu at e;rw[if_pos (show (S.now[r]?.getD 0).toNat=0 from h0)] at e;cases e
  ·unfold qu at e ⊢;rw[seen_put S l hr,show (ZF S a l).now[r]?.getD 0=S.now[r]?.getD 0 from qji _ _ hr];exact e
 pos r h:=by
  by_cases hr:r=a
  ·subst hr;rw[show (ZF S r l).now[r]?.getD 0=1 from qig _ _ hl];decide
  ·rw[show (ZF S a l).now[r]?.getD 0=S.now[r]?.getD 0 from qji _ _ hr];exact h
theorem qix {S:Sto} {t:List UInt8} (h:∀ r:Nat,0<(S.now[r]?.getD 0).toNat->0<(t[r]?.getD 0).toNat):SM S (qy S t) where
 node r nd e:=by
  unfold qu at e ⊢;split at e
  ·cases e
  ·rename_i h1;rw[if_neg (by have:=h r zO;simp only;omega)];exact e
 pos:=h
theorem ji {t:List UInt8} {a:Nat} (h:Qt t=true) (ha:8<=a) (v:UInt8):Qt (t.set a v)=true:=by unfold Qt at *;simp only[Bool.and_eq_true,decide_eq_true_eq] at *;refine⟨by rw[List.length_set];exact h.1,?_⟩;rw[List.take_set_of_le ha];exact h.2
theorem qF {S:Sto}:ql S=true↔QM S.bs S.ws=true/\Qt S.now=true/\Qt S.last=true:=by unfold ql;simp[Bool.and_eq_true]
theorem may_put {S:Sto} (h:ql S=true) {a:Nat} (ha:8<=a) (ha2:a<256) {l:List UInt8} (hl:l.length=128) (hw:S.ws.length≠4096):ql (ZF S a l)=true:=by obtain⟨h1,h2,h3⟩:=qF.1 h;refine qF.2 ⟨?_,ji h2 ha 1,h3⟩;unfold QM headD at *;simp only[Bool.and_eq_true,decide_eq_true_eq,ZF,List.length_append,List.length_singleton,List.all_append,List.all_cons,List.all_nil,Bool.and_true] at *;obtain⟨⟨g1,g2⟩,g3,g4⟩:=h1;refine⟨⟨g1,zO⟩,g3,g4,?_⟩;unfold wrOk;exact decide_eq_true ⟨zA2,zA1,hl⟩
theorem qcL {S:Sto} (h:¬Zc S=[]):Qm S<256:=by
 have hQT:Qm S∈jm S 256:=by
  show Qm S∈Zc S;unfold Qm;rcases hf:Zc S with _|⟨x,r⟩
  ·exact absurd hf h
  ·simp
 simpa using (List.mem_filter.1 hQT).1
theorem kE {t:List UInt8} (h:Qt t=true):t.length=256:=by unfold Qt at h;simp only[Bool.and_eq_true,decide_eq_true_eq] at h;exact h.1
theorem qar {t:List UInt8} (h:Qt t=true):qL t 0=0:=by
 have hl:=kE h;unfold Qt at h;simp only[Bool.and_eq_true] at h;rcases t with _|⟨x,r⟩
 ·simp at hl
 ·have:=h.2;simp[Vs] at this;simp[qL,this.1]
theorem qiv {t t':List UInt8} {a:Nat} (ha:a=0\/8<=a) (h:Qt t=true) (e:vt t a=.ok t'):Qt t'=true:=by
 unfold vt at e;split at e
 ·cases e;exact h
 ·split at e
  ·cases e
  ·split at e
   ·cases e
   ·cases e;exact ji h zO _
theorem qck:∀ {l:List Nat} {t t':List UInt8},(∀ a∈l,a=0\/8<=a)->Qt t=true->ZO l t=.ok t'->Qt t'=true
 | [],t,t',_,h,e=>by cases e;exact h
 |a :: l,t,t',hl,h,e=>by
  simp only[ZO] at e;split at e
  ·cases e
  ·rename_i t1 e1;exact qck (fun b hb=>hl b (List.mem_cons_of_mem _ hb)) (qiv (hl a List.mem_cons_self) h e1) e
theorem JO:∀ {l:List Nat} {t t':List UInt8},(∀ a∈l,a=0\/8<=a)->Qt t=true->looseL l t=.ok t'->Qt t'=true
 | [],t,t',_,h,e=>by cases e;exact h
 |a :: l,t,t',hl,h,e=>by
  by_cases ha:a=0
  ·subst ha;rw[jC] at e;exact JO (fun b hb=>hl b (List.mem_cons_of_mem _ hb)) h e
  ·by_cases h0:qL t a=0
   ·rw[Jd ha h0] at e;cases e
   ·rw[jB ha h0] at e;exact JO (fun b hb=>hl b (List.mem_cons_of_mem _ hb)) (ji h (by have:=hl a List.mem_cons_self;omega) _) e
theorem qeT {its:List It} (h:∀ x∈its,itB x.r x.val.length=true):∀ a∈qE its,(a=0\/8<=a)/\a<256:=fun a ha=>by obtain⟨x,hx,rfl⟩:=List.mem_map.1 ha;have:=h x hx;unfold itB at this;simp only[decide_eq_true_eq] at this;omega
theorem KH {S:Sto} {a:Nat} {lvl:Int} {xs:List It} (h:qu S a=some (lvl,xs)):∀ r∈qE xs,(r=0\/8<=r)/\r<256:=qeT fun x hx=>((qQ h).2.1 x hx).2
theorem Ut {S S':Sto} {lvl:Int} {its:List It} {f:Nat} (hS:ql S=true) (h:ZE S lvl its=.ok (f,S')):∃ t,Qn lvl its=true/\ZO (qE its) S.now=.ok t/\S.ws.length≠4096/\8<=f/\f<256/\ZZ (qy S t) f=true/\S'=ZF (qy S t) f (Zg (Qv lvl its))/\Qt t=true:=by
 unfold ZE at h;split at h
 ·rename_i hm;split at h
  ·cases h
  ·rename_i t ht;split at h
   ·cases h
   ·rename_i hn;cases h;have h1:Zc (qy S t)≠[]:=fun e=>hn (.inl e);have hQT:Qm (qy S t)∈Zc (qy S t):=by
     unfold Qm;cases e:Zc (qy S t) with
     |nil=>exact absurd e h1
     |cons a l=>exact List.mem_cons_self
    have hfb:ZZ (qy S t) (Qm (qy S t))=true:=by have:=List.mem_filter.1 (show Qm (qy S t)∈(List.range 256).filter (ZZ (qy S t)) from hQT);exact this.2
    have h8:8<=Qm (qy S t):=by unfold ZZ at hfb;simp only[Bool.and_eq_true,decide_eq_true_eq] at hfb;exact hfb.1
    exact⟨t,hm,ht,fun e=>hn (.inr e),h8,qcL h1,hfb,rfl,qck (fun a ha=>(qeT (jO hm).2.2.2 a ha).1) (qF.1 hS).2.1 ht⟩
 ·cases h
theorem KF {S S':Sto} {lvl:Int} {its:List It} {f:Nat} (hio:∀ x∈its,zy x) (hS:ql S=true) (h:ZE S lvl its=.ok (f,S')):ql S'=true/\8<=f/\f<256/\S'.ws.length<=4096:=by obtain⟨t,hm,ht,hw,h8,hf,hfb,rfl,htm⟩:=Ut hS h;have hl:(Zg (Qv lvl its)).length=128:=vK (by have:=Yz lvl its.length its.length hio (jO hm).2.2.1;rw[Yy] at this;omega);have h1:=may_put (S:=qy S t) (qF.2 ⟨(qF.1 hS).1,htm,(qF.1 hS).2.2⟩) h8 hf hl hw;exact⟨h1,h8,hf,(qX h1).2.1⟩
theorem Uv {S:Sto} (hS:ql S=true) {t:List UInt8} (ht:Qt t=true):ql (qy S t)=true:=qF.2 ⟨(qF.1 hS).1,ht,(qF.1 hS).2.2⟩
theorem qby {S:Sto}:∀ (h:Nat) {lvl:Int} {t t':List UInt8} {a:Nat},(8<=a\/qL t a=0)->Qt t=true->leaveF S h lvl t a=some t'->Qt t'=true
 |0,lvl,t,t',a,_,_,e=>by cases e
 |h+1,lvl,t,t',a,ha,ht,e=>by
  rw[JT] at e;split at e
  ·cases e
  ·rename_i h0;have ha8:8<=a:=zO;split at e
   ·cases e;exact ji ht ha8 _
   ·split at e
    ·cases e
    ·rename_i l xs hn;have hr:=KH hn;have ht0:=ji ht ha8 0;split at e
     ·cases e
     ·split at e
      ·have key:∀ (rs:List Nat),(∀ r∈rs,(r=0\/8<=r)/\r<256)->∀ (o:Option (List UInt8)),(∀ u,o=some u->Qt u=true)->rs.foldl (fun acc r=>acc.bind fun t=>leaveF S h (l-1) t r) o=some t'->Qt t'=true:=by
        intro rs;induction rs with
        |nil=>intro _ o ho e;exact ho _ e
        |cons r rs ih =>
         intro hrs o ho e;rw[List.foldl_cons] at e;refine ih (fun q hq=>hrs q (List.mem_cons_of_mem _ hq)) _ (fun u hu=>?_) e;cases o with
         |none=>cases hu
         |some t1 =>
          have h1:=ho t1 rfl;refine qby h (a:=r) ?_ h1 hu;rcases(hrs r List.mem_cons_self).1 with rfl|h8
          ·right;exact qar h1
          ·exact .inl h8
       exact key _ hr _ (fun u hu=>by cases hu;exact ht0) e
      ·split at e
       ·cases e
       ·rename_i t1 e1;cases e;exact JO (fun a ha=>(hr a ha).1) ht0 e1
theorem Ye {S:Sto} {lvl:Int} {t t':List UInt8} {a:Nat} (ha:8<=a) (ht:Qt t=true) (e:QL S lvl t a=some t'):Qt t'=true:=qby 7 (.inl ha) ht e
theorem Gq {lvl:Int}:∀ {ps:List (List It)} {S S':Sto} {up:List It},(∀ p∈ps,∀ x∈p,zy x)->ql S=true->makeL lvl ps S=.ok (up,S')->ql S'=true/\up.length=ps.length/\∀ y∈up,(∃ f:Nat,y.r=(f:Int)/\8<=f/\f<256)/\y.val=[]/\∃ p∈ps,qt y=VR p
 | [],S,S',up,_,hS,e=>by cases e;exact⟨hS,rfl,fun y hy=>by cases hy⟩
 |p :: ps,S,S',up,hp,hS,e=>by
  simp only[makeL] at e;split at e
  ·cases e
  ·rename_i f S1 e1;obtain⟨h1,h8,hf,_⟩:=KF (hp p List.mem_cons_self) hS e1;split at e
   ·cases e
   ·rename_i up1 S2 e2;cases e;obtain⟨g1,g2,g3⟩:=Gq (fun q hq=>hp q (List.mem_cons_of_mem _ hq)) h1 e2;refine⟨g1,by simp[g2],fun y hy=>?_⟩;rcases List.mem_cons.1 hy with rfl|hy
    ·exact⟨⟨f,rfl,h8,hf⟩,rfl,p,List.mem_cons_self,rfl⟩
    ·obtain⟨k1,k2,q,hq,k3⟩:=g3 y hy;exact⟨k1,k2,q,List.mem_cons_of_mem _ hq,k3⟩
theorem Xm {l:List It} (h:∀ x∈l,zy x):∀ p∈Zs l,∀ x∈p,zy x:=fun p hp x hx=>by
 unfold Zs at hp;split at hp
 ·simp only[List.mem_cons,List.not_mem_nil,or_false] at hp;rcases hp with rfl|rfl
  ·exact h x (List.mem_of_mem_take hx)
  ·exact h x (List.mem_of_mem_drop hx)
 ·simp only[List.mem_cons,List.not_mem_nil,or_false] at hp;subst hp;exact h x hx
theorem qjd {p:List It} (h:∀ x∈p,zy x):(0<=(VR p).1/\(VR p).1<256)/\(0<=(VR p).2.1/\(VR p).2.1<4294967296)/\(0<=(VR p).2.2/\(VR p).2.2<4294967296):=by
 cases p with
 |nil=>exact⟨⟨zD,zD⟩,⟨zD,zD⟩,zD,zD⟩
 |cons x r =>
  obtain⟨h1,h2,h3,_⟩:=h x List.mem_cons_self;exact⟨h1,h2,h3⟩
theorem VQ {S S':Sto} {lvl:Int} {l held up:List It} (hl:∀ x∈l,zy x) (hh:∀ x∈held,itB x.r x.val.length=true) (hS:ql S=true) (e:QQ S lvl l held=.ok (up,S')):ql S'=true/\up.length=(Zs l).length/\(∀ y∈up,zy y/\itB y.r y.val.length=true)/\∀ y∈up,8<=y.r/\y.r<256:=by
 unfold QQ at e;split at e
 ·cases e
 ·rename_i up1 S1 e1;split at e
  ·cases e
  ·rename_i t e2;cases e;obtain⟨h1,h2,h3⟩:=Gq (Xm hl) hS e1;refine⟨Uv h1 (JO (fun a ha=>(qeT hh a ha).1) (qF.1 h1).2.1 e2),h2,fun y hy=>?_,fun y hy=>?_⟩
   ·obtain⟨⟨f,k1,k8,k9⟩,k2,p,hp,k3⟩:=h3 y hy;have:=qjd (Xm hl p hp);rw[<-k3] at this;obtain⟨a1,a2,a3⟩:=this;exact⟨⟨a1,a2,a3,by rw[k1];omega,by rw[k2];simp⟩,by unfold itB;rw[k1,k2];simp;omega⟩
   ·obtain⟨⟨f,k1,k8,k9⟩,_⟩:=h3 y hy;omega
end Go.Proofs.YtmeadnlmepcmbaaGreat
