/- Texts LooseR, VolS, Roomy, Lay1, Pad, joined. -/
import Derived.Defers
import Derived.Test.YtckhnchnbeoogaaGreatV01
import Derived.Test.YtckhnchnbeoogaaGreatV14
import Derived.Test.YtckhnchnbeoogaaGreatV17
import Derived.Test.YtckhnchnbeoogaaGreatV20
import Derived.Test.YtckhnchnbeoogaaGreatV21
set_option linter.unusedSimpArgs false
set_option linter.unusedVariables false
namespace Go.Proofs.YtckhnchnbeoogaaGreat
open Go.RowKit
def Ve (t:List UInt8) (a:Nat):List UInt8:=t.set a (UInt8.ofNat (Kj t a-1))
theorem VT (t:List UInt8) (a:Nat):(Ve t a).length=t.length:=by unfold Ve;simp
theorem qdy {n:Nat} (h:0<n) (h2:n<256):IntKind.u8.wrap ((n:Int)-1)=(((UInt8.ofNat (n-1)).toNat:Nat):Int):=by
 rw[←qax]
 congr 1
 omega
theorem qcV {R:Ending→World→Prop} {a:Act} {W:World} {v:Value} (h4:a.tmps[4]?.getD undef=v) (hd:a.defers=[]) (hR:R (.returned v) W):bodyPost Tryz.prog Tryz.f84 R .ret a W:=by
 refine bodyPost_ret (v:=v) ?_ hd hR
 simp[results,Tryz.results84,go_sem,h4]
set_option maxHeartbeats 2000000 in
set_option maxRecDepth 100000 in
theorem qcy (b lo:Nat) (v1 v2 v4:Value) (g c3:Nat) (t:List UInt8) (a:Nat) (ha:a<256) (w:World)
  (hr:w.heap[b]?=some (.cells #[v1,v2,.slice (some ⟨g,0,none⟩) 256 c3,v4] 167 (0,0))) (ho:w.ownsRow lo 5 1 (.slice (some ⟨g,0,none⟩) 256 c3) 256 (t.map bv)) (hbg:b≠g) (h0:0<Kj t a) :
  Calls Tryz.prog 84 #[.pointer (some ⟨b,0,none⟩),.int .i64 (a:Int)] w fun e W=>e=.returned (.int .i64 0)∧Below lo w W∧(∀ k,k≠g→W.heap[k]?=w.heap[k]?)∧W.heap.size=w.heap.size∧W.ownsRow lo 5 1 (.slice (some ⟨g,0,none⟩) 256 c3) 256 ((Ve t a).map bv):=by
 obtain⟨hk,hf,hlg,hzg⟩:=vW ho
 have hka:=hk a ha
 have hfa:=hf a
 have kr:=qa hr
 have hset:=zH (Ti ho ha (UInt8.ofNat (Kj t a-1)))
 have hc:Kj t a=(t[a]?.getD 0).toNat:=rfl
 have hc2:=(t[a]?.getD 0).toNat_lt
 rw[←hc] at hka hc2
 have hT:Hid (Ve t a=t.set a (UInt8.ofNat (Kj t a-1))):=rfl
 have hwv:=qdy h0 hc2
 generalize Kj t a=nv at *
 have hz1:((nv:Int) == 0)=false:=by rw[beq_eq_false_iff_ne];omega
 have hz2:decide (nv=0)=false:=decide_eq_false (by omega)
 clear hk hf hc hc2 ho
 go_enter Tryz.func84,Tryz.ntmps84
 go_wp2_with fail
 refine qcV rfl rfl ⟨rfl,Below.setCell (Below.refl _ _) (p:=⟨g,a,none⟩) hlg _,fun k hk=>Below.heap_setCell _ _ _ _ hk,by simp,?_⟩
 rw[hT.out]
 exact hset.out
theorem qen {R:Ending→World→Prop} {a:Act} {W:World} {b:Nat} {x0 x1 x2 x3 v:Value} (h4:a.tmps[4]?.getD undef=.pointer (some ⟨b,0,none⟩)) (h5:a.tmps[5]?.getD undef=v) (hd:a.defers=[])
  (hrow:W.heap[b]?=some (.cells #[x0,x1,x2,x3] 28 (0,0))) (hR:R (.returned (.tuple #[.agg #[x0,x1,x2,x3],v])) W):bodyPost Tryz.prog Tryz.f82 R .ret a W:=by
 refine bodyPost_ret (v:=.tuple #[.agg #[x0,x1,x2,x3],v]) ?_ hd hR
 have k:=qa hrow
 simp[results,Tryz.results82,go_sem,h4,h5,k]
theorem TR {R:Ending→World→Prop} {a:Act} {W:World} {b:Nat} {x0 x1 x2 x3 v:Value} (h4:a.tmps[4]?.getD undef=.pointer (some ⟨b,0,none⟩)) (h5:a.tmps[5]?.getD undef=v) (hd:a.defers=[])
  (hrow:W.heap[b]?=some (.cells #[x0,x1,x2,x3] 28 (0,0))) (hR:R (.returned (.tuple #[.agg #[x0,x1,x2,x3],v])) W):bodyPost Tryz.prog Tryz.f45 R .ret a W:=by
 refine bodyPost_ret (v:=.tuple #[.agg #[x0,x1,x2,x3],v]) ?_ hd hR
 have k:=qa hrow
 simp[results,Tryz.results45,go_sem,h4,h5,k]
theorem jE.set4 {lo lo' b:Nat} {S:Sto} {u:Value} {W:World} (h:jE lo S u W) (hl:lo'≤lo) (hb:b<lo) (x0 x1 x2 x3:Value):jE lo' S u ((((W.setCell ⟨b,0,none⟩ x0).setCell ⟨b,1,none⟩ x1).setCell ⟨b,2,none⟩ x2).setCell ⟨b,3,none⟩ x3):=
 h.keep hl (by simp) fun b' hb' _=>(Below.heap_setCell _ _ _ _ (by simp;omega)).trans ((Below.heap_setCell _ _ _ _ (by simp;omega)).trans ((Below.heap_setCell _ _ _ _ (by simp;omega)).trans (Below.heap_setCell _ _ _ _ (by simp;omega))))
set_option maxRecDepth 100000 in
theorem qbM (bat b lo:Nat) (v1 v2 v4:Value) (g c3:Nat) (t:List UInt8) (a:Nat) (ha:a<256) (w:World) (hat:w.heap[bat]?=some (.cells #[.int .i64 (a:Int)] 3 (0,0)))
  (hr:w.heap[b]?=some (.cells #[v1,v2,.slice (some ⟨g,0,none⟩) 256 c3,v4] 167 (0,0))) (ho:w.ownsRow lo 5 1 (.slice (some ⟨g,0,none⟩) 256 c3) 256 (t.map bv)) (hbg:b≠g) (h0:0<Kj t a) :
  Calls Tryz.prog 83 #[.pointer (some ⟨b,0,none⟩),.pointer (some ⟨bat,0,none⟩)] w fun e W=>e=.returned (.int .i64 0)∧Below lo w W∧(∀ k,k≠g→W.heap[k]?=w.heap[k]?)∧W.heap.size=w.heap.size∧W.ownsRow lo 5 1 (.slice (some ⟨g,0,none⟩) 256 c3) 256 ((Ve t a).map bv):=by
 have HB:=zH (qcy b lo v1 v2 v4 g c3 t a ha w hr ho hbg h0)
 have ka:=qa hat
 clear hr ho h0
 go_enter Tryz.func83,Tryz.ntmps83
 go_wp2_with fail
 refine HB.out.mono ?_
 clear HB
 rintro e W ⟨rfl,h1,h2,h3,h4⟩
 replace h1:=zH h1
 replace h2:=zH h2
 replace h3:=zH h3
 replace h4:=zH h4
 go_wp2_with fail
 go_ret
 exact⟨rfl,h1.out,h2.out,h3.out,h4.out⟩
set_option maxHeartbeats 4000000 in
set_option maxRecDepth 100000 in
theorem qef (A1:Option Addr) (n1 c1:Nat) (A2:Option Addr) (n2 c2:Nat) (A3:Option Addr) (n3 c3:Nat) (A4:Option Addr) (n4 c4:Nat) (S:Sto) (hS:qB S=true) (a:Nat) (ha:a<256) (h0:0<Kj S.now a) (bat:Nat) (w:World) (hat:w.heap[bat]?=some (.cells #[.int .i64 (a:Int)] 3 (0,0))) (h:qH w w.heap.size (.slice A1 n1 c1) (.slice A2 n2 c2) (.slice A3 n3 c3) (.slice A4 n4 c4) S) :
  Calls Tryz.prog 82 #[Qy A1 n1 c1 A2 n2 c2 A3 n3 c3 A4 n4 c4,.func (.func 83) #[] #[.pointer (some ⟨bat,0,none⟩)]] w (zE (fun u W=>∃ v,u=.tuple #[v,.int .i64 0]∧jE w.heap.size (zL S (Ve S.now a)) v W) w):=by
 obtain⟨hl1,hl2,hl3,hl4⟩:=qQ hS
 have HON:=zH (fun W (hx:Ext w W)=>on_own A1 n1 c1 A2 n2 c2 A3 n3 c3 A4 n4 c4 S (by omega) W (h.ext hx))
 have hn3:n3=256:=by have:=h.now.at_.1;omega
 have hst':qH w w.heap.size (.slice A1 n1 c1) (.slice A2 n2 n2) (.slice A3 n3 c3) (.slice A4 n4 c4) S:=⟨h.bs,h.ws.clip,h.now,h.last⟩
 have hsh:=zH (zK hS)
 have hst:=zH hst'
 subst hn3
 clear h hst' hl1 hl2 hl3 hl4
 replace hS:=zH hS
 go_enter Tryz.func82,Tryz.ntmps82
 go_wp2_with fail
 generalize hw1:(World.alloc (World.alloc w _) _)=w1
 have x1:Ext w w1:=by rw[←hw1];exact(Ext.alloc _ _).trans (Ext.alloc _ _)
 have ro1:w1.heap[w.heap.size+1]?=some (.cells #[.slice none 0 0,.slice none 0 0,.slice none 0 0,.slice none 0 0] 28 (0,0)):=by rw[←hw1];exact World.alloc_heap_at _ _ _ (by simp)
 clear hw1
 refine(HON.out w1 x1).mono ?_
 clear HON
 rintro e w2 ⟨u,rfl,⟨bb,A3',c3',rfl,hbl,hrb,hown⟩,hB⟩
 have x2:Ext w w2:=x1.trans hB
 have ro2:=qc ro1 hB
 have hs1:w.heap.size+1<w1.heap.size:=(zG.1 ro1).1
 have hAu:∃ g,A3'=some ⟨g,0,none⟩:=by
  rcases hown.2 with ⟨e,h0⟩|⟨g,cap,cur,e,_⟩
  ·cases e
  ·cases e
   exact⟨g,rfl⟩
 obtain⟨g,rfl⟩:=hAu
 obtain⟨hk,hf,hlg,hgz⟩:=vW hown
 have hbg:bb≠g:=by
  rintro rfl
  rcases hown.2 with ⟨e,h0⟩|⟨g',cap,cur,e,hg',hrg,hc1,hc2,hc3,hc4⟩
  ·cases e
  ·cases e
   rw[hrb] at hrg
   simp only[Option.some.injEq,Obj.cells.injEq] at hrg
   exact absurd hrg.2.1 (by decide)
 have HL:=qbM bat bb w1.heap.size (.slice A1 n1 c1) (.slice A2 n2 n2) (.slice A4 n4 c4) g c3' S.now a ha w2 (qc hat x2) hrb hown hbg h0
 clear hB ro1 x1 hk hf
 replace hown:=zH hown
 replace hrb:=zH hrb
 go_wp2_with fail
 refine HL.mono ?_
 clear HL
 rintro e w3 ⟨rfl,hB3,hk3,hs3,hown3⟩
 have ro3:=(hk3 (w.heap.size+1) (by omega)).trans ro2
 have hrb3:=(hk3 bb hbg).trans hrb.out
 have x3:Ext w w3:=Below.trans x2 (Below.mono hB3 (by omega))
 have hst3:=(hst.out.below x3).more x3.size
 have HST:=qca bb A1 n1 c1 A2 n2 n2 (some ⟨g,0,none⟩) 256 c3' A4 n4 c4 (zL S (Ve S.now a)) ⟨hsh.out.bs,hsh.out.ws,hsh.out.be,hsh.out.we,by rw[VT];exact hsh.out.now,hsh.out.last⟩ w3 hrb3 ⟨hst3.bs,hst3.ws,Bys.of_own hown3,hst3.last⟩
 have zo3:w.heap.size+1<w3.heap.size:=(zG.1 ro3).1
 clear hB3 hk3 hown3 hst3 ro2 x2 hrb3
 go_wp2_with fail
 refine HST.mono ?_
 clear HST
 rintro e w4 ⟨u,rfl,hu,hB⟩
 have x4:Ext w w4:=x3.trans hB
 have ro4:=qc ro3 hB
 have ko4:=qa ro4
 have fo4:=qd ro4
 have hK:=fun x0 x1 x2 x3'=>hu.set4 (b:=w.heap.size+1) (show w.heap.size≤w3.heap.size by omega) zo3 x0 x1 x2 x3'
 obtain⟨BB,WW,gg,B3,d3,B4,d4,rfl,hD,hN,hL⟩:=hu
 replace hK:=zH hK
 clear hB hD hN hL ro3 x3
 go_wp2_with fail
 exact qen (b:=w.heap.size+1) rfl rfl rfl (TG ro4 _ _ _ _) ⟨_,rfl,⟨_,rfl,hK.out _ _ _ _⟩,ZO x4 (by omega) _ _ _ _⟩
set_option maxHeartbeats 4000000 in
set_option maxRecDepth 100000 in
theorem qcu (A1:Option Addr) (n1 c1:Nat) (A2:Option Addr) (n2 c2:Nat) (A3:Option Addr) (n3 c3:Nat) (A4:Option Addr) (n4 c4:Nat) (S:Sto) (a:Int) (w:World) (h:qH w w.heap.size (.slice A1 n1 c1) (.slice A2 n2 c2) (.slice A3 n3 c3) (.slice A4 n4 c4) S) :
  Calls Tryz.prog 45 #[Qy A1 n1 c1 A2 n2 c2 A3 n3 c3 A4 n4 c4,.int .i64 a] w (zE (StoQ (Jj S a) (zL S (Ve S.now a.toNat)) w.heap.size) w):=by
 have HA:=zH (fun W (hx:Ext w W)=>qbK A1 n1 c1 A2 n2 c2 A3 n3 c3 A4 n4 c4 S a W (h.ext hx))
 replace h:=zH h
 go_enter Tryz.func45,Tryz.ntmps45
 go_wp2_with fail
 generalize hw1:(World.alloc (World.alloc (World.alloc w _) _) _)=w1
 have x1:Ext w w1:=by rw[←hw1];exact((Ext.alloc _ _).trans (Ext.alloc _ _)).trans (Ext.alloc _ _)
 have rs1:w1.heap[w.heap.size]?=some (.cells #[.slice A1 n1 c1,.slice A2 n2 c2,.slice A3 n3 c3,.slice A4 n4 c4] 28 (0,0)):=by rw[←hw1];exact(Below.heap_alloc _ _ _ (by simp;try omega)).trans ((Below.heap_alloc _ _ _ (by simp)).trans (World.alloc_heap_at _ _ _ rfl))
 have ra1:w1.heap[w.heap.size+1]?=some (.cells #[.int .i64 a] 3 (0,0)):=by rw[←hw1];exact(Below.heap_alloc _ _ _ (by simp)).trans (World.alloc_heap_at _ _ _ (by simp))
 have ro1:w1.heap[w.heap.size+2]?=some (.cells #[.slice none 0 0,.slice none 0 0,.slice none 0 0,.slice none 0 0] 28 (0,0)):=by rw[←hw1];exact World.alloc_heap_at _ _ _ (by simp)
 have kk1:=qa ra1
 have ks1:=qa rs1
 clear hw1
 go_wp2_with fail
 refine(HA.out w1 x1).mono ?_
 clear HA
 rintro e w2 ⟨rfl,hB⟩
 have x2:Ext w w2:=x1.trans hB
 have rs2:=qc rs1 hB
 have ra2:=qc ra1 hB
 have ro2:=qc ro1 hB
 clear hB rs1 ro1 x1 ks1 kk1 ra1
 by_cases h0:Jj S a=0
 ·obtain⟨hS,m,rfl,hm8,hm256,hnz⟩:=Th h0
  have HD:=qef A1 n1 c1 A2 n2 c2 A3 n3 c3 A4 n4 c4 S hS m hm256 (Nat.pos_of_ne_zero hnz) (w.heap.size+1) w2 ra2 (h.out.ext x2)
  have ks2:=qa rs2
  have h0':=zH h0
  rw[h0]
  replace hS:=zH hS
  clear hnz h0
  go_wp2_with fail
  refine HD.mono ?_
  clear HD
  rintro e w3 ⟨u,rfl,⟨v,rfl,hT⟩,hB⟩
  have x3:Ext w w3:=x2.trans hB
  have ro3:=qc ro2 hB
  have zo2:w.heap.size+2<w2.heap.size:=(zG.1 ro2).1
  have hK:=fun x0 x1 x2 x3'=>hT.set4 (b:=w.heap.size+2) (show w.heap.size≤w2.heap.size by omega) zo2 x0 x1 x2 x3'
  obtain⟨BB,WW,gg,B3,d3,B4,d4,rfl,hD,hN,hL⟩:=hT
  have ko3:=qa ro3
  have fo3:=qd ro3
  replace hK:=zH hK
  clear hB hD hN hL ks2 rs2 ra2 ro2 x2
  go_wp2_with fail
  exact TR (b:=w.heap.size+2) rfl rfl rfl (TG ro3 _ _ _ _) ⟨_,rfl,.inr ⟨h0'.out,_,rfl,hK.out _ _ _ _⟩,ZO x3 (by omega) _ _ _ _⟩
 ·have hq:=zH h0
  have hE:Hid (Jj S a=Jj S a):=rfl
  obtain⟨er,her⟩:∃ er,Jj S a=er:=⟨_,rfl⟩
  rw[her] at h0 ⊢
  have he:(er != 0)=true:=by rw[bne_iff_ne];exact h0
  have ko2:=qa ro2
  have fo2:=qd ro2
  replace her:=zH her
  clear h0
  go_wp2_with fail
  exact TR (b:=w.heap.size+2) rfl rfl rfl (TG ro2 _ _ _ _) ⟨_,rfl,.inl ⟨hq.out,by rw[her.out];rfl⟩,ZO x2 (by omega) _ _ _ _⟩
abbrev ku:Value:=.agg (qC (.slice none 0 0) (.slice none 0 0) (.slice none 0 0) (.slice none 0 0) 0 0 0 (.slice none 0 0))
def NewPl (lo:Nat) (S:Sto) (gen root next:Int) (dead:List Int) (u:Value) (W:World):Prop:=∃ A1 c1 A2 c2 A3 c3 A4 c4 A5 c5,u=.agg (qC (.slice A1 S.bs.length c1) (.slice A2 S.ws.length c2) (.slice A3 S.now.length c3) (.slice A4 S.last.length c4) gen root next (.slice A5 dead.length c5)) ∧
 ∀ C:World,UK lo W C→qH C W.heap.size (.slice A1 S.bs.length c1) (.slice A2 S.ws.length c2) (.slice A3 S.now.length c3) (.slice A4 S.last.length c4) S∧QF C W.heap.size (.slice A5 dead.length c5) dead
theorem Rd.pos {w C:World} {B size lo n c:Nat} {A:Option Addr} {xs:List Value} (h:Rd w B size A n xs) (hf:QD lo (.slice A n c)) (hk:∀ (q:Addr) (v:Value),lo≤q.block→q.block<B→w.cell? q=some v→C.cell? q=some v):Rd C B size A n xs:=
 ⟨h.1,fun hn=>by
  obtain⟨b,off,rfl,hb,hc⟩:=h.2 hn
  exact⟨b,off,rfl,hb,fun j u hu=>hk _ _ (hf ⟨b,off,none⟩ n c rfl) hb (hc j u hu)⟩⟩
theorem QF.pos {w C:World} {B lo:Nat} {v:Value} {l:List Int} (h:QF w B v l) (hf:QD lo v) (hk:∀ (q:Addr) (v:Value),lo≤q.block→q.block<B→w.cell? q=some v→C.cell? q=some v):QF C B v l:=by
 obtain⟨A,c,e,hc,hm,hr⟩:=h
 subst e
 exact⟨A,c,rfl,hc,hm,Rd.pos hr hf hk⟩
theorem jE.newSto {lo:Nat} {S:Sto} {u:Value} {W:World} (h:jE lo S u W) (hS:kK S):Tq lo S u W:=by
 obtain⟨BB,WW,g,A3,c3,A4,c4,e,h1,h2,h3⟩:=h
 refine⟨_,_,_,_,A3,c3,A4,c4,e,UT (W:=thaw W) (Φ:=fun C=>qH C W.heap.size _ _ _ _ S) (fun A C hAC hA=>hA.some_ hAC) fun W2 hk=>?_⟩
 obtain⟨k1,k2⟩:=h1.readsT hS.bs hS.ws hS.be hS.we W2 hk
 exact⟨k1,k2,(Bys.of_ownT h2).keepN (QD.of_own h2) hk,(Bys.of_ownT h3).keepN (QD.of_own h3) hk⟩
theorem QF.of_ownT {w:World} {base:Nat} {v:Value} {l:List Int} (h:w.ownsRow base 3 1 v l.length (Ki l)):QF (thaw w) w.heap.size v l:=by
 obtain⟨A,c,e,hc,hm,hr⟩:=QF.of_own h
 refine⟨A,c,e,hc,hm,hr.1,fun hn=>?_⟩
 obtain⟨b,off,e2,hb,hcs⟩:=hr.2 hn
 obtain⟨cs,t,hrow⟩:=Thaw.of_own h ⟨b,off,none⟩ l.length c (by rw[e,e2]) hn
 exact⟨b,off,e2,hb,fun j u hu=>(jh hrow _).trans (hcs j u hu)⟩
def outN (lo n:Nat) (l:List Int):qT:=⟨Option Addr×Nat,fun p=>.slice p.1 n p.2,fun p W=>QF (thaw W) W.heap.size (.slice p.1 n p.2) l∧QD lo (.slice p.1 n p.2)⟩
theorem Jn (lo n:Nat) (l:List Int) (A:Option Addr) (c:Nat):(outN lo n l).f (A,c)=.slice A n c:=rfl
theorem VM (lo n:Nat) (l:List Int):∀ p,QI ((outN lo n l).φ p):=fun p W W' he h=>⟨by
 have h1:=h.1
 rw[←vS W] at h1
 have h2:=h1.ext_ (Ext.thaw he)
 rw[vS] at h2
 exact h2,h.2⟩
def PoolR (er:Int) (S:Sto) (gen root next:Int) (dead:List Int) (lo:Nat) (u:Value) (W:World):Prop:=(er≠0∧u=.tuple #[ku,.int .i64 er])∨(er=0∧∃ v,u=.tuple #[v,.int .i64 0]∧NewPl lo S gen root next dead v W)
def qaH (S:Sto) (gen root next:Int) (dead:List Int) (er:(Nat→Nat)→(Nat→Nat)→Int) (S':Sto) (w:World) (e:Ending) (w':World):Prop:=Below w.heap.size w w' ∧
 ((e=.returned (.tuple #[ku,.int .i64 8])∧∀ vs,QM S root next dead vs→∃ refs nodes,Qj S (zl root dead vs) refs nodes∧¬QY S refs) ∨
  ∃ vs refs nodes u,QM S root next dead vs∧Qj S (zl root dead vs) refs nodes∧QY S refs∧e=.returned u∧PoolR (er refs nodes) S' gen root next dead w.heap.size u w')
def Tj (S:Sto) (a:Int) (refs nodes:Nat→Nat):Int:=if Qk S refs nodes a false≠0 then Qk S refs nodes a false else Jq S a
def Tg (S:Sto) (a:Int) (refs nodes:Nat→Nat):Int:=if Qk S refs nodes a true≠0 then Qk S refs nodes a true else Jj S a
theorem KD {S:Sto} {a:Int} (h:Jq S a=0):Jj S a=0:=by
 unfold Jq at h
 split at h
 ·rename_i h1;exact absurd h h1
 ·rename_i h1;simpa using h1
theorem Gw {S:Sto} {t:List UInt8} (h:qB S=true) (ht:t.length=S.now.length):kK (zL S t):=by
 have hs:=zK h
 exact⟨hs.bs,hs.ws,hs.be,hs.we,by rw[ht];exact hs.now,hs.last⟩
theorem Vn {R:Ending→World→Prop} {a:Act} {W:World} {b:Nat} {x0 x1 x2 x3 x4 x5 x6 x7 v:Value} (h4:a.tmps[4]?.getD undef=.pointer (some ⟨b,0,none⟩)) (h5:a.tmps[5]?.getD undef=v) (hd:a.defers=[])
  (hrow:W.heap[b]?=some (.cells #[x0,x1,x2,x3,x4,x5,x6,x7] 32 (0,0))) (hR:R (.returned (.tuple #[.agg #[x0,x1,x2,x3,x4,x5,x6,x7],v])) W):bodyPost Tryz.prog Tryz.f16 R .ret a W:=by
 refine bodyPost_ret (v:=.tuple #[.agg #[x0,x1,x2,x3,x4,x5,x6,x7],v]) ?_ hd hR
 have k:=qa hrow
 simp[results,Tryz.results16,go_sem,h4,h5,k]
set_option maxHeartbeats 8000000 in
set_option maxRecDepth 100000 in
theorem qch (A1:Option Addr) (n1 c1:Nat) (A2:Option Addr) (n2 c2:Nat) (A3:Option Addr) (n3 c3:Nat) (A4:Option Addr) (n4 c4:Nat) (gen root next:Int) (A5:Option Addr) (c5:Nat) (S:Sto) (dead:List Int) (a:Int) (w:World)
  (h:qH w w.heap.size (.slice A1 n1 c1) (.slice A2 n2 c2) (.slice A3 n3 c3) (.slice A4 n4 c4) S) (hd:QF w w.heap.size (.slice A5 dead.length c5) dead) :
  Calls Tryz.prog 16 #[.agg (qC (.slice A1 n1 c1) (.slice A2 n2 c2) (.slice A3 n3 c3) (.slice A4 n4 c4) gen root next (.slice A5 dead.length c5)),.int .i64 a] w (qaH S gen root next dead (Tj S a) (zL S (Zb S.now a.toNat 1)) w):=by
 have HD:=zH (fun W (hx:Ext w W)=>Ug A1 n1 c1 A2 n2 c2 A3 n3 c3 A4 n4 c4 gen root next A5 c5 S dead a false W (h.ext hx) (hd.ext_ hx))
 have HS:=zH (fun W (hx:Ext w W)=>qdb A1 n1 c1 A2 n2 c2 A3 n3 c3 A4 n4 c4 S a W (h.ext hx))
 replace h:=zH h
 replace hd:=zH hd
 go_enter Tryz.func16,Tryz.ntmps16
 go_wp2_with fail
 generalize hw1:(World.alloc (World.alloc _ _) _)=w1
 have x1:Ext w w1:=by rw[←hw1];exact(Ext.alloc _ _).trans (Ext.alloc _ _)
 have rp1:w1.heap[w.heap.size]?=some (.cells (qC (.slice A1 n1 c1) (.slice A2 n2 c2) (.slice A3 n3 c3) (.slice A4 n4 c4) gen root next (.slice A5 dead.length c5)) 32 (0,0)):=by rw[←hw1];exact(Below.heap_alloc _ _ _ (by simp)).trans (World.alloc_heap_at _ _ _ rfl)
 have ro1:w1.heap[w.heap.size+1]?=some (.cells (qC (.slice none 0 0) (.slice none 0 0) (.slice none 0 0) (.slice none 0 0) 0 0 0 (.slice none 0 0)) 32 (0,0)):=by rw[←hw1];exact World.alloc_heap_at _ _ _ (by simp)
 clear hw1
 refine(HD.out w1 x1).mono ?_
 clear HD
 rintro e w2 ⟨hB,hQ⟩
 have x2:Ext w w2:=Ext.trans x1 hB
 have rp2:=qc rp1 hB
 have ro2:=qc ro1 hB
 clear hB rp1 ro1 x1
 have kp2:=qa rp2
 have ko2:=qa ro2
 have fo2:=qd ro2
 rcases hQ with ⟨rfl,hno⟩|⟨vs,refs,nodes,hpool,hcnt,hen,rfl⟩
 ·replace hno:=zH hno
  go_wp2_with fail
  exact Vn (b:=w.heap.size+1) rfl rfl rfl (jM ro2 _ _ _ _ _ _ _ _) ⟨zJ x2 (by omega) _ _ _ _ _ _ _ _,.inl ⟨rfl,hno.out⟩⟩
 ·replace hpool:=zH hpool
  replace hcnt:=zH hcnt
  replace hen:=zH hen
  have hE0:=zH (show Tj S a refs nodes=if Qk S refs nodes a false≠0 then Qk S refs nodes a false else Jq S a from rfl)
  by_cases h0:Qk S refs nodes a false=0
  ·rw[h0]
   replace h0:=zH h0
   go_wp2_with fail
   refine(HS.out w2 x2).mono ?_
   clear HS
   rintro e w3 ⟨u,rfl,hu,hB⟩
   have x3:Ext w w3:=x2.trans hB
   have z23':=hB.size
   have rp3:=qc rp2 hB
   have ro3:=qc ro2 hB
   have kp3:=qa rp3
   have ko3:=qa ro3
   have ro2':=ro2
   have fo3:=qd ro3
   clear rp2 ro2 kp2 ko2 fo2
   rcases hu with ⟨h1,rfl⟩|⟨h1,v,rfl,hv⟩
   ·generalize Jq S a=er at *
    have he:(er != 0)=true:=by rw[bne_iff_ne];exact h1
    have hq:=zH h1
    have zo3:w.heap.size+1<w3.heap.size:=(zG.1 ro3).1
    clear h1
    go_wp2_with fail
    exact Vn (b:=w.heap.size+1) rfl rfl rfl (qc (jM ro3 _ _ _ _ _ _ _ _) (Ext.alloc _ _)) ⟨Below.alloc (zJ x3 (by omega) _ _ _ _ _ _ _ _) (by have:=x3.size;simpa using this) _,.inr ⟨vs,refs,nodes,_,hpool.out,hcnt.out,hen.out,rfl,.inl ⟨by rw[hE0.out,if_neg (by simpa using h0.out)];exact hq.out,by rw[hE0.out,if_neg (by simpa using h0.out)];rfl⟩⟩⟩
   ·have hsh:kK (zL S (Zb S.now a.toNat 1)):=Gw (Th (a:=a) (by have:=h1;first|exact KD this|exact this)).1 (by first|exact JS _ _ _|exact VT _ _)
    have hns:=hv.newSto hsh
    obtain⟨B1,d1,B2,d2,B3,d3,B4,d4,rfl,hns2⟩:=hns
    have hns:∀ C:World,UK w2.heap.size w3 C→qH C w3.heap.size (.slice B1 S.bs.length d1) (.slice B2 S.ws.length d2) (.slice B3 (Zb S.now a.toNat 1).length d3) (.slice B4 S.last.length d4) (zL S (Zb S.now a.toNat 1)):=hns2
    replace hns:=zH hns
    clear hv hns2
    have z12:=x2.size
    have zo:w.heap.size+1<w2.heap.size:=(zG.1 ro2').1
    have hns0:=hns.out
    clear hns
    go_upto_region 7 with fail
    obtain⟨nl,hnl⟩:∃ nl,(Zb S.now a.toNat 1).length=nl:=⟨_,rfl⟩
    rw[hnl]
    rw[hnl] at hns0
    replace hnl:=zH hnl
    replace hns0:=zH hns0
    have x4:Ext w3 (w3.alloc (.cells #[.slice B1 S.bs.length d1,.slice B2 S.ws.length d2,.slice B3 nl d3,.slice B4 S.last.length d4] 28)):=Ext.alloc _ _
    have r4:(w3.alloc (.cells #[.slice B1 S.bs.length d1,.slice B2 S.ws.length d2,.slice B3 nl d3,.slice B4 S.last.length d4] 28)).heap[w3.heap.size]?=_:=World.alloc_heap_at _ _ _ rfl
    generalize hw4:w3.alloc _=w4 at *
    clear hw4
    have rp4:=qc rp3 x4
    have ro4:=qc ro3 x4
    have gP:∀ W,Ext w4 W→∀ i,W.cell? ⟨w.heap.size,i,none⟩=(qC (.slice A1 n1 c1) (.slice A2 n2 c2) (.slice A3 n3 c3) (.slice A4 n4 c4) gen root next (.slice A5 dead.length c5))[i]?:=fun W h=>qa (qc rp4 h)
    have gS:∀ W,Ext w4 W→∀ i,W.cell? ⟨w3.heap.size,i,none⟩=#[.slice B1 S.bs.length d1,.slice B2 S.ws.length d2,.slice B3 nl d3,.slice B4 S.last.length d4][i]?:=fun W h=>qa (qc r4 h)
    have HI:=zH (fun W (hW:Ext w4 W)=>KZ (.slice A5 dead.length c5) dead (by have:=hpool.out.few;omega) W (hd.out.ext_ ((x3.trans x4).trans hW)))
    clear kp3 ko3 fo3 rp3 ro3
    refine qG (qE [(3,outN w4.heap.size dead.length dead)]) 5 (by kernel_rfl) (by kernel_rfl) (by kernel_rfl) (by decide) (by kernel_rfl) (by kernel_rfl) ?st ?walk
    case st=>exact qJ (by simp only[List.forall_mem_cons];exact⟨VM _ _ _,fun _ h=>by cases h⟩)
    case walk =>
     intro K hK
     dsimp only[List.take]
     repeat ((first|(refine ql ?_ (by rfl) (by rfl) (fun W hW _=>⟨W,?_,Ext.refl W⟩) ?_;rotate_left;(first|(go_simp;with_reducible rfl)|(go_simp;done)))|(refine qt (by rfl) ?_));try simp only[Act.put,qi,qe,qb,qg,Jn,zA,zB,zC])
     refine qZ (outN w4.heap.size dead.length dead) (by rfl) (by rfl) (fun W hW _=>?_) (fun p=>?_)
     ·refine Qb ?_ ((HI.out W hW).mono fun e w' h=>?_)
      ·go_simp
      obtain⟨u,rfl,hu,hB⟩:=h
      obtain⟨A',c',rfl,_,_⟩:=qw hu
      exact⟨(A',c'),rfl,⟨QF.of_ownT hu,(QD.of_own hu).mono hW.size⟩,hB⟩
     obtain⟨B5,d5⟩:=p
     simp only[Act.put,qi,qe,qb,qg,Jn,zA,zB,zC]
     repeat ((first|(refine ql ?_ (by rfl) (by rfl) (fun W hW _=>⟨W,?_,Ext.refl W⟩) ?_;rotate_left;(first|(go_simp;with_reducible rfl)|(go_simp;done)))|(refine qt (by rfl) ?_));try simp only[Act.put,qi,qe,qb,qg,Jn,zA,zB,zC])
     refine qP (hK _ _ fun W hW hF=>?_)
     have hI:QF (thaw W) W.heap.size (.slice B5 dead.length d5) dead∧QD w4.heap.size (.slice B5 dead.length d5):=(hF 3).1
     clear hF hK gP gS
     dsimp only[List.drop]
     have zr:=rp4
     have rp5:=qc rp4 hW
     have ro5:=qc ro4 hW
     have kp5:=qa rp5
     have fp5:=qd rp5
     have ko5:=qa ro5
     have fo5:=qd ro5
     have zp5:w.heap.size<W.heap.size:=(zG.1 rp5).1
     have zo5:w.heap.size+1<W.heap.size:=(zG.1 ro5).1
     replace hI:=zH hI
     clear HI rp4 ro4 r4
     go_wp2_with fail
     generalize hWp:(((((W.setCell ⟨w.heap.size,0,none⟩ _).setCell ⟨w.heap.size,1,none⟩ _).setCell ⟨w.heap.size,2,none⟩ _).setCell ⟨w.heap.size,3,none⟩ _).setCell ⟨w.heap.size,7,none⟩ _)=Wp
     have hop:∀ k,k≠w.heap.size→Wp.heap[k]?=W.heap[k]?:=fun k hk=>by rw[←hWp,Below.heap_setCell _ _ _ _ hk,Below.heap_setCell _ _ _ _ hk,Below.heap_setCell _ _ _ _ hk,Below.heap_setCell _ _ _ _ hk,Below.heap_setCell _ _ _ _ hk]
     have zp:Wp.heap.size=W.heap.size:=by rw[←hWp];simp
     have xp:Below w.heap.size w Wp:=by rw[←hWp];exact Below.setCell (ZO ((x3.trans x4).trans hW) (b:=w.heap.size) (Nat.le_refl _) _ _ _ _) (p:=⟨w.heap.size,7,none⟩) (Nat.le_refl _) _
     clear hWp
     have rop:Wp.heap[w.heap.size+1]?=_:=(hop _ (by omega)).trans ro5
     have z34:=x4.size
     have z4W:=Below.size hW
     have z23:w2.heap.size≤w3.heap.size:=z23'
     refine Vn (b:=w.heap.size+1) rfl rfl rfl (jM rop _ _ _ _ _ _ _ _) ⟨zJ xp (by omega) _ _ _ _ _ _ _ _,.inr ⟨vs,refs,nodes,_,hpool.out,hcnt.out,hen.out,rfl,.inr ⟨by rw[hE0.out,if_neg (by simpa using h0.out)];exact h1,_,rfl,B1,d1,B2,d2,B3,d3,B4,d4,B5,d5,by rw[←hnl.out],fun C hC=>?_⟩⟩⟩
     have hsz:((((((((Wp.setCell ⟨w.heap.size+1,0,none⟩ (.slice B1 S.bs.length d1)).setCell ⟨w.heap.size+1,1,none⟩ (.slice B2 S.ws.length d2)).setCell ⟨w.heap.size+1,2,none⟩ (.slice B3 nl d3)).setCell ⟨w.heap.size+1,3,none⟩ (.slice B4 S.last.length d4)).setCell ⟨w.heap.size+1,4,none⟩ (.int .u32 gen)).setCell ⟨w.heap.size+1,5,none⟩ (.int .i64 root)).setCell ⟨w.heap.size+1,6,none⟩ (.int .u32 next)).setCell ⟨w.heap.size+1,7,none⟩ (.slice B5 dead.length d5)).heap.size=W.heap.size:=by simp[zp]
     rw[hsz]
     have hsame:=fun (k:Nat) (hk:w.heap.size+1<k)=>(Jl (w:=Wp) (show k≠w.heap.size+1 by omega) (.slice B1 S.bs.length d1) (.slice B2 S.ws.length d2) (.slice B3 nl d3) (.slice B4 S.last.length d4) (.int .u32 gen) (.int .i64 root) (.int .u32 next) (.slice B5 dead.length d5)).trans (hop k (by omega))
     have q1:=hns0.out C fun q v h1 h2 h3=>hC q v (by omega) (by rw[hsz];omega) ((Qi ((hsame q.block (by omega)).trans ((Below.block hW _ (by omega)).trans (x4.block _ (by omega))))).trans h3)
     have q2:=hI.out.1.pos hI.out.2 (C:=C) fun q v h1 h2 h3=>hC q v (by omega) (by rw[hsz];omega) ((Qi (hsame q.block (by omega))).trans h3)
     rw[←hnl.out] at q1
     exact⟨q1.more (by omega),q2⟩
  ·generalize Qk S refs nodes a false=er at *
   have he:(er != 0)=true:=by rw[bne_iff_ne];exact h0
   have hq:=zH h0
   clear h0
   go_wp2_with fail
   exact Vn (b:=w.heap.size+1) rfl rfl rfl (jM ro2 _ _ _ _ _ _ _ _) ⟨zJ x2 (by omega) _ _ _ _ _ _ _ _,.inr ⟨vs,refs,nodes,_,hpool.out,hcnt.out,hen.out,rfl,.inl ⟨by rw[hE0.out,if_pos hq.out];exact hq.out,by rw[hE0.out,if_pos hq.out];rfl⟩⟩⟩
theorem Vr {R:Ending→World→Prop} {a:Act} {W:World} {b:Nat} {x0 x1 x2 x3 x4 x5 x6 x7 v:Value} (h4:a.tmps[4]?.getD undef=.pointer (some ⟨b,0,none⟩)) (h5:a.tmps[5]?.getD undef=v) (hd:a.defers=[])
  (hrow:W.heap[b]?=some (.cells #[x0,x1,x2,x3,x4,x5,x6,x7] 32 (0,0))) (hR:R (.returned (.tuple #[.agg #[x0,x1,x2,x3,x4,x5,x6,x7],v])) W):bodyPost Tryz.prog Tryz.f18 R .ret a W:=by
 refine bodyPost_ret (v:=.tuple #[.agg #[x0,x1,x2,x3,x4,x5,x6,x7],v]) ?_ hd hR
 have k:=qa hrow
 simp[results,Tryz.results18,go_sem,h4,h5,k]
set_option maxHeartbeats 8000000 in
set_option maxRecDepth 100000 in
theorem qcc (A1:Option Addr) (n1 c1:Nat) (A2:Option Addr) (n2 c2:Nat) (A3:Option Addr) (n3 c3:Nat) (A4:Option Addr) (n4 c4:Nat) (gen root next:Int) (A5:Option Addr) (c5:Nat) (S:Sto) (dead:List Int) (a:Int) (w:World)
  (h:qH w w.heap.size (.slice A1 n1 c1) (.slice A2 n2 c2) (.slice A3 n3 c3) (.slice A4 n4 c4) S) (hd:QF w w.heap.size (.slice A5 dead.length c5) dead) :
  Calls Tryz.prog 18 #[.agg (qC (.slice A1 n1 c1) (.slice A2 n2 c2) (.slice A3 n3 c3) (.slice A4 n4 c4) gen root next (.slice A5 dead.length c5)),.int .i64 a] w (qaH S gen root next dead (Tg S a) (zL S (Ve S.now a.toNat)) w):=by
 have HD:=zH (fun W (hx:Ext w W)=>Ug A1 n1 c1 A2 n2 c2 A3 n3 c3 A4 n4 c4 gen root next A5 c5 S dead a true W (h.ext hx) (hd.ext_ hx))
 have HS:=zH (fun W (hx:Ext w W)=>qcu A1 n1 c1 A2 n2 c2 A3 n3 c3 A4 n4 c4 S a W (h.ext hx))
 replace h:=zH h
 replace hd:=zH hd
 go_enter Tryz.func18,Tryz.ntmps18
 go_wp2_with fail
 generalize hw1:(World.alloc (World.alloc _ _) _)=w1
 have x1:Ext w w1:=by rw[←hw1];exact(Ext.alloc _ _).trans (Ext.alloc _ _)
 have rp1:w1.heap[w.heap.size]?=some (.cells (qC (.slice A1 n1 c1) (.slice A2 n2 c2) (.slice A3 n3 c3) (.slice A4 n4 c4) gen root next (.slice A5 dead.length c5)) 32 (0,0)):=by rw[←hw1];exact(Below.heap_alloc _ _ _ (by simp)).trans (World.alloc_heap_at _ _ _ rfl)
 have ro1:w1.heap[w.heap.size+1]?=some (.cells (qC (.slice none 0 0) (.slice none 0 0) (.slice none 0 0) (.slice none 0 0) 0 0 0 (.slice none 0 0)) 32 (0,0)):=by rw[←hw1];exact World.alloc_heap_at _ _ _ (by simp)
 clear hw1
 refine(HD.out w1 x1).mono ?_
 clear HD
 rintro e w2 ⟨hB,hQ⟩
 have x2:Ext w w2:=Ext.trans x1 hB
 have rp2:=qc rp1 hB
 have ro2:=qc ro1 hB
 clear hB rp1 ro1 x1
 have kp2:=qa rp2
 have ko2:=qa ro2
 have fo2:=qd ro2
 rcases hQ with ⟨rfl,hno⟩|⟨vs,refs,nodes,hpool,hcnt,hen,rfl⟩
 ·replace hno:=zH hno
  go_wp2_with fail
  exact Vr (b:=w.heap.size+1) rfl rfl rfl (jM ro2 _ _ _ _ _ _ _ _) ⟨zJ x2 (by omega) _ _ _ _ _ _ _ _,.inl ⟨rfl,hno.out⟩⟩
 ·replace hpool:=zH hpool
  replace hcnt:=zH hcnt
  replace hen:=zH hen
  have hE0:=zH (show Tg S a refs nodes=if Qk S refs nodes a true≠0 then Qk S refs nodes a true else Jj S a from rfl)
  by_cases h0:Qk S refs nodes a true=0
  ·rw[h0]
   replace h0:=zH h0
   go_wp2_with fail
   refine(HS.out w2 x2).mono ?_
   clear HS
   rintro e w3 ⟨u,rfl,hu,hB⟩
   have x3:Ext w w3:=x2.trans hB
   have z23':=hB.size
   have rp3:=qc rp2 hB
   have ro3:=qc ro2 hB
   have kp3:=qa rp3
   have ko3:=qa ro3
   have ro2':=ro2
   have fo3:=qd ro3
   clear rp2 ro2 kp2 ko2 fo2
   rcases hu with ⟨h1,rfl⟩|⟨h1,v,rfl,hv⟩
   ·generalize Jj S a=er at *
    have he:(er != 0)=true:=by rw[bne_iff_ne];exact h1
    have hq:=zH h1
    have zo3:w.heap.size+1<w3.heap.size:=(zG.1 ro3).1
    clear h1
    go_wp2_with fail
    exact Vr (b:=w.heap.size+1) rfl rfl rfl (qc (jM ro3 _ _ _ _ _ _ _ _) (Ext.alloc _ _)) ⟨Below.alloc (zJ x3 (by omega) _ _ _ _ _ _ _ _) (by have:=x3.size;simpa using this) _,.inr ⟨vs,refs,nodes,_,hpool.out,hcnt.out,hen.out,rfl,.inl ⟨by rw[hE0.out,if_neg (by simpa using h0.out)];exact hq.out,by rw[hE0.out,if_neg (by simpa using h0.out)];rfl⟩⟩⟩
   ·have hsh:kK (zL S (Ve S.now a.toNat)):=Gw (Th (a:=a) (by have:=h1;first|exact KD this|exact this)).1 (by first|exact JS _ _ _|exact VT _ _)
    have hns:=hv.newSto hsh
    obtain⟨B1,d1,B2,d2,B3,d3,B4,d4,rfl,hns2⟩:=hns
    have hns:∀ C:World,UK w2.heap.size w3 C→qH C w3.heap.size (.slice B1 S.bs.length d1) (.slice B2 S.ws.length d2) (.slice B3 (Ve S.now a.toNat).length d3) (.slice B4 S.last.length d4) (zL S (Ve S.now a.toNat)):=hns2
    replace hns:=zH hns
    clear hv hns2
    have z12:=x2.size
    have zo:w.heap.size+1<w2.heap.size:=(zG.1 ro2').1
    have hns0:=hns.out
    clear hns
    go_upto_region 7 with fail
    obtain⟨nl,hnl⟩:∃ nl,(Ve S.now a.toNat).length=nl:=⟨_,rfl⟩
    rw[hnl]
    rw[hnl] at hns0
    replace hnl:=zH hnl
    replace hns0:=zH hns0
    have x4:Ext w3 (w3.alloc (.cells #[.slice B1 S.bs.length d1,.slice B2 S.ws.length d2,.slice B3 nl d3,.slice B4 S.last.length d4] 28)):=Ext.alloc _ _
    have r4:(w3.alloc (.cells #[.slice B1 S.bs.length d1,.slice B2 S.ws.length d2,.slice B3 nl d3,.slice B4 S.last.length d4] 28)).heap[w3.heap.size]?=_:=World.alloc_heap_at _ _ _ rfl
    generalize hw4:w3.alloc _=w4 at *
    clear hw4
    have rp4:=qc rp3 x4
    have ro4:=qc ro3 x4
    have gP:∀ W,Ext w4 W→∀ i,W.cell? ⟨w.heap.size,i,none⟩=(qC (.slice A1 n1 c1) (.slice A2 n2 c2) (.slice A3 n3 c3) (.slice A4 n4 c4) gen root next (.slice A5 dead.length c5))[i]?:=fun W h=>qa (qc rp4 h)
    have gS:∀ W,Ext w4 W→∀ i,W.cell? ⟨w3.heap.size,i,none⟩=#[.slice B1 S.bs.length d1,.slice B2 S.ws.length d2,.slice B3 nl d3,.slice B4 S.last.length d4][i]?:=fun W h=>qa (qc r4 h)
    have HI:=zH (fun W (hW:Ext w4 W)=>KZ (.slice A5 dead.length c5) dead (by have:=hpool.out.few;omega) W (hd.out.ext_ ((x3.trans x4).trans hW)))
    clear kp3 ko3 fo3 rp3 ro3
    refine qG (qE [(3,outN w4.heap.size dead.length dead)]) 5 (by kernel_rfl) (by kernel_rfl) (by kernel_rfl) (by decide) (by kernel_rfl) (by kernel_rfl) ?st ?walk
    case st=>exact qJ (by simp only[List.forall_mem_cons];exact⟨VM _ _ _,fun _ h=>by cases h⟩)
    case walk =>
     intro K hK
     dsimp only[List.take]
     repeat ((first|(refine ql ?_ (by rfl) (by rfl) (fun W hW _=>⟨W,?_,Ext.refl W⟩) ?_;rotate_left;(first|(go_simp;with_reducible rfl)|(go_simp;done)))|(refine qt (by rfl) ?_));try simp only[Act.put,qi,qe,qb,qg,Jn,zA,zB,zC])
     refine qZ (outN w4.heap.size dead.length dead) (by rfl) (by rfl) (fun W hW _=>?_) (fun p=>?_)
     ·refine Qb ?_ ((HI.out W hW).mono fun e w' h=>?_)
      ·go_simp
      obtain⟨u,rfl,hu,hB⟩:=h
      obtain⟨A',c',rfl,_,_⟩:=qw hu
      exact⟨(A',c'),rfl,⟨QF.of_ownT hu,(QD.of_own hu).mono hW.size⟩,hB⟩
     obtain⟨B5,d5⟩:=p
     simp only[Act.put,qi,qe,qb,qg,Jn,zA,zB,zC]
     repeat ((first|(refine ql ?_ (by rfl) (by rfl) (fun W hW _=>⟨W,?_,Ext.refl W⟩) ?_;rotate_left;(first|(go_simp;with_reducible rfl)|(go_simp;done)))|(refine qt (by rfl) ?_));try simp only[Act.put,qi,qe,qb,qg,Jn,zA,zB,zC])
     refine qP (hK _ _ fun W hW hF=>?_)
     have hI:QF (thaw W) W.heap.size (.slice B5 dead.length d5) dead∧QD w4.heap.size (.slice B5 dead.length d5):=(hF 3).1
     clear hF hK gP gS
     dsimp only[List.drop]
     have zr:=rp4
     have rp5:=qc rp4 hW
     have ro5:=qc ro4 hW
     have kp5:=qa rp5
     have fp5:=qd rp5
     have ko5:=qa ro5
     have fo5:=qd ro5
     have zp5:w.heap.size<W.heap.size:=(zG.1 rp5).1
     have zo5:w.heap.size+1<W.heap.size:=(zG.1 ro5).1
     replace hI:=zH hI
     clear HI rp4 ro4 r4
     go_wp2_with fail
     generalize hWp:(((((W.setCell ⟨w.heap.size,0,none⟩ _).setCell ⟨w.heap.size,1,none⟩ _).setCell ⟨w.heap.size,2,none⟩ _).setCell ⟨w.heap.size,3,none⟩ _).setCell ⟨w.heap.size,7,none⟩ _)=Wp
     have hop:∀ k,k≠w.heap.size→Wp.heap[k]?=W.heap[k]?:=fun k hk=>by rw[←hWp,Below.heap_setCell _ _ _ _ hk,Below.heap_setCell _ _ _ _ hk,Below.heap_setCell _ _ _ _ hk,Below.heap_setCell _ _ _ _ hk,Below.heap_setCell _ _ _ _ hk]
     have zp:Wp.heap.size=W.heap.size:=by rw[←hWp];simp
     have xp:Below w.heap.size w Wp:=by rw[←hWp];exact Below.setCell (ZO ((x3.trans x4).trans hW) (b:=w.heap.size) (Nat.le_refl _) _ _ _ _) (p:=⟨w.heap.size,7,none⟩) (Nat.le_refl _) _
     clear hWp
     have rop:Wp.heap[w.heap.size+1]?=_:=(hop _ (by omega)).trans ro5
     have z34:=x4.size
     have z4W:=Below.size hW
     have z23:w2.heap.size≤w3.heap.size:=z23'
     refine Vr (b:=w.heap.size+1) rfl rfl rfl (jM rop _ _ _ _ _ _ _ _) ⟨zJ xp (by omega) _ _ _ _ _ _ _ _,.inr ⟨vs,refs,nodes,_,hpool.out,hcnt.out,hen.out,rfl,.inr ⟨by rw[hE0.out,if_neg (by simpa using h0.out)];exact h1,_,rfl,B1,d1,B2,d2,B3,d3,B4,d4,B5,d5,by rw[←hnl.out],fun C hC=>?_⟩⟩⟩
     have hsz:((((((((Wp.setCell ⟨w.heap.size+1,0,none⟩ (.slice B1 S.bs.length d1)).setCell ⟨w.heap.size+1,1,none⟩ (.slice B2 S.ws.length d2)).setCell ⟨w.heap.size+1,2,none⟩ (.slice B3 nl d3)).setCell ⟨w.heap.size+1,3,none⟩ (.slice B4 S.last.length d4)).setCell ⟨w.heap.size+1,4,none⟩ (.int .u32 gen)).setCell ⟨w.heap.size+1,5,none⟩ (.int .i64 root)).setCell ⟨w.heap.size+1,6,none⟩ (.int .u32 next)).setCell ⟨w.heap.size+1,7,none⟩ (.slice B5 dead.length d5)).heap.size=W.heap.size:=by simp[zp]
     rw[hsz]
     have hsame:=fun (k:Nat) (hk:w.heap.size+1<k)=>(Jl (w:=Wp) (show k≠w.heap.size+1 by omega) (.slice B1 S.bs.length d1) (.slice B2 S.ws.length d2) (.slice B3 nl d3) (.slice B4 S.last.length d4) (.int .u32 gen) (.int .i64 root) (.int .u32 next) (.slice B5 dead.length d5)).trans (hop k (by omega))
     have q1:=hns0.out C fun q v h1 h2 h3=>hC q v (by omega) (by rw[hsz];omega) ((Qi ((hsame q.block (by omega)).trans ((Below.block hW _ (by omega)).trans (x4.block _ (by omega))))).trans h3)
     have q2:=hI.out.1.pos hI.out.2 (C:=C) fun q v h1 h2 h3=>hC q v (by omega) (by rw[hsz];omega) ((Qi (hsame q.block (by omega))).trans h3)
     rw[←hnl.out] at q1
     exact⟨q1.more (by omega),q2⟩
  ·generalize Qk S refs nodes a true=er at *
   have he:(er != 0)=true:=by rw[bne_iff_ne];exact h0
   have hq:=zH h0
   clear h0
   go_wp2_with fail
   exact Vr (b:=w.heap.size+1) rfl rfl rfl (jM ro2 _ _ _ _ _ _ _ _) ⟨zJ x2 (by omega) _ _ _ _ _ _ _ _,.inr ⟨vs,refs,nodes,_,hpool.out,hcnt.out,hen.out,rfl,.inl ⟨by rw[hE0.out,if_pos hq.out];exact hq.out,by rw[hE0.out,if_pos hq.out];rfl⟩⟩⟩
def Jv (S:Sto):Int:=if qB S=true∧16≤(Qh S).length then 0 else 9
structure Two (bp be:Nat) (W W':World):Prop where
 os:W'.os=W.os
 tape:W'.tape=W.tape
 output:W'.output=W.output
 size:W.heap.size≤W'.heap.size
 same:∀ k,k<W.heap.size→k≠bp→k≠be→W'.heap[k]?=W.heap[k]?
theorem Two.of_ext {bp be:Nat} {W W':World} (h:Ext W W'):Two bp be W W':=⟨h.os,h.tape,h.output,h.size,fun k hk _ _=>h.block k hk⟩
theorem Two.below {bp be B:Nat} {w0 W W':World} (h:Two bp be W W') (hb:Below B w0 W) (h1:B≤bp) (h2:B≤be) (hB:B≤W.heap.size):Below B w0 W':=hb.trans ⟨h.os,h.tape,h.output,h.size,fun k hk=>h.same k (by omega) (by omega) (by omega)⟩
abbrev qcW:Array Value:=qC (.slice none 0 0) (.slice none 0 0) (.slice none 0 0) (.slice none 0 0) 0 0 0 (.slice none 0 0)
theorem Two.trans {bp be:Nat} {A B C:World} (h:Two bp be A B) (k:Two bp be B C):Two bp be A C:=⟨k.os.trans h.os,k.tape.trans h.tape,k.output.trans h.output,Nat.le_trans h.size k.size,fun i hi h1 h2=>(k.same i (Nat.lt_of_lt_of_le hi h.size) h1 h2).trans (h.same i hi h1 h2)⟩
theorem Two.setP {bp be:Nat} (A:World) (j:Nat) (v:Value):Two bp be A (A.setCell ⟨bp,j,none⟩ v):=⟨rfl,rfl,rfl,by simp,fun k _ hk _=>Below.heap_setCell _ _ _ _ hk⟩
theorem Two.setE {bp be:Nat} (A:World) (j:Nat) (v:Value):Two bp be A (A.setCell ⟨be,j,none⟩ v):=⟨rfl,rfl,rfl,by simp,fun k _ _ hk=>Below.heap_setCell _ _ _ _ hk⟩
theorem Two.set8 {bp be:Nat} (w:World) (x0 x1 x2 x3 x4 x5 x6 x7:Value):Two bp be w ((((((((w.setCell ⟨bp,0,none⟩ x0).setCell ⟨bp,1,none⟩ x1).setCell ⟨bp,2,none⟩ x2).setCell ⟨bp,3,none⟩ x3).setCell ⟨bp,4,none⟩ x4).setCell ⟨bp,5,none⟩ x5).setCell ⟨bp,6,none⟩ x6).setCell ⟨bp,7,none⟩ x7):=
 (Two.setP _ _ _).trans ((Two.setP _ _ _).trans ((Two.setP _ _ _).trans ((Two.setP _ _ _).trans ((Two.setP _ _ _).trans ((Two.setP _ _ _).trans ((Two.setP _ _ _).trans (Two.setP _ _ _)))))))
def RoomyQ (bp be:Nat) (cs:Array Value) (e:Int) (S:Sto) (W W':World):Prop:=Two bp be W W' ∧
 ((e=0∧Jv S=0∧W'.heap[bp]?=some (.cells cs 32 (0,0))∧W'.heap[be]?=some (.cells #[.int .i64 0] 39 (0,0))) ∨
  ∃ e',e'≠0∧((e=0∧e'=Jv S)∨(e≠0∧e'=e))∧W'.heap[bp]?=some (.cells qcW 32 (0,0))∧W'.heap[be]?=some (.cells #[.int .i64 e'] 39 (0,0)))
set_option maxHeartbeats 4000000 in
set_option maxRecDepth 100000 in
theorem qeR (bp be:Nat) (hne:bp≠be) (A1:Option Addr) (n1 c1:Nat) (A2:Option Addr) (n2 c2:Nat) (A3:Option Addr) (n3 c3:Nat) (A4:Option Addr) (n4 c4:Nat) (gen root next:Int) (v5:Value) (e:Int) (S:Sto) (w:World)
  (hp:w.heap[bp]?=some (.cells (qC (.slice A1 n1 c1) (.slice A2 n2 c2) (.slice A3 n3 c3) (.slice A4 n4 c4) gen root next v5) 32 (0,0))) (he:w.heap[be]?=some (.cells #[.int .i64 e] 39 (0,0)))
  (h:e=0→qH w w.heap.size (.slice A1 n1 c1) (.slice A2 n2 c2) (.slice A3 n3 c3) (.slice A4 n4 c4) S) :
  Calls Tryz.prog 34 #[.pointer (some ⟨bp,0,none⟩),.pointer (some ⟨be,0,none⟩)] w (fun x w'=>x=.returned (.tuple #[])∧RoomyQ bp be (qC (.slice A1 n1 c1) (.slice A2 n2 c2) (.slice A3 n3 c3) (.slice A4 n4 c4) gen root next v5) e S w w'):=by
 have kp:=qa hp
 have ke:=qa he
 have fp:=qd hp
 have fe:=qd he
 have zp:bp<w.heap.size:=(zG.1 hp).1
 have ze:be<w.heap.size:=(zG.1 he).1
 by_cases h0:e=0
 ·subst h0
  have HF:=qeQ A1 n1 c1 A2 n2 c2 A3 n3 c3 A4 n4 c4 S w (h rfl)
  clear h
  go_enter Tryz.func34,Tryz.ntmps34
  go_wp2_with fail
  refine HF.mono ?_
  rintro x w2 ⟨hB,hQ⟩
  have x2:Ext w w2:=hB
  have hp2:=qc hp x2
  have he2:=qc he x2
  have kp2:=qa hp2
  have ke2:=qa he2
  have fp2:=qd hp2
  have fe2:=qd he2
  clear kp ke fp fe hB HF hp he
  rcases hQ with ⟨hm,rfl⟩|⟨hm,v,rfl,hown⟩
  ·have hE:Jv S=9:=by unfold Jv;rw[hm];rfl
   replace hE:=zH hE
   replace hm:=zH hm
   have hne':¬be=bp:=fun e=>hne e.symm
   go_wp2_with fail
   go_end0
   exact⟨rfl,(Two.of_ext x2).trans ((Two.setE _ _ _).trans (Two.set8 _ _ _ _ _ _ _ _ _)),.inr ⟨9,by decide,.inl ⟨rfl,hE.out.symm⟩,jM ((Below.heap_setCell _ _ _ _ hne).trans hp2) _ _ _ _ _ _ _ _,(Jl hne' _ _ _ _ _ _ _ _).trans (qh he2 0 _)⟩⟩
  ·obtain⟨A,c,rfl,-,-⟩:=qw hown
   clear hown
   by_cases hl:(Qh S).length<16
   ·have hE:Jv S=9:=by unfold Jv;rw[if_neg (by omega)]
    replace hE:=zH hE
    have d1:decide (((Qh S).length:Int)<16)=true:=decide_eq_true (by omega)
    have d2:decide ((Qh S).length<16)=true:=decide_eq_true hl
    replace hl:=zH hl
    replace hm:=zH hm
    have hne':¬be=bp:=fun e=>hne e.symm
    go_wp2_with fail
    go_end0
    exact⟨rfl,(Two.of_ext x2).trans ((Two.setE _ _ _).trans (Two.set8 _ _ _ _ _ _ _ _ _)),.inr ⟨9,by decide,.inl ⟨rfl,hE.out.symm⟩,jM ((Below.heap_setCell _ _ _ _ hne).trans hp2) _ _ _ _ _ _ _ _,(Jl hne' _ _ _ _ _ _ _ _).trans (qh he2 0 _)⟩⟩
   ·have hE:Jv S=0:=by unfold Jv;rw[if_pos ⟨hm,by omega⟩]
    replace hE:=zH hE
    have d1:decide (((Qh S).length:Int)<16)=false:=decide_eq_false (by omega)
    have d2:decide ((Qh S).length<16)=false:=decide_eq_false hl
    replace hl:=zH hl
    replace hm:=zH hm
    have hne':¬be=bp:=fun e=>hne e.symm
    go_wp2_with fail
    go_end0
    exact⟨rfl,Two.of_ext x2,.inl ⟨rfl,hE.out,hp2,he2⟩⟩
 ·have b0:(e == 0)=false:=by rw[beq_eq_false_iff_ne];exact h0
  have b1:(e != 0)=true:=by rw[bne_iff_ne];exact h0
  have b2:decide (e=0)=false:=decide_eq_false h0
  replace h0:=zH h0
  replace hne:=zH hne
  clear h
  go_enter Tryz.func34,Tryz.ntmps34
  go_wp2_with fail
  go_end0
  exact⟨rfl,Two.set8 _ _ _ _ _ _ _ _ _,.inr ⟨e,h0.out,.inr ⟨h0.out,rfl⟩,jM hp _ _ _ _ _ _ _ _,(Jl (fun x=>hne.out x.symm) _ _ _ _ _ _ _ _).trans he⟩⟩
structure VJ (bp be ba:Nat) (W W':World):Prop where
 os:W'.os=W.os
 tape:W'.tape=W.tape
 output:W'.output=W.output
 size:W.heap.size≤W'.heap.size
 same:∀ k,k<W.heap.size→k≠bp→k≠be→k≠ba→W'.heap[k]?=W.heap[k]?
theorem VJ.of_two {bp be ba:Nat} {W W':World} (h:Two bp be W W'):VJ bp be ba W W':=⟨h.os,h.tape,h.output,h.size,fun k hk h1 h2 _=>h.same k hk h1 h2⟩
theorem VJ.set {bp be ba:Nat} {W W':World} (h:VJ bp be ba W W') (v:Value):VJ bp be ba W (W'.setCell ⟨ba,0,none⟩ v):=⟨h.os,h.tape,h.output,by simpa using h.size,fun k hk h1 h2 h3=>(Below.heap_setCell _ _ _ _ h3).trans (h.same k hk h1 h2 h3)⟩
theorem VJ.below {bp be ba B:Nat} {w0 W W':World} (h:VJ bp be ba W W') (hb:Below B w0 W) (h1:B≤bp) (h2:B≤be) (h3:B≤ba) (hB:B≤W.heap.size):Below B w0 W':=hb.trans ⟨h.os,h.tape,h.output,h.size,fun k hk=>h.same k (by omega) (by omega) (by omega) (by omega)⟩
def LayEnd (bp be ba:Nat) (cs:Array Value) (a e:Int) (S:Sto) (W W':World):Prop:=VJ bp be ba W W' ∧
 ((e=0∧Jv S=0∧W'.heap[bp]?=some (.cells cs 32 (0,0))∧W'.heap[be]?=some (.cells #[.int .i64 0] 39 (0,0))∧W'.heap[ba]?=some (.cells #[.int .i64 a] 3 (0,0))) ∨
  ∃ e',e'≠0∧((e=0∧e'=Jv S)∨(e≠0∧e'=e))∧W'.heap[bp]?=some (.cells qcW 32 (0,0))∧W'.heap[be]?=some (.cells #[.int .i64 e'] 39 (0,0))∧W'.heap[ba]?=some (.cells #[.int .i64 0] 3 (0,0)))
set_option maxHeartbeats 4000000 in
set_option maxRecDepth 100000 in
theorem lay1_any (bp be ba:Nat) (h12:bp≠be) (h13:bp≠ba) (h23:be≠ba) (A1:Option Addr) (n1 c1:Nat) (A2:Option Addr) (n2 c2:Nat) (A3:Option Addr) (n3 c3:Nat) (A4:Option Addr) (n4 c4:Nat) (gen root next:Int) (v5:Value) (a e:Int) (S:Sto) (u:FrameMode) (w:World)
  (hp:w.heap[bp]?=some (.cells (qC (.slice A1 n1 c1) (.slice A2 n2 c2) (.slice A3 n3 c3) (.slice A4 n4 c4) gen root next v5) 32 (0,0))) (he:w.heap[be]?=some (.cells #[.int .i64 e] 39 (0,0))) (ha:w.heap[ba]?=some (.cells #[.int .i64 a] 3 (0,0)))
  (h:e=0→qH w w.heap.size (.slice A1 n1 c1) (.slice A2 n2 c2) (.slice A3 n3 c3) (.slice A4 n4 c4) S) :
  CallsD Tryz.prog 33 #[.pointer (some ⟨bp,0,none⟩),.pointer (some ⟨be,0,none⟩),.pointer (some ⟨ba,0,none⟩)] u w (fun x u' w'=>u'=u∧x=.returned (.tuple #[])∧LayEnd bp be ba (qC (.slice A1 n1 c1) (.slice A2 n2 c2) (.slice A3 n3 c3) (.slice A4 n4 c4) gen root next v5) a e S w w'):=by
 have HR:=qeR bp be h12 A1 n1 c1 A2 n2 c2 A3 n3 c3 A4 n4 c4 gen root next v5 e S w hp he h
 clear h hp he
 go_enter_d Tryz.func33,Tryz.ntmps33
 go_wp2_with fail
 refine HR.mono ?_
 rintro x w2 ⟨rfl,hT,⟨h0,hE,hp2,he2⟩|⟨e',h0,hE,hp2,he2⟩⟩
 ·have ha2:=(hT.same ba (zG.1 ha).1 (Ne.symm h13) (Ne.symm h23)).trans ha
  have ke2:=qa he2
  have hz:=zH h0
  clear h0
  go_wp2_with fail
  go_end0
  exact⟨rfl,VJ.of_two hT,.inl ⟨hz.out,hE,hp2,he2,ha2⟩⟩
 ·have ha2:=(hT.same ba (zG.1 ha).1 (Ne.symm h13) (Ne.symm h23)).trans ha
  have ke2:=qa he2
  have ka2:=qa ha2
  have fa2:=qd ha2
  have b1:(e' != 0)=true:=by rw[bne_iff_ne];exact h0
  replace h0:=zH h0
  replace hE:=zH hE
  go_wp2_with fail
  go_end0
  exact⟨rfl,(VJ.of_two hT).set _,.inr ⟨e',h0.out,hE.out,(Below.heap_setCell _ _ _ _ h13).trans hp2,(Below.heap_setCell _ _ _ _ h23).trans he2,qh ha2 0 _⟩⟩
def ZS (n:Nat) (b:List UInt8):List UInt8:=b++List.replicate (n-b.length) 0
theorem TY {n:Nat} {b:List UInt8} (h:b.length≤n):(ZS n b).length=n:=by simp[ZS];omega
theorem pad_row (n:Nat) (b:List UInt8):List.take 0 (List.map bv (List.replicate n 0)).toArray.toList++List.map bv b++List.drop (0+b.length) (List.map bv (List.replicate n 0)).toArray.toList=(ZS n b).map bv:=by
 simp[ZS,List.map_replicate,List.drop_replicate]
end Go.Proofs.YtckhnchnbeoogaaGreat
