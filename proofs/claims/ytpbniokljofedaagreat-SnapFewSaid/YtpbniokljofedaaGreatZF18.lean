/- Texts Up, DWrite, ShareR, LooseR, Bch, IWrite, Pad, Seal, NWrite, joined. -/
import Derived.Test.YtpbniokljofedaaGreatZF01
import Derived.Test.YtpbniokljofedaaGreatZF03
import Derived.Test.YtpbniokljofedaaGreatZF05
import Derived.Test.YtpbniokljofedaaGreatZF06
import Derived.Test.YtpbniokljofedaaGreatZF13
import Derived.Test.YtpbniokljofedaaGreatZF15
import Derived.Test.YtpbniokljofedaaGreatZF17
set_option linter.unusedSimpArgs false
set_option linter.unusedVariables false
set_option maxHeartbeats 8000000
namespace Go.Proofs.YtpbniokljofedaaGreat
open Go.RowKit
def Qh (t:List UInt8) (a:Nat):Nat:=(t[a]?.getD 0).toNat
def Ks (t:List UInt8) (a:Int) (end_:Nat):Int:=if Qj t=true then (if 8≤a∧a<256 then (if Qh t a.toNat=end_ then 70 else 0) else 2) else 8
def jc (t:List UInt8) (a by_:Nat):List UInt8:=t.set a (UInt8.ofNat (Qh t a+by_))
theorem qgr (t:List UInt8) (a by_:Nat):(jc t a by_).length=t.length:=by unfold jc;simp
theorem qcN (n:Nat):IntKind.u8.wrap (n:Int)=(((UInt8.ofNat n).toNat:Nat):Int):=by
 simp[IntKind.wrap,IntKind.bits,IntKind.signed]
def qda (t:List UInt8) (a:Int) (by_ end_ lo:Nat) (u:Value) (W:World):Prop:=
 (Ks t a end_≠0∧u=.tuple #[.slice none 0 0,.int .i64 (Ks t a end_)]) ∨
  (Ks t a end_=0∧∃ A c,u=.tuple #[.slice A 256 c,.int .i64 0]∧W.ownsRow lo 5 1 (.slice A 256 c) 256 ((jc t a.toNat by_).map bv))
theorem qiv {t:List UInt8} (h:Qj t=false) (a:Int) (e:Nat):Ks t a e=8:=by unfold Ks;rw[h];simp
theorem qiw {t:List UInt8} (h:Qj t=true) {a:Int} (ha:¬(8≤a∧a<256)) (e:Nat):Ks t a e=2:=by unfold Ks;rw[if_pos h,if_neg ha]
theorem qeJ {t:List UInt8} (h:Qj t=true) {a:Nat} (ha:8≤a) (ha2:a<256) (e:Nat):Ks t (a:Int) e=if Qh t a=e then 70 else 0:=by
 unfold Ks
 rw[if_pos h,if_pos (by omega),Int.toNat_natCast]
theorem Yf {R:Ending→World→Prop} {a:Act} {W:World} {u v:Value} (h8:a.tmps[8]?.getD undef=u) (h9:a.tmps[9]?.getD undef=v) (hd:a.defers=[]) (hR:R (.returned (.tuple #[u,v])) W):bodyPost Tryz.prog Tryz.f173 R .ret a W:=by
 refine bodyPost_ret (v:=.tuple #[u,v]) ?_ hd hR
 simp[results,Tryz.results173,go_sem,h8,h9]
set_option maxRecDepth 100000 in
theorem turn_any (A:Option Addr) (n c:Nat) (t:List UInt8) (a:Int) (by_ end_:Nat) (w:World) (h:Bys w w.heap.size (.slice A n c) t) :
  Calls Tryz.prog 173 #[.slice A n c,.int .i64 a,.int .u8 (by_:Int),.int .u8 (end_:Int)] w (zo (qda t a by_ end_ w.heap.size) w):=by
 have HC:=zH (Xc (.slice A n c) t w h)
 have hby:=zH h
 go_enter Tryz.func173,Tryz.ntmps173
 go_wp2_with fail
 refine HC.out.mono ?_
 clear HC
 rintro e w2 ⟨rfl,hB⟩
 have x2:Ext w w2:=hB
 clear hB h
 rcases hS:Qj t with _|_
 ·have hq:=zH (qiv hS a end_)
  replace hS:=zH hS
  rw[jL rfl]
  go_wp2_with fail
  exact Yf rfl rfl rfl ⟨_,rfl,.inl ⟨by rw[hq.out];decide,by rw[hq.out];rfl⟩,x2⟩
 ·rw[Jf rfl]
  by_cases hr:8≤a∧a<256
  ·obtain⟨m,hma⟩:=Int.eq_ofNat_of_zero_le (show 0≤a by omega)
   subst hma
   have hm8:8≤m:=by omega
   have hm256:m<256:=by omega
   have hq:=qeJ hS hm8 hm256 end_
   have hl:t.length=256:=by unfold Qj at hS;simp at hS;exact hS.1
   obtain⟨A',c',e,hc,hmx,hrd⟩:=hby.out
   obtain⟨b,o,rfl,hb,hcell⟩:=hrd.2 (by omega)
   simp only[Value.slice.injEq] at e
   obtain⟨rfl,e2,rfl⟩:=e
   obtain rfl:n=256:=by omega
   clear e2
   have hcn:w.cell? ⟨b,o+m,none⟩=some (.int .u8 (Qh t m:Int)):=hcell m _ (by rw[List.getElem?_map,zL (by omega)];unfold Qh;rw[zL (by omega)];rfl)
   have hcn2:=Ext.cell x2 hcn
   have d1:decide ((m:Int)<8)=false:=decide_eq_false (by omega)
   have d2:decide ((m:Int)≥256)=false:=decide_eq_false (by omega)
   have HCL:=zH (Xs (.slice (some ⟨b,o,none⟩) 256 c) t (by omega) w2 ((hby.out.below x2).more x2.size))
   have hT:Hid (jc t m by_=t.set m (UInt8.ofNat (Qh t m+by_))):=rfl
   clear hr hcell hrd hcn hc hmx
   generalize hnv:Qh t m=nv at *
   replace hnv:=zH hnv
   replace hl:=zH hl
   by_cases h0:nv=end_
   ·have hz1:((nv:Int) == (end_:Int))=true:=by rw[beq_iff_eq];omega
    have hz2:decide (nv=end_)=true:=decide_eq_true h0
    rw[if_pos h0] at hq
    replace hq:=zH hq
    replace h0:=zH h0
    replace hS:=zH hS
    go_wp2_with fail
    exact Yf rfl rfl rfl ⟨_,rfl,.inl ⟨by rw[hq.out];decide,by rw[hq.out];rfl⟩,x2⟩
   ·have hz1:((nv:Int) == (end_:Int))=false:=by rw[beq_eq_false_iff_ne];omega
    have hz2:decide (nv=end_)=false:=decide_eq_false h0
    rw[if_neg h0] at hq
    replace hq:=zH hq
    replace h0:=zH h0
    replace hS:=zH hS
    go_wp2_with fail
    refine HCL.out.mono ?_
    clear HCL
    rintro e w3 ⟨u,rfl,hu,hB⟩
    rw[hl.out] at hu
    obtain⟨Au,cu,rfl,hcu,-⟩:=qv hu
    have x3:Ext w w3:=x2.trans hB
    have hAu:∃ g,Au=some ⟨g,0,none⟩:=by
     rcases hu.2 with ⟨e,h0⟩|⟨g,cap,cur,e,_⟩
     ·cases e
     ·cases e
      exact⟨g,rfl⟩
    obtain⟨g,rfl⟩:=hAu
    obtain⟨hk,hf,hlg,hgz⟩:=Zc hu
    have hkm:=hk m hm256
    rw[show (t[m]?.getD 0).toNat=nv from hnv.out] at hkm
    have hfm:=hf m
    have hset:=zH (UY hu hm256 (UInt8.ofNat (nv+by_)))
    have hwv:IntKind.u8.wrap ((nv:Int)+(by_:Int))=(((UInt8.ofNat (nv+by_)).toNat:Nat):Int):=by rw[←qcN];rfl
    clear hk hf hu hB hcn2
    go_wp2_with fail
    exact Yf rfl rfl rfl ⟨_,rfl,.inr ⟨hq.out,_,_,rfl,QF (by rw[Int.toNat_natCast,hT.out];exact hset.out) x2.size⟩,Below.setCell x3 (p:=⟨g,m,none⟩) (by have:=x2.size;simp;omega) _⟩
  ·have hq:=zH (qiw hS hr end_)
   replace hS:=zH hS
   by_cases h8:a<8
   ·have d1:decide (a<8)=true:=decide_eq_true h8
    replace hr:=zH hr
    go_wp2_with fail
    exact Yf rfl rfl rfl ⟨_,rfl,.inl ⟨by rw[hq.out];decide,by rw[hq.out];rfl⟩,x2⟩
   ·have d1:decide (a<8)=false:=decide_eq_false h8
    have d2:decide (a≥256)=true:=decide_eq_true (by omega)
    replace hr:=zH hr
    go_wp2_with fail
    exact Yf rfl rfl rfl ⟨_,rfl,.inl ⟨by rw[hq.out];decide,by rw[hq.out];rfl⟩,x2⟩
theorem qaz {bs:List (List UInt8)} {ws:List (Int×List UInt8)} (h:je bs ws=true):bs.length<1000000∧ws.length<1000000∧(∀ l∈bs,l.length<1000000)∧∀ p∈ws,p.2.length<1000000:=by
 unfold je headD at h
 simp only[Bool.and_eq_true,decide_eq_true_eq,List.all_eq_true] at h
 obtain⟨⟨h1,h2⟩,h3,h4⟩:=h
 refine⟨by omega,by omega,fun l hl=>?_,fun p hp=>?_⟩
 ·have:=h3 l hl
  unfold TX at this
  have:=of_decide_eq_true this
  omega
 ·have:=h4 p hp
  unfold wrOk at this
  have:=of_decide_eq_true this
  omega
set_option maxRecDepth 100000 in
theorem up_any (A:Option Addr) (n c:Nat) (t:List UInt8) (a:Int) (w:World) (h:Bys w w.heap.size (.slice A n c) t) :
  Calls Tryz.prog 159 #[.slice A n c,.int .i64 a] w (zo (qda t a 1 255 w.heap.size) w):=by
 have HT:=zH (turn_any A n c t a 1 255 w h)
 clear h
 go_enter Tryz.func159,Tryz.ntmps159
 go_wp2_with fail
 refine HT.out.mono ?_
 clear HT
 rintro e w2 ⟨u,rfl,hu,hB⟩
 rcases hu with ⟨h1,rfl⟩|⟨h1,A',c',rfl,hown⟩
 ·have hB':Ext w w2:=hB
  have hQ:=zH (⟨_,rfl,.inl ⟨h1,rfl⟩,hB'⟩:zo (qda t a 1 255 w.heap.size) w (.returned (.tuple #[.slice none 0 0,.int .i64 (Ks t a 255)])) w2)
  generalize Ks t a 255=er at *
  replace h1:=zH h1
  go_wp2_with fail
  refine bodyPost_ret (v:=.tuple #[.slice none 0 0,.int .i64 er]) ?_ rfl hQ.out
  simp[results,Tryz.results159,go_sem]
 ·have hB':Ext w w2:=hB
  have hQ:=zH (⟨_,rfl,.inr ⟨h1,A',c',rfl,hown⟩,hB'⟩:zo (qda t a 1 255 w.heap.size) w (.returned (.tuple #[.slice A' 256 c',.int .i64 0])) w2)
  replace h1:=zH h1
  go_wp2_with fail
  refine bodyPost_ret (v:=.tuple #[.slice A' 256 c',.int .i64 0]) ?_ rfl hQ.out
  simp[results,Tryz.results159,go_sem]
abbrev qw (S:Sto) (t:List UInt8):Sto:=⟨S.bs,S.ws,t,S.last⟩
abbrev sto0:Value:=qX none 0 0 none 0 0 none 0 0 none 0 0
def QB (S:Sto) (a:Int):Int:=if Jd S a≠0 then Jd S a else if zE S a.toNat=255 then 70 else 0
def StoQ (e:Int) (S:Sto) (lo:Nat) (u:Value) (W:World):Prop:=(e≠0∧u=.tuple #[sto0,.int .i64 e])∨(e=0∧∃ v,u=.tuple #[v,.int .i64 0]∧QC lo S v W)
theorem QY {S:Sto} (h:qm S=true):Xx S:=by
 obtain⟨h1,h2,h3,h4⟩:=qU h
 have hd:je S.bs S.ws=true:=by unfold qm at h;simp at h;exact h.1
 obtain⟨d1,d2,d3,d4⟩:=qaz hd
 exact⟨d1,d2,d3,d4,by omega,by omega⟩
theorem qgn {S:Sto} (h:qm S=true):Qj S.now=true:=by unfold qm at h;simp at h;exact h.2.1
theorem TR {R:Ending→World→Prop} {a:Act} {W:World} {b:Nat} {x0 x1 x2 x3 v:Value} (h4:a.tmps[4]?.getD undef=.pointer (some ⟨b,0,none⟩)) (h5:a.tmps[5]?.getD undef=v) (hd:a.defers=[])
  (hrow:W.heap[b]?=some (.cells #[x0,x1,x2,x3] 28 (0,0))) (hR:R (.returned (.tuple #[.agg #[x0,x1,x2,x3],v])) W):bodyPost Tryz.prog Tryz.f117 R .ret a W:=by
 refine bodyPost_ret (v:=.tuple #[.agg #[x0,x1,x2,x3],v]) ?_ hd hR
 have k:=qa hrow
 simp[results,Tryz.results117,go_sem,h4,h5,k]
set_option maxRecDepth 100000 in
theorem qaa (A1:Option Addr) (n1 c1:Nat) (A2:Option Addr) (n2 c2:Nat) (A3:Option Addr) (n3 c3:Nat) (A4:Option Addr) (n4 c4:Nat) (S:Sto) (a:Int) (w:World) (h:qP w w.heap.size (.slice A1 n1 c1) (.slice A2 n2 c2) (.slice A3 n3 c3) (.slice A4 n4 c4) S) :
  Calls Tryz.prog 117 #[qX A1 n1 c1 A2 n2 c2 A3 n3 c3 A4 n4 c4,.int .i64 a] w (zo (StoQ (QB S a) (qw S (jc S.now a.toNat 1)) w.heap.size) w):=by
 have HA:=zH (fun W (hx:Ext w W)=>GU A1 n1 c1 A2 n2 c2 A3 n3 c3 A4 n4 c4 S a W (h.ext hx))
 have HU:=zH (fun W (hx:Ext w W)=>up_any A3 n3 c3 S.now a W (h.ext hx).now)
 replace h:=zH h
 go_enter Tryz.func117,Tryz.ntmps117
 go_wp2_with fail
 generalize hw1:(World.alloc (World.alloc w _) _)=w1
 have x1:Ext w w1:=by rw[←hw1];exact(zN _ _).trans (zN _ _)
 have rs1:w1.heap[w.heap.size]?=some (.cells #[.slice A1 n1 c1,.slice A2 n2 c2,.slice A3 n3 c3,.slice A4 n4 c4] 28 (0,0)):=by rw[←hw1];exact(zK _ _ _ (by simp)).trans (zI _ _ _ rfl)
 have ro1:w1.heap[w.heap.size+1]?=some (.cells #[.slice none 0 0,.slice none 0 0,.slice none 0 0,.slice none 0 0] 28 (0,0)):=by rw[←hw1];exact zI _ _ _ (by simp)
 clear hw1
 refine(HA.out w1 x1).mono ?_
 clear HA
 rintro e w2 ⟨rfl,hB⟩
 have x2:Ext w w2:=x1.trans hB
 have rs2:=qb rs1 hB
 have ro2:=qb ro1 hB
 clear hB rs1 ro1 x1
 by_cases h0:Jd S a=0
 ·obtain⟨hS,m,rfl,hm8,hm256,hnz⟩:=Yi h0
  have hE:QB S (m:Int)=if zE S m=255 then 70 else 0:=by unfold QB;rw[if_neg (by simpa using h0),Int.toNat_natCast]
  have hT:Ks S.now (m:Int) 255=if zE S m=255 then 70 else 0:=qeJ (qgn hS) hm8 hm256 255
  have hsh:=zH (QY hS)
  rw[h0]
  have ks2:=qa rs2
  replace h0:=zH h0
  replace hS:=zH hS
  rw[←hE] at hT
  replace hE:=zH hE
  clear hnz
  go_wp2_with fail
  refine(HU.out w2 x2).mono ?_
  clear HU
  rintro e w3 ⟨u,rfl,hu,hB⟩
  have x3:Ext w w3:=x2.trans hB
  have rs3:=qb rs2 hB
  have ro3:=qb ro2 hB
  have ks3:=qa rs3
  have z23:=hB.size
  clear hB rs2 ro2 ks2
  unfold qda at hu
  rw[hT] at hu
  rcases hu with ⟨h1,rfl⟩|⟨h1,A',c',rfl,hown⟩
  ·generalize QB S (m:Int)=er at *
   have he:(er != 0)=true:=by rw[bne_iff_ne];exact h1
   have hq:=zH h1
   have ko3:=qa ro3
   have fo3:=qd ro3
   clear h1 hT
   go_wp2_with fail
   exact TR (b:=w.heap.size+1) rfl rfl rfl (vz ro3 _ _ _ _) ⟨_,rfl,.inl ⟨hq.out,rfl⟩,zy x3 (by omega) _ _ _ _⟩
  ·have hby:=Bys.of_own hown
   have HTW:=qbI A1 n1 c1 A2 n2 c2 A' 256 c' A4 n4 c4 (qw S (jc S.now m 1)) ⟨hsh.out.bs,hsh.out.ws,hsh.out.be,hsh.out.we,by rw[qgr];exact hsh.out.now,hsh.out.last⟩ w3 ⟨(h.out.ext x3).bs,(h.out.ext x3).ws,hby,(h.out.ext x3).last⟩
   replace hby:=zH hby
   replace hown:=zH hown
   replace h1:=zH h1
   go_wp2_with fail
   refine HTW.mono ?_
   clear HTW
   rintro e w4 ⟨u,rfl,hu,hB⟩
   have x4:Ext w w4:=x3.trans hB
   have ro4:=qb ro3 hB
   have ko4:=qa ro4
   have fo4:=qd ro4
   have zo3:w.heap.size+1<w3.heap.size:=(zG.1 ro3).1
   obtain⟨BB,WW,g,B3,d3,B4,d4,rfl,hD,hN,hL⟩:=hu
   have hK:=fun (x0 x1 x2 x3':Value)=>QC.keep (lo':=w.heap.size) (⟨BB,WW,g,B3,d3,B4,d4,rfl,hD,hN,hL⟩:QC w3.heap.size (qw S (jc S.now m 1)) _ w4) (W2:=(((w4.setCell ⟨w.heap.size+1,0,none⟩ x0).setCell ⟨w.heap.size+1,1,none⟩ x1).setCell ⟨w.heap.size+1,2,none⟩ x2).setCell ⟨w.heap.size+1,3,none⟩ x3') (by omega) (by simp) (fun b hb _=>(zJ _ _ _ _ (by simp;omega)).trans ((zJ _ _ _ _ (by simp;omega)).trans ((zJ _ _ _ _ (by simp;omega)).trans (zJ _ _ _ _ (by simp;omega)))))
   replace hK:=zH hK
   clear hB hD hN hL ks3 rs3 ro3
   go_wp2_with fail
   exact TR (b:=w.heap.size+1) rfl rfl rfl (vz ro4 _ _ _ _) ⟨_,rfl,.inr ⟨h1.out,_,rfl,hK.out _ _ _ _⟩,zy x4 (by omega) _ _ _ _⟩
 ·have hE:QB S a=Jd S a:=by unfold QB;rw[if_pos h0]
  generalize Jd S a=er at *
  have he:(er != 0)=true:=by rw[bne_iff_ne];exact h0
  have hq:=zH h0
  have ko2:=qa ro2
  have fo2:=qd ro2
  replace hE:=zH hE
  clear h0
  go_wp2_with fail
  exact TR (b:=w.heap.size+1) rfl rfl rfl (vz ro2 _ _ _ _) ⟨_,rfl,.inl ⟨by rw[hE.out];exact hq.out,by rw[hE.out];rfl⟩,zy x2 (by omega) _ _ _ _⟩
def VQ (t:List UInt8) (a:Nat):List UInt8:=t.set a (UInt8.ofNat (Qh t a-1))
theorem qhr {n:Nat} (h:0<n) (h2:n<256):IntKind.u8.wrap ((n:Int)-1)=(((UInt8.ofNat (n-1)).toNat:Nat):Int):=by
 rw[←qcN]
 congr 1
 omega
theorem Gh {R:Ending→World→Prop} {a:Act} {W:World} {v:Value} (h4:a.tmps[4]?.getD undef=v) (hd:a.defers=[]) (hR:R (.returned v) W):bodyPost Tryz.prog Tryz.f133 R .ret a W:=by
 refine bodyPost_ret (v:=v) ?_ hd hR
 simp[results,Tryz.results133,go_sem,h4]
theorem qbh {R:Ending→World→Prop} {a:Act} {W:World} {b:Nat} {x0 x1 x2 x3 v:Value} (h4:a.tmps[4]?.getD undef=.pointer (some ⟨b,0,none⟩)) (h5:a.tmps[5]?.getD undef=v) (hd:a.defers=[])
  (hrow:W.heap[b]?=some (.cells #[x0,x1,x2,x3] 28 (0,0))) (hR:R (.returned (.tuple #[.agg #[x0,x1,x2,x3],v])) W):bodyPost Tryz.prog Tryz.f130 R .ret a W:=by
 refine bodyPost_ret (v:=.tuple #[.agg #[x0,x1,x2,x3],v]) ?_ hd hR
 have k:=qa hrow
 simp[results,Tryz.results130,go_sem,h4,h5,k]
theorem QC.set4 {lo lo' b:Nat} {S:Sto} {u:Value} {W:World} (h:QC lo S u W) (hl:lo'≤lo) (hb:b<lo) (x0 x1 x2 x3:Value):QC lo' S u ((((W.setCell ⟨b,0,none⟩ x0).setCell ⟨b,1,none⟩ x1).setCell ⟨b,2,none⟩ x2).setCell ⟨b,3,none⟩ x3):=
 h.keep hl (by simp) fun b' hb' _=>(zJ _ _ _ _ (by simp;omega)).trans ((zJ _ _ _ _ (by simp;omega)).trans ((zJ _ _ _ _ (by simp;omega)).trans (zJ _ _ _ _ (by simp;omega))))
def Qb (X:Nat→Prop) (w C:World):Prop:=∀ (q:Addr) (v:Value),¬X q.block→w.cell? q=some v→C.cell? q=some v
section
variable {X Y:Nat→Prop} {w W C:World}
theorem Qb.refl (X:Nat→Prop) (w:World):Qb X w w:=fun _ _ _ h=>h
theorem Qb.of_ext (h:Ext w C):Qb X w C:=fun _ _ _ hv=>Ext.cell h hv
theorem Qb.trans (h:Qb X w W) (h':Qb Y W C) (hY:∀ k,k<w.heap.size→Y k→X k):Qb X w C:=fun q v hX hv=>h' q v (fun hy=>hX (hY _ (World.block_lt_of_cell? w q hv) hy)) (h q v hX hv)
theorem Qb.mono (h:Qb X w C) (hX:∀ k,k<w.heap.size→X k→Y k):Qb Y w C:=fun q v hY hv=>h q v (fun hx=>hY (hX _ (World.block_lt_of_cell? w q hv) hx)) hv
theorem Qb.of_heap (h:∀ k,k<w.heap.size→¬X k→C.heap[k]?=w.heap[k]?):Qb X w C:=fun q v hX hv=>(World.cell?_of_block (h _ (World.block_lt_of_cell? w q hv) hX)).trans hv
theorem Rd.keepX {B size n:Nat} {A:Option Addr} {xs:List Value} (h:Rd w B size A n xs) (hs:0<size) (hk:Qb X w C) (hX:∀ k,k<B→¬X k):Rd C C.heap.size size A n xs:=⟨h.1,fun hn=>by
 obtain⟨b,off,e,hb,hc⟩:=h.2 hn
 refine⟨b,off,e,?_,fun j u hu=>hk _ _ (hX b hb) (hc j u hu)⟩
 have hl:0<xs.length:=by rw[h.1];exact Nat.mul_pos hn hs
 exact World.block_lt_of_cell? C ⟨b,off+0,none⟩ (hk _ _ (hX b hb) (hc 0 _ (zL hl)))⟩
theorem Bys.keepX {B:Nat} {v:Value} {l:List UInt8} (h:Bys w B v l) (hk:Qb X w C) (hX:∀ k,k<B→¬X k):Bys C C.heap.size v l:=by
 obtain⟨A,c,e,hc,hm,hr⟩:=h
 exact⟨A,c,e,hc,hm,hr.keepX (by omega) hk hX⟩
end
def Vk (X:Nat→Prop) (w:World) (v:Value) (xs:List It):Prop:=∀ C,Qb X w C→Its C C.heap.size v xs
theorem Vk.now {X:Nat→Prop} {w:World} {v:Value} {xs:List It} (h:Vk X w v xs):Its w w.heap.size v xs:=h w (Qb.refl _ _)
theorem Vk.trans {X Y:Nat→Prop} {w W:World} {v:Value} {xs:List It} (h:Vk X w v xs) (hk:Qb X w W) (hY:∀ k,k<w.heap.size→Y k→X k):Vk Y W v xs:=fun C hC=>h C (hk.trans hC hY)
theorem zO {w w':World} {base size n:Nat} {e:TypeId} {v:Value} {xs:List Value} (h:w.ownsRow base e size v n xs) (hk:∀ q,v.ownBlock=some q→w'.heap[q]?=w.heap[q]?):w'.ownsRow base e size v n xs:=
 ⟨h.1,h.2.imp id fun ⟨g,cap,cur,e1,h3,h4,h5⟩=>⟨g,cap,cur,e1,h3,(hk g (by rw[e1];rfl)).trans h4,h5⟩⟩
theorem ZF {w:World} {base size n:Nat} {e:TypeId} {v:Value} {xs:List Value} (h:w.ownsRow base e size v n xs) {q:Nat} (hq:v.ownBlock=some q):∃ cur,w.heap[q]?=some (.cells cur e (0,0)):=by
 rcases h.2 with ⟨e1,_⟩|⟨g,cap,cur,e1,_,hg,_⟩
 ·rw[e1] at hq;cases hq
 ·rw[e1] at hq
  cases hq
  exact⟨cur,hg⟩
def B3 (b g:Nat) (k:Option Nat) (q:Nat):Prop:=q=b∨q=g∨k=some q
def YU (B:Nat) (D:Nat→Prop) (q:Nat):Prop:=B≤q∧¬D q
theorem YU.keep {B:Nat} {D:Nat→Prop} {w W:World} (h:∀ q,q<w.heap.size→q<B∨D q→W.heap[q]?=w.heap[q]?):Qb (YU B D) w W:=Qb.of_heap fun q hq hX=>h q hq (by
 by_cases hB:q<B
 ·exact .inl hB
 ·right
  by_cases hD:D q
  ·exact hD
  ·exact absurd ⟨by omega,hD⟩ hX)
def Kt (n:Nat) (D D':Nat→Prop):Prop:=∀ q,D' q→D q∨n≤q
theorem Kt.refl (n:Nat) (D:Nat→Prop):Kt n D D:=fun _ h=>.inl h
theorem Kt.mono {n n':Nat} {D D':Nat→Prop} (h:Kt n D D') (hn:n'≤n):Kt n' D D':=fun q hq=>(h q hq).imp id fun h=>by omega
theorem Kt.trans {n n':Nat} {D D' D'':Nat→Prop} (h:Kt n D D') (h':Kt n' D' D'') (hn:n≤n'):Kt n D D'':=fun q hq=>(h' q hq).elim (fun h1=>h q h1) fun h1=>.inr (by omega)
structure qY (lo b g:Nat) (k:Option Nat) (w W:World):Prop where
 below:Below lo w W
 rows:∀ q,q<w.heap.size→¬B3 b g k q→W.heap[q]?=w.heap[q]?
def Ze (n:Nat) (k k':Option Nat):Prop:=∀ q,k'=some q→k=some q∨n≤q
theorem Ze.refl (n:Nat) (k:Option Nat):Ze n k k:=fun _ h=>.inl h
theorem Ze.mono {n n':Nat} {k k':Option Nat} (h:Ze n k k') (hn:n'≤n):Ze n' k k':=fun q hq=>(h q hq).imp id fun h=>by omega
theorem Ze.trans {n n':Nat} {k k' k'':Option Nat} (h:Ze n k k') (h':Ze n' k' k'') (hn:n≤n'):Ze n k k'':=fun q hq=>(h' q hq).elim (fun h1=>h q h1) fun h1=>.inr (by omega)
section
variable {lo b g:Nat} {k k':Option Nat} {w W C:World}
theorem qY.refl (lo b g:Nat) (k:Option Nat) (w:World):qY lo b g k w w:=⟨Below.refl _ _,fun _ _ _=>rfl⟩
theorem qY.of_ext (h:Ext w W) (hl:lo≤w.heap.size):qY lo b g k w W:=⟨Below.mono h hl,fun q hq _=>Below.block h q hq⟩
theorem qY.trans (h:qY lo b g k w W) (h':qY lo b g k' W C) (hk:Ze w.heap.size k k'):qY lo b g k w C:=⟨h.below.trans h'.below,fun q hq hn=>(h'.rows q (by have:=h.below.size;omega) fun hx=>hn (by
 rcases hx with e|e|e
 ·exact .inl e
 ·exact .inr (.inl e)
 ·exact(hk q e).elim (fun h=>.inr (.inr h)) fun h=>by omega)).trans (h.rows q hq hn)⟩
theorem qY.keepX (h:qY lo b g k w W):Qb (B3 b g k) w W:=Qb.of_heap fun q hq hX=>h.rows q hq hX
theorem qY.own (h:qY lo b g k w W) {base n size:Nat} {e:TypeId} {v:Value} {xs:List Value} (ho:w.ownsRow base e size v n xs) (hn:∀ q,v.ownBlock=some q→¬B3 b g k q):W.ownsRow base e size v n xs:=zO ho fun q hq=>h.rows q (QR ho q hq).2 (hn q hq)
theorem qY.row (h:qY lo b g k w W) {q:Nat} {o:Obj} (hr:w.heap[q]?=some o) (hn:¬B3 b g k q):W.heap[q]?=some o:=(h.rows q (zG.1 hr).1 hn).trans hr
theorem B3.of_new (hk:Ze w.heap.size k k'):∀ q,q<w.heap.size→B3 b g k' q→B3 b g k q:=fun q hq hx=>by
 rcases hx with e|e|e
 ·exact .inl e
 ·exact .inr (.inl e)
 ·exact(hk q e).elim (fun h=>.inr (.inr h)) fun h=>by omega
end
def WsB (D:Nat→Prop) (B lo b g:Nat) (k:Option Nat) (v:Value) (ws:List (Int×List UInt8)) (w:World):Prop:=∃ ps:List ((Int×List UInt8)×Value),ps.map (·.1)=ws ∧
 ((k=none∧ws.length≤maxLen∧∃ A,v=.slice A ws.length ws.length∧Rd w B 2 A ws.length (ZB ps))∨(∃ q,k=some q∧v.ownBlock=some q∧w.ownsRow lo 130 2 v ws.length (ZB ps))) ∧
 ∀ p∈ps,(∃ A c,p.2=.slice A p.1.2.length c)∧∀ C,Qb (YU B D) w C→Bys C C.heap.size p.2 p.1.2
theorem WsB.ext {D:Nat→Prop} {B lo b g:Nat} {k:Option Nat} {v:Value} {ws:List (Int×List UInt8)} {w W:World} (h:WsB D B lo b g k v ws w) (hx:Ext w W) (hB:B≤w.heap.size):WsB D B lo b g k v ws W:=by
 obtain⟨ps,e,hw,hp⟩:=h
 refine⟨ps,e,?_,fun p hpm=>⟨(hp p hpm).1,fun C hC=>(hp p hpm).2 C ((Qb.of_ext hx).trans hC fun _ _ h=>h)⟩⟩
 rcases hw with ⟨e,hm,A,e2,hr⟩|⟨q,e,e2,how⟩
 ·exact .inl ⟨e,hm,A,e2,hr.below (Below.mono hx hB)⟩
 ·exact .inr ⟨q,e,e2,zO how fun q' hq'=>Below.block hx q' (QR how q' hq').2⟩
theorem WsB.mono {D D':Nat→Prop} {B lo b g:Nat} {k:Option Nat} {v:Value} {ws:List (Int×List UInt8)} {w:World} (h:WsB D B lo b g k v ws w) (hD:∀ q,D q→D' q):WsB D' B lo b g k v ws w:=by
 obtain⟨ps,e,hw,hp⟩:=h
 exact⟨ps,e,hw,fun p hpm=>⟨(hp p hpm).1,fun C hC=>(hp p hpm).2 C (hC.mono fun q _ hx=>⟨hx.1,fun h=>hx.2 (hD q h)⟩)⟩⟩
structure Bch (D:Nat→Prop) (B lo b g:Nat) (k:Option Nat) (S:Sto) (w:World):Prop where
 lob:lo≤b
 blo:B≤lo
 dB:∀ q,D q→lo≤q∧q<w.heap.size∧¬B3 b g k q
 ex:∃ A1 n1 c1 v2 c3 A4 c4,w.heap[b]?=some (.cells #[.slice A1 n1 c1,v2,.slice (some ⟨g,0,none⟩) 256 c3,.slice A4 256 c4] 191 (0,0))∧w.ownsRow lo 5 1 (.slice (some ⟨g,0,none⟩) 256 c3) 256 (S.now.map bv) ∧
  WsB D B lo b g k v2 S.ws w∧Bls w B (.slice A1 n1 c1) S.bs∧Bys w B (.slice A4 256 c4) S.last
section
variable {D:Nat→Prop} {B lo b g:Nat} {k:Option Nat} {S:Sto} {w W:World}
theorem Bch.size (h:Bch D B lo b g k S w):lo≤b∧b<w.heap.size∧lo≤g∧g<w.heap.size∧g≠b∧lo≤w.heap.size∧∀ q,k=some q→lo≤q∧q<w.heap.size∧q≠b∧q≠g:=by
 have h1:=h.lob
 obtain⟨A1,n1,c1,v2,c3,A4,c4,hr,ho,⟨ps,_,hw,_⟩,_,_⟩:=h.ex
 have hb:=(zG.1 hr).1
 obtain⟨_,_,hlg,hzg⟩:=Zc ho
 obtain⟨cur,hg⟩:=ZF ho (q:=g) rfl
 refine⟨h1,hb,hlg,hzg,qJ hg hr (by decide),by omega,fun q hq=>?_⟩
 rcases hw with ⟨e,_⟩|⟨q',e,e2,how⟩
 ·rw[e] at hq;cases hq
 ·rw[e] at hq
  cases hq
  obtain⟨cur2,hq2⟩:=ZF how e2
  have:=QR how _ e2
  exact⟨this.1,this.2,qJ hq2 hr (by decide),qJ hq2 hg (by decide)⟩
theorem Bch.b3 (h:Bch D B lo b g k S w):∀ q,B3 b g k q→lo≤q∧q<w.heap.size:=fun q hq=>by
 obtain⟨h1,h2,h3,h4,_,_,h5⟩:=h.size
 rcases hq with rfl|rfl|e
 ·exact⟨h1,h2⟩
 ·exact⟨h3,h4⟩
 ·exact⟨(h5 q e).1,(h5 q e).2.1⟩
theorem Bch.off (h:Bch D B lo b g k S w):∀ q,q<B→¬B3 b g k q:=fun q hq hx=>by
 have h1:=h.blo
 have:=(h.b3 q hx).1
 omega
theorem Bch.offk (h:Bch D B lo b g k S w):∀ q,B3 b g k q→¬(q<B∨D q):=fun q hx hq=>hq.elim (fun h1=>h.off q h1 hx) fun h1=>(h.dB q h1).2.2 hx
theorem Bch.keep (h:Bch D B lo b g k S w) (hB:Below B w W) (hr:∀ q,B3 b g k q∨D q→W.heap[q]?=w.heap[q]?):Bch D B lo b g k S W:=by
 have hs:=hB.size
 have hx:Qb (YU B D) w W:=YU.keep fun q hq h1=>h1.elim (fun h1=>hB.block q h1) fun h1=>hr q (.inr h1)
 obtain⟨A1,n1,c1,v2,c3,A4,c4,hro,ho,⟨ps,e,hw,hp⟩,h1,h4⟩:=h.ex
 refine⟨h.lob,h.blo,fun q hq=>⟨(h.dB q hq).1,by have:=(h.dB q hq).2.1;omega,(h.dB q hq).2.2⟩,A1,n1,c1,v2,c3,A4,c4,(hr _ (.inl (.inl rfl))).trans hro,zO ho (fun q hq=>by cases hq;exact hr _ (.inl (.inr (.inl rfl)))),⟨ps,e,?_,fun p hpm=>⟨(hp p hpm).1,fun C hC=>(hp p hpm).2 C (hx.trans hC fun _ _ h=>h)⟩⟩,h1.below hB,h4.below hB⟩
 rcases hw with ⟨e,hm,A,e2,hr⟩|⟨q,e,e2,how⟩
 ·exact .inl ⟨e,hm,A,e2,hr.below hB⟩
 ·exact .inr ⟨q,e,e2,zO how fun q' hq'=>by
   rw[e2] at hq'
   cases hq'
   exact hr q (.inl (.inr (.inr e)))⟩
theorem Bch.ext (h:Bch D B lo b g k S w) (hx:Ext w W):Bch D B lo b g k S W:=by
 have h6:=h.size.2.2.2.2.2.1
 have h1:=h.blo
 exact h.keep (Below.mono hx (by omega)) fun q hq=>Below.block hx q (hq.elim (fun h2=>(h.b3 q h2).2) fun h2=>(h.dB q h2).2.1)
theorem Bch.keepX {X:Nat→Prop} (h:Bch D B lo b g k S w) (hB:Below B w W) (hr:∀ q,q<w.heap.size→¬X q→W.heap[q]?=w.heap[q]?) (hX:∀ q,B3 b g k q∨D q→¬X q):Bch D B lo b g k S W:=
 h.keep hB fun q hq=>hr q (hq.elim (fun h2=>(h.b3 q h2).2) fun h2=>(h.dB q h2).2.1) (hX q hq)
theorem Bch.mono {D':Nat→Prop} (h:Bch D B lo b g k S w) (hD:∀ q,D q→D' q) (hB:∀ q,D' q→lo≤q∧q<w.heap.size∧¬B3 b g k q):Bch D' B lo b g k S w:=by
 obtain⟨A1,n1,c1,v2,c3,A4,c4,hro,ho,hw,h1,h4⟩:=h.ex
 exact⟨h.lob,h.blo,hB,A1,n1,c1,v2,c3,A4,c4,hro,ho,hw.mono hD,h1,h4⟩
theorem Bch.count (h:Bch D B lo b g k S w) {a:Nat} (ha:a<256) (x:UInt8):Bch D B lo b g k (qw S (S.now.set a x)) (w.setCell ⟨g,a,none⟩ (bv x))∧qY lo b g k w (w.setCell ⟨g,a,none⟩ (bv x)):=by
 obtain⟨hlb,_,hlg,_,hgb,_,h5⟩:=h.size
 have hbl:=h.blo
 have hkd:=h.offk
 obtain⟨A1,n1,c1,v2,c3,A4,c4,hr,ho,⟨ps,e,hw,hp⟩,h1,h4⟩:=h.ex
 have hK:qY lo b g k w (w.setCell ⟨g,a,none⟩ (bv x)):=⟨Below.setCell (Below.refl _ _) (p:=⟨g,a,none⟩) hlg _,fun q _ hn=>zJ _ _ _ _ fun e=>hn (.inr (.inl e))⟩
 have hX:Qb (YU B D) w (w.setCell ⟨g,a,none⟩ (bv x)):=YU.keep fun q _ hq=>zJ _ _ _ _ fun e=>hkd g (.inr (.inl rfl)) (by have e':q=g:=e;exact e' ▸ hq)
 have hB:Below B w (w.setCell ⟨g,a,none⟩ (bv x)):=Below.setCell (Below.refl _ _) (p:=⟨g,a,none⟩) (by show B≤g;omega) _
 refine⟨⟨hlb,hbl,fun q hq=>by simpa using h.dB q hq,A1,n1,c1,v2,c3,A4,c4,(zJ _ _ _ _ fun e=>hgb e.symm).trans hr,UY ho ha x,⟨ps,e,?_,fun p hpm=>⟨(hp p hpm).1,fun C hC=>(hp p hpm).2 C (hX.trans hC fun _ _ h=>h)⟩⟩,h1.below hB,h4.below hB⟩,hK⟩
 rcases hw with ⟨e,hm,A,e2,hr⟩|⟨q,e,e2,how⟩
 ·exact .inl ⟨e,hm,A,e2,hr.below hB⟩
 ·exact .inr ⟨q,e,e2,zO how fun q' hq'=>by
   rw[e2] at hq'
   cases hq'
   exact zJ _ _ _ _ (h5 q e).2.2.2⟩
theorem qds (ps:List ((Int×List UInt8)×Value)) (p:(Int×List UInt8)×Value):ZB (ps++[p])=ZB ps++[.int .i64 p.1.1,p.2]:=by
 induction ps with
 |nil=>rfl
 |cons a r ih=>simp[ZB,ih]
theorem Bch.sto (h:Bch D B lo b g k S w):∃ A1 n1 c1 A2 n2 c2 c3 A4 c4,w.heap[b]?=some (.cells #[.slice A1 n1 c1,.slice A2 n2 c2,.slice (some ⟨g,0,none⟩) 256 c3,.slice A4 256 c4] 191 (0,0))∧qP w w.heap.size (.slice A1 n1 c1) (.slice A2 n2 c2) (.slice (some ⟨g,0,none⟩) 256 c3) (.slice A4 256 c4) S:=by
 have h6:=h.size.2.2.2.2.2.1
 have hbl:=h.blo
 obtain⟨A1,n1,c1,v2,c3,A4,c4,hr,ho,⟨ps,e,hw,hp⟩,h1,h4⟩:=h.ex
 have hv:∃ A2 n2 c2,v2=.slice A2 n2 c2∧Wrs w w.heap.size (.slice A2 n2 c2) S.ws:=by
  rcases hw with ⟨_,hm,A,rfl,hrd⟩|⟨q,_,_,how⟩
  ·exact⟨A,_,_,rfl,ps,e,⟨A,_,rfl,zM _,hm,hrd.more (by omega)⟩,fun p hpm=>⟨(hp p hpm).1,(hp p hpm).2 w (Qb.refl _ _)⟩⟩
  ·obtain⟨A,c,rfl,hc1,hc2⟩:=qv how
   exact⟨A,_,_,rfl,ps,e,⟨A,c,rfl,hc1,hc2,Rd.of_own how⟩,fun p hpm=>⟨(hp p hpm).1,(hp p hpm).2 w (Qb.refl _ _)⟩⟩
 obtain⟨A2,n2,c2,rfl,hW⟩:=hv
 exact⟨A1,n1,c1,A2,n2,c2,c3,A4,c4,hr,h1.more (by omega),hW,Bys.of_own ho,h4.more (by omega)⟩
end
set_option maxRecDepth 100000 in
theorem qfH (x:It) (hx:ZY x) (hb:itB x.r x.val.length=true) (A:Option Addr) (c:Nat) (w:World) (h:Bys w w.heap.size (.slice A x.val.length c) x.val) :
  Calls Tryz.prog 177 #[Vs x.k x.i x.o x.r A x.val.length c] w (zo (IsB0 w.heap.size (12+x.val.length) (Jh x)) w):=by
 have HC:=zH (fun W=>jP x.k x.i x.o x.r A x.val.length c W)
 rw[hb,show jX true=0 from rfl] at HC
 obtain⟨kk,ki,ko,kr,l⟩:=x
 obtain⟨⟨hk1,hk2⟩,⟨hi1,hi2⟩,⟨ho1,ho2⟩,⟨hr1,hr2⟩,hl⟩:=hx
 dsimp only at *
 clear hb
 obtain⟨k,rfl⟩:=Int.eq_ofNat_of_zero_le hk1
 obtain⟨i,rfl⟩:=Int.eq_ofNat_of_zero_le hi1
 obtain⟨o,rfl⟩:=Int.eq_ofNat_of_zero_le ho1
 obtain⟨r,rfl⟩:=Int.eq_ofNat_of_zero_le hr1
 have HB:Hid (Jh ⟨k,i,o,r,l⟩=[[UInt8.ofNat k],qB i 4,qB o 4,qB r 2,[UInt8.ofNat l.length],l].flatten):=by
  refine zH ?_
  simp[Jh]
 have hkb:bv (UInt8.ofNat k)=.int .u8 (k:Int):=by simp[bv];omega
 have hlb:bv (UInt8.ofNat l.length)=.int .u8 ((l.length:Nat):Int):=by simp[bv];omega
 have HL:Hid ([[UInt8.ofNat k],qB i 4,qB o 4,qB r 2,[UInt8.ofNat l.length],l].flatten.length=12+l.length):=by
  refine zH ?_
  simp[zQ]
  omega
 have hcv:IntKind.u8.wrap ((l.length:Nat):Int)=((l.length:Nat):Int):=by simp[IntKind.wrap,IntKind.bits,IntKind.signed];omega
 replace hkb:=zH hkb
 replace hlb:=zH hlb
 replace h:=zH h
 rw[HB.out]
 clear HB
 generalize hFL:[[UInt8.ofNat k],qB i 4,qB o 4,qB r 2,[UInt8.ofNat l.length],l]=FL at *
 go_enter Tryz.func177,Tryz.ntmps177
 go_wp2_with fail
 generalize hw1:World.alloc w _=w1
 have x1:Ext w w1:=by rw[←hw1];exact zN _ _
 have r1:w1.heap[w.heap.size]?=some (.cells #[.int .u8 k,.int .u32 i,.int .u32 o,.int .i64 r,.slice A l.length c] 68 (0,0)):=by rw[←hw1];exact zI _ _ _ rfl
 clear hw1
 refine(HC.out w1).mono ?_
 rintro e w2 ⟨rfl,hB⟩
 have x2:Ext w w2:=Ext.trans x1 hB
 have r2:=qb r1 hB
 have k2:=qa r2
 clear hB r1 x1 HC
 go_wp2_with fail
 refine(qcM r (by omega) _).mono ?_
 rintro e w3 ⟨u,rfl,⟨u2,rfl,A2,c2,rfl,hb2,hf2⟩,hB⟩
 have x3:Ext w w3:=Ext.trans x2 hB
 have r3:=qb r2 hB
 have z3:=x2.size
 clear hB k2 r2 x2
 go_wp2_with fail
 have hE:∀ W,Ext w3 W→∀ j,W.cell? ⟨w.heap.size,j,none⟩=#[.int .u8 k,.int .u32 i,.int .u32 o,.int .i64 r,.slice A l.length c][j]?:=fun W h=>qa (qb r3 h)
 refine zD (qF [(3,jt w3.heap.size 1 5 #[.int .u8 k]),(7,Kx w3.heap.size 4 (qB i 4)),(11,Kx w3.heap.size 4 (qB o 4)),(17,jt w3.heap.size 1 5 #[.int .u8 (l.length:Nat)]),(20,vx w3.heap.size 6 26 (JH FL)),(21,Kx w3.heap.size (12+l.length) FL.flatten)]) 22 (by kernel_rfl) (by kernel_rfl) (by kernel_rfl) (by decide) (by kernel_rfl) (by kernel_rfl) ?st ?walk
 case st=>exact Za (by simp only[List.forall_mem_cons];exact⟨JD _ _ _ _,js _ _ _,js _ _ _,JD _ _ _ _,vX (JH.stable _),js _ _ _,fun _ h=>by cases h⟩)
 case walk =>
  intro K hK
  dsimp only[List.take]
  repeat ((first|(refine qI ?_ (by rfl) (by rfl) (fun W hW _=>⟨W,?_,Ext.refl W⟩) ?_;rotate_left;(go_simp<;>with_reducible rfl))|(refine qT (by rfl) ?_));try simp only[Act.put,qj,qf,qc,qg,qN,Qi,qf,zA,zB,zC])
  refine Qz (jt w3.heap.size 1 5 #[.int .u8 k]) (by rfl) (by rfl) (fun W hW _=>?_) (fun (p3:Nat)=>?_)
  ·refine kR ?_ hW.size
   go_simp
  simp only[Act.put,qj,qf,qc,qg,qN,Qi,qf,zA,zB,zC]
  repeat ((first|(refine qI ?_ (by rfl) (by rfl) (fun W hW _=>⟨W,?_,Ext.refl W⟩) ?_;rotate_left;(go_simp<;>with_reducible rfl))|(refine qT (by rfl) ?_));try simp only[Act.put,qj,qf,qc,qg,qN,Qi,qf,zA,zB,zC])
  refine Qz (Kx w3.heap.size 4 (qB i 4)) (by rfl) (by rfl) (fun W hW _=>?_) (fun p7=>?_)
  ·refine QT ?_ ((KL i (by omega) W).mono fun e w' h=>?_)
   ·go_simp
   obtain⟨u,rfl,⟨A,c,rfl,h1,h2⟩,h3⟩:=h
   exact⟨(A,c),rfl,⟨h1,h2.mono hW.size⟩,h3⟩
  obtain⟨A7,c7⟩:=p7
  simp only[Act.put,qj,qf,qc,qg,qN,Qi,qf,zA,zB,zC]
  repeat ((first|(refine qI ?_ (by rfl) (by rfl) (fun W hW _=>⟨W,?_,Ext.refl W⟩) ?_;rotate_left;(go_simp<;>with_reducible rfl))|(refine qT (by rfl) ?_));try simp only[Act.put,qj,qf,qc,qg,qN,Qi,qf,zA,zB,zC])
  refine Qz (Kx w3.heap.size 4 (qB o 4)) (by rfl) (by rfl) (fun W hW _=>?_) (fun p11=>?_)
  ·refine QT ?_ ((KL o (by omega) W).mono fun e w' h=>?_)
   ·go_simp
   obtain⟨u,rfl,⟨A,c,rfl,h1,h2⟩,h3⟩:=h
   exact⟨(A,c),rfl,⟨h1,h2.mono hW.size⟩,h3⟩
  obtain⟨A11,c11⟩:=p11
  simp only[Act.put,qj,qf,qc,qg,qN,Qi,qf,zA,zB,zC]
  repeat ((first|(refine qI ?_ (by rfl) (by rfl) (fun W hW _=>⟨W,?_,Ext.refl W⟩) ?_;rotate_left;(go_simp<;>with_reducible rfl))|(refine qT (by rfl) ?_));try simp only[Act.put,qj,qf,qc,qg,qN,Qi,qf,zA,zB,zC])
  refine Qz (jt w3.heap.size 1 5 #[.int .u8 (l.length:Nat)]) (by rfl) (by rfl) (fun W hW _=>?_) (fun (p17:Nat)=>?_)
  ·refine kR ?_ hW.size
   go_simp
  simp only[Act.put,qj,qf,qc,qg,qN,Qi,qf,zA,zB,zC]
  repeat ((first|(refine qI ?_ (by rfl) (by rfl) (fun W hW _=>⟨W,?_,Ext.refl W⟩) ?_;rotate_left;(go_simp<;>with_reducible rfl))|(refine qT (by rfl) ?_));try simp only[Act.put,qj,qf,qc,qg,qN,Qi,qf,zA,zB,zC])
  refine Qz (vx w3.heap.size 6 26 (JH FL)) (by rfl) (by rfl) (fun W hW hp=>?_) (fun (p20:Nat)=>?_)
  ·obtain⟨f3,_⟩:W.heap[p3]?=some (.cells #[.int .u8 k] 5 (0,0))∧w3.heap.size≤p3:=(hp 3 (by decide)).1
   obtain⟨f7,_⟩:Bys W W.heap.size (.slice A7 4 c7) (qB i 4)∧_:=(hp 7 (by decide)).1
   obtain⟨f11,_⟩:Bys W W.heap.size (.slice A11 4 c11) (qB o 4)∧_:=(hp 11 (by decide)).1
   obtain⟨f17,_⟩:W.heap[p17]?=some (.cells #[.int .u8 (l.length:Nat)] 5 (0,0))∧w3.heap.size≤p17:=(hp 17 (by decide)).1
   have hR:JH FL [.slice (some ⟨p3,0,none⟩) 1 1,.slice A7 4 c7,.slice A11 4 c11,.slice A2 2 c2,.slice (some ⟨p17,0,none⟩) 1 1,.slice A l.length c] W:=by
    subst hFL
    rw[←hkb.out] at f3
    rw[←hlb.out] at f17
    refine⟨rfl,fun j v m hv hl=>?_⟩
    rcases j with _|_|_|_|_|_|j
    ·cases hv;cases hl;exact Bys.lit (l:=[UInt8.ofNat k]) f3 (by simp[maxLen])
    ·cases hv;cases hl;exact f7
    ·cases hv;cases hl;exact f11
    ·cases hv;cases hl;exact(hb2.below hW).more hW.size
    ·cases hv;cases hl;exact Bys.lit (l:=[UInt8.ofNat l.length]) f17 (by simp[maxLen])
    ·cases hv;cases hl;exact(h.out.below (Ext.trans x3 hW)).more (Ext.trans x3 hW).size
    ·simp at hv
   refine KP (cs:=#[.slice (some ⟨p3,0,none⟩) 1 1,.slice A7 4 c7,.slice A11 4 c11,.slice A2 2 c2,.slice (some ⟨p17,0,none⟩) 1 1,.slice A l.length c]) ?_ hW.size rfl ?_
   ·go_simp
   ·exact JH.stable _ _ _ _ (zN _ _) hR
  simp only[Act.put,qj,qf,qc,qg,qN,Qi,qf,zA,zB,zC]
  refine Qz (Kx w3.heap.size (12+l.length) FL.flatten) (by rfl) (by rfl) (fun W hW hp=>?_) (fun p21=>?_)
  ·obtain⟨_,cs,hcs,hrow,hR⟩:=(hp 20 (by decide)).1
   have hFn:FL.length=6:=by rw[←hFL];rfl
   refine QT ?_ ((Vp (some ⟨p20,0,none⟩) 6 6 cs.toList FL (by simpa using hcs) hFn W (Rd.row hrow 6 hcs) (fun i v l h1 h2=>hR.2 i v l h1 h2) (by omega) (by rw[HL.out];omega)).mono fun e w' h=>?_)
   ·go_simp
   rw[HL.out] at h
   exact KY h hW.size
  obtain⟨A21,c21⟩:=p21
  simp only[Act.put,qj,qf,qc,qg,qN,Qi,qf,zA,zB,zC]
  repeat ((first|(refine qI ?_ (by rfl) (by rfl) (fun W hW _=>⟨W,?_,Ext.refl W⟩) ?_;rotate_left;(go_simp<;>with_reducible rfl))|(refine qT (by rfl) ?_));try simp only[Act.put,qj,qf,qc,qg,qN,Qi,qf,zA,zB,zC])
  refine Zq (hK _ _ fun W hW hF=>?_)
  obtain⟨f21,g21⟩:Bys W W.heap.size (.slice A21 (12+l.length) c21) FL.flatten∧Zm w3.heap.size (.slice A21 (12+l.length) c21):=(hF 21).1
  clear hF hK hE
  have x4:Ext w W:=x3.trans hW
  dsimp only[List.drop]
  go_wp2
  refine bodyPost_ret (v:=.tuple #[.slice A21 (12+l.length) c21,.int .i64 0]) (by simp[results,Tryz.results177,go_sem]) rfl ⟨_,rfl,⟨_,rfl,A21,c21,rfl,f21,g21.mono (by have:=x3.size;omega)⟩,x4⟩
def Xq (n:Nat) (b:List UInt8):List UInt8:=b++List.replicate (n-b.length) 0
theorem VZ {n:Nat} {b:List UInt8} (h:b.length≤n):(Xq n b).length=n:=by simp[Xq];omega
theorem pad_row (n:Nat) (b:List UInt8):List.take 0 (List.map bv (List.replicate n 0)).toArray.toList++List.map bv b++List.drop (0+b.length) (List.map bv (List.replicate n 0)).toArray.toList=(Xq n b).map bv:=by
 simp[Xq,List.map_replicate,List.drop_replicate]
def jh (b:List UInt8):List UInt8:=qB (crc (Xq 124 b)) 4++Xq 124 b
theorem vK {b:List UInt8} (h:b.length≤124):(jh b).length=128:=by unfold jh;rw[List.length_append,zQ,VZ h]
set_option maxRecDepth 100000 in
theorem seal_any (A:Option Addr) (c:Nat) (b:List UInt8) (hl:b.length≤124) (w:World) (h:Bys w w.heap.size (.slice A b.length c) b) :
  Calls Tryz.prog 178 #[.slice A b.length c] w (zo (IsB0 w.heap.size 128 (jh b)) w):=by
 have hmk:∀ w,(Instr.makeSlice 26 (.int .i64 124) (.int .i64 124)).run Tryz.prog w=.ok (.slice (some ⟨w.heap.size,0,none⟩) 124 124) (w.alloc (.cells ((List.replicate 124 (0:UInt8)).map bv).toArray 5)):=fun _=>by kernel_rfl
 have hsz:(Tryz.prog.info? 5).map (·.size)=some 1:=by kernel_rfl
 have hcr:crc (Xq 124 b)<4294967296:=crc_lt _
 have hd:decide ((b.length:Int)>124)=false:=decide_eq_false (by omega)
 replace h:=zH h
 go_enter Tryz.func178,Tryz.ntmps178
 go_wp2_with fail
 generalize hw1:World.alloc w _=w1
 have x1:Ext w w1:=by rw[←hw1];exact zN _ _
 have r1:w1.heap[w.heap.size]?=some (.cells ((List.replicate 124 (0:UInt8)).map bv).toArray 5 (0,0)):=by rw[←hw1];exact zI _ _ _ rfl
 clear hw1 hmk
 have hcp:=Tj (P:=Tryz.prog) w1 26 26 3 5 w.heap.size 0 124 124 A c b _ _ Tryz.underlying26 hsz r1 (h.out.below x1) hl (by simp;omega)
 rw[hcp]
 clear hcp
 have r2:=setRow_heap w1 w.heap.size _ (List.take 0 (List.map bv (List.replicate 124 0)).toArray.toList++List.map bv b++List.drop (0+b.length) (List.map bv (List.replicate 124 0)).toArray.toList).toArray _ _ r1
 have x2:Below w.heap.size w (w1.setRow w.heap.size (List.take 0 (List.map bv (List.replicate 124 0)).toArray.toList++List.map bv b++List.drop (0+b.length) (List.map bv (List.replicate 124 0)).toArray.toList).toArray):=
  Below.grown x1 (Tn _ _ _) x1.size (fun g e=>by cases e;exact zM _)
 generalize hw2:w1.setRow w.heap.size (List.take 0 (List.map bv (List.replicate 124 0)).toArray.toList++List.map bv b++List.drop (0+b.length) (List.map bv (List.replicate 124 0)).toArray.toList).toArray=w2 at *
 rw[pad_row] at r2
 have hp:∀ W,Ext w2 W→Bys W W.heap.size (.slice (some ⟨w.heap.size,0,none⟩) 124 124) (Xq 124 b):=fun W hW=>by
  refine⟨_,124,by rw[VZ hl],Nat.le_of_eq (VZ hl),by unfold maxLen;omega,by rw[VZ hl];simp[VZ hl],fun _=>⟨w.heap.size,0,rfl,?_,fun j u hu=>?_⟩⟩
  ·have:=(zG.1 (qb r2 hW)).1
   omega
  ·rw[Nat.zero_add,qa (qb r2 hW)]
   simpa using hu
 clear hw2 r1 x1
 have HO:=zH (fun W (hW:Ext w2 W)=>qbN _ (Xq 124 b) W (hp W hW) (by rw[VZ hl];omega))
 replace hp:=zH hp
 replace r2:=zH r2
 have hcn:((crc (Xq 124 b):Nat):Int)<4294967296:=by omega
 go_wp2_with fail
 refine(HO.out _ (Ext.refl _)).mono ?_
 rintro e w3 ⟨rfl,hB3⟩
 have x3:Ext w2 w3:=hB3
 clear hB3
 have HF:=zH (KL (crc (Xq 124 b)) hcr w3)
 go_wp2_with fail
 refine HF.out.mono ?_
 rintro e w4 ⟨u4,rfl,⟨A4,c4,rfl,hu4,hf4⟩,hB4⟩
 have x4:Ext w2 w4:=x3.trans hB4
 clear HF hB4
 go_wp2_with fail
 generalize hw5:World.alloc w4 _=w5
 have x45:Ext w4 w5:=by rw[←hw5];exact zN _ _
 have r5:w5.heap[w4.heap.size]?=some (.cells #[.slice A4 4 c4,.slice (some ⟨w.heap.size,0,none⟩) 124 124] 26 (0,0)):=by rw[←hw5];exact zI _ _ _ rfl
 clear hw5
 have x5:=x4.trans x45
 have hfl:[qB (crc (Xq 124 b)) 4,Xq 124 b].flatten=jh b:=by simp[jh]
 have HC:=Vp (some ⟨w4.heap.size,0,none⟩) 2 2 [.slice A4 4 c4,.slice (some ⟨w.heap.size,0,none⟩) 124 124] [qB (crc (Xq 124 b)) 4,Xq 124 b] rfl rfl w5 ⟨rfl,fun _=>⟨w4.heap.size,0,rfl,(zG.1 r5).1,fun j u hu=>by rw[Nat.zero_add,qa r5];simpa using hu⟩⟩
  (fun i v l hv hl'=>by
   rcases i with _|_|i
   ·cases hv;cases hl';exact(hu4.below x45).more x45.size
   ·cases hv;cases hl';exact hp.out w5 x5
   ·simp at hv) (by omega) (by rw[hfl,vK hl];omega)
 rw[hfl,vK hl] at HC
 replace HC:=zH HC
 replace hu4:=zH hu4
 go_wp2_with fail
 refine HC.out.mono ?_
 rintro e w6 ⟨u6,rfl,hown,hB6⟩
 have x6:Below w.heap.size w w6:=x2.trans (Below.mono (Ext.trans x5 hB6) x2.size)
 have HI:=zH ((IsB.of_own hown))
 go_wp2_with fail
 refine bodyPost_ret (v:=.tuple #[u6,.int .i64 0]) (by simp[results,Tryz.results178,go_sem]) rfl ⟨_,rfl,⟨u6,rfl,?_⟩,x6⟩
 obtain⟨A',c',h1,h2,h3⟩:=HI.out
 exact⟨A',c',h1,h2,h3.mono (by have:=x2.size;have:=x5.size;omega)⟩
def JA (lvl:Int) (n:Nat) (xs:List It) (k:Nat):List UInt8:=78 :: UInt8.ofNat lvl.toNat :: UInt8.ofNat n :: ZS (xs.take k)
theorem qeI (lvl:Int) (n:Nat) {xs:List It} {k:Nat} (hk:k<xs.length):JA lvl n xs (k+1)=JA lvl n xs k++Jh xs[k]:=by
 unfold JA ZS
 rw[List.take_succ_eq_append_getElem hk,List.flatMap_append]
 simp only[List.flatMap_cons,List.flatMap_nil,List.append_nil,List.cons_append]
theorem Ki (lvl:Int) (xs:List It):JA lvl xs.length xs xs.length=zP lvl xs:=by unfold JA zP;rw[List.take_length]
theorem Kj (lvl:Int) (n:Nat) {xs:List It} (k:Nat) (h:∀ x∈xs,ZY x) (hl:xs.length≤5):(JA lvl n xs k).length≤123:=by
 have h1:=XK (xs.take k) (fun x hx=>h x (List.mem_of_mem_take hx))
 have h2:(xs.take k).length≤xs.length:=by rw[List.length_take];omega
 unfold JA
 simp only[List.length_cons]
 omega
theorem jH {lvl:Int} {xs:List It} (h:Qe lvl xs=true):0≤lvl∧lvl<6∧xs.length≤5∧∀ x∈xs,itB x.r x.val.length=true:=by
 unfold Qe at h
 rw[Bool.and_eq_true] at h
 have h1:0≤lvl∧lvl<6∧xs.length≤5∧(0<lvl→xs.length≠0):=of_decide_eq_true h.1
 refine⟨h1.1,h1.2.1,h1.2.2.1,fun x hx=>?_⟩
 obtain⟨i,hi,rfl⟩:=List.getElem_of_mem hx
 have h2:=List.all_eq_true.1 h.2 i (List.mem_range.2 hi)
 unfold Uc at h2
 rw[zL hi] at h2
 simp only[Bool.and_eq_true] at h2
 exact h2.1.1
theorem GL {R:Ending→World→Prop} {a:Act} {W:World} {u v:Value} (h2:a.tmps[2]?.getD undef=u) (h3:a.tmps[3]?.getD undef=v) (hd:a.defers=[]) (hR:R (.returned (.tuple #[u,v])) W):bodyPost Tryz.prog Tryz.f167 R .ret a W:=by
 refine bodyPost_ret (v:=.tuple #[u,v]) ?_ hd hR
 simp[results,Tryz.results167,go_sem,h2,h3]
structure NWr (lvl:Int) (xs:List It) (w2:World) (v i:Value) (wr:World):Prop where
 ex:∃ k:Nat,k≤xs.length∧i=.int .i64 (k:Int)∧wr.ownsRow w2.heap.size 5 1 v (JA lvl xs.length xs k).length ((JA lvl xs.length xs k).map bv)∧Ext w2 wr
theorem qfX (lvl:Int) (A:Option Addr) (n c:Nat) (xs:List It) (w:World) (hx:Its w w.heap.size (.slice A n c) xs) (hm:Qe lvl xs=false) :
  Calls Tryz.prog 167 #[jg lvl A n c] w (Ret (.tuple #[.slice none 0 0,.int .i64 8]) w):=by
 have HC:=zH (fun W (hW:Ext w W)=>vW lvl A n c xs W (hx.ext hW))
 rw[hm,show jX false=8 from rfl] at HC
 clear hx
 go_enter Tryz.func167,Tryz.ntmps167
 go_wp2_with fail
 generalize hw1:World.alloc w _=w1
 have x1:Ext w w1:=by rw[←hw1];exact zN _ _
 clear hw1
 refine(HC.out w1 x1).mono ?_
 rintro e w2 ⟨rfl,hB⟩
 have x2:Below w.heap.size w w2:=Ext.trans x1 hB
 clear hB
 go_wp2
 exact GL rfl rfl rfl ⟨rfl,x2⟩
set_option maxRecDepth 100000 in
theorem GK (lvl:Int) (A:Option Addr) (n c:Nat) (xs:List It) (w:World) (hx:Its w w.heap.size (.slice A n c) xs) (hm:Qe lvl xs=true) (ho:∀ x∈xs,ZY x) :
  Calls Tryz.prog 167 #[jg lvl A n c] w (zo (IsB0 w.heap.size 128 (jh (zP lvl xs))) w):=by
 have HC:=zH (fun W (hW:Ext w W)=>vW lvl A n c xs W (hx.ext hW))
 rw[hm,show jX true=0 from rfl] at HC
 obtain⟨hl1,hl2,hl5,hib⟩:=jH hm
 obtain⟨hn,hcn,hcm,hA⟩:=hx.at_
 subst hn
 obtain⟨L,rfl⟩:=Int.eq_ofNat_of_zero_le hl1
 have hcv:IntKind.u8.wrap ((xs.length:Nat):Int)=((xs.length:Nat):Int):=by simp[IntKind.wrap,IntKind.bits,IntKind.signed];omega
 have hcl:IntKind.u8.wrap (L:Int)=(L:Int):=by simp[IntKind.wrap,IntKind.bits,IntKind.signed];omega
 have hcells:(JA (L:Int) xs.length xs 0).map bv=[.int .u8 78,.int .u8 (L:Int),.int .u8 (xs.length:Nat)]:=by
  simp[JA,ZS,bv]
  omega
 have hX:=zH hx
 have hO:=zH ho
 have hI:=zH hib
 clear hx ho hib hm
 go_enter Tryz.func167,Tryz.ntmps167
 go_wp2_with fail
 generalize hw1:World.alloc w _=w1
 have x1:Ext w w1:=by rw[←hw1];exact zN _ _
 have r1:w1.heap[w.heap.size]?=some (.cells #[.int .i64 L,.slice A xs.length c] 49 (0,0)):=by rw[←hw1];exact zI _ _ _ rfl
 clear hw1
 refine(HC.out w1 x1).mono ?_
 rintro e w2 ⟨rfl,hB⟩
 have x2:Below w.heap.size w w2:=Ext.trans x1 hB
 have r2:=qb r1 hB
 have k2:=qa r2
 clear hB r1 x1 HC
 go_upto_region 5 with fail
 generalize hw3:World.alloc w2 _=w3
 have x3:Ext w2 w3:=by rw[←hw3];exact zN _ _
 have o3:w3.ownsRow w2.heap.size 5 1 (.slice (some ⟨w2.heap.size,0,none⟩) 3 3) (JA (L:Int) xs.length xs 0).length ((JA (L:Int) xs.length xs 0).map bv):=by
  rw[hcells,←hw3]
  exact World.ownsRow_lit (base:=w2.heap.size) (e:=5) (size:=1) w2 #[.int .u8 78,.int .u8 (L:Int),.int .u8 (xs.length:Nat)] 3 (zM _) (by unfold maxLen;omega) rfl
 have r3:=qb r2 x3
 have k3:=qa r3
 clear hw3 k2 hcells
 have I0:NWr (L:Int) xs w2 (.slice (some ⟨w2.heap.size,0,none⟩) 3 3) (.int .i64 0) w3:=⟨0,Nat.zero_le _,rfl,o3,x3⟩
 replace I0:=zH I0
 clear o3
 go_wp2_with fail
 clear k3 r3
 go_loopw [5,26] (fun v i wr=>NWr (L:Int) xs w2 v i wr) (fun _ i _=>xs.length-(intOf i).toNat)
 case atStart=>exact I0.out
 case round =>
  obtain⟨k,hk,rfl,own,xr⟩:=hrel.ex
  clear hrel I0
  by_cases hlt:k<xs.length
  ·have hlt':=hlt
   obtain⟨b,off,rfl,hb⟩:=hA (by omega)
   have xw:Ext w wr:=Ext.trans x2 xr
   obtain⟨A',c',d0,d1,d2,d3,d4,hby⟩:=(hX.out.ext xw).item k hlt'
   have hok:=hO.out xs[k] (List.getElem_mem hlt')
   have hib:=hI.out xs[k] (List.getElem_mem hlt')
   have hsu:=zH (qeI (L:Int) xs.length hlt')
   have htl:=Kj (L:Int) xs.length k hO.out hl5
   have hvl:xs[k].val.length≤12:=hok.2.2.2.2
   have HW:=zH (fun W (hW:Ext wr W)=>qfH xs[k] hok hib A' c' W ((hby.below hW).more hW.size))
   generalize xs[k]=x at *
   replace own:=zH own
   replace htl:=zH htl
   clear hby hok hib
   go_wp2_with fail
   generalize hw4:World.alloc wr _=w4
   have x4:Ext wr w4:=by rw[←hw4];exact zN _ _
   clear hw4 d0 d1 d2 d3 d4
   refine(HW.out w4 x4).mono ?_
   rintro e w5 ⟨u,rfl,⟨u5,rfl,A5,c5,rfl,hb5,hf5⟩,hB⟩
   have x5:Ext wr w5:=x4.trans hB
   have own5:=QP own.out x5
   clear hB x4 own
   obtain⟨i0,hi,hz0,hz1,hz2⟩:=info_parts Tryz.info_u8
   obtain⟨A6,c6,e6,hc6,hm6,hr6⟩:=hb5
   simp only[Value.slice.injEq] at e6
   obtain⟨rfl,e7,rfl⟩:=e6
   go_wp2_with (at_builtin;refine qZ ?_)
   refine Qy.go (Qq _ rfl (.tmp 35) (.tmp 36) 26 rfl w2.heap.size 5 i0 (.int .u8 0) 1 1 Tryz.underlying26 hi hz0 hz1 hz2 rfl (by decide) _ _ _ rfl own5 w5.heap.size A5 _ c5 ((Jh x).map bv) rfl hr6 (Xy _) (by have:=htl.out;omega) (by decide) (Nat.le_trans xr.size x5.size) ?_)
   intro v8 w8 own8 _ hB8 _
   have IR:NWr (L:Int) xs w2 v8 (.int .i64 ((k:Int)+1)) w8:=⟨k+1,hlt',rfl,by
    rw[hsu.out,List.map_append,List.length_append]
    exact own8,Below.trans (Ext.trans xr x5) hB8⟩
   replace IR:=zH IR
   clear own8 hB8 hi hz0 hz1 hz2 own5
   go_wp2_with fail
   refine⟨IR.out,?_⟩
   simp[intOf]
   omega
  ·obtain rfl:k=xs.length:=by omega
   rw[Ki] at own
   have hl3:(zP (L:Int) xs).length≤124:=by
    have:=Kj (L:Int) xs.length xs.length hO.out hl5
    rw[Ki] at this
    omega
   obtain⟨A6,c6,e6,hc6,hm6,hr6⟩:=Bys.of_own own
   have hby:=Bys.of_own own
   subst e6
   have HS:=zH (seal_any A6 c6 (zP (L:Int) xs) hl3 wr hby)
   have xw:Below w.heap.size w wr:=Ext.trans x2 xr
   clear hby hr6 own
   replace xr:=zH xr
   go_wp2_with fail
   refine HS.out.mono ?_
   rintro e w7 ⟨u,rfl,⟨u7,rfl,hI7⟩,hB⟩
   have x7:Below w.heap.size w w7:=xw.trans (Below.mono hB xw.size)
   have hI8:IsB0 w.heap.size 128 (jh (zP (L:Int) xs)) (.tuple #[u7,.int .i64 0]) w7:=by
    obtain⟨A',c',q1,q2,q3⟩:=hI7
    exact⟨u7,rfl,A',c',q1,q2,q3.mono xw.size⟩
   clear hB hI7
   replace hI8:=zH hI8
   go_wp2_with fail
   exact GL rfl rfl rfl ⟨_,rfl,hI8.out,x7⟩
end Go.Proofs.YtpbniokljofedaaGreat
