/- Texts AskR, FHas, TwinW, PCheck, FAsked, Copy, HeapC, joined. -/
import Derived.Laws.CopyRow
import Derived.Laws.IdiomCopy
import Derived.Lib.Walk
import Derived.Test.YtpbniokljofedaaGreatZF01
import Derived.Test.YtpbniokljofedaaGreatZF03
import Derived.Test.YtpbniokljofedaaGreatZF10
import Derived.Test.YtpbniokljofedaaGreatZF12
import Derived.Test.YtpbniokljofedaaGreatZF13
import Derived.Test.YtpbniokljofedaaGreatZF14
set_option linter.unusedSimpArgs false
set_option linter.unusedVariables false
set_option maxHeartbeats 8000000
namespace Go.Proofs.YtpbniokljofedaaGreat
open Go.RowKit
def zE (S:Sto) (a:Nat):Nat:=(S.now[a]?.getD 0).toNat
def Jd (S:Sto) (a:Int):Int:=if qm S=true then (if 8≤a∧a<256 then (if zE S a.toNat=0 then 6 else 0) else 2) else 8
theorem qdh {S:Sto} (h:qm S=false) (a:Int):Jd S a=8:=by unfold Jd;rw[h];simp
theorem qdi {S:Sto} (h:qm S=true) {a:Int} (ha:¬(8≤a∧a<256)):Jd S a=2:=by unfold Jd;rw[if_pos h,if_neg ha]
theorem qbU {S:Sto} (h:qm S=true) {a:Nat} (ha:8≤a) (ha2:a<256):Jd S (a:Int)=if zE S a=0 then 6 else 0:=by
 unfold Jd
 rw[if_pos h,if_pos (by omega),Int.toNat_natCast]
theorem Yi {S:Sto} {a:Int} (h:Jd S a=0):qm S=true∧∃ n:Nat,a=(n:Int)∧8≤n∧n<256∧zE S n≠0:=by
 unfold Jd at h
 split at h
 ·rename_i hm
  split at h
  ·rename_i hr
   split at h
   ·cases h
   ·rename_i hn
    obtain⟨n,hna⟩:=Int.eq_ofNat_of_zero_le (show 0≤a by omega)
    subst hna
    exact⟨hm,n,rfl,by omega,by omega,by simpa using hn⟩
  ·cases h
 ·cases h
theorem TG {S:Sto} (hS:qm S=true) {w:World} {B:Nat} {v:Value} (h:Bys w B v S.now):∃ b o c,v=.slice (some ⟨b,o,none⟩) 256 c∧b<B∧∀ a,a<256→w.cell? ⟨b,o+a,none⟩=some (.int .u8 (zE S a:Int)):=by
 obtain⟨-,-,hl,-⟩:=qU hS
 obtain⟨A,c,e,hc,hm,hr⟩:=h
 obtain⟨b,o,rfl,hb,hcell⟩:=hr.2 (by omega)
 rw[hl] at e
 exact⟨b,o,c,e,hb,fun a ha=>hcell a _ (by rw[List.getElem?_map,zL (by omega)];unfold zE;rw[zL (by omega)];rfl)⟩
set_option maxRecDepth 100000 in
theorem GU (A1:Option Addr) (n1 c1:Nat) (A2:Option Addr) (n2 c2:Nat) (A3:Option Addr) (n3 c3:Nat) (A4:Option Addr) (n4 c4:Nat) (S:Sto) (a:Int) (w:World) (h:qP w w.heap.size (.slice A1 n1 c1) (.slice A2 n2 c2) (.slice A3 n3 c3) (.slice A4 n4 c4) S) :
  Calls Tryz.prog 48 #[qX A1 n1 c1 A2 n2 c2 A3 n3 c3 A4 n4 c4,.int .i64 a] w (Ret (.int .i64 (Jd S a)) w):=by
 have HC:=zH (fun W (hx:Ext w W)=>jU A1 n1 c1 A2 n2 c2 A3 n3 c3 A4 n4 c4 S W (h.ext hx))
 replace h:=zH h
 go_enter Tryz.func48,Tryz.ntmps48
 go_wp2_with fail
 generalize hw1:(World.alloc w _)=w1
 have x1:Ext w w1:=by rw[←hw1];exact zN _ _
 have r1:w1.heap[w.heap.size]?=some (.cells #[.slice A1 n1 c1,.slice A2 n2 c2,.slice A3 n3 c3,.slice A4 n4 c4] 28 (0,0)):=by rw[←hw1];exact zI _ _ _ rfl
 clear hw1
 refine(HC.out w1 x1).mono ?_
 clear HC
 rintro e w2 ⟨rfl,hB⟩
 have x2:Ext w w2:=x1.trans hB
 have r2:=qb r1 hB
 clear hB r1 x1
 rcases hS:qm S with _|_
 ·have hq:=zH (qdh hS a)
  replace hS:=zH hS
  rw[jL rfl]
  go_wp2_with fail
  go_ret
  exact⟨by rw[hq.out];rfl,x2⟩
 ·rw[Jf rfl]
  by_cases hr:8≤a∧a<256
  ·obtain⟨n,hna⟩:=Int.eq_ofNat_of_zero_le (show 0≤a by omega)
   subst hna
   have hn8:8≤n:=by omega
   have hn256:n<256:=by omega
   have hq:=qbU hS hn8 hn256
   obtain⟨b,o,c,e3,hb,hcell⟩:=TG hS h.out.now
   have hcn:=Ext.cell x2 (hcell n hn256)
   generalize zE S n=nw at *
   cases e3
   have k2:=qa r2
   have d1:decide ((n:Int)<8)=false:=decide_eq_false (by omega)
   have d2:decide ((n:Int)≥256)=false:=decide_eq_false (by omega)
   clear hr hcell
   replace hS:=zH hS
   rcases Nat.eq_zero_or_pos nw with h0|h0
   ·have hz1:((nw:Int) == 0)=true:=by rw[beq_iff_eq];omega
    have hz2:decide (nw=0)=true:=decide_eq_true h0
    rw[if_pos h0] at hq
    replace hq:=zH hq
    replace h0:=zH h0
    go_wp2_with fail
    go_ret
    exact⟨by rw[hq.out];rfl,x2⟩
   ·have hz1:((nw:Int) == 0)=false:=by rw[beq_eq_false_iff_ne];omega
    have hz2:decide (nw=0)=false:=decide_eq_false (by omega)
    rw[if_neg (by omega)] at hq
    replace hq:=zH hq
    replace h0:=zH h0
    go_wp2_with fail
    go_ret
    exact⟨by rw[hq.out];rfl,x2⟩
  ·have hq:=zH (qdi hS hr)
   replace hS:=zH hS
   by_cases h8:a<8
   ·have d1:decide (a<8)=true:=decide_eq_true h8
    replace hr:=zH hr
    go_wp2_with fail
    go_ret
    exact⟨by rw[hq.out];rfl,x2⟩
   ·have d1:decide (a<8)=false:=decide_eq_false h8
    have d2:decide (a≥256)=true:=decide_eq_true (by omega)
    replace hr:=zH hr
    go_wp2_with fail
    go_ret
    exact⟨by rw[hq.out];rfl,x2⟩
set_option maxRecDepth 100000 in
theorem qdF (A1:Option Addr) (n1 c1:Nat) (A2:Option Addr) (n2 c2:Nat) (A3:Option Addr) (n3 c3:Nat) (A4:Option Addr) (n4 c4:Nat) (S:Sto) (a:Int) (w:World) (h:qP w w.heap.size (.slice A1 n1 c1) (.slice A2 n2 c2) (.slice A3 n3 c3) (.slice A4 n4 c4) S) :
  Calls Tryz.prog 129 #[qX A1 n1 c1 A2 n2 c2 A3 n3 c3 A4 n4 c4,.int .i64 a] w (Ret (.int .i64 (Jd S a)) w):=by
 have HC:=zH (fun W (hx:Ext w W)=>jU A1 n1 c1 A2 n2 c2 A3 n3 c3 A4 n4 c4 S W (h.ext hx))
 replace h:=zH h
 go_enter Tryz.func129,Tryz.ntmps129
 go_wp2_with fail
 generalize hw1:(World.alloc w _)=w1
 have x1:Ext w w1:=by rw[←hw1];exact zN _ _
 have r1:w1.heap[w.heap.size]?=some (.cells #[.slice A1 n1 c1,.slice A2 n2 c2,.slice A3 n3 c3,.slice A4 n4 c4] 28 (0,0)):=by rw[←hw1];exact zI _ _ _ rfl
 clear hw1
 refine(HC.out w1 x1).mono ?_
 clear HC
 rintro e w2 ⟨rfl,hB⟩
 have x2:Ext w w2:=x1.trans hB
 have r2:=qb r1 hB
 clear hB r1 x1
 rcases hS:qm S with _|_
 ·have hq:=zH (qdh hS a)
  replace hS:=zH hS
  rw[jL rfl]
  go_wp2_with fail
  go_ret
  exact⟨by rw[hq.out];rfl,x2⟩
 ·rw[Jf rfl]
  by_cases hr:8≤a∧a<256
  ·obtain⟨n,hna⟩:=Int.eq_ofNat_of_zero_le (show 0≤a by omega)
   subst hna
   have hn8:8≤n:=by omega
   have hn256:n<256:=by omega
   have hq:=qbU hS hn8 hn256
   obtain⟨b,o,c,e3,hb,hcell⟩:=TG hS h.out.now
   have hcn:=Ext.cell x2 (hcell n hn256)
   generalize zE S n=nw at *
   cases e3
   have k2:=qa r2
   have d1:decide ((n:Int)<8)=false:=decide_eq_false (by omega)
   have d2:decide ((n:Int)≥256)=false:=decide_eq_false (by omega)
   clear hr hcell
   replace hS:=zH hS
   rcases Nat.eq_zero_or_pos nw with h0|h0
   ·have hz1:((nw:Int) == 0)=true:=by rw[beq_iff_eq];omega
    have hz2:decide (nw=0)=true:=decide_eq_true h0
    rw[if_pos h0] at hq
    replace hq:=zH hq
    replace h0:=zH h0
    go_wp2_with fail
    go_ret
    exact⟨by rw[hq.out];rfl,x2⟩
   ·have hz1:((nw:Int) == 0)=false:=by rw[beq_eq_false_iff_ne];omega
    have hz2:decide (nw=0)=false:=decide_eq_false (by omega)
    rw[if_neg (by omega)] at hq
    replace hq:=zH hq
    replace h0:=zH h0
    go_wp2_with fail
    go_ret
    exact⟨by rw[hq.out];rfl,x2⟩
  ·have hq:=zH (qdi hS hr)
   replace hS:=zH hS
   by_cases h8:a<8
   ·have d1:decide (a<8)=true:=decide_eq_true h8
    replace hr:=zH hr
    go_wp2_with fail
    go_ret
    exact⟨by rw[hq.out];rfl,x2⟩
   ·have d1:decide (a<8)=false:=decide_eq_false h8
    have d2:decide (a≥256)=true:=decide_eq_true (by omega)
    replace hr:=zH hr
    go_wp2_with fail
    go_ret
    exact⟨by rw[hq.out];rfl,x2⟩
set_option maxRecDepth 100000 in
theorem qiy (v:Vol) (bi:Nat) (id:Int) (q1 q2 q3:Value) (w:World) (h:w.heap[bi]?=some (.cells #[.int .u32 id,q1,q2,q3] 40 (0,0))) :
  Calls Tryz.prog 96 #[jK v,.pointer (some ⟨bi,0,none⟩)] w (Ret (.bool (decide (v.id=id))) w):=by
 have ki:=qa h
 have zi:bi<w.heap.size:=(zG.1 h).1
 clear h
 go_enter Tryz.func96,Tryz.ntmps96
 by_cases he:v.id=id
 ·have h1:(v.id == id)=true:=by rw[beq_iff_eq];exact he
  rw[decide_eq_true he]
  replace he:=zH he
  go_wp2
  go_ret
  exact⟨rfl,zN _ _⟩
 ·have h1:(v.id == id)=false:=by rw[beq_eq_false_iff_ne];exact he
  rw[decide_eq_false he]
  replace he:=zH he
  go_wp2
  go_ret
  exact⟨rfl,zN _ _⟩
set_option maxRecDepth 100000 in
theorem qgs (A:Option Addr) (c:Nat) (vs:List Vol) (hl:vs.length≤16) (bi:Nat) (id:Int) (q1 q2 q3:Value) (w:World) (h:w.heap[bi]?=some (.cells #[.int .u32 id,q1,q2,q3] 40 (0,0))) (hr:Rd w w.heap.size 4 A vs.length (ZC vs)) :
  Calls Tryz.prog 46 #[.slice A vs.length c,.func (.func 96) #[] #[.pointer (some ⟨bi,0,none⟩)]] w (zo (fun u _=>VolIx vs id u) w):=by
 replace hr:=zH hr
 go_enter Tryz.func46,Tryz.ntmps46
 go_wp2_with fail
 go_loopw [8] (fun i wr=>∃ k:Nat,k≤vs.length∧i=.int .i64 (k:Int)∧Ext w wr∧∀ j (hj:j<vs.length),j<k→vs[j].id≠id) (fun i _=>vs.length-(intOf i).toNat)
 case atStart=>exact⟨0,Nat.zero_le _,rfl,Ext.refl _,fun j _ hj=>absurd hj (Nat.not_lt_zero _)⟩
 case round =>
  obtain⟨k,hk,rfl,xr,hno⟩:=hrel
  replace hno:=zH hno
  by_cases hlt:k<vs.length
  ·obtain⟨bv,offv,rfl,hbv,hcel⟩:=hr.out.2 (by omega)
   obtain⟨d0,d1,d2,d3⟩:=Yk vs k hlt
   replace d0:=Ext.cell xr (hcel _ _ d0)
   replace d1:=Ext.cell xr (hcel _ _ d1)
   replace d2:=Ext.cell xr (hcel _ _ d2)
   replace d3:=Ext.cell xr (hcel _ _ d3)
   have HAT:=zH (fun he=>qeN (id:=id) hlt he fun i hi hik=>hno.out i hi hik)
   have HNO:=zH (fun (he:vs[k].id≠id) j (hj:j<vs.length) (hjk:j<k+1)=>by
    rcases Nat.lt_or_ge j k with h1|h1
    ·exact hno.out j hj h1
    ·obtain rfl:j=k:=by omega
     exact he)
   generalize vs[k]=u at *
   rw[←Nat.add_assoc] at d1 d2 d3
   clear hcel
   have hw64:=zH (IntWalk.wrap64_in ((k:Int)+1) (by omega))
   have hV:=qiy u bi id q1 q2 q3 wr (qb h xr)
   go_wp2_with fail
   refine hV.mono ?_
   rintro e w2 ⟨rfl,hB⟩
   clear d0 d1 d2 d3 hV
   by_cases he:u.id=id
   ·rw[decide_eq_true he]
    have HQ:=zH (HAT.out he)
    clear HAT HNO
    replace he:=zH he
    go_wp2_with fail
    refine bodyPost_ret (v:=.int .i64 (k:Int)) ?_ rfl ⟨_,rfl,HQ.out,Ext.trans xr hB⟩
    simp[results,Tryz.results46,go_sem]
   ·rw[decide_eq_false he]
    have HQ:=zH (HNO.out he)
    clear HAT HNO
    replace he:=zH he
    have hw1:=hw64.out
    go_wp2_with fail
    refine⟨⟨k+1,hlt,rfl,Ext.trans xr hB,fun j hj hjk=>HQ.out j hj hjk⟩,?_⟩
    simp[intOf]
    omega
  ·obtain rfl:k=vs.length:=by omega
   have HQ:=zH (qan (id:=id) fun i hi=>hno.out i hi hi)
   go_wp2_with fail
   refine bodyPost_ret (v:=.int .i64 (-1)) ?_ rfl ⟨_,rfl,HQ.out,xr⟩
   simp[results,Tryz.results46,go_sem]
set_option maxRecDepth 100000 in
theorem vhas_any (A:Option Addr) (c:Nat) (vs:List Vol) (hl:vs.length≤16) (bi:Nat) (id:Int) (q1 q2 q3:Value) (w:World) (h:w.heap[bi]?=some (.cells #[.int .u32 id,q1,q2,q3] 40 (0,0))) (hr:Rd w w.heap.size 4 A vs.length (ZC vs)) :
  Calls Tryz.prog 95 #[.slice A vs.length c,.func (.func 96) #[] #[.pointer (some ⟨bi,0,none⟩)]] w (Ret (.bool (zm vs id).isSome) w):=by
 have HV:=zH (qgs A c vs hl bi id q1 q2 q3 w h hr)
 clear h hr
 go_enter Tryz.func95,Tryz.ntmps95
 go_wp2_with fail
 refine HV.out.mono ?_
 clear HV
 rintro e w2 ⟨u,rfl,hu,hB⟩
 rcases hu with ⟨j,hj,rfl,hv⟩|⟨rfl,hv⟩
 ·have e1:decide ((j:Int)≥0)=true:=decide_eq_true (by omega)
  have e2:decide ((0:Int)≤(j:Int))=true:=decide_eq_true (by omega)
  replace hv:=zH hv
  go_wp2
  go_ret
  exact⟨by rw[hv.out];rfl,hB⟩
 ·replace hv:=zH hv
  go_wp2
  go_ret
  exact⟨by rw[hv.out];rfl,hB⟩
theorem Tryz.info_bytes:(Tryz.prog.info? 26).map (fun i=>(i.zero,i.size,i.bytes))=some (some (.slice none 0 0),1,24):=by kernel_rfl
theorem Tryz.info_write:(Tryz.prog.info? 130).map (fun i=>(i.zero,i.size,i.bytes))=some (some (.agg #[.int .i64 0,.slice none 0 0]),2,32):=by kernel_rfl
abbrev gB (_:List UInt8) (u:Value):List Value:=[u]
theorem Rd.keepN {w W:World} {B size lo n c:Nat} {A:Option Addr} {xs:List Value} (h:Rd w B size A n xs) (hf:Zm lo (.slice A n c)) (hk:∀ q:Addr,lo≤q.block→q.block<B→W.cell? q=w.cell? q):Rd W B size A n xs:=
 ⟨h.1,fun hn=>by
  obtain⟨b,off,e,hb,hc⟩:=h.2 hn
  subst e
  exact⟨b,off,rfl,hb,fun j u hu=>(hk ⟨b,off+j,none⟩ (hf ⟨b,off,none⟩ n c rfl) hb).trans (hc j u hu)⟩⟩
theorem Bys.keepN {w W:World} {B lo:Nat} {v:Value} {l:List UInt8} (h:Bys w B v l) (hf:Zm lo v) (hk:∀ q:Addr,lo≤q.block→q.block<B→W.cell? q=w.cell? q):Bys W B v l:=by
 obtain⟨A,c,e,hc,hm,hr⟩:=h
 subst e
 exact⟨A,c,rfl,hc,hm,hr.keepN hf hk⟩
def qbR (S:Sto) (root next:Int) (dead:List Int) (w:World) (e:Ending) (w':World):Prop:=Below w.heap.size w w' ∧
 ((e=.returned (.int .i64 8)∧∀ vs,Ql S root next dead vs→∃ refs nodes,qR S (Qw root dead vs) refs nodes∧¬QD S refs) ∨
  (e=.returned (.int .i64 0)∧∃ vs refs nodes,Ql S root next dead vs∧qR S (Qw root dead vs) refs nodes∧QD S refs))
theorem GR {R:Ending→World→Prop} {a:Act} {W:World} {u:Value} (h2:a.tmps[2]?.getD undef=u) (hd:a.defers=[]) (hR:R (.returned u) W):bodyPost Tryz.prog Tryz.f20 R .ret a W:=by
 refine bodyPost_ret (v:=u) ?_ hd hR
 simp[results,Tryz.results20,go_sem,h2]
set_option maxRecDepth 100000 in
theorem qga (A1:Option Addr) (n1 c1:Nat) (A2:Option Addr) (n2 c2:Nat) (A3:Option Addr) (n3 c3:Nat) (A4:Option Addr) (n4 c4:Nat) (gen root next:Int) (A5:Option Addr) (c5:Nat) (S:Sto) (dead:List Int) (w:World)
  (h:qP w w.heap.size (.slice A1 n1 c1) (.slice A2 n2 c2) (.slice A3 n3 c3) (.slice A4 n4 c4) S) (hd:Zn w w.heap.size (.slice A5 dead.length c5) dead) :
  Calls Tryz.prog 20 #[.agg (qC (.slice A1 n1 c1) (.slice A2 n2 c2) (.slice A3 n3 c3) (.slice A4 n4 c4) gen root next (.slice A5 dead.length c5))] w (qbR S root next dead w):=by
 have HT:=zH (fun W (hx:Ext w W)=>kh A1 n1 c1 A2 n2 c2 A3 n3 c3 A4 n4 c4 gen root next A5 c5 S dead W (h.ext hx) (by
  obtain⟨A,c,e,q1,q2,q3⟩:=hd
  exact⟨A,c,e,q1,q2,(q3.below hx).more hx.size⟩))
 clear h hd
 go_enter Tryz.func20,Tryz.ntmps20
 go_wp2_with fail
 generalize hw1:World.alloc w _=w1
 have x1:Ext w w1:=by rw[←hw1];exact zN _ _
 clear hw1
 refine(HT.out w1 x1).mono ?_
 rintro e w2 ⟨hB,hQ⟩
 have x2:Below w.heap.size w w2:=Ext.trans x1 hB
 rcases hQ with ⟨rfl,hno⟩|⟨vs,refs,nodes,cb,ca,vv,rfl,hT⟩
 ·have HB:qbR S root next dead w (.returned (.int .i64 8)) w2:=⟨x2,.inl ⟨rfl,hno⟩⟩
  replace HB:=zH HB
  clear hno hB
  go_wp2_with fail
  exact GR rfl rfl HB.out
 ·have HB:qbR S root next dead w (.returned (.int .i64 0)) w2:=⟨x2,.inr ⟨rfl,vs,refs,nodes,hT.pool,hT.cnt,hT.enough⟩⟩
  replace HB:=zH HB
  clear hT hB
  go_wp2_with fail
  exact GR rfl rfl HB.out
theorem rowI_one (l:List Int):∀ u∈TN l,u.oneCell'=true:=by
 intro u hu
 obtain⟨a,_,rfl⟩:=List.mem_map.1 hu
 rfl
theorem Zn.of_own {w:World} {base:Nat} {v:Value} {l:List Int} (h:w.ownsRow base 3 1 v l.length (TN l)):Zn w w.heap.size v l:=by
 obtain⟨A,c,rfl,hc,hm⟩:=qv h
 refine⟨A,c,rfl,hc,hm,by simp,fun hn=>?_⟩
 rcases h.2 with ⟨_,h0⟩|⟨g,cap,cur,e,_,hr,_⟩
 ·omega
 ·simp only[Value.slice.injEq] at e
  obtain⟨rfl,-,rfl⟩:=e
  exact⟨g,0,rfl,(zG.1 hr).1,fun j u hu=>by have h5:=h.cells (g:=g) rfl j u hu;rw[Nat.zero_add];unfold Addr.add at h5;split at h5 <;> simp_all⟩
theorem Zn.more {w:World} {B B':Nat} {v:Value} {l:List Int} (h:Zn w B v l) (hb:B≤B'):Zn w B' v l:=by
 obtain⟨A,c,e,hc,hm,hr⟩:=h
 exact⟨A,c,e,hc,hm,hr.more hb⟩
theorem Zn.ext_ {w W:World} {v:Value} {l:List Int} (h:Zn w w.heap.size v l) (hx:Ext w W):Zn W W.heap.size v l:=by
 obtain⟨A,c,e,hc,hm,hr⟩:=h
 exact⟨A,c,e,hc,hm,(hr.below hx).more hx.size⟩
set_option maxRecDepth 100000 in
theorem qfz (v:Value) (l:List Int) (hl:l.length<1073741824) (w:World) (h:Zn w w.heap.size v l) :
  Calls Tryz.prog 56 #[v] w (zo (fun u w'=>w'.ownsRow w.heap.size 3 1 u l.length (TN l)) w):=by
 obtain⟨i0,hi,hz0,hz1,hz2⟩:=info_parts Tryz.info_int
 obtain⟨A,c,rfl,hc,hm,hr⟩:=h
 have qn:∀ (w:World) (a:Option Addr) (n c n' c':Nat),(binOp .eql 30 (.slice a n c) (.slice none n' c')).run Tryz.prog w=.ok (.bool a.isNone) w:=fun w a n c n' c'=>Lib.run_eql_slice_nil w _ _ a n c n' c' Tryz.underlying30
 rcases A with _|⟨b,off,p⟩
 ·have h0:l=[]:=by
   rcases l with _|⟨x,r⟩
   ·rfl
   ·obtain⟨b,off,h,_⟩:=hr.2 (by simp)
    cases h
  subst h0
  go_enter Tryz.func56,Tryz.ntmps56
  go_wp2
  go_ret
  exact⟨_,rfl,World.ownsRow_nil _ _ _ _,Below.refl _ _⟩
 ·go_enter Tryz.func56,Tryz.ntmps56
  go_wp2_with (at_builtin;refine qZ ?_)
  refine Qy.go (Qq _ rfl (.tmp 5) (.tmp 6) 30 rfl w.heap.size 3 i0 (.int .i64 0) 1 8 Tryz.underlying30 hi hz0 hz1 hz2 rfl (by decide) _ 0 [] rfl ?_ w.heap.size _ l.length c (TN l) (by exact rfl) ?_ (rowI_one l) (by omega) (by decide) (by simp) ?_)
  ·exact World.ownsRow_lit w #[] 0 (zM _) (by simp[maxLen]) rfl
  ·exact hr.keep fun p hp=>World.cell?_alloc_lt w _ p hp
  ·intro v' w' hown _ hb _
   simp only[Nat.zero_add,List.nil_append] at hown
   go_wp2
   go_ret
   exact⟨_,rfl,hown,Below.trans ((Below.refl _ _).alloc (zM _) _) hb⟩
def ZK (S:Sto) (next:Int) (v:Vol) (vs:List Vol) (refs:Nat→Nat):Int:=if v.id=0∨next≤v.id∨v.root<8∨256≤v.root then 2 else if (zm vs v.id).isSome=false∧16≤vs.length then 9 else
 if zE S v.root.toNat≤refs v.root.toNat then 6 else if okL S (-1) v.root=true then 0 else 8
def FAskQ (S:Sto) (root next:Int) (dead:List Int) (v:Vol) (w:World) (e:Ending) (w':World):Prop:=Below w.heap.size w w' ∧
 ((e=.returned (.int .i64 8)∧zF S root next dead) ∨
  ∃ vs refs nodes,Ql S root next dead vs∧qR S (Qw root dead vs) refs nodes∧QD S refs∧e=.returned (.int .i64 (ZK S next v vs refs)))
theorem JK {R:Ending→World→Prop} {a:Act} {W:World} {u:Value} (h4:a.tmps[4]?.getD undef=u) (hd:a.defers=[]) (hR:R (.returned u) W):bodyPost Tryz.prog Tryz.f53 R .ret a W:=by
 refine bodyPost_ret (v:=u) ?_ hd hR
 simp[results,Tryz.results53,go_sem,h4]
theorem vols_len {S:Sto} {root next:Int} {dead:List Int} {vs:List Vol} (h:Ql S root next dead vs):vs.length≤16:=by
 have hv:=h.vols
 unfold Xw at hv
 split at hv
 ·cases hv
 ·exact Vh _ _ _ _ (by simp) hv
set_option maxRecDepth 100000 in
theorem qfr (A1:Option Addr) (n1 c1:Nat) (A2:Option Addr) (n2 c2:Nat) (A3:Option Addr) (n3 c3:Nat) (A4:Option Addr) (n4 c4:Nat) (gen root next:Int) (A5:Option Addr) (c5:Nat) (S:Sto) (dead:List Int) (v:Vol)
  (hT:8≤v.root→v.root<256→zE S v.root.toNat≠0→okL S (-1) v.root=true) (w:World)
  (h:qP w w.heap.size (.slice A1 n1 c1) (.slice A2 n2 c2) (.slice A3 n3 c3) (.slice A4 n4 c4) S) (hd:Zn w w.heap.size (.slice A5 dead.length c5) dead) :
  Calls Tryz.prog 53 #[.agg (qC (.slice A1 n1 c1) (.slice A2 n2 c2) (.slice A3 n3 c3) (.slice A4 n4 c4) gen root next (.slice A5 dead.length c5)),jK v] w (FAskQ S root next dead v w):=by
 have HT:=zH (fun W (hx:Ext w W)=>kh A1 n1 c1 A2 n2 c2 A3 n3 c3 A4 n4 c4 gen root next A5 c5 S dead W (h.ext hx) (hd.ext_ hx))
 have HC:=zH (fun (hS:qm S=true) a hT W (hx:Ext w W)=>Xh A1 n1 c1 A2 n2 c2 A3 n3 c3 A4 n4 c4 S hS a hT W (h.ext hx))
 replace h:=zH h
 replace hT:=zH hT
 clear hd
 go_enter Tryz.func53,Tryz.ntmps53
 go_wp2_with fail
 generalize hw1:(World.alloc (World.alloc w _) _)=w1
 have x1:Ext w w1:=by rw[←hw1];exact(zN _ _).trans (zN _ _)
 have rp1:w1.heap[w.heap.size]?=some (.cells (qC (.slice A1 n1 c1) (.slice A2 n2 c2) (.slice A3 n3 c3) (.slice A4 n4 c4) gen root next (.slice A5 dead.length c5)) 32 (0,0)):=by rw[←hw1];exact(zK _ _ _ (by simp)).trans (zI _ _ _ rfl)
 have rv1:w1.heap[w.heap.size+1]?=some (.cells #[.int .u32 v.id,.int .i64 v.root,.bool v.fz,.int .u32 v.frm] 40 (0,0)):=by rw[←hw1];exact zI _ _ _ (by simp)
 clear hw1
 refine(HT.out w1 x1).mono ?_
 clear HT
 rintro e w2 ⟨hB,hQ⟩
 have x2:Ext w w2:=Ext.trans x1 hB
 have rp2:=qb rp1 hB
 have rv2:=qb rv1 hB
 have kp2:=qa rp2
 have kv2:=qa rv2
 have zv2:w.heap.size+1<w2.heap.size:=(zG.1 rv2).1
 clear hB x1 rp1 rv1
 rcases hQ with ⟨rfl,hno⟩|⟨vs,refs,nodes,cb,ca,vv,rfl,hTk⟩
 ·replace hno:=zH hno
  go_wp2_with fail
  exact JK rfl rfl ⟨x2,.inl ⟨rfl,hno.out⟩⟩
 ·have hvs:=vols_len hTk.pool
  have hQ:=fun E (hh:ZK S next v vs refs=E) W (hx:Ext w W)=>(⟨hx,.inr ⟨vs,refs,nodes,hTk.pool,hTk.cnt,hTk.enough,by rw[hh]⟩⟩:FAskQ S root next dead v w (.returned (.int .i64 E)) W)
  replace hQ:=zH hQ
  obtain⟨AV,cV,rfl,hcv1,hcv2⟩:=qv hTk.own
  have kc:w2.cell? ⟨cb,518,none⟩=some (.slice AV vs.length cV):=by rw[qa hTk.row];exact hTk.ar.vol
  have HH:=zH (vhas_any AV cV vs hvs (w.heap.size+1) v.id _ _ _ w2 rv2 (Rd.of_own hTk.own))
  replace hTk:=zH hTk
  by_cases h1:v.id=0
  ·have d1:(v.id == 0)=true:=by rw[beq_iff_eq];exact h1
   have d2:decide (v.id=0)=true:=decide_eq_true h1
   have hE:=zH (show ZK S next v vs refs=2 by unfold ZK;rw[if_pos (.inl h1)])
   replace h1:=zH h1
   go_wp2_with fail
   exact JK rfl rfl (hQ.out _ hE.out _ x2)
  have d1:(v.id == 0)=false:=by rw[beq_eq_false_iff_ne];exact h1
  have d2:decide (v.id=0)=false:=decide_eq_false h1
  by_cases h2:next≤v.id
  ·have d3:decide (v.id≥next)=true:=decide_eq_true h2
   have d4:decide (next≤v.id)=true:=decide_eq_true h2
   have hE:=zH (show ZK S next v vs refs=2 by unfold ZK;rw[if_pos (.inr (.inl h2))])
   replace h1:=zH h1
   replace h2:=zH h2
   go_wp2_with fail
   exact JK rfl rfl (hQ.out _ hE.out _ x2)
  have d3:decide (v.id≥next)=false:=decide_eq_false h2
  have d4:decide (next≤v.id)=false:=decide_eq_false h2
  by_cases h3:v.root<8
  ·have d5:decide (v.root<8)=true:=decide_eq_true h3
   have hE:=zH (show ZK S next v vs refs=2 by unfold ZK;rw[if_pos (.inr (.inr (.inl h3)))])
   replace h1:=zH h1
   replace h2:=zH h2
   replace h3:=zH h3
   go_wp2_with fail
   exact JK rfl rfl (hQ.out _ hE.out _ x2)
  have d5:decide (v.root<8)=false:=decide_eq_false h3
  by_cases h4:256≤v.root
  ·have d6:decide (v.root≥256)=true:=decide_eq_true h4
   have d7:decide (256≤v.root)=true:=decide_eq_true h4
   have hE:=zH (show ZK S next v vs refs=2 by unfold ZK;rw[if_pos (.inr (.inr (.inr h4)))])
   replace h1:=zH h1
   replace h2:=zH h2
   replace h3:=zH h3
   replace h4:=zH h4
   go_wp2_with fail
   exact JK rfl rfl (hQ.out _ hE.out _ x2)
  have d6:decide (v.root≥256)=false:=decide_eq_false h4
  have d7:decide (256≤v.root)=false:=decide_eq_false h4
  have hE1:=zH (show ZK S next v vs refs=if (zm vs v.id).isSome=false∧16≤vs.length then 9 else if zE S v.root.toNat≤refs v.root.toNat then 6 else if okL S (-1) v.root=true then 0 else 8 by unfold ZK;rw[if_neg (by rintro (h|h|h|h);exact h1 h;exact h2 h;exact h3 h;exact h4 h)])
  obtain⟨r,hr⟩:∃ r:Nat,v.root=(r:Int):=⟨v.root.toNat,by omega⟩
  have hr8:8≤r:=by omega
  have hr256:r<256:=by omega
  have hto:v.root.toNat=r:=by omega
  rw[hr] at rv2 kv2 d5 d6 d7
  rw[hto] at hE1 hT
  have hT2:=zH (hT.out (by omega) (by omega))
  clear hT h3 h4 hto
  replace h1:=zH h1
  replace h2:=zH h2
  replace hr:=zH hr
  go_wp2_with fail
  refine HH.out.mono ?_
  clear HH
  rintro e w3 ⟨rfl,hB⟩
  have x3:Ext w w3:=Ext.trans x2 hB
  have rp3:=qb rp2 hB
  have rv3:=qb rv2 hB
  have kc3:=Ext.cell hB kc
  have rc3:=qb hTk.out.row hB
  clear rp2 rv2 kp2 kv2 kc x2 hB
  have hsome:Hid ((zm vs v.id).isSome=(zm vs v.id).isSome):=zH rfl
  generalize (zm vs v.id).isSome=there at *
  have hkey:Hid (there=false∧16≤vs.length∨¬(there=false∧16≤vs.length)):=zH (Classical.em _)
  rcases hkey.out with ⟨rfl,h16⟩|h16
  ·have e1:decide ((vs.length:Int)≥16)=true:=decide_eq_true (by omega)
   have e2:decide (16≤vs.length)=true:=decide_eq_true h16
   have hE:=zH (show ZK S next v vs refs=9 by rw[hE1.out,if_pos ⟨rfl,h16⟩])
   replace h16:=zH h16
   clear hkey
   go_wp2_with fail
   exact JK rfl rfl (hQ.out _ hE.out _ x3)
  have hE2:=zH (show ZK S next v vs refs=if zE S r≤refs r then 6 else if okL S (-1) v.root=true then 0 else 8 by rw[hE1.out,if_neg h16])
  have HB:there=true∨(there=false∧decide ((vs.length:Int)≥16)=false∧decide (16≤vs.length)=false):=by
   cases there
   ·right
    have:¬16≤vs.length:=fun h=>h16 ⟨rfl,h⟩
    exact⟨rfl,decide_eq_false (by omega),decide_eq_false this⟩
   ·exact .inl rfl
  clear hE1 hkey h16
  obtain⟨b3,o3,d3',e3,hb3,hcell⟩:=TG hTk.out.pool.may h.out.now
  simp only[Value.slice.injEq] at e3
  obtain⟨rfl,rfl,rfl⟩:=e3
  have hcn:=Ext.cell x3 (hcell r hr256)
  have hrf:=(qa rc3 (6+r)).trans (hTk.out.ar.ref r hr256)
  have hwn:=zH (IntWalk.wrap64_in (zE S r:Int) (by have:=(S.now[r]?.getD 0).toNat_lt;unfold zE;omega))
  have hwn2:=zH (show IntKind.i64.wrap (zE S r:Int)=(zE S r:Int) by rw[IntKind.wrap_i64];have:=(S.now[r]?.getD 0).toNat_lt;unfold zE;omega)
  have HCK:=zH (fun (hne:zE S r≠0) W (hx:Ext w W)=>by
   obtain⟨a,ha,ht⟩:=JN (hT2.out hne)
   obtain rfl:r=a:=by have:=hr.out;omega
   exact HC.out hTk.out.pool.may r ht W hx)
  clear hcell HC
  generalize hnw:zE S r=nw at *
  generalize hrfe:refs r=rf at *
  have kp3:=qa rp3
  have kv3:=qa rv3
  have zv3:w.heap.size+1<w3.heap.size:=(zG.1 rv3).1
  replace hnw:=zH hnw
  replace hrfe:=zH hrfe
  have gP:∀ W,ql.r w3 W→∀ i,W.cell? ⟨w.heap.size,i,none⟩=(qC (.slice A1 n1 c1) (.slice A2 n2 c2) (.slice (some ⟨b3,o3,none⟩) 256 c3) (.slice A4 n4 c4) gen root next (.slice A5 dead.length c5))[i]?:=fun W h=>qa (qb rp3 h)
  have gV:∀ W,ql.r w3 W→∀ i,W.cell? ⟨w.heap.size+1,i,none⟩=#[.int .u32 v.id,.int .i64 (r:Int),.bool v.fz,.int .u32 v.frm][i]?:=fun W h=>qa (qb rv3 h)
  have gN:∀ W,ql.r w3 W→W.cell? ⟨b3,o3+r,none⟩=some (.int .u8 (nw:Int)):=fun W h=>Ext.cell h hcn
  have gR:∀ W,ql.r w3 W→W.cell? ⟨cb,6+r,none⟩=some (.int .i64 (rf:Int)):=fun W h=>Ext.cell h hrf
  clear rc3
  rcases HB with rfl|⟨rfl,e1,e2⟩
  all_goals
   go_upto_region 9 with fail
   refine qo (by kernel_rfl) ?_
   refine qO (w:=w3) ql (qF []) (List.replicate 16 true) 0 (by kernel_rfl) (by kernel_rfl) (by kernel_rfl) (by kernel_rfl) (by kernel_rfl) (by kernel_rfl) (by kernel_rfl) ?st (Rel.drew _ _) ?walk
   case st=>exact qk (fun _ h=>by cases h)
   case walk =>
    intro K hK
    dsimp only[qp,List.replicate]
    have hw':=hwn.out
    have hw2':=hwn2.out
    repeat ((first|(refine qe ?_ (by rfl) (by rfl) (fun W hW _=>⟨W,?_,Rel.refl _ W⟩) ?_;rotate_left;(go_simp<;>with_reducible rfl))|(refine qh (by rfl) ?_));try simp only[Act.put,qj,qf,qc,qg,zA,zB,zC])
    first
     |(refine qe (.pointer (some ⟨b3,o3+r,none⟩)) (by rfl) (by rfl) (fun W hW _=>⟨W,?_,Rel.refl _ W⟩) ?_
       ·go_simp
        intro hge
        exfalso
        omega
       simp only[Act.put,qj,qf,qc,qg,zA,zB,zC])
     |skip
    repeat ((first|(refine qe ?_ (by rfl) (by rfl) (fun W hW _=>⟨W,?_,Rel.refl _ W⟩) ?_;rotate_left;(go_simp<;>with_reducible rfl))|(refine qh (by rfl) ?_));try simp only[Act.put,qj,qf,qc,qg,zA,zB,zC])
    first
     |(refine qe (.pointer (some ⟨cb,6+r,none⟩)) (by rfl) (by rfl) (fun W hW _=>⟨W,?_,Rel.refl _ W⟩) ?_
       ·go_simp
        intro hge
        exfalso
        omega
       simp only[Act.put,qj,qf,qc,qg,zA,zB,zC])
     |skip
    repeat ((first|(refine qe ?_ (by rfl) (by rfl) (fun W hW _=>⟨W,?_,Rel.refl _ W⟩) ?_;rotate_left;(go_simp<;>with_reducible rfl))|(refine qh (by rfl) ?_));try simp only[Act.put,qj,qf,qc,qg,zA,zB,zC])
    refine qt (hK _ _ fun V hV hF=>?_)
    clear hF hK gP gV gN gR
    have hV:Ext w3 V:=hV
    dsimp only[List.drop,List.length_cons,List.length_nil,Nat.reduceAdd,Nat.reduceSub]
    have x4:=x3.trans hV
    have kp4:=qa (qb rp3 hV)
    have kv4:=qa (qb rv3 hV)
    have zv4:w.heap.size+1<V.heap.size:=(zG.1 (qb rv3 hV)).1
    clear rp3 rv3 hw'
    clear hw2'
    have hw2':=hwn2.out
    go_wp2
    refine Qm ?_
    by_cases hle:nw≤rf
    ·have f1:decide ((nw:Int)≤(rf:Int))=true:=decide_eq_true (by omega)
     have f2:decide (nw≤rf)=true:=decide_eq_true hle
     have hE:=zH (show ZK S next v vs refs=6 by rw[hE2.out,if_pos hle])
     replace hle:=zH hle
     go_wp2_with fail
     exact JK rfl rfl (hQ.out _ hE.out _ x4)
    ·have f1:decide ((nw:Int)≤(rf:Int))=false:=decide_eq_false (by omega)
     have f2:decide (nw≤rf)=false:=decide_eq_false hle
     have hE:=zH (show ZK S next v vs refs=0 by rw[hE2.out,if_neg hle,if_pos (hT2.out (by omega))])
     have HC4:=zH (HCK.out (by omega) V x4)
     replace hle:=zH hle
     clear HCK
     go_wp2_with fail
     refine HC4.out.mono ?_
     clear HC4
     rintro e w5 ⟨u,rfl,⟨m,rfl⟩,hB⟩
     go_wp2_with fail
     exact JK rfl rfl (hQ.out _ hE.out _ (x4.trans hB))
theorem Tn (w:World) (g:Nat) (cs:Array Value):w.grownBy (w.setRow g cs) (some g):=
 ⟨rfl,rfl,rfl,by simp,fun k _ hk=>setRow_other w g k _ (fun e=>hk (by simp[e]))⟩
theorem Tj {P:Program} (W:World) {B:Nat} (dT sT ty elem:TypeId) (g o dLen dCap:Nat) (A:Option Addr) (c:Nat) (l:List UInt8) (cur:Array Value) (t:TypeId)
  (hu:P.underlying dT=some (.slice elem)) (hs:(P.info? elem).map (·.size)=some 1) (hg:W.heap[g]?=some (.cells cur t (0,0))) (h:Bys W B (.slice A l.length c) l) (hd:l.length≤dLen) (hfit:o+l.length≤cur.size) :
  (Builtin.copy_ #[dT,sT] ty #[.slice (some ⟨g,o,none⟩) dLen dCap,.slice A l.length c]).run P W=.ok (.int .i64 (l.length:Int)) (W.setRow g (cur.toList.take o++l.map bv++cur.toList.drop (o+l.length)).toArray):=by
 obtain⟨A',c',e,hc,hm,hr⟩:=h
 simp only[Value.slice.injEq,true_and] at e
 obtain⟨rfl,rfl⟩:=e
 rcases A with _|ad
 ·have h0:l.length=0:=by
   rcases Nat.eq_zero_or_pos l.length with h0|h0
   ·exact h0
   ·obtain⟨b,off,h,_⟩:=hr.2 h0
    cases h
  obtain rfl:l=[]:=List.eq_nil_of_length_eq_zero h0
  cases hq:P.info? elem with
  |none=>simp[hq] at hs
  |some i =>
   simp[Builtin.copy_,run_underlying hu,Builtin.lenOf,Builtin.firstCells,sizeOf,typeInfo,hq,storeCells]
   rw[setRow_self W g cur t (0,0) hg]
   exact⟨rfl,rfl⟩
 ·have hsrc:∀ j v,(l.map bv)[j]?=some v→W.cell? (ad.add j)=some v:=by
   intro j v hv
   rcases Nat.eq_zero_or_pos l.length with h0|h0
   ·obtain rfl:l=[]:=List.eq_nil_of_length_eq_zero h0
    simp at hv
   ·obtain⟨b,off,h,_⟩:=hr.2 h0
    cases h
    exact hr.adds h0 j v hv
  have:=run_copy_row P W dT sT ty elem g o dLen dCap ad l.length c cur t (l.map bv) hu hs hg (by simp[Nat.min_eq_left hd]) hsrc (by simpa using hfit) (Xy l)
  rw[List.length_map] at this
  exact this
def ZE (cur:Array Value) (o:Nat) (l:List UInt8):Array Value:=(cur.toList.take o++l.map bv++cur.toList.drop (o+l.length)).toArray
theorem Ul {cur:Array Value} {o:Nat} {l:List UInt8} (h:o+l.length≤cur.size):(ZE cur o l).size=cur.size:=by
 simp[ZE]
 omega
theorem qfJ {cur:Array Value} {o:Nat} {l:List UInt8} {j:Nat} (h:o+l.length≤cur.size) (hj:j<o∨o+l.length≤j):(ZE cur o l)[j]?=cur[j]?:=by
 unfold ZE
 rw[List.getElem?_toArray]
 have hcl:cur.toList.length=cur.size:=by simp
 rcases hj with hj|hj
 ·rw[List.append_assoc,List.getElem?_append_left (by rw[List.length_take];omega),List.getElem?_take,if_pos hj]
  simp
 ·rw[List.getElem?_append_right (by rw[List.length_append,List.length_take,List.length_map];omega),List.getElem?_drop,List.length_append,List.length_take,List.length_map,hcl]
  rw[show o+l.length+(j-(min o cur.size+l.length))=j by omega]
  simp
theorem qfI {cur:Array Value} {o:Nat} {l:List UInt8} {j:Nat} {u:Value} (h:o+l.length≤cur.size) (hu:(l.map bv)[j]?=some u):(ZE cur o l)[o+j]?=some u:=by
 have hj:j<l.length:=by
  have:=(List.getElem?_eq_some_iff.1 hu).1
  simpa using this
 have hcl:cur.toList.length=cur.size:=by simp
 unfold ZE
 rw[List.getElem?_toArray,List.append_assoc,List.getElem?_append_right (by rw[List.length_take];omega),List.length_take,hcl,show o+j-min o cur.size=j by omega,List.getElem?_append_left (by rw[List.length_map];exact hj)]
 exact hu
structure qaY (hb g o n:Nat) (cur:Array Value) (w:World):Prop where
 box:w.heap[hb]?=some (.cells #[.slice (some ⟨g,o,none⟩) n n] 257 (0,0))
 row:w.heap[g]?=some (.cells cur 5 (0,0))
 ne:hb≠g
 fit:o+n≤cur.size
 few:n<1000000000000000
def CloneQ (hb g o n:Nat) (cur:Array Value) (l:List UInt8) (w:World) (e:Ending) (w':World):Prop:=∃ o',e=.returned (.slice (some ⟨g,o,none⟩) l.length l.length)∧(0<n-l.length→o'=o+l.length)∧(n-l.length=0→o'=o)∧qaY hb g o' (n-l.length) (ZE cur o l) w' ∧
 (w'.heap.size=w.heap.size∧w'.os=w.os∧w'.tape=w.tape∧w'.output=w.output∧∀ b,b≠hb→b≠g→w'.heap[b]?=w.heap[b]?)
set_option maxRecDepth 100000 in
theorem Gx (hb g o n:Nat) (cur:Array Value) (A:Option Addr) (c:Nat) (l:List UInt8) (hl:l.length≤n) (w:World) (H:qaY hb g o n cur w) (h:Bys w w.heap.size (.slice A l.length c) l) :
  Calls Tryz.prog 180 #[.pointer (some ⟨hb,0,none⟩),.slice A l.length c] w (CloneQ hb g o n cur l w):=by
 have hsz:(Tryz.prog.info? 5).map (·.size)=some 1:=by kernel_rfl
 obtain⟨r1,r2,hne,hfit,hfew⟩:=H
 have hcp:=Tj (P:=Tryz.prog) w 257 26 3 5 g o n n A c l _ _ Tryz.underlying257 hsz r2 h hl (by omega)
 have e1:(List.take o cur.toList++List.map bv l++List.drop (o+l.length) cur.toList).toArray=ZE cur o l:=rfl
 rw[e1] at hcp
 have r3:(w.setRow g (ZE cur o l)).heap[hb]?=some (.cells #[.slice (some ⟨g,o,none⟩) n n] 257 (0,0)):=(setRow_other w g hb _ hne).trans r1
 have r4:=setRow_heap w g _ (ZE cur o l) _ _ r2
 have h3:∀ b,b≠g→(w.setRow g (ZE cur o l)).heap[b]?=w.heap[b]?:=fun b hb=>setRow_other w g b _ hb
 have s3:(w.setRow g (ZE cur o l)).heap.size=w.heap.size:=by simp
 have o3:(w.setRow g (ZE cur o l)).os=w.os∧(w.setRow g (ZE cur o l)).tape=w.tape∧(w.setRow g (ZE cur o l)).output=w.output:=⟨rfl,rfl,rfl⟩
 generalize w.setRow g (ZE cur o l)=w3 at *
 have k1:=qa r1
 have k3:=qa r3
 have f3:=qd r3
 have f1:=qd r1
 clear h r1 r2 hsz e1
 replace h3:=zH h3
 replace r4:=zH r4
 replace o3:=zH o3
 have hll:=zH hl
 have hc1:(l.length:Int)≤(n:Int):=by omega
 have fin:Hid (∀ o' n',n'=n-l.length→(0<n'→o'=o+l.length)→(n'=0→o'=o)→CloneQ hb g o n cur l w (.returned (.slice (some ⟨g,o,none⟩) l.length l.length)) (w3.setCell ⟨hb,0,none⟩ (.slice (some ⟨g,o',none⟩) n' n'))):=zH fun o' n' e h1 h2=>by
  subst e
  refine⟨o',rfl,h1,h2,⟨qi r3 0 _,(zJ _ _ _ _ (fun e=>hne e.symm)).trans r4.out,hne,?_,by omega⟩,by simpa using s3,o3.out.1,o3.out.2.1,o3.out.2.2,fun b hb hbg=>(zJ _ _ _ _ hb).trans (h3.out b hbg)⟩
  rw[Ul (by omega)]
  rcases Nat.eq_zero_or_pos (n-l.length) with h0|h0
  ·have:=h2 h0;omega
  ·have:=h1 h0;omega
 clear r3 r4 h3 o3 hfit
 go_enter Tryz.func180,Tryz.ntmps180
 go_wp2_with fail
 ·subst h
  go_ret
  exact fin.out o 0 (by omega) (fun h=>by omega) (fun _=>rfl)
 ·go_ret
  exact fin.out (o+l.length) (n-l.length) rfl (fun _=>rfl) (fun h=>by omega)
end Go.Proofs.YtpbniokljofedaaGreat
