/- Texts FHas, TwinW, PCheck, FAsked, Copy, HeapC, FreeC, Short, joined. -/
import Derived.Laws.CopyRow
import Derived.Laws.IdiomCopy
import Derived.Lib.Walk
import Derived.Test.YtpbniokljofedaaGreatZE01
import Derived.Test.YtpbniokljofedaaGreatZE03
import Derived.Test.YtpbniokljofedaaGreatZE07
import Derived.Test.YtpbniokljofedaaGreatZE10
import Derived.Test.YtpbniokljofedaaGreatZE12
import Derived.Test.YtpbniokljofedaaGreatZE13
import Derived.Test.YtpbniokljofedaaGreatZE14
set_option linter.unusedSimpArgs false
set_option linter.unusedVariables false
set_option maxHeartbeats 8000000
set_option maxRecDepth 100000
namespace Go.Proofs.YtpbniokljofedaaGreat
open Go.RowKit
theorem qip (v:Vol) (bi:Nat) (id:Int) (q1 q2 q3:Value) (w:World) (h:w.heap[bi]?=some (.cells #[.int .u32 id,q1,q2,q3] 40 (0,0))) :
  Calls Tryz.prog 96 #[jE v,.pointer (some ⟨bi,0,none⟩)] w (Ret (.bool (decide (v.id=id))) w):=by
 have ki:=qa h
 have zi:bi<w.heap.size:=(zG.1 h).1
 clear h
 go_enter Tryz.func96,Tryz.ntmps96
 by_cases he:v.id=id
 ·have h1:(v.id == id)=true:=by rw[beq_iff_eq];exact he
  rw[decide_eq_true he]
  replace he:=zH he
  go_wp2
  go_ret
  exact⟨rfl,zN _ _⟩
 ·have h1:(v.id == id)=false:=by rw[beq_eq_false_iff_ne];exact he
  rw[decide_eq_false he]
  replace he:=zH he
  go_wp2
  go_ret
  exact⟨rfl,zN _ _⟩
theorem qfJ (A:Option Addr) (c:Nat) (vs:List Vol) (hl:vs.length≤16) (bi:Nat) (id:Int) (q1 q2 q3:Value) (w:World) (h:w.heap[bi]?=some (.cells #[.int .u32 id,q1,q2,q3] 40 (0,0))) (hr:Rd w w.heap.size 4 A vs.length (ZI vs)) :
  Calls Tryz.prog 46 #[.slice A vs.length c,.func (.func 96) #[] #[.pointer (some ⟨bi,0,none⟩)]] w (zE (fun u _=>VolIx vs id u) w):=by
 replace hr:=zH hr
 go_enter Tryz.func46,Tryz.ntmps46
 go_wp2_with fail
 go_loopw [8] (fun i wr=>∃ k:Nat,k≤vs.length∧i=.int .i64 (k:Int)∧Ext w wr∧∀ j (hj:j<vs.length),j<k→vs[j].id≠id) (fun i _=>vs.length-(intOf i).toNat)
 case atStart=>exact⟨0,Nat.zero_le _,rfl,Ext.refl _,fun j _ hj=>absurd hj (Nat.not_lt_zero _)⟩
 case round =>
  obtain⟨k,hk,rfl,xr,hno⟩:=hrel
  replace hno:=zH hno
  by_cases hlt:k<vs.length
  ·obtain⟨bv,offv,rfl,hbv,hcel⟩:=hr.out.2 (by omega)
   obtain⟨d0,d1,d2,d3⟩:=Yk vs k hlt
   replace d0:=Ext.cell xr (hcel _ _ d0)
   replace d1:=Ext.cell xr (hcel _ _ d1)
   replace d2:=Ext.cell xr (hcel _ _ d2)
   replace d3:=Ext.cell xr (hcel _ _ d3)
   have HAT:=zH (fun he=>qdj (id:=id) hlt he fun i hi hik=>hno.out i hi hik)
   have HNO:=zH (fun (he:vs[k].id≠id) j (hj:j<vs.length) (hjk:j<k+1)=>by
    rcases Nat.lt_or_ge j k with h1|h1
    ·exact hno.out j hj h1
    ·obtain rfl:j=k:=by omega
     exact he)
   generalize vs[k]=u at *
   rw[←Nat.add_assoc] at d1 d2 d3
   clear hcel
   have hw64:=zH (IntWalk.wrap64_in ((k:Int)+1) (by omega))
   have hV:=qip u bi id q1 q2 q3 wr (qb h xr)
   go_wp2_with fail
   refine hV.mono ?_
   rintro e w2 ⟨rfl,hB⟩
   clear d0 d1 d2 d3 hV
   by_cases he:u.id=id
   ·rw[decide_eq_true he]
    have HQ:=zH (HAT.out he)
    clear HAT HNO
    replace he:=zH he
    go_wp2_with fail
    refine bodyPost_ret (v:=.int .i64 (k:Int)) ?_ rfl ⟨_,rfl,HQ.out,Ext.trans xr hB⟩
    simp[results,Tryz.results46,go_sem]
   ·rw[decide_eq_false he]
    have HQ:=zH (HNO.out he)
    clear HAT HNO
    replace he:=zH he
    have hw1:=hw64.out
    go_wp2_with fail
    refine⟨⟨k+1,hlt,rfl,Ext.trans xr hB,fun j hj hjk=>HQ.out j hj hjk⟩,?_⟩
    simp[intOf]
    omega
  ·obtain rfl:k=vs.length:=by omega
   have HQ:=zH (GR (id:=id) fun i hi=>hno.out i hi hi)
   go_wp2_with fail
   refine bodyPost_ret (v:=.int .i64 (-1)) ?_ rfl ⟨_,rfl,HQ.out,xr⟩
   simp[results,Tryz.results46,go_sem]
theorem vhas_any (A:Option Addr) (c:Nat) (vs:List Vol) (hl:vs.length≤16) (bi:Nat) (id:Int) (q1 q2 q3:Value) (w:World) (h:w.heap[bi]?=some (.cells #[.int .u32 id,q1,q2,q3] 40 (0,0))) (hr:Rd w w.heap.size 4 A vs.length (ZI vs)) :
  Calls Tryz.prog 95 #[.slice A vs.length c,.func (.func 96) #[] #[.pointer (some ⟨bi,0,none⟩)]] w (Ret (.bool (QL vs id).isSome) w):=by
 have HV:=zH (qfJ A c vs hl bi id q1 q2 q3 w h hr)
 clear h hr
 go_enter Tryz.func95,Tryz.ntmps95
 go_wp2_with fail
 refine HV.out.mono ?_
 clear HV
 rintro e w2 ⟨u,rfl,hu,hB⟩
 rcases hu with ⟨j,hj,rfl,hv⟩|⟨rfl,hv⟩
 ·have e1:decide ((j:Int)≥0)=true:=decide_eq_true (by omega)
  have e2:decide ((0:Int)≤(j:Int))=true:=decide_eq_true (by omega)
  replace hv:=zH hv
  go_wp2
  go_ret
  exact⟨by rw[hv.out];rfl,hB⟩
 ·replace hv:=zH hv
  go_wp2
  go_ret
  exact⟨by rw[hv.out];rfl,hB⟩
theorem Tryz.info_bytes:(Tryz.prog.info? 26).map (fun i=>(i.zero,i.size,i.bytes))=some (some (.slice none 0 0),1,24):=by kernel_rfl
theorem Tryz.info_write:(Tryz.prog.info? 130).map (fun i=>(i.zero,i.size,i.bytes))=some (some (.agg #[.int .i64 0,.slice none 0 0]),2,32):=by kernel_rfl
abbrev gB (_:List UInt8) (u:Value):List Value:=[u]
theorem Rd.keepN {w W:World} {B size lo n c:Nat} {A:Option Addr} {xs:List Value} (h:Rd w B size A n xs) (hf:Zp lo (.slice A n c)) (hk:∀ q:Addr,lo≤q.block→q.block<B→W.cell? q=w.cell? q):Rd W B size A n xs:=
 ⟨h.1,fun hn=>by
  obtain⟨b,off,e,hb,hc⟩:=h.2 hn
  subst e
  exact⟨b,off,rfl,hb,fun j u hu=>(hk ⟨b,off+j,none⟩ (hf ⟨b,off,none⟩ n c rfl) hb).trans (hc j u hu)⟩⟩
theorem Bys.keepN {w W:World} {B lo:Nat} {v:Value} {l:List UInt8} (h:Bys w B v l) (hf:Zp lo v) (hk:∀ q:Addr,lo≤q.block→q.block<B→W.cell? q=w.cell? q):Bys W B v l:=by
 obtain⟨A,c,e,hc,hm,hr⟩:=h
 subst e
 exact⟨A,c,rfl,hc,hm,hr.keepN hf hk⟩
def qcL (S:Sto) (root next:Int) (dead:List Int) (w:World) (e:Ending) (w':World):Prop:=Below w.heap.size w w' ∧
 ((e=.returned (.int .i64 8)∧∀ vs,Qf S root next dead vs→∃ refs nodes,qQ S (Qt root dead vs) refs nodes∧¬Qz S refs) ∨
  (e=.returned (.int .i64 0)∧∃ vs refs nodes,Qf S root next dead vs∧qQ S (Qt root dead vs) refs nodes∧Qz S refs))
theorem qac {R:Ending→World→Prop} {a:Act} {W:World} {u:Value} (h2:a.tmps[2]?.getD undef=u) (hd:a.defers=[]) (hR:R (.returned u) W):bodyPost Tryz.prog Tryz.f20 R .ret a W:=by
 refine bodyPost_ret (v:=u) ?_ hd hR
 simp[results,Tryz.results20,go_sem,h2]
theorem qfd (A1:Option Addr) (n1 c1:Nat) (A2:Option Addr) (n2 c2:Nat) (A3:Option Addr) (n3 c3:Nat) (A4:Option Addr) (n4 c4:Nat) (gen root next:Int) (A5:Option Addr) (c5:Nat) (S:Sto) (dead:List Int) (w:World)
  (h:qT w w.heap.size (.slice A1 n1 c1) (.slice A2 n2 c2) (.slice A3 n3 c3) (.slice A4 n4 c4) S) (hd:ZE w w.heap.size (.slice A5 dead.length c5) dead) :
  Calls Tryz.prog 20 #[.agg (qB (.slice A1 n1 c1) (.slice A2 n2 c2) (.slice A3 n3 c3) (.slice A4 n4 c4) gen root next (.slice A5 dead.length c5))] w (qcL S root next dead w):=by
 have HT:=zH (fun W (hx:Ext w W)=>km A1 n1 c1 A2 n2 c2 A3 n3 c3 A4 n4 c4 gen root next A5 c5 S dead W (h.ext hx) (by
  obtain⟨A,c,e,q1,q2,q3⟩:=hd
  exact⟨A,c,e,q1,q2,(q3.below hx).more hx.size⟩))
 clear h hd
 go_enter Tryz.func20,Tryz.ntmps20
 go_wp2_with fail
 generalize hw1:World.alloc w _=w1
 have x1:Ext w w1:=by rw[←hw1];exact zN _ _
 clear hw1
 refine(HT.out w1 x1).mono ?_
 rintro e w2 ⟨hB,hQ⟩
 have x2:Below w.heap.size w w2:=Ext.trans x1 hB
 rcases hQ with ⟨rfl,hno⟩|⟨vs,refs,nodes,cb,ca,vv,rfl,hT⟩
 ·have HB:qcL S root next dead w (.returned (.int .i64 8)) w2:=⟨x2,.inl ⟨rfl,hno⟩⟩
  replace HB:=zH HB
  clear hno hB
  go_wp2_with fail
  exact qac rfl rfl HB.out
 ·have HB:qcL S root next dead w (.returned (.int .i64 0)) w2:=⟨x2,.inr ⟨rfl,vs,refs,nodes,hT.pool,hT.cnt,hT.enough⟩⟩
  replace HB:=zH HB
  clear hT hB
  go_wp2_with fail
  exact qac rfl rfl HB.out
theorem rowI_one (l:List Int):∀ u∈TL l,u.oneCell'=true:=by
 intro u hu
 obtain⟨a,_,rfl⟩:=List.mem_map.1 hu
 rfl
theorem ZE.of_own {w:World} {base:Nat} {v:Value} {l:List Int} (h:w.ownsRow base 3 1 v l.length (TL l)):ZE w w.heap.size v l:=by
 obtain⟨A,c,rfl,hc,hm⟩:=qw h
 refine⟨A,c,rfl,hc,hm,by simp,fun hn=>?_⟩
 rcases h.2 with ⟨_,h0⟩|⟨g,cap,cur,e,_,hr,_⟩
 ·omega
 ·simp only[Value.slice.injEq] at e
  obtain⟨rfl,-,rfl⟩:=e
  exact⟨g,0,rfl,(zG.1 hr).1,fun j u hu=>by have h5:=h.cells (g:=g) rfl j u hu;rw[Nat.zero_add];unfold Addr.add at h5;split at h5 <;> simp_all⟩
theorem ZE.more {w:World} {B B':Nat} {v:Value} {l:List Int} (h:ZE w B v l) (hb:B≤B'):ZE w B' v l:=by
 obtain⟨A,c,e,hc,hm,hr⟩:=h
 exact⟨A,c,e,hc,hm,hr.more hb⟩
theorem ZE.ext_ {w W:World} {v:Value} {l:List Int} (h:ZE w w.heap.size v l) (hx:Ext w W):ZE W W.heap.size v l:=by
 obtain⟨A,c,e,hc,hm,hr⟩:=h
 exact⟨A,c,e,hc,hm,(hr.below hx).more hx.size⟩
theorem qgn (v:Value) (l:List Int) (hl:l.length<1073741824) (w:World) (h:ZE w w.heap.size v l) :
  Calls Tryz.prog 56 #[v] w (zE (fun u w'=>w'.ownsRow w.heap.size 3 1 u l.length (TL l)) w):=by
 obtain⟨i0,hi,hz0,hz1,hz2⟩:=info_parts Tryz.info_int
 obtain⟨A,c,rfl,hc,hm,hr⟩:=h
 have qn:∀ (w:World) (a:Option Addr) (n c n' c':Nat),(binOp .eql 30 (.slice a n c) (.slice none n' c')).run Tryz.prog w=.ok (.bool a.isNone) w:=fun w a n c n' c'=>Lib.run_eql_slice_nil w _ _ a n c n' c' Tryz.underlying30
 rcases A with _|⟨b,off,p⟩
 ·have h0:l=[]:=by
   rcases l with _|⟨x,r⟩
   ·rfl
   ·obtain⟨b,off,h,_⟩:=hr.2 (by simp)
    cases h
  subst h0
  go_enter Tryz.func56,Tryz.ntmps56
  go_wp2
  go_ret
  exact⟨_,rfl,World.ownsRow_nil _ _ _ _,Below.refl _ _⟩
 ·go_enter Tryz.func56,Tryz.ntmps56
  go_wp2_with (at_builtin;refine qZ ?_)
  refine QA.go (Qq _ rfl (.tmp 5) (.tmp 6) 30 rfl w.heap.size 3 i0 (.int .i64 0) 1 8 Tryz.underlying30 hi hz0 hz1 hz2 rfl (by decide) _ 0 [] rfl ?_ w.heap.size _ l.length c (TL l) (by exact rfl) ?_ (rowI_one l) (by omega) (by decide) (by simp) ?_)
  ·exact World.ownsRow_lit w #[] 0 (zM _) (by simp[maxLen]) rfl
  ·exact hr.keep fun p hp=>World.cell?_alloc_lt w _ p hp
  ·intro v' w' hown _ hb _
   simp only[Nat.zero_add,List.nil_append] at hown
   go_wp2
   go_ret
   exact⟨_,rfl,hown,Below.trans ((Below.refl _ _).alloc (zM _) _) hb⟩
def ZT (S:Sto) (next:Int) (v:Vol) (vs:List Vol) (refs:Nat→Nat):Int:=if v.id=0∨next≤v.id∨v.root<8∨256≤v.root then 2 else if (QL vs v.id).isSome=false∧16≤vs.length then 9 else
 if zO S v.root.toNat≤refs v.root.toNat then 6 else if okL S (-1) v.root=true then 0 else 8
def FAskQ (S:Sto) (root next:Int) (dead:List Int) (v:Vol) (w:World) (e:Ending) (w':World):Prop:=Below w.heap.size w w' ∧
 ((e=.returned (.int .i64 8)∧zu S root next dead) ∨
  ∃ vs refs nodes,Qf S root next dead vs∧qQ S (Qt root dead vs) refs nodes∧Qz S refs∧e=.returned (.int .i64 (ZT S next v vs refs)))
theorem JT {R:Ending→World→Prop} {a:Act} {W:World} {u:Value} (h4:a.tmps[4]?.getD undef=u) (hd:a.defers=[]) (hR:R (.returned u) W):bodyPost Tryz.prog Tryz.f53 R .ret a W:=by
 refine bodyPost_ret (v:=u) ?_ hd hR
 simp[results,Tryz.results53,go_sem,h4]
theorem vols_len {S:Sto} {root next:Int} {dead:List Int} {vs:List Vol} (h:Qf S root next dead vs):vs.length≤16:=by
 have hv:=h.vols
 unfold Xx at hv
 split at hv
 ·cases hv
 ·exact vY _ _ _ _ (by simp) hv
theorem qfW (A1:Option Addr) (n1 c1:Nat) (A2:Option Addr) (n2 c2:Nat) (A3:Option Addr) (n3 c3:Nat) (A4:Option Addr) (n4 c4:Nat) (gen root next:Int) (A5:Option Addr) (c5:Nat) (S:Sto) (dead:List Int) (v:Vol)
  (hT:8≤v.root→v.root<256→zO S v.root.toNat≠0→okL S (-1) v.root=true) (w:World)
  (h:qT w w.heap.size (.slice A1 n1 c1) (.slice A2 n2 c2) (.slice A3 n3 c3) (.slice A4 n4 c4) S) (hd:ZE w w.heap.size (.slice A5 dead.length c5) dead) :
  Calls Tryz.prog 53 #[.agg (qB (.slice A1 n1 c1) (.slice A2 n2 c2) (.slice A3 n3 c3) (.slice A4 n4 c4) gen root next (.slice A5 dead.length c5)),jE v] w (FAskQ S root next dead v w):=by
 have HT:=zH (fun W (hx:Ext w W)=>km A1 n1 c1 A2 n2 c2 A3 n3 c3 A4 n4 c4 gen root next A5 c5 S dead W (h.ext hx) (hd.ext_ hx))
 have HC:=zH (fun (hS:qo S=true) a hT W (hx:Ext w W)=>Xq A1 n1 c1 A2 n2 c2 A3 n3 c3 A4 n4 c4 S hS a hT W (h.ext hx))
 replace h:=zH h
 replace hT:=zH hT
 clear hd
 go_enter Tryz.func53,Tryz.ntmps53
 go_wp2_with fail
 generalize hw1:(World.alloc (World.alloc w _) _)=w1
 have x1:Ext w w1:=by rw[←hw1];exact(zN _ _).trans (zN _ _)
 have rp1:w1.heap[w.heap.size]?=some (.cells (qB (.slice A1 n1 c1) (.slice A2 n2 c2) (.slice A3 n3 c3) (.slice A4 n4 c4) gen root next (.slice A5 dead.length c5)) 32 (0,0)):=by rw[←hw1];exact(zK _ _ _ (by simp)).trans (zI _ _ _ rfl)
 have rv1:w1.heap[w.heap.size+1]?=some (.cells #[.int .u32 v.id,.int .i64 v.root,.bool v.fz,.int .u32 v.frm] 40 (0,0)):=by rw[←hw1];exact zI _ _ _ (by simp)
 clear hw1
 refine(HT.out w1 x1).mono ?_
 clear HT
 rintro e w2 ⟨hB,hQ⟩
 have x2:Ext w w2:=Ext.trans x1 hB
 have rp2:=qb rp1 hB
 have rv2:=qb rv1 hB
 have kp2:=qa rp2
 have kv2:=qa rv2
 have zv2:w.heap.size+1<w2.heap.size:=(zG.1 rv2).1
 clear hB x1 rp1 rv1
 rcases hQ with ⟨rfl,hno⟩|⟨vs,refs,nodes,cb,ca,vv,rfl,hTk⟩
 ·replace hno:=zH hno
  go_wp2_with fail
  exact JT rfl rfl ⟨x2,.inl ⟨rfl,hno.out⟩⟩
 ·have hvs:=vols_len hTk.pool
  have hQ:=fun E (hh:ZT S next v vs refs=E) W (hx:Ext w W)=>(⟨hx,.inr ⟨vs,refs,nodes,hTk.pool,hTk.cnt,hTk.enough,by rw[hh]⟩⟩:FAskQ S root next dead v w (.returned (.int .i64 E)) W)
  replace hQ:=zH hQ
  obtain⟨AV,cV,rfl,hcv1,hcv2⟩:=qw hTk.own
  have kc:w2.cell? ⟨cb,518,none⟩=some (.slice AV vs.length cV):=by rw[qa hTk.row];exact hTk.ar.vol
  have HH:=zH (vhas_any AV cV vs hvs (w.heap.size+1) v.id _ _ _ w2 rv2 (Rd.of_own hTk.own))
  replace hTk:=zH hTk
  by_cases h1:v.id=0
  ·have d1:(v.id == 0)=true:=by rw[beq_iff_eq];exact h1
   have d2:decide (v.id=0)=true:=decide_eq_true h1
   have hE:=zH (show ZT S next v vs refs=2 by unfold ZT;rw[if_pos (.inl h1)])
   replace h1:=zH h1
   go_wp2_with fail
   exact JT rfl rfl (hQ.out _ hE.out _ x2)
  have d1:(v.id == 0)=false:=by rw[beq_eq_false_iff_ne];exact h1
  have d2:decide (v.id=0)=false:=decide_eq_false h1
  by_cases h2:next≤v.id
  ·have d3:decide (v.id≥next)=true:=decide_eq_true h2
   have d4:decide (next≤v.id)=true:=decide_eq_true h2
   have hE:=zH (show ZT S next v vs refs=2 by unfold ZT;rw[if_pos (.inr (.inl h2))])
   replace h1:=zH h1
   replace h2:=zH h2
   go_wp2_with fail
   exact JT rfl rfl (hQ.out _ hE.out _ x2)
  have d3:decide (v.id≥next)=false:=decide_eq_false h2
  have d4:decide (next≤v.id)=false:=decide_eq_false h2
  by_cases h3:v.root<8
  ·have d5:decide (v.root<8)=true:=decide_eq_true h3
   have hE:=zH (show ZT S next v vs refs=2 by unfold ZT;rw[if_pos (.inr (.inr (.inl h3)))])
   replace h1:=zH h1
   replace h2:=zH h2
   replace h3:=zH h3
   go_wp2_with fail
   exact JT rfl rfl (hQ.out _ hE.out _ x2)
  have d5:decide (v.root<8)=false:=decide_eq_false h3
  by_cases h4:256≤v.root
  ·have d6:decide (v.root≥256)=true:=decide_eq_true h4
   have d7:decide (256≤v.root)=true:=decide_eq_true h4
   have hE:=zH (show ZT S next v vs refs=2 by unfold ZT;rw[if_pos (.inr (.inr (.inr h4)))])
   replace h1:=zH h1
   replace h2:=zH h2
   replace h3:=zH h3
   replace h4:=zH h4
   go_wp2_with fail
   exact JT rfl rfl (hQ.out _ hE.out _ x2)
  have d6:decide (v.root≥256)=false:=decide_eq_false h4
  have d7:decide (256≤v.root)=false:=decide_eq_false h4
  have hE1:=zH (show ZT S next v vs refs=if (QL vs v.id).isSome=false∧16≤vs.length then 9 else if zO S v.root.toNat≤refs v.root.toNat then 6 else if okL S (-1) v.root=true then 0 else 8 by unfold ZT;rw[if_neg (by rintro (h|h|h|h);exact h1 h;exact h2 h;exact h3 h;exact h4 h)])
  obtain⟨r,hr⟩:∃ r:Nat,v.root=(r:Int):=⟨v.root.toNat,by omega⟩
  have hr8:8≤r:=by omega
  have hr256:r<256:=by omega
  have hto:v.root.toNat=r:=by omega
  rw[hr] at rv2 kv2 d5 d6 d7
  rw[hto] at hE1 hT
  have hT2:=zH (hT.out (by omega) (by omega))
  clear hT h3 h4 hto
  replace h1:=zH h1
  replace h2:=zH h2
  replace hr:=zH hr
  go_wp2_with fail
  refine HH.out.mono ?_
  clear HH
  rintro e w3 ⟨rfl,hB⟩
  have x3:Ext w w3:=Ext.trans x2 hB
  have rp3:=qb rp2 hB
  have rv3:=qb rv2 hB
  have kc3:=Ext.cell hB kc
  have rc3:=qb hTk.out.row hB
  clear rp2 rv2 kp2 kv2 kc x2 hB
  have hsome:Hid ((QL vs v.id).isSome=(QL vs v.id).isSome):=zH rfl
  generalize (QL vs v.id).isSome=there at *
  have hkey:Hid (there=false∧16≤vs.length∨¬(there=false∧16≤vs.length)):=zH (Classical.em _)
  rcases hkey.out with ⟨rfl,h16⟩|h16
  ·have e1:decide ((vs.length:Int)≥16)=true:=decide_eq_true (by omega)
   have e2:decide (16≤vs.length)=true:=decide_eq_true h16
   have hE:=zH (show ZT S next v vs refs=9 by rw[hE1.out,if_pos ⟨rfl,h16⟩])
   replace h16:=zH h16
   clear hkey
   go_wp2_with fail
   exact JT rfl rfl (hQ.out _ hE.out _ x3)
  have hE2:=zH (show ZT S next v vs refs=if zO S r≤refs r then 6 else if okL S (-1) v.root=true then 0 else 8 by rw[hE1.out,if_neg h16])
  have HB:there=true∨(there=false∧decide ((vs.length:Int)≥16)=false∧decide (16≤vs.length)=false):=by
   cases there
   ·right
    have:¬16≤vs.length:=fun h=>h16 ⟨rfl,h⟩
    exact⟨rfl,decide_eq_false (by omega),decide_eq_false this⟩
   ·exact .inl rfl
  clear hE1 hkey h16
  obtain⟨b3,o3,d3',e3,hb3,hcell⟩:=TE hTk.out.pool.may h.out.now
  simp only[Value.slice.injEq] at e3
  obtain⟨rfl,rfl,rfl⟩:=e3
  have hcn:=Ext.cell x3 (hcell r hr256)
  have hrf:=(qa rc3 (6+r)).trans (hTk.out.ar.ref r hr256)
  have hwn:=zH (IntWalk.wrap64_in (zO S r:Int) (by have:=(S.now[r]?.getD 0).toNat_lt;unfold zO;omega))
  have hwn2:=zH (show IntKind.i64.wrap (zO S r:Int)=(zO S r:Int) by rw[IntKind.wrap_i64];have:=(S.now[r]?.getD 0).toNat_lt;unfold zO;omega)
  have HCK:=zH (fun (hne:zO S r≠0) W (hx:Ext w W)=>by
   obtain⟨a,ha,ht⟩:=vN (hT2.out hne)
   obtain rfl:r=a:=by have:=hr.out;omega
   exact HC.out hTk.out.pool.may r ht W hx)
  clear hcell HC
  generalize hnw:zO S r=nw at *
  generalize hrfe:refs r=rf at *
  have kp3:=qa rp3
  have kv3:=qa rv3
  have zv3:w.heap.size+1<w3.heap.size:=(zG.1 rv3).1
  replace hnw:=zH hnw
  replace hrfe:=zH hrfe
  have gP:∀ W,ql.r w3 W→∀ i,W.cell? ⟨w.heap.size,i,none⟩=(qB (.slice A1 n1 c1) (.slice A2 n2 c2) (.slice (some ⟨b3,o3,none⟩) 256 c3) (.slice A4 n4 c4) gen root next (.slice A5 dead.length c5))[i]?:=fun W h=>qa (qb rp3 h)
  have gV:∀ W,ql.r w3 W→∀ i,W.cell? ⟨w.heap.size+1,i,none⟩=#[.int .u32 v.id,.int .i64 (r:Int),.bool v.fz,.int .u32 v.frm][i]?:=fun W h=>qa (qb rv3 h)
  have gN:∀ W,ql.r w3 W→W.cell? ⟨b3,o3+r,none⟩=some (.int .u8 (nw:Int)):=fun W h=>Ext.cell h hcn
  have gR:∀ W,ql.r w3 W→W.cell? ⟨cb,6+r,none⟩=some (.int .i64 (rf:Int)):=fun W h=>Ext.cell h hrf
  clear rc3
  rcases HB with rfl|⟨rfl,e1,e2⟩
  all_goals
   go_upto_region 9 with fail
   refine qm (by kernel_rfl) ?_
   refine qO (w:=w3) ql (qE []) (List.replicate 16 true) 0 (by kernel_rfl) (by kernel_rfl) (by kernel_rfl) (by kernel_rfl) (by kernel_rfl) (by kernel_rfl) (by kernel_rfl) ?st (Rel.drew _ _) ?walk
   case st=>exact qk (fun _ h=>by cases h)
   case walk =>
    intro K hK
    dsimp only[qp,List.replicate]
    have hw':=hwn.out
    have hw2':=hwn2.out
    repeat ((first|(refine qe ?_ (by rfl) (by rfl) (fun W hW _=>⟨W,?_,Rel.refl _ W⟩) ?_;rotate_left;(first|(go_simp;with_reducible rfl)|(go_simp;done)))|(refine qh (by rfl) ?_));try simp only[Act.put,qj,qf,qc,qg,zA,zB,zC])
    first
     |(refine qe (.pointer (some ⟨b3,o3+r,none⟩)) (by rfl) (by rfl) (fun W hW _=>⟨W,?_,Rel.refl _ W⟩) ?_
       ·go_simp
        intro hge
        exfalso
        omega
       simp only[Act.put,qj,qf,qc,qg,zA,zB,zC])
     |skip
    repeat ((first|(refine qe ?_ (by rfl) (by rfl) (fun W hW _=>⟨W,?_,Rel.refl _ W⟩) ?_;rotate_left;(first|(go_simp;with_reducible rfl)|(go_simp;done)))|(refine qh (by rfl) ?_));try simp only[Act.put,qj,qf,qc,qg,zA,zB,zC])
    first
     |(refine qe (.pointer (some ⟨cb,6+r,none⟩)) (by rfl) (by rfl) (fun W hW _=>⟨W,?_,Rel.refl _ W⟩) ?_
       ·go_simp
        intro hge
        exfalso
        omega
       simp only[Act.put,qj,qf,qc,qg,zA,zB,zC])
     |skip
    repeat ((first|(refine qe ?_ (by rfl) (by rfl) (fun W hW _=>⟨W,?_,Rel.refl _ W⟩) ?_;rotate_left;(first|(go_simp;with_reducible rfl)|(go_simp;done)))|(refine qh (by rfl) ?_));try simp only[Act.put,qj,qf,qc,qg,zA,zB,zC])
    refine qt (hK _ _ fun V hV hF=>?_)
    clear hF hK gP gV gN gR
    have hV:Ext w3 V:=hV
    dsimp only[List.drop,List.length_cons,List.length_nil,Nat.reduceAdd,Nat.reduceSub]
    have x4:=x3.trans hV
    have kp4:=qa (qb rp3 hV)
    have kv4:=qa (qb rv3 hV)
    have zv4:w.heap.size+1<V.heap.size:=(zG.1 (qb rv3 hV)).1
    clear rp3 rv3 hw'
    clear hw2'
    have hw2':=hwn2.out
    go_wp2
    refine Qo ?_
    by_cases hle:nw≤rf
    ·have f1:decide ((nw:Int)≤(rf:Int))=true:=decide_eq_true (by omega)
     have f2:decide (nw≤rf)=true:=decide_eq_true hle
     have hE:=zH (show ZT S next v vs refs=6 by rw[hE2.out,if_pos hle])
     replace hle:=zH hle
     go_wp2_with fail
     exact JT rfl rfl (hQ.out _ hE.out _ x4)
    ·have f1:decide ((nw:Int)≤(rf:Int))=false:=decide_eq_false (by omega)
     have f2:decide (nw≤rf)=false:=decide_eq_false hle
     have hE:=zH (show ZT S next v vs refs=0 by rw[hE2.out,if_neg hle,if_pos (hT2.out (by omega))])
     have HC4:=zH (HCK.out (by omega) V x4)
     replace hle:=zH hle
     clear HCK
     go_wp2_with fail
     refine HC4.out.mono ?_
     clear HC4
     rintro e w5 ⟨u,rfl,⟨m,rfl⟩,hB⟩
     go_wp2_with fail
     exact JT rfl rfl (hQ.out _ hE.out _ (x4.trans hB))
theorem XI (w:World) (g:Nat) (cs:Array Value):w.grownBy (w.setRow g cs) (some g):=
 ⟨rfl,rfl,rfl,by simp,fun k _ hk=>setRow_other w g k _ (fun e=>hk (by simp[e]))⟩
theorem XC {P:Program} (W:World) {B:Nat} (dT sT ty elem:TypeId) (g o dLen dCap:Nat) (A:Option Addr) (c:Nat) (l:List UInt8) (cur:Array Value) (t:TypeId)
  (hu:P.underlying dT=some (.slice elem)) (hs:(P.info? elem).map (·.size)=some 1) (hg:W.heap[g]?=some (.cells cur t (0,0))) (h:Bys W B (.slice A l.length c) l) (hd:l.length≤dLen) (hfit:o+l.length≤cur.size) :
  (Builtin.copy_ #[dT,sT] ty #[.slice (some ⟨g,o,none⟩) dLen dCap,.slice A l.length c]).run P W=.ok (.int .i64 (l.length:Int)) (W.setRow g (cur.toList.take o++l.map bv++cur.toList.drop (o+l.length)).toArray):=by
 obtain⟨A',c',e,hc,hm,hr⟩:=h
 simp only[Value.slice.injEq,true_and] at e
 obtain⟨rfl,rfl⟩:=e
 rcases A with _|ad
 ·have h0:l.length=0:=by
   rcases Nat.eq_zero_or_pos l.length with h0|h0
   ·exact h0
   ·obtain⟨b,off,h,_⟩:=hr.2 h0
    cases h
  obtain rfl:l=[]:=List.eq_nil_of_length_eq_zero h0
  cases hq:P.info? elem with
  |none=>simp[hq] at hs
  |some i =>
   simp[Builtin.copy_,run_underlying hu,Builtin.lenOf,Builtin.firstCells,sizeOf,typeInfo,hq,storeCells]
   rw[setRow_self W g cur t (0,0) hg]
   exact⟨rfl,rfl⟩
 ·have hsrc:∀ j v,(l.map bv)[j]?=some v→W.cell? (ad.add j)=some v:=by
   intro j v hv
   rcases Nat.eq_zero_or_pos l.length with h0|h0
   ·obtain rfl:l=[]:=List.eq_nil_of_length_eq_zero h0
    simp at hv
   ·obtain⟨b,off,h,_⟩:=hr.2 h0
    cases h
    exact hr.adds h0 j v hv
  have:=run_copy_row P W dT sT ty elem g o dLen dCap ad l.length c cur t (l.map bv) hu hs hg (by simp[Nat.min_eq_left hd]) hsrc (by simpa using hfit) (XJ l)
  rw[List.length_map] at this
  exact this
def ZJ (cur:Array Value) (o:Nat) (l:List UInt8):Array Value:=(cur.toList.take o++l.map bv++cur.toList.drop (o+l.length)).toArray
theorem UG {cur:Array Value} {o:Nat} {l:List UInt8} (h:o+l.length≤cur.size):(ZJ cur o l).size=cur.size:=by
 simp[ZJ]
 omega
theorem qgq {cur:Array Value} {o:Nat} {l:List UInt8} {j:Nat} (h:o+l.length≤cur.size) (hj:j<o∨o+l.length≤j):(ZJ cur o l)[j]?=cur[j]?:=by
 unfold ZJ
 rw[List.getElem?_toArray]
 have hcl:cur.toList.length=cur.size:=by simp
 rcases hj with hj|hj
 ·rw[List.append_assoc,List.getElem?_append_left (by rw[List.length_take];omega),List.getElem?_take,if_pos hj]
  simp
 ·rw[List.getElem?_append_right (by rw[List.length_append,List.length_take,List.length_map];omega),List.getElem?_drop,List.length_append,List.length_take,List.length_map,hcl]
  rw[show o+l.length+(j-(min o cur.size+l.length))=j by omega]
  simp
theorem qgi {cur:Array Value} {o:Nat} {l:List UInt8} {j:Nat} {u:Value} (h:o+l.length≤cur.size) (hu:(l.map bv)[j]?=some u):(ZJ cur o l)[o+j]?=some u:=by
 have hj:j<l.length:=by
  have:=(List.getElem?_eq_some_iff.1 hu).1
  simpa using this
 have hcl:cur.toList.length=cur.size:=by simp
 unfold ZJ
 rw[List.getElem?_toArray,List.append_assoc,List.getElem?_append_right (by rw[List.length_take];omega),List.length_take,hcl,show o+j-min o cur.size=j by omega,List.getElem?_append_left (by rw[List.length_map];exact hj)]
 exact hu
structure qbj (hb g o n:Nat) (cur:Array Value) (w:World):Prop where
 box:w.heap[hb]?=some (.cells #[.slice (some ⟨g,o,none⟩) n n] 257 (0,0))
 row:w.heap[g]?=some (.cells cur 5 (0,0))
 ne:hb≠g
 fit:o+n≤cur.size
 few:n<1000000000000000
def CloneQ (hb g o n:Nat) (cur:Array Value) (l:List UInt8) (w:World) (e:Ending) (w':World):Prop:=∃ o',e=.returned (.slice (some ⟨g,o,none⟩) l.length l.length)∧(0<n-l.length→o'=o+l.length)∧(n-l.length=0→o'=o)∧qbj hb g o' (n-l.length) (ZJ cur o l) w' ∧
 (w'.heap.size=w.heap.size∧w'.os=w.os∧w'.tape=w.tape∧w'.output=w.output∧∀ b,b≠hb→b≠g→w'.heap[b]?=w.heap[b]?)
theorem GJ (hb g o n:Nat) (cur:Array Value) (A:Option Addr) (c:Nat) (l:List UInt8) (hl:l.length≤n) (w:World) (H:qbj hb g o n cur w) (h:Bys w w.heap.size (.slice A l.length c) l) :
  Calls Tryz.prog 180 #[.pointer (some ⟨hb,0,none⟩),.slice A l.length c] w (CloneQ hb g o n cur l w):=by
 have hsz:(Tryz.prog.info? 5).map (·.size)=some 1:=by kernel_rfl
 obtain⟨r1,r2,hne,hfit,hfew⟩:=H
 have hcp:=XC (P:=Tryz.prog) w 257 26 3 5 g o n n A c l _ _ Tryz.underlying257 hsz r2 h hl (by omega)
 have e1:(List.take o cur.toList++List.map bv l++List.drop (o+l.length) cur.toList).toArray=ZJ cur o l:=rfl
 rw[e1] at hcp
 have r3:(w.setRow g (ZJ cur o l)).heap[hb]?=some (.cells #[.slice (some ⟨g,o,none⟩) n n] 257 (0,0)):=(setRow_other w g hb _ hne).trans r1
 have r4:=setRow_heap w g _ (ZJ cur o l) _ _ r2
 have h3:∀ b,b≠g→(w.setRow g (ZJ cur o l)).heap[b]?=w.heap[b]?:=fun b hb=>setRow_other w g b _ hb
 have s3:(w.setRow g (ZJ cur o l)).heap.size=w.heap.size:=by simp
 have o3:(w.setRow g (ZJ cur o l)).os=w.os∧(w.setRow g (ZJ cur o l)).tape=w.tape∧(w.setRow g (ZJ cur o l)).output=w.output:=⟨rfl,rfl,rfl⟩
 generalize w.setRow g (ZJ cur o l)=w3 at *
 have k1:=qa r1
 have k3:=qa r3
 have f3:=qd r3
 have f1:=qd r1
 clear h r1 r2 hsz e1
 replace h3:=zH h3
 replace r4:=zH r4
 replace o3:=zH o3
 have hll:=zH hl
 have hc1:(l.length:Int)≤(n:Int):=by omega
 have fin:Hid (∀ o' n',n'=n-l.length→(0<n'→o'=o+l.length)→(n'=0→o'=o)→CloneQ hb g o n cur l w (.returned (.slice (some ⟨g,o,none⟩) l.length l.length)) (w3.setCell ⟨hb,0,none⟩ (.slice (some ⟨g,o',none⟩) n' n'))):=zH fun o' n' e h1 h2=>by
  subst e
  refine⟨o',rfl,h1,h2,⟨qi r3 0 _,(zJ _ _ _ _ (fun e=>hne e.symm)).trans r4.out,hne,?_,by omega⟩,by simpa using s3,o3.out.1,o3.out.2.1,o3.out.2.2,fun b hb hbg=>(zJ _ _ _ _ hb).trans (h3.out b hbg)⟩
  rw[UG (by omega)]
  rcases Nat.eq_zero_or_pos (n-l.length) with h0|h0
  ·have:=h2 h0;omega
  ·have:=h1 h0;omega
 clear r3 r4 h3 o3 hfit
 go_enter Tryz.func180,Tryz.ntmps180
 go_wp2_with fail
 ·subst h
  go_ret
  exact fin.out o 0 (by omega) (fun h=>by omega) (fun _=>rfl)
 ·go_ret
  exact fin.out (o+l.length) (n-l.length) rfl (fun _=>rfl) (fun h=>by omega)
section
variable {R0 R:Rel} {c:Nat}
def preC (R0 R:Rel) (c i:Nat):Rel:=if i=c then R0 else R
def UP (R0 R:Rel) (c i:Nat):Rel:=if i=c then R else R0
section
variable {P:Program} {ops:Array Oper} {w0:World}
def jv (R0 R:Rel) (c:Nat) (P:Program) (ops:Array Oper) (w0:World) (H:Nat→Option qS) (i:Nat) (o:Oper) (a:Act) (F:qN) (h:qS):Prop:=
 (Region.wanted o (yielded ops a.tmps)=false∧h=one undef) ∨
 (Region.wanted o (yielded ops a.tmps)=true∧H i=none∧∃ v,h=one v∧∀ W,(preC R0 R c i).r w0 W→(∀ k∈qG o,F k W)→JV (UP R0 R c i) P o a W v) ∨
 (Region.wanted o (yielded ops a.tmps)=true∧H i=some h∧∀ W,(preC R0 R c i).r w0 W→(∀ k∈qG o,F k W)→QK (UP R0 R c i) P o a W h)
def Uv (R0 R:Rel) (c:Nat) (w0:World) (listed:Array Bool) (F:qN):Prop:=∃ W,R.r w0 W∧(listed.getD c true=false→R0.r w0 W)∧∀ k,F k W
def FOpC (R0 R:Rel) (c:Nat) (P:Program) (ops:Array Oper) (w0:World) (H:Nat→Option qS) (listed:Array Bool) (i:Nat) (o:Oper) (K:Act→qN→Prop) (a:Act) (F:qN):Prop:=
 ∃ h,jv R0 R c P ops w0 H i o a F h∧∀ p,Uv R0 R c w0 (listed.setIfInBounds i true) (upd F i o (h.φ p))→K (a.put o.dst (h.f p)) (upd F i o (h.φ p))
def jT (R0 R:Rel) (c:Nat) (P:Program) (ops:Array Oper) (w0:World) (H:Nat→Option qS) (Q:Act→qN→Prop):List (Nat×Oper)→Array Bool→Act→qN→Prop
 | [],_,a,F=>Q a F
 |(k,o) :: rest,listed,a,F=>FOpC R0 R c P ops w0 H listed k o (fun a' F'=>jT R0 R c P ops w0 H Q rest (listed.setIfInBounds k true) a' F') a F
def XP (R0 R:Rel) (c:Nat) (P:Program) (ops:Array Oper) (w0:World) (H:Nat→Option qS) (L:Array Bool) (Q:Act→qN→Prop):Nat→Array Bool→Act→qN→Prop
 |0,listed,a,F=>listed=L∧Q a F
 |fuel+1,listed,a,F=>Region.ready .any ops listed≠[]∧∀ i∈Region.ready .any ops listed,∀ o,ops[i]?=some o→FOpC R0 R c P ops w0 H listed i o (XP R0 R c P ops w0 H L Q fuel (listed.setIfInBounds i true)) a F
theorem qbY {listed:Array Bool} {i:Nat} {W:World} (hi:listed.getD i true=false) (h:R.r w0 W) (h0:listed.getD c true=false→R0.r w0 W):(preC R0 R c i).r w0 W:=by
 unfold preC
 split
 ·rename_i e;subst e;exact h0 hi
 ·exact h
theorem qgC (hle:∀ a b,R0.r a b→R.r a b) {i:Nat} {W W':World} (h:(UP R0 R c i).r W W'):R.r W W':=by
 unfold UP at h
 split at h
 ·exact h
 ·exact hle _ _ h
theorem stpC_0 {listed:Array Bool} {i:Nat} {W W':World} (hi:listed.getD i true=false) (h:(UP R0 R c i).r W W') (hc:(listed.setIfInBounds i true).getD c true=false):R0.r W W':=by
 unfold UP at h
 split at h
 ·rename_i e
  subst e
  exfalso
  rcases Nat.lt_or_ge i listed.size with h'|h'
  ·simp[h'] at hc
  ·simp[Array.getElem?_eq_none h'] at hi
 ·exact h
theorem unset {listed:Array Bool} {i c:Nat} (hc:(listed.setIfInBounds i true).getD c true=false):listed.getD c true=false:=by
 by_cases e:i=c
 ·subst e
  rcases Nat.lt_or_ge i listed.size with h'|h'
  ·simp[h'] at hc
  ·simp[Array.getElem?_eq_none h'] at hc
 ·rwa [getD_set_ne true e] at hc
def Void (c:Nat) (listed:Array Bool) (F:qN):Prop:=listed.getD c true=false→∀ k W,F k W
theorem keepC {listed:Array Bool} {F:qN} {i:Nat} {W W':World} (hi:listed.getD i true=false) (hst:∀ k,qD R0 (F k)) (hv:Void c listed F) (h:(UP R0 R c i).r W W') (k:Nat) (hF:F k W):F k W':=by
 unfold UP at h
 split at h
 ·rename_i e;subst e;exact hv hi k W'
 ·exact hst k _ _ h hF
theorem jv.unique {H:Nat→Option qS} {listed:Array Bool} {i:Nat} {o:Oper} {a:Act} {F:qN} {h h':qS} (hc:Uv R0 R c w0 listed F) (hi:listed.getD i true=false) (x:jv R0 R c P ops w0 H i o a F h) (y:jv R0 R c P ops w0 H i o a F h'):h=h':=by
 obtain⟨W,hW,hW0,hF⟩:=hc
 have hW:=qbY hi hW hW0
 rcases x with ⟨x1,rfl⟩|⟨x1,x2,v,rfl,x3⟩|⟨x1,x2,x3⟩ <;> rcases y with ⟨y1,rfl⟩|⟨y1,y2,u,rfl,y3⟩|⟨y1,y2,y3⟩
 ·rfl
 ·rw[x1] at y1;cases y1
 ·rw[x1] at y1;cases y1
 ·rw[x1] at y1;cases y1
 ·obtain⟨w1,e1,_⟩:=x3 W hW fun k _=>hF k
  obtain⟨w2,e2,_⟩:=y3 W hW fun k _=>hF k
  rw[e1] at e2
  cases e2
  rfl
 ·rw[x2] at y2;cases y2
 ·rw[x1] at y1;cases y1
 ·rw[x2] at y2;cases y2
 ·rw[x2] at y2;cases y2;rfl
theorem jv.some_ (hle:∀ a b,R0.r a b→R.r a b) {H:Nat→Option qS} {listed:Array Bool} {i:Nat} {o:Oper} {a:Act} {F:qN} {h:qS} (hc:Uv R0 R c w0 listed F) (hi:listed.getD i true=false) (hst:∀ k,qD R0 (F k)) (hv:Void c listed F) (x:jv R0 R c P ops w0 H i o a F h):∃ p,Uv R0 R c w0 (listed.setIfInBounds i true) (upd F i o (h.φ p)):=by
 obtain⟨W,hW,hW0,hF⟩:=hc
 have triv:∀ (φ:World→Prop) W',(UP R0 R c i).r W W'→φ W'→Uv R0 R c w0 (listed.setIfInBounds i true) (upd F i o φ):=fun φ W' he hφ=>⟨W',R.trans hW (qgC hle he),fun h=>R0.trans (hW0 (unset h)) (stpC_0 hi he h),fun k=>by
  unfold upd
  split
  ·exact⟨hφ,fun j _=>keepC hi hst hv he j (hF j)⟩
  ·exact keepC hi hst hv he k (hF k)⟩
 have hW:=qbY hi hW hW0
 rcases x with ⟨x1,rfl⟩|⟨x1,x2,v,rfl,x3⟩|⟨x1,x2,x3⟩
 ·exact⟨(),triv _ W (Rel.refl _ W) trivial⟩
 ·obtain⟨w',_,he⟩:=x3 W hW fun k _=>hF k
  exact⟨(),triv _ w' he trivial⟩
 ·have h3:=x3 W hW fun k _=>hF k
  unfold QK at h3
  generalize (execOp a.eval o).run P W=r at h3
  cases r with
  |ok n w' =>
   cases n <;> simp only[ZN] at h3
   case value u=>obtain⟨p,_,hp,he⟩:=h3;exact⟨p,triv _ w' he hp⟩
   case skip=>obtain⟨p,_,hp,he⟩:=h3;exact⟨p,triv _ w' he hp⟩
   case enter f args =>
    obtain⟨he,hcl⟩:=h3
    obtain⟨e,w'',fr,⟨p,_,hp,he2⟩,_⟩:=hcl []
    exact⟨p,triv _ w'' (Rel.trans _ he he2) hp⟩
  |halt x w'=>simp only[ZN] at h3
theorem jv.move {H:Nat→Option qS} {i j:Nat} {oi oj:Oper} {a:Act} {F:qN} {h:qS} {v:Value} {φ:World→Prop} (hap:oi.apart ops oj=true) (hsj:∀ cs b,oj.op≠.select cs b) (hn:i∉qG oj) :
  jv R0 R c P ops w0 H j oj (a.put oi.dst v) (upd F i oi φ) h↔jv R0 R c P ops w0 H j oj a F h:=by
 obtain⟨h1,_,_⟩:=Oper.apart_spec hap
 have hF:∀ W,(∀ k∈qG oj,upd F i oi φ k W)↔∀ k∈qG oj,F k W:=fun W=>by
  constructor <;> intro hh k hk
  ·have:=hh k hk;unfold upd at this;rwa [if_neg (fun e=>hn (by rw[←e];exact hk))] at this
  ·unfold upd;rw[if_neg (fun e=>hn (by rw[←e];exact hk))];exact hh k hk
 unfold jv JV QK
 rw[wanted_put oj a oi.dst v h1,execOp_put oj hsj a oi.dst v h1]
 simp only[hF]
theorem jv.move' {H:Nat→Option qS} {i j:Nat} {oi oj:Oper} {a:Act} {F:qN} {h:qS} {v:Value} {φ:World→Prop} (hap:oi.apart ops oj=true) (hsi:∀ cs b,oi.op≠.select cs b) (hn:j∉qG oi) :
  jv R0 R c P ops w0 H i oi (a.put oj.dst v) (upd F j oj φ) h↔jv R0 R c P ops w0 H i oi a F h:=by
 obtain⟨_,_,h3⟩:=Oper.apart_spec hap
 have hF:∀ W,(∀ k∈qG oi,upd F j oj φ k W)↔∀ k∈qG oi,F k W:=fun W=>by
  constructor <;> intro hh k hk
  ·have:=hh k hk;unfold upd at this;rwa [if_neg (fun e=>hn (by rw[←e];exact hk))] at this
  ·unfold upd;rw[if_neg (fun e=>hn (by rw[←e];exact hk))];exact hh k hk
 unfold jv JV QK
 rw[wanted_put oi a oj.dst v h3,execOp_put oi hsi a oj.dst v h3]
 simp only[hF]
theorem jv.stable {H:Nat→Option qS} (hH:∀ i h,H i=some h→∀ p,qD R0 (h.φ p)) {i:Nat} {o:Oper} {a:Act} {F:qN} {h:qS} (x:jv R0 R c P ops w0 H i o a F h):∀ p,qD R0 (h.φ p):=by
 rcases x with ⟨_,rfl⟩|⟨_,_,v,rfl,_⟩|⟨_,x2,_⟩
 ·exact fun _ _ _ _ _=>trivial
 ·exact fun _ _ _ _ _=>trivial
 ·exact hH i h x2
theorem jv.void {H:Nat→Option qS} (hone:∀ i h,H i=some h→i=c) {listed:Array Bool} {i:Nat} {o:Oper} {a:Act} {F:qN} {h:qS} (hv:Void c listed F) (x:jv R0 R c P ops w0 H i o a F h) (p:h.α):Void c (listed.setIfInBounds i true) (upd F i o (h.φ p)):=by
 intro hc k W
 have hcl:=hv (unset hc)
 unfold upd
 split
 ·refine⟨?_,fun j _=>hcl j W⟩
  rcases x with ⟨_,rfl⟩|⟨_,_,v,rfl,_⟩|⟨_,x2,_⟩
  ·trivial
  ·trivial
  ·exfalso
   have e:=hone i h x2
   subst e
   rcases Nat.lt_or_ge i listed.size with h'|h'
   ·simp[h'] at hc
   ·simp[Array.getElem?_eq_none h'] at hc
 ·exact hcl k W
theorem qay (hle:∀ a b,R0.r a b→R.r a b) {H:Nat→Option qS} (hone:∀ i h,H i=some h→i=c) (hH:∀ i h,H i=some h→∀ p,qD R0 (h.φ p)) {A:Nat→Prop} {Cl:Array Bool→Prop} {L:Array Bool} {Q:Act→qN→Prop} {i:Nat} {oi:Oper} (hi:ops[i]?=some oi) (him:A i)
  (hsel:∀ (j:Nat) (o:Oper) cs b,ops[j]?=some o→o.op≠.select cs b) (hcl:∀ listed j,Cl listed→j∈Region.ready .any ops listed→Cl (listed.setIfInBounds j true)) (htail:∀ (listed:Array Bool) (j:Nat),Cl listed→j∈Region.ready .any ops listed→L.getD j true=false→∀ k,A k→listed.getD k false=true) :
  ∀ (fuel:Nat) (listed:Array Bool) (a:Act) (F:qN),Cl listed →
   (∀ j oj,ops[j]?=some oj→j≠i→listed.getD j true=false→(∀ e∈oj.after,Region.binds .any e=true→e.on≠i)→oi.apart ops oj=true) →
   i∈Region.ready .any ops listed→(∀ k,qD R0 (F k))→Uv R0 R c w0 listed F→Void c listed F→(∀ k,listed.getD k true=false→∀ W,F k W) →
   FOpC R0 R c P ops w0 H listed i oi (XP R0 R c P ops w0 H L Q fuel (listed.setIfInBounds i true)) a F→XP R0 R c P ops w0 H L Q (fuel+1) listed a F:=by
 intro fuel
 induction fuel with
 |zero =>
  intro listed a F hCl _ hr hst hc hvd _ hop
  refine⟨fun h=>(by rw[h] at hr;cases hr),fun j hj oj hoj=>?_⟩
  by_cases hji:j=i
  ·subst hji
   rw[hi] at hoj;cases hoj
   exact hop
  ·exfalso
   obtain⟨h,hok,hK⟩:=hop
   obtain⟨p,hcp⟩:=hok.some_ hle hc (mem_ready.1 hr).1 hst hvd
   have hmj:L.getD j true=false:=by rw[←(hK p hcp).1];exact(mem_ready.1 (ready_mono hj hji)).1
   have h1:=htail listed j hCl hj hmj i him
   have h0:=(mem_ready.1 hr).1
   rcases Nat.lt_or_ge i listed.size with h'|h'
   ·simp[h'] at h0 h1;rw[h0] at h1;cases h1
   ·simp[Array.getElem?_eq_none h'] at h1
 |succ fuel ih =>
  intro listed a F hCl hfree hr hst hc hvd hun hop
  refine⟨fun h=>(by rw[h] at hr;cases hr),fun j hj oj hoj=>?_⟩
  by_cases hji:j=i
  ·subst hji
   rw[hi] at hoj;cases hoj
   exact hop
  ·obtain⟨hjun,oj',hoj',hall⟩:=mem_ready.1 hj
   rw[hoj] at hoj';cases hoj'
   obtain⟨hiun,oi',hoi',halli⟩:=mem_ready.1 hr
   rw[hi] at hoi';cases hoi'
   have bad:∀ k,listed.getD k true=false→listed.getD k false=true→False:=fun k h0 h1=>by
    rcases Nat.lt_or_ge k listed.size with h'|h'
    ·simp[h'] at h0 h1;rw[h0] at h1;cases h1
    ·simp[Array.getElem?_eq_none h'] at h1
   have hnot:∀ e∈oj.after,Region.binds .any e=true→e.on≠i:=fun e he hb heq=>bad i hiun (heq ▸ hall e he hb)
   have hnot':∀ e∈oi.after,Region.binds .any e=true→e.on≠j:=fun e he hb heq=>bad j hjun (heq ▸ halli e he hb)
   have hpi:i∉qG oj:=fun hin=>by
    obtain⟨e,he,hei⟩:=List.mem_map.1 hin
    rw[List.mem_filter] at he
    exact hnot e (by simpa using he.1) he.2 hei
   have hpj:j∉qG oi:=fun hin=>by
    obtain⟨e,he,hei⟩:=List.mem_map.1 hin
    rw[List.mem_filter] at he
    exact hnot' e (by simpa using he.1) he.2 hei
   have hap:=hfree j oj hoj hji hjun hnot
   have hsi:∀ cs b,oi.op≠.select cs b:=fun cs b=>hsel i oi cs b hi
   have hsj:∀ cs b,oj.op≠.select cs b:=fun cs b=>hsel j oj cs b hoj
   obtain⟨h2,_⟩:=(Oper.apart_spec hap).2
   obtain⟨hI,okI,hKI⟩:=hop
   obtain⟨p0,hcp0⟩:=okI.some_ hle hc hiun hst hvd
   obtain⟨hJ,okJ0,_⟩:=(hKI p0 hcp0).2 j (ready_mono hj hji) oj hoj
   have okJ:jv R0 R c P ops w0 H j oj a F hJ:=(jv.move hap hsj hpi).1 okJ0
   refine⟨hJ,okJ,fun q hcq=>?_⟩
   have stJ:=okJ.stable hH q
   have hfree':∀ k ok,ops[k]?=some ok→k≠i→(listed.setIfInBounds j true).getD k true=false →
     (∀ e∈ok.after,Region.binds .any e=true→e.on≠i)→oi.apart ops ok=true:=fun k ok hk hki hunk hno=>by
    refine hfree k ok hk hki ?_ hno
    by_cases hjk:j=k
    ·subst hjk;exact hjun
    ·rw[getD_set_ne true hjk] at hunk;exact hunk
   refine ih (listed.setIfInBounds j true) _ _ (hcl _ _ hCl hj) hfree' (ready_mono hr (Ne.symm hji)) (Zu hst j oj stJ) hcq (okJ.void hone hvd q) ?_ ?_
   ·intro k hk W
    by_cases hjk:j=k
    ·subst hjk
     exfalso
     have hlt:j<listed.size:=by
      rcases Nat.lt_or_ge j listed.size with h'|h'
      ·exact h'
      ·simp[Array.getElem?_eq_none h'] at hjun
     simp[hlt] at hk
    ·rw[getD_set_ne true hjk] at hk
     have:=hun k hk W
     unfold upd;rw[if_neg (fun e=>hjk e.symm)];exact this
   ·refine⟨hI,(jv.move' hap hsi hpj).2 okI,fun p hcp=>?_⟩
    have hcp':Uv R0 R c w0 (listed.setIfInBounds i true) (upd F i oi (hI.φ p)):=by
     by_cases hjc:j=c
     ·have hIone:∃ v,hI=one v:=by
       rcases okI with ⟨_,e⟩|⟨_,_,v,e,_⟩|⟨_,e,_⟩
       ·exact⟨_,e⟩
       ·exact⟨_,e⟩
       ·exact absurd ((hone _ _ e).trans hjc.symm) (Ne.symm hji)
      obtain⟨v,rfl⟩:=hIone
      exact hcp0
     ·obtain⟨W,hW,hW0,hF⟩:=hcp
      refine⟨W,hW,fun h=>hW0 ?_,fun k=>?_⟩
      ·rw[Array.setIfInBounds_comm _ _ hji,getD_set_ne true hjc]
       exact h
      have hk:=hF k
      by_cases hki:k=i
      ·subst hki
       unfold upd at hk ⊢
       rw[if_pos rfl] at hk ⊢
       refine⟨hk.1,fun l hl=>?_⟩
       have:=hk.2 l hl
       rwa [if_neg (fun e=>hpj (by rw[←e];exact hl))] at this
      ·by_cases hkj:k=j
       ·subst hkj
        unfold upd;rw[if_neg hki];exact hun k hjun W
       ·unfold upd at hk ⊢
        rw[if_neg hki,if_neg hkj] at hk
        rw[if_neg hki];exact hk
    obtain⟨hJ',okJ',hKJ'⟩:=(hKI p hcp').2 j (ready_mono hj hji) oj hoj
    have okJ'':jv R0 R c P ops w0 H j oj a F hJ':=(jv.move hap hsj hpi).1 okJ'
    have e:=okJ''.unique hc hjun okJ
    subst e
    have hq:=hKJ' q (by rw[JZ F _ _ (Ne.symm hji) hpi hpj,Array.setIfInBounds_comm _ _ (fun e=>hji e.symm)];exact hcp)
    rw[Array.setIfInBounds_comm _ _ (fun e=>hji e.symm),Act.put_comm a (hI.f p) (hJ'.f q) h2,JZ F _ _ (Ne.symm hji) hpi hpj] at hq
    exact hq
theorem Ua (hle:∀ a b,R0.r a b→R.r a b) {H:Nat→Option qS} (hone:∀ i h,H i=some h→i=c) (hH:∀ i h,H i=some h→∀ p,qD R0 (h.φ p)) {Cl:Array Bool→Prop} {L:Array Bool} {ks:List Nat} {Q:Act→qN→Prop} (hs:Region.noSelect ops=true)
  (hcl:∀ listed j,Cl listed→j∈Region.ready .any ops listed→Cl (listed.setIfInBounds j true)) (htail:∀ (listed:Array Bool) (j:Nat),Cl listed→j∈Region.ready .any ops listed→L.getD j true=false→∀ k,k∈ks→listed.getD k false=true):∀ (l:List (Nat×Oper)) (listed:Array Bool) (a:Act) (F:qN),Cl listed→(∀ x∈l,ops[x.1]?=some x.2∧x.1∈ks) →
  Zw ops L (l.map (·.1)) listed=true→(∀ k,qD R0 (F k))→Uv R0 R c w0 listed F→Void c listed F→(∀ j,listed.getD j true=false→∀ W,F j W)→jT R0 R c P ops w0 H Q l listed a F→XP R0 R c P ops w0 H L Q l.length listed a F
 | [],listed,a,F,_,_,hB,_,_,_,_,h=>⟨by simpa [Zw] using hB,h⟩
 |(k,o) :: l,listed,a,F,hCl,hl,hB,hst,hc,hvd,hun,h=>by
  obtain⟨h0,hks⟩:=hl (k,o) (List.mem_cons_self)
  simp only[List.map_cons,Zw,Bool.and_eq_true] at hB
  obtain⟨⟨hr,hf⟩,hB'⟩:=hB
  have hrk:k∈Region.ready .any ops listed:=by simpa using hr
  have hkun:=(mem_ready.1 hrk).1
  refine qay hle hone (A:=fun k=>k∈ks) hH h0 hks (Region.noSelect_spec hs) hcl htail l.length listed a F hCl (Region.free_spec h0 hf) hrk hst hc hvd hun ?_
  obtain⟨hh,hok,hK⟩:=h
  refine⟨hh,hok,fun p hcp=>?_⟩
  refine Ua hle hone hH hs hcl htail l _ _ _ (hcl _ _ hCl hrk) (fun x hx=>hl x (List.mem_cons_of_mem _ hx)) hB' (Zu hst k o (hok.stable hH p)) hcp (hok.void hone hvd p) (fun j hj W=>?_) (hK p hcp)
  by_cases hjk:k=j
  ·subst hjk
   have hlt:k<listed.size:=by
    rcases Nat.lt_or_ge k listed.size with h'|h'
    ·exact h'
    ·simp[Array.getElem?_eq_none h'] at hkun
   simp[hlt] at hj
  ·rw[getD_set_ne true hjk] at hj
   have:=hun j hj W
   unfold upd
   rw[if_neg (fun e=>hjk e.symm)]
   exact this
theorem qaM (hle:∀ a b,R0.r a b→R.r a b) {H:Nat→Option qS} {i:Nat} {o:Oper} {a:Act} {F:qN} {K:Act→qN→Prop} {K':Act→World→Prop} {Q':Exit→Act→World→Prop} {W:World} {listed:Array Bool} (hli:listed.getD i true=false) (hi:ops[i]?=some o)
  (hone:∀ i h,H i=some h→i=c) (hH:∀ i h,H i=some h→∀ p,qD R0 (h.φ p)) (hst:∀ k,qD R0 (F k)) (hvd:Void c listed F) (hW:R.r w0 W) (hW0:listed.getD c true=false→R0.r w0 W) (hF:∀ k,F k W)
  (hK:∀ a' F' W',K a' F'→(∀ k,qD R0 (F' k))→Void c (listed.setIfInBounds i true) F'→R.r w0 W'→((listed.setIfInBounds i true).getD c true=false→R0.r w0 W')→(∀ k,F' k W')→K' a' W') (h:FOpC R0 R c P ops w0 H listed i o K a F):wpOp P ops Q' i K' a W:=by
 obtain⟨hh,hok,hn⟩:=h
 have go:∀ p W',(UP R0 R c i).r W W'→hh.φ p W'→K' (a.put o.dst (hh.f p)) W':=fun p W' he0 hφ=>by
  have he:=qgC hle he0
  have h0:(listed.setIfInBounds i true).getD c true=false→R0.r w0 W':=fun h=>R0.trans (hW0 (unset h)) (stpC_0 hli he0 h)
  have hF':∀ k,upd F i o (hh.φ p) k W':=fun k=>by
   unfold upd
   split
   ·exact⟨hφ,fun j _=>keepC hli hst hvd he0 j (hF j)⟩
   ·exact keepC hli hst hvd he0 k (hF k)
  exact hK _ _ W' (hn p ⟨W',R.trans hW he,h0,hF'⟩) (Zu hst i o (hok.stable hH p)) (hok.void hone hvd p) (R.trans hW he) h0 hF'
 have hWp:=qbY (c:=c) hli hW hW0
 unfold wpOp
 simp only[hi]
 rcases hok with ⟨x1,rfl⟩|⟨x1,x2,v,rfl,x3⟩|⟨x1,x2,x3⟩
 ·simp only[x1,Bool.false_eq_true,if_false]
  exact go () W (Rel.refl _ W) trivial
 ·simp only[x1,if_true]
  obtain⟨w',hr,he⟩:=x3 W hWp fun k _=>hF k
  refine .inl ?_
  unfold Oper.wp
  rw[hr]
  exact go () w' he trivial
 ·simp only[x1,if_true]
  have h3:=x3 W hWp fun k _=>hF k
  refine .inl ?_
  unfold QK at h3
  unfold Oper.wp
  generalize (execOp a.eval o).run P W=r at *
  cases r with
  |ok n w' =>
   cases n <;> simp only[ZN] at h3 <;> simp only[Oper.upon]
   case value u =>
    obtain⟨p,rfl,hp,he⟩:=h3
    exact go p w' he hp
   case skip =>
    obtain⟨p,hu,hp,he⟩:=h3
    rw[hu]
    exact go p w' he hp
   case enter f args =>
    obtain⟨he,hcl⟩:=h3
    refine hcl.mono fun e w'' ⟨p,he1,hp,he2⟩=>?_
    subst he1
    exact go p w'' (Rel.trans _ he he2) hp
  |halt x w'=>simp only[ZN] at h3
theorem KZ (hle:∀ a b,R0.r a b→R.r a b) {H:Nat→Option qS} (hone:∀ i h,H i=some h→i=c) (hH:∀ i h,H i=some h→∀ p,qD R0 (h.φ p)) {L:Array Bool} {t:Nat} {Q:Act→qN→Prop} {Q':Exit→Act→World→Prop}
  (hQ:∀ a F W,Q a F→R.r w0 W→(∀ k,F k W)→wpAny P .any ops Q' t L a W) :
  ∀ (fuel:Nat) (listed:Array Bool) (a:Act) (F:qN) (W:World),(∀ k,qD R0 (F k))→Void c listed F→R.r w0 W→(listed.getD c true=false→R0.r w0 W)→(∀ k,F k W)→XP R0 R c P ops w0 H L Q fuel listed a F→wpAny P .any ops Q' (fuel+t) listed a W
 |0,listed,a,F,W,_,_,hW,_,hF,h=>by
  rw[h.1,Nat.zero_add]
  exact hQ a F W h.2 hW hF
 |fuel+1,listed,a,F,W,hst,hvd,hW,hW0,hF,h=>by
  rw[show fuel+1+t=fuel+t+1 by omega]
  refine⟨fun h0=>absurd h0 h.1,fun i hi=>?_⟩
  obtain⟨hli,o,ho,_⟩:=mem_ready.1 hi
  exact qaM hle hli ho hone hH hst hvd hW hW0 hF (fun a' F' W' hk hst' hvd' hW' hW0' hF'=>KZ hle hone hH hQ fuel _ a' F' W' hst' hvd' hW' hW0' hF' hk) (h.2 i hi o ho)
theorem qbt {l:List Oper} {Q:Exit→Act→World→Prop} {fuel:Nat} {listed:Array Bool} {a:Act} {w W:World} (R0 R:Rel) (c:Nat) (hle:∀ a b,R0.r a b→R.r a b) (H:Nat→Option qS) (M:List Bool) (t:Nat)
  (hs:Region.noSelect l.toArray=true) (ht:qen l.toArray (QQ l.length (l.length-t)) ((qp 0 l M).map (·.1))=true) (hc0:Yj l.toArray listed=true) (hB:Zw l.toArray (QQ l.length (l.length-t)) ((qp 0 l M).map (·.1)) listed=true)
  (hseq:TS l.toArray t (l.length-t) (QQ l.length (l.length-t))=true) (hfu:fuel=(qp 0 l M).length+t) (htl:(l.drop (l.length-t)).length=t)
  (hH:∀ i h,H i=some h→∀ p,qD R0 (h.φ p)) (hone:∀ i h,H i=some h→i=c) (hW:R0.r w W)
  (h:∀ K:Act→qN→Prop,(∀ a' F',(∀ W,R.r w W→(∀ k,F' k W)→wpList P l.toArray Q (l.drop (l.length-t)) a' W)→K a' F')→jT R0 R c P l.toArray w H K (qp 0 l M) listed a (fun _ _=>True)):wpAny P .any l.toArray Q fuel listed a W:=by
 have h:=h _ (fun a' F' hh=>hh)
 subst hfu
 have key:=Ua hle hone (w0:=w) hH hs (fun _ _ h=>h.step) (Xu ht) (qp 0 l M) listed a (fun _ _=>True) (vt hc0) (fun x hx=>by
  obtain⟨j,h1,h2⟩:=vy l M 0 x hx
  refine⟨?_,List.mem_map.2 ⟨x,hx,rfl⟩⟩
  rw[h1,Nat.zero_add]
  simpa using h2) hB (fun _ _ _ _ _=>trivial) ⟨W,hle _ _ hW,fun _=>hW,fun _=>trivial⟩ (fun _ _ _=>trivial) (fun _ _ _=>trivial) h
 refine KZ hle hone (w0:=w) hH (t:=t) (Q':=Q) (fun a F W hq hW hF=>?_) _ _ _ _ W (fun _ _ _ _ _=>trivial) (fun _ _ _=>trivial) (hle _ _ hW) (fun _=>hW) (fun _=>trivial) key
 have:=VY (l.drop (l.length-t)) (l.length-t) _ a W (fun j _=>by rw[List.getElem?_drop];simp) (by rw[htl];exact hseq) (hq W hW hF)
 rwa [htl] at this
/-! ### the steps of the walk -/
section
variable {H:Nat→Option qS} {Q:Act→qN→Prop} {k:Nat} {o:Oper} {rest:List (Nat×Oper)} {a:Act} {F:qN} {listed:Array Bool}
theorem qbs (h:Q a F):jT R0 R c P ops w0 H Q [] listed a F:=h
theorem qeL (v:Value) (hw:Region.wanted o (yielded ops a.tmps)=true) (hH:H k=none) (hv:∀ W,(preC R0 R c k).r w0 W→(∀ j∈qG o,F j W)→JV (UP R0 R c k) P o a W v)
  (h:jT R0 R c P ops w0 H Q rest (listed.setIfInBounds k true) (a.put o.dst v) (upd F k o fun _=>True)):jT R0 R c P ops w0 H Q ((k,o) :: rest) listed a F:=
 ⟨one v,.inr (.inl ⟨hw,hH,v,rfl,hv⟩),fun _ _=>h⟩
theorem jw (hle:∀ a b,R0.r a b→R.r a b) (v:Value) (hw:Region.wanted o (yielded ops a.tmps)=true) (hH:H k=none) (hv:∀ W,R.r w0 W→(∀ j∈qG o,F j W)→(execOp a.eval o).run P W=.ok (.value v) W)
  (h:jT R0 R c P ops w0 H Q rest (listed.setIfInBounds k true) (a.put o.dst v) (upd F k o fun _=>True)):jT R0 R c P ops w0 H Q ((k,o) :: rest) listed a F:=
 qeL v hw hH (fun W hW hF=>⟨W,hv W (by unfold preC at hW;split at hW;exact hle _ _ hW;exact hW) hF,Rel.refl _ W⟩) h
theorem JH (hw:Region.wanted o (yielded ops a.tmps)=false) (h:jT R0 R c P ops w0 H Q rest (listed.setIfInBounds k true) (a.put o.dst undef) (upd F k o fun _=>True)):jT R0 R c P ops w0 H Q ((k,o) :: rest) listed a F:=
 ⟨one undef,.inl ⟨hw,rfl⟩,fun _ _=>h⟩
theorem Gs (hh:qS) (hw:Region.wanted o (yielded ops a.tmps)=true) (hH:H c=some hh) (hv:∀ W,R0.r w0 W→(∀ j∈qG o,F j W)→QK R P o a W hh)
  (h:∀ p,jT R0 R c P ops w0 H Q rest (listed.setIfInBounds c true) (a.put o.dst (hh.f p)) (upd F c o (hh.φ p))):jT R0 R c P ops w0 H Q ((c,o) :: rest) listed a F:=
 ⟨hh,.inr (.inr ⟨hw,hH,fun W hW hF=>by unfold preC at hW;unfold UP;rw[if_pos rfl] at hW ⊢;exact hv W hW hF⟩),fun p _=>h p⟩
end
end
end
structure Uo (S:Sto):Prop where
 bs:S.bs.length<1000000
 ws:S.ws.length<1000000
 be:∀ l∈S.bs,l.length<1000000
 we:∀ p∈S.ws,p.2.length<1000000
 now:S.now.length<1000000
 last:S.last.length<1000000
end Go.Proofs.YtpbniokljofedaaGreat
