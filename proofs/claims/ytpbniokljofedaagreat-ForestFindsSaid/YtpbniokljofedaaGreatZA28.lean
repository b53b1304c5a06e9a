/- From a law's walk to its row: the arguments read behind the call as they did. -/
import Derived.Deep.LoopGhost
import Derived.Deep.Slices
import Derived.Test.YtpbniokljofedaaGreatZA01
import Derived.Test.YtpbniokljofedaaGreatZA07
import Derived.Test.YtpbniokljofedaaGreatZA08
import Derived.Test.YtpbniokljofedaaGreatZA16
import Derived.Test.YtpbniokljofedaaGreatZA17
import Derived.Test.YtpbniokljofedaaGreatZA18
import Derived.Test.YtpbniokljofedaaGreatZA19
import Derived.Test.YtpbniokljofedaaGreatZA23
import Derived.Test.YtpbniokljofedaaGreatZA24
import Derived.Test.YtpbniokljofedaaGreatZA27
set_option linter.unusedSimpArgs false
set_option linter.unusedVariables false
namespace Go.Proofs.YtpbniokljofedaaGreat
open Go.RowKit
theorem vH.not {S:Sto} {root next:Int} {dead:List Int} {vs:List Vol} {met refs:List Nat} (hb:vH S root next dead) (h:qbI S root next dead=some (vs,met,refs)):False:=by
 obtain⟨h1,h2,h3⟩:=TD h
 obtain⟨refs',nodes',hc,hn⟩:=hb vs h1
 obtain⟨_,e⟩:=Ze.same hc.mkd h2.mkd
 subst e
 exact hn h3
theorem set1 {w w':World} {e:Ending} (h:SetQ st1 0 8 2 [] GI w e w'):Below w.heap.size w w'∧∃ u,e=.returned (.tuple #[u,.int .i64 0])∧Ym w.heap.size st2 0 10 2 [] u w':=by
 obtain⟨hB,h⟩:=h
 refine⟨hB,?_⟩
 rcases h with ⟨_,hb⟩|⟨vs,refs,nodes,hp,hc,he,h⟩
 ·exact(hb.not qaW).elim
 ·obtain⟨h1,h2,h3⟩:=TD qaW
  obtain⟨rfl,rfl,-⟩:=QT.unique h1 h2 hp hc
  rcases h with ⟨er,hne,_,h⟩|⟨r,S',vs',u,_,hs,_,rfl,hN⟩
  ·exfalso
   rcases h with h|⟨_,h|⟨_,r,S',h,hb⟩⟩
   ·rw[st1_fask] at h;exact hne h.symm
   ·rw[Gy] at h;cases h
   ·rw[Gy] at h
    simp only[Except.ok.injEq,Prod.mk.injEq] at h
    obtain⟨rfl,rfl⟩:=h
    exact hb.not Td
  ·rw[Gy] at hs
   simp only[Except.ok.injEq,Prod.mk.injEq] at hs
   obtain⟨rfl,rfl⟩:=hs
   exact⟨u,rfl,hN⟩
theorem Ym.sto {lo:Nat} {S:Sto} {gen root next:Int} {dead:List Int} {u:Value} {W:World} (h:Ym lo S gen root next dead u W):∃ A1 c1 A2 c2 A3 c3 A4 c4 A5 c5,u=.agg (Qo (.slice A1 S.bs.length c1) (.slice A2 S.ws.length c2) (.slice A3 S.now.length c3) (.slice A4 S.last.length c4) gen root next (.slice A5 dead.length c5)) ∧
  Qc W W.heap.size (.slice A1 S.bs.length c1) (.slice A2 S.ws.length c2) (.slice A3 S.now.length c3) (.slice A4 S.last.length c4) S∧Zu W W.heap.size (.slice A5 dead.length c5) dead:=by
 obtain⟨A1,c1,A2,c2,A3,c3,A4,c4,A5,c5,e,h⟩:=h
 exact⟨A1,c1,A2,c2,A3,c3,A4,c4,A5,c5,e,h W fun q v h1 h2 h3=>(YM h3).1⟩
theorem Ym.keep {lo lo':Nat} {S:Sto} {gen root next:Int} {dead:List Int} {u:Value} {W W':World} (h:Ym lo S gen root next dead u W) (hl:lo'≤lo) (hs:W.heap.size≤W'.heap.size) (hk:∀ k,lo≤k→k<W.heap.size→W'.heap[k]?=W.heap[k]?):Ym lo' S gen root next dead u W':=by
 obtain⟨A1,c1,A2,c2,A3,c3,A4,c4,A5,c5,e,h⟩:=h
 refine⟨A1,c1,A2,c2,A3,c3,A4,c4,A5,c5,e,fun C hC=>?_⟩
 obtain⟨h1,h2⟩:=h C fun q v h1 h2 h3=>hC q v (by omega) (by omega) ((jP (hk q.block h1 h2)).trans h3)
 exact⟨h1.more hs,h2.more hs⟩
theorem Zu.nil_ (w:World) (B:Nat):Zu w B (.slice none 0 0) []:=⟨none,0,rfl,Nat.le_refl _,by simp[maxLen],Rd.none_⟩
theorem qca {R:Ending→World→Prop} {a:Act} {W:World} {b:Nat} {x0 x1 x2 x3 x4 x5 x6 x7 v:Value} (h4:a.tmps[0]?.getD undef=.pointer (some ⟨b,0,none⟩)) (h5:a.tmps[1]?.getD undef=v) (hd:a.defers=[])
  (hrow:W.heap[b]?=some (.cells #[x0,x1,x2,x3,x4,x5,x6,x7] 32 (0,0))) (hR:R (.returned (.tuple #[.agg #[x0,x1,x2,x3,x4,x5,x6,x7],v])) W):bodyPost Tryz.prog Tryz.f43 R .ret a W:=by
 refine bodyPost_ret (v:=.tuple #[.agg #[x0,x1,x2,x3,x4,x5,x6,x7],v]) ?_ hd hR
 have k:=qa hrow
 simp[results,Tryz.results43,go_sem,h4,h5,k]
set_option maxHeartbeats 2000000 in
set_option maxRecDepth 100000 in
theorem qbV (w:World):Calls Tryz.prog 43 #[] w (zD (fun u W=>∃ v,u=.tuple #[v,.bool true]∧Ym w.heap.size st2 0 10 2 [] v W) w):=by
 go_enter Tryz.func43,Tryz.ntmps43
 go_wp2_with fail
 generalize hw1:World.alloc _ _=w1
 have x1:Ext w w1:=by rw[←hw1];exact Ext.alloc _ _
 have q1:w1.heap[w.heap.size]?=some (.cells (Qo (.slice none 0 0) (.slice none 0 0) (.slice none 0 0) (.slice none 0 0) 0 0 0 (.slice none 0 0)) 32 (0,0)):=by rw[←hw1];exact World.alloc_heap_at _ _ _ (by simp)
 clear hw1
 refine(fnew_any w1).mono ?_
 rintro e w2 ⟨u,rfl,hp,hB⟩
 have x12:Ext w1 w2:=hB
 have x2:Ext w w2:=x1.trans x12
 have q2:=qc q1 x12
 obtain⟨A1,c1,A2,c2,A3,c3,A4,c4,rfl,hS⟩:=hp.sto
 obtain⟨l1,l2,l3,l4⟩:=VP
 have HN:=zH (fun W (hx:Ext w2 W)=>pnew_any A1 256 c1 A2 1 c2 A3 256 c3 A4 256 c4 qD W (hS.ext hx))
 rw[qdG] at HN
 clear hS hp l1 l2 l3 l4 hB
 go_wp2_with fail
 generalize hw3:World.alloc w2 _=w3
 have x23:Ext w2 w3:=by rw[←hw3];exact Ext.alloc _ _
 have p3:w3.heap[w2.heap.size]?=some (.cells (Qo (.slice A1 256 c1) (.slice A2 1 c2) (.slice A3 256 c3) (.slice A4 256 c4) 0 8 1 (.slice none 0 0)) 32 (0,0)):=by rw[←hw3];exact World.alloc_heap_at _ _ _ (by simp)
 clear hw3
 refine(HN.out w3 x23).mono ?_
 clear HN
 rintro e w4 ⟨u,rfl,⟨v,rfl,hT⟩,hB⟩
 have x34:Ext w3 w4:=hB
 have p4:=qc p3 x34
 have q4:=qc q2 (x23.trans x34)
 have x4:Ext w w4:=(x2.trans x23).trans x34
 obtain⟨BB,WW,gg,B3,d3,B4,d4,rfl,-⟩:=id hT
 have hns:=zH (UJ (hT.newSto (ju (newE_may qdG).2.2.1)))
 have kp4:=qa p4
 have fp4:=qg p4
 have zp4:=(zG.1 p4).1
 have z23:w2.heap.size<w3.heap.size:=(zG.1 p3).1
 clear hB hT p3 q2 x2
 go_wp2_with fail
 generalize hw5:World.alloc (World.setCell (World.setCell (World.setCell (World.setCell (World.setCell w4 _ _) _ _) _ _) _ _) _ _) _=w5
 have z45:w4.heap.size≤w5.heap.size:=by rw[←hw5];simp
 have o5:∀ k,k<w4.heap.size→k≠w2.heap.size→w5.heap[k]?=w4.heap[k]?:=fun k h1 h2=>by
  rw[←hw5,Below.heap_alloc _ _ _ (by simpa using h1),Below.heap_setCell _ _ _ _ h2,Below.heap_setCell _ _ _ _ h2,Below.heap_setCell _ _ _ _ h2,Below.heap_setCell _ _ _ _ h2,Below.heap_setCell _ _ _ _ h2]
 have z12:w1.heap.size≤w2.heap.size:=x12.size
 have x5:Below w.heap.size w w5:=by
  rw[←hw5]
  have:=x1.size
  have:=x4.size
  exact Below.alloc (Below.setCell (jD x4 (b:=w2.heap.size) (by omega) _ _ _ _) (p:=⟨w2.heap.size,6,none⟩) (by simp;omega) _) (by simpa using this) _
 clear hw5 kp4 fp4
 have hst5:=(hns.out w5 (XF fun k h1 h2=>o5 k h2 (by omega))).more z45
 have z01:w.heap.size<w1.heap.size:=(zG.1 q1).1
 have q5:=(o5 w.heap.size (by omega) (by omega)).trans q4
 have HS:=zH (fset_any (some ⟨BB,0,none⟩) st1.bs.length st1.bs.length (some ⟨WW,0,none⟩) st1.ws.length (st1.ws.length+1) B3 st1.now.length d3 B4 st1.last.length d4 0 8 2 none 0 st1 [] GI (by refine⟨⟨?_,?_⟩,⟨?_,?_⟩,⟨?_,?_⟩⟩ <;> decide) (fun _ _ _=>st1_ok) st1_hLv w5 hst5 (Zu.nil_ _ _))
 clear hst5 hns q4 p4
 refine HS.out.mono ?_
 clear HS
 intro e w6 hq
 obtain⟨hB6,u,rfl,hN⟩:=set1 hq
 have x6:Below w.heap.size w w6:=x5.trans (Below.mono hB6 x5.size)
 have q6:=qc q5 hB6
 obtain⟨E1,m1,E2,m2,E3,m3,E4,m4,E5,m5,rfl,-⟩:=id hN
 have kq:=qa q6
 have fq:=qg q6
 have zq:=(zG.1 q6).1
 have z56:=hB6.size
 replace hN:=zH hN
 clear hq hB6 q5
 go_wp2_with fail
 refine qca (b:=w.heap.size) rfl rfl rfl (qc (row8 q6 _ _ _ _ _ _ _ _) (Ext.alloc _ _)) ⟨_,rfl,⟨_,rfl,Ym.keep hN.out x5.size (by simp) fun k h1 h2=>?_⟩,Below.alloc (YO x6 (Nat.le_refl _) _ _ _ _ _ _ _ _) (by have:=x6.size;simpa using this) _⟩
 exact(Below.heap_alloc _ _ _ (by simpa using h2)).trans (other8 (by omega) _ _ _ _ _ _ _ _)
theorem qbg {R:Ending→World→Prop} {a:Act} {W:World} {v:Value} (h0:a.tmps[0]?.getD undef=v) (hd:a.defers=[]) (hR:R (.returned v) W):bodyPost Tryz.prog Tryz.f15 R .ret a W:=by
 refine bodyPost_ret (v:=v) ?_ hd hR
 simp[results,Tryz.results15,go_sem,h0]
theorem st2_vol {w w':World} {e:Ending} (h:VolFQ st2 10 2 [] 1 w e w'):e=.returned (volQ (some GI)):=by
 obtain⟨h1,h2,h3⟩:=TD Td
 rcases h.2 with ⟨_,hb⟩|⟨vs,refs,nodes,hp,hc,_,rfl⟩
 ·exact(vH.not hb Td).elim
 ·obtain⟨rfl,-,-⟩:=QT.unique h1 h2 hp hc
  rfl
set_option maxHeartbeats 2000000 in
set_option maxRecDepth 100000 in
theorem alive14_any (w:World):Calls Tryz.prog 15 #[] w (Ret (.bool true) w):=by
 go_enter Tryz.func15,Tryz.ntmps15
 go_wp2_with fail
 refine(qbV w).mono ?_
 rintro e w1 ⟨u,rfl,⟨v,rfl,hN⟩,hB⟩
 have x1:Ext w w1:=hB
 obtain⟨A1,c1,A2,c2,A3,c3,A4,c4,A5,c5,rfl,hS,hI⟩:=hN.sto
 have HV:=zH (fun W (hx:Ext w1 W)=>fvol_any A1 _ c1 A2 _ c2 A3 _ c3 A4 _ c4 0 10 2 A5 c5 st2 [] 1 W (hS.ext hx) (hI.ext_ hx))
 clear hS hI hN hB
 go_wp2_with fail
 generalize hw2:World.alloc w1 _=w2
 have x12:Ext w1 w2:=by rw[←hw2];exact Ext.alloc _ _
 clear hw2
 refine(HV.out w2 x12).mono ?_
 clear HV
 intro e w3 hq
 have x3:Ext w w3:=(x1.trans x12).trans hq.1
 obtain rfl:=st2_vol hq
 clear hq
 unfold volQ
 go_wp2_with fail
 exact qbg rfl rfl ⟨rfl,x3.trans (Ext.alloc _ _)⟩
def qct (S:Sto) (root next:Int) (dead:List Int) (w:World) (e:Ending) (w':World):Prop:=Below w.heap.size w w' ∧
 ((e=.returned (.tuple #[.slice none 0 0,.int .i64 8])∧∀ vs,QT S root next dead vs→∃ refs nodes,qU S (QI root dead vs) refs nodes∧¬zQ S refs) ∨
  ∃ vs refs nodes cb ca vv lo,e=.returned (.tuple #[vv,.int .i64 0])∧w.heap.size≤lo∧Taken S root next dead vs refs nodes lo cb ca vv w')
theorem Gd {R:Ending→World→Prop} {a:Act} {W:World} {u v:Value} (h2:a.tmps[2]?.getD undef=u) (h3:a.tmps[3]?.getD undef=v) (hd:a.defers=[]) (hR:R (.returned (.tuple #[u,v])) W):bodyPost Tryz.prog Tryz.f17 R .ret a W:=by
 refine bodyPost_ret (v:=.tuple #[u,v]) ?_ hd hR
 simp[results,Tryz.results17,go_sem,h2,h3]
set_option maxHeartbeats 2000000 in
set_option maxRecDepth 100000 in
theorem fvols_any (A1:Option Addr) (n1 c1:Nat) (A2:Option Addr) (n2 c2:Nat) (A3:Option Addr) (n3 c3:Nat) (A4:Option Addr) (n4 c4:Nat) (gen root next:Int) (A5:Option Addr) (c5:Nat) (S:Sto) (dead:List Int) (w:World)
  (h:Qc w w.heap.size (.slice A1 n1 c1) (.slice A2 n2 c2) (.slice A3 n3 c3) (.slice A4 n4 c4) S) (hd:Zu w w.heap.size (.slice A5 dead.length c5) dead) :
  Calls Tryz.prog 17 #[.agg (Qo (.slice A1 n1 c1) (.slice A2 n2 c2) (.slice A3 n3 c3) (.slice A4 n4 c4) gen root next (.slice A5 dead.length c5))] w (qct S root next dead w):=by
 have HT:=zH (fun W (hx:Ext w W)=>vV A1 n1 c1 A2 n2 c2 A3 n3 c3 A4 n4 c4 gen root next A5 c5 S dead W (h.ext hx) (by
  obtain⟨A,c,e,q1,q2,q3⟩:=hd
  exact⟨A,c,e,q1,q2,(q3.below hx).more hx.size⟩))
 clear h hd
 go_enter Tryz.func17,Tryz.ntmps17
 go_wp2_with fail
 generalize hw1:World.alloc w _=w1
 have x1:Ext w w1:=by rw[←hw1];exact Ext.alloc _ _
 clear hw1
 refine(HT.out w1 x1).mono ?_
 rintro e w2 ⟨hB,hQ⟩
 have x2:Below w.heap.size w w2:=Ext.trans x1 hB
 rcases hQ with ⟨rfl,hno⟩|⟨vs,refs,nodes,cb,ca,vv,rfl,hT⟩
 ·have HB:qct S root next dead w (.returned (.tuple #[.slice none 0 0,.int .i64 8])) w2:=⟨x2,.inl ⟨rfl,hno⟩⟩
  replace HB:=zH HB
  clear hno hB
  go_wp2_with fail
  exact Gd rfl rfl rfl HB.out
 ·have kc:w2.cell? ⟨cb,518,none⟩=some vv:=by rw[qa hT.row];exact hT.ar.vol
  obtain⟨AV,cV,rfl,-,-⟩:=qJ hT.own
  have HB:qct S root next dead w (.returned (.tuple #[.slice AV vs.length cV,.int .i64 0])) w2:=⟨x2,.inr ⟨vs,refs,nodes,cb,ca,_,_,rfl,x1.size,hT⟩⟩
  replace HB:=zH HB
  clear hT hB
  go_wp2_with fail
  exact Gd rfl rfl rfl HB.out
def jp (ls:List (List UInt8)):Nat:=(ls.map fun l=>min l.length 1000000).sum
theorem TG {ls:List (List UInt8)} {k:Nat} (h:k<ls.length):jp (ls.take (k+1))=jp (ls.take k)+min ls[k].length 1000000:=by
 unfold jp
 rw[List.take_succ_eq_append_getElem h,List.map_append,List.sum_append]
 simp
theorem sizeL_le (ls:List (List UInt8)):jp ls≤ls.length*1000000:=by
 induction ls with
 |nil=>simp[jp]
 |cons l r ih=>simp only[jp,List.map_cons,List.sum_cons,List.length_cons] at ih ⊢;omega
theorem Kq {ls:List (List UInt8)} {n:Nat} (h:ls.length≤n) (k:Nat):jp (ls.take k)≤n*1000000:=by
 have h1:=sizeL_le (ls.take k)
 have h2:(ls.take k).length≤n:=by rw[List.length_take];omega
 have h3:(ls.take k).length*1000000≤n*1000000:=Nat.mul_le_mul_right _ h2
 exact Nat.le_trans h1 h3
theorem sizeL_mem {ls:List (List UInt8)} (h:jp ls≤800000):∀ l∈ls,l.length≤800000:=by
 induction ls with
 |nil=>intro l hl;cases hl
 |cons x r ih =>
  intro l hl
  simp only[jp,List.map_cons,List.sum_cons] at h ih
  rcases List.mem_cons.1 hl with rfl|hl
  ·omega
  ·exact ih (by omega) l hl
def qbw (n m:Nat):Bool:=decide (300<n∨5000<m∨(600<m∧m<4096))
def kL (bs:List (List UInt8)) (ws:List (Int×List UInt8)):Bool:=qbw bs.length ws.length || decide (800000<jp bs+jp (ws.map (·.2)))
set_option maxHeartbeats 4000000 in
set_option maxRecDepth 100000 in
theorem qcl (A1:Option Addr) (n1 c1:Nat) (A2:Option Addr) (n2 c2:Nat) (bs:List (List UInt8)) (ws:List (Int×List UInt8)) (w:World) (hb:Bls w w.heap.size (.slice A1 n1 c1) bs) (hw:Wrs w w.heap.size (.slice A2 n2 c2) ws) :
  Calls Tryz.prog 83 #[kz A1 n1 c1 A2 n2 c2] w (Ret (.bool (kL bs ws)) w):=by
 obtain⟨e1,hc1,hm1,hA1⟩:=hb.at_
 obtain⟨e2,hc2,hm2,hA2⟩:=hw.at_
 subst e1
 subst e2
 by_cases hh:qbw bs.length ws.length=true
 case pos =>
  have hM:kL bs ws=true:=by unfold kL;rw[hh];rfl
  rw[hM]
  have hh':300<bs.length∨5000<ws.length∨(600<ws.length∧ws.length<4096):=by simpa [qbw] using hh
  clear hM hb hw hA1 hA2 hh
  generalize bs.length=n1 at *
  generalize ws.length=n2 at *
  go_enter Tryz.func83,Tryz.ntmps83
  go_wp2
  all_goals try simp only[beq_iff_eq,beq_eq_false_iff_ne,ne_eq,bne_iff_ne,bne_eq_false_iff_eq] at *
  all_goals first|(exfalso;omega)|skip
  all_goals go_ret
  all_goals exact⟨rfl,(by repeat' (first|with_reducible exact Below.refl _ _|with_reducible assumption|with_reducible apply Below.drew|with_reducible apply qv|with_reducible refine Below.alloc ?_ ?_ _|with_reducible refine Below.setCell ?_ ?_ _|(simp;done)|(simp;omega)|omega))⟩
 case neg =>
  have hM:kL bs ws=decide (800000<jp bs+jp (ws.map (·.2))):=by unfold kL;rw[show qbw bs.length ws.length=false by simpa using hh];rfl
  have hh':¬(300<bs.length∨5000<ws.length∨(600<ws.length∧ws.length<4096)):=by simpa [qbw] using hh
  have hn1:bs.length≤300:=by omega
  have hn2:ws.length≤5000:=by omega
  have hn3:¬(600<ws.length∧ws.length<4096):=fun h=>hh' (.inr (.inr h))
  rw[hM]
  clear hM hh hh'
  have HB:=zH hb
  have HW:=zH hw
  have HTB:=zH (fun k h=>@TG bs k h)
  have HTW:=zH (fun k (h:k<(ws.map (·.2)).length)=>@TG (ws.map (·.2)) k h)
  have HLB:=zH (fun k=>Kq hn1 k)
  have HLW:=zH (fun k=>Kq (ls:=ws.map (·.2)) (n:=5000) (by rw[List.length_map];exact hn2) k)
  have HE1:Hid (bs.take bs.length=bs):=zH (List.take_length)
  have HE2:Hid ((ws.map (·.2)).take ws.length=ws.map (·.2)):=zH (by rw[←List.length_map (f:=(·.2))];exact List.take_length)
  clear hb hw
  have hd1:decide ((bs.length:Int)>300)=false:=decide_eq_false (by omega)
  have hd2:decide ((ws.length:Int)>5000)=false:=decide_eq_false (by omega)
  go_enter Tryz.func83,Tryz.ntmps83
  go_wp2
  all_goals first|(exfalso;omega)|skip
  all_goals
   generalize hw1:(World.alloc _ _)=w1
   have x1:Ext w w1:=by rw[←hw1];exact Ext.alloc _ _
   have r1:w1.heap[w.heap.size]?=some (.cells #[.slice A1 bs.length c1,.slice A2 ws.length c2] 25 (0,0)):=by rw[←hw1];exact World.alloc_heap_at _ _ _ rfl
   clear hw1
   go_loopw [3,4] (fun t i wr=>∃ k:Nat,k≤bs.length∧i=.int .i64 (k:Int)∧t=.int .i64 (jp (bs.take k):Int)∧Ext w1 wr) (fun _ i _=>bs.length-(intOf i).toNat)
   case atStart=>exact⟨0,by omega,rfl,rfl,Ext.refl _⟩
   case round =>
    obtain⟨k,hk,rfl,rfl,hE⟩:=hrel
    have hEw:=x1.trans hE
    have rr:=qc r1 hE
    have kr:=qa rr
    have hlb:=HLB.out k
    by_cases hlt:k<bs.length
    ·have hlt':=hlt
     obtain⟨b1,o1,rfl,hb1⟩:=hA1 (by omega)
     obtain⟨A',c',hc,hby⟩:=((HB.out.below hEw).more hEw.size).get k hlt
     have hm64:=hby.at_.2.1
     have hm65:=hby.at_.2.2.1
     have ht:=HTB.out k hlt
     replace ht:=zH ht
     clear hby
     unfold maxLen at hm65
     generalize bs[k].length=m at *
     generalize jp (bs.take k)=q at *
     go_wp2
     go_roundw
     case rel=>exact⟨k+1,by omega,by go_num,by rw[ht.out];go_num,hE⟩
     case measure=>simp[intOf];omega
    ·obtain rfl:k=bs.length:=by omega
     rw[HE1.out] at hlb ⊢
     clear HB HTB HLB r1 hd1 hd2
     go_wp2
     clear kr
     go_loopw [3,5] (fun t i wq=>∃ j:Nat,j≤ws.length∧i=.int .i64 (j:Int)∧t=.int .i64 ((jp bs+jp ((ws.map (·.2)).take j):Nat):Int)∧Ext wr wq) (fun _ i _=>ws.length-(intOf i).toNat)
     case atStart=>exact⟨0,by omega,rfl,rfl,Ext.refl _⟩
     case round =>
      obtain⟨j,hj,rfl,rfl,hE2⟩:=hrel
      have hEq:=hEw.trans hE2
      have kr:=qa (qc rr hE2)
      have hlw:=HLW.out j
      by_cases hlt2:j<ws.length
      ·have hlt2':=hlt2
       obtain⟨b2,o2,rfl,hb2⟩:=hA2 (by omega)
       obtain⟨A',c',hca,hcb,hby⟩:=((HW.out.below hEq).more hEq.size).get j hlt2
       have hm64:=hby.at_.2.1
       have hm65:=hby.at_.2.2.1
       have ht:=HTW.out j (by rw[List.length_map];exact hlt2)
       rw[List.getElem_map] at ht
       replace ht:=zH ht
       clear hby
       unfold maxLen at hm65
       generalize ws[j].2.length=m at *
       generalize ws[j].1=a at *
       generalize jp ((ws.map (·.2)).take j)=q at *
       generalize jp bs=s0 at *
       go_wp2
       go_roundw
       case rel=>exact⟨j+1,by omega,by go_num,by rw[ht.out];go_num,hE2⟩
       case measure=>simp[intOf];omega
      ·obtain rfl:j=ws.length:=by omega
       rw[HE2.out] at hlw ⊢
       go_wp2
       go_ret
       refine⟨Ja ?_,hEq⟩
       rw[Bool.eq_iff_iff]
       simp
       omega
def YX (S:Sto):Bool:=kL S.bs S.ws || (decide (10000<S.now.length) || decide (10000<S.last.length))
abbrev poolV (A1:Option Addr) (n1 c1:Nat) (A2:Option Addr) (n2 c2:Nat) (A3:Option Addr) (n3 c3:Nat) (A4:Option Addr) (n4 c4:Nat) (g r x:Int) (A5:Option Addr) (n5 c5:Nat):Value:=
 .agg #[.slice A1 n1 c1,.slice A2 n2 c2,.slice A3 n3 c3,.slice A4 n4 c4,.int .u32 g,.int .i64 r,.int .u32 x,.slice A5 n5 c5]
set_option maxHeartbeats 2000000 in
set_option maxRecDepth 100000 in
theorem qbQ (A1:Option Addr) (n1 c1:Nat) (A2:Option Addr) (n2 c2:Nat) (A3:Option Addr) (n3 c3:Nat) (A4:Option Addr) (n4 c4:Nat) (S:Sto) (w:World) (h:Qc w w.heap.size (.slice A1 n1 c1) (.slice A2 n2 c2) (.slice A3 n3 c3) (.slice A4 n4 c4) S) :
  Calls Tryz.prog 44 #[Qd A1 n1 c1 A2 n2 c2 A3 n3 c3 A4 n4 c4] w (Ret (.bool (YX S)) w):=by
 have HD:=zH (fun W (hW:Ext w W)=>qcl A1 n1 c1 A2 n2 c2 S.bs S.ws W (h.ext hW).bs (h.ext hW).ws)
 have e3:S.now.length=n3:=h.now.at_.1.symm
 have e4:S.last.length=n4:=h.last.at_.1.symm
 have hS:YX S=(kL S.bs S.ws || (decide (10000<n3) || decide (10000<n4))):=by unfold YX;rw[e3,e4]
 rw[hS]
 clear hS h e3 e4
 generalize kL S.bs S.ws=d at *
 go_enter Tryz.func44,Tryz.ntmps44
 go_wp2_with fail
 generalize hw1:(World.alloc _ _)=w1
 have x1:Ext w w1:=by rw[←hw1];exact Ext.alloc _ _
 have r1:w1.heap[w.heap.size]?=some (.cells #[.slice A1 n1 c1,.slice A2 n2 c2,.slice A3 n3 c3,.slice A4 n4 c4] 28 (0,0)):=by rw[←hw1];exact World.alloc_heap_at _ _ _ rfl
 clear hw1
 refine(HD.out _ x1).mono ?_
 rintro e w2 ⟨rfl,hB⟩
 have x2:=x1.trans hB
 have r2:=qc r1 hB
 have k2:=qa r2
 clear hB r1 x1 HD
 cases d
 all_goals
  go_wp2
  all_goals
   go_ret
   refine⟨Ja ?_,x2⟩
   rw[Bool.eq_iff_iff]
   simp
   try omega
def greatP (S:Sto) (dead:Nat):Bool:=YX S || decide (1000<dead)
set_option maxHeartbeats 2000000 in
set_option maxRecDepth 100000 in
theorem great14_any (A1:Option Addr) (n1 c1:Nat) (A2:Option Addr) (n2 c2:Nat) (A3:Option Addr) (n3 c3:Nat) (A4:Option Addr) (n4 c4:Nat) (g r x:Int) (A5:Option Addr) (n5 c5:Nat) (S:Sto) (w:World) (h:Qc w w.heap.size (.slice A1 n1 c1) (.slice A2 n2 c2) (.slice A3 n3 c3) (.slice A4 n4 c4) S) :
  Calls Tryz.prog 16 #[poolV A1 n1 c1 A2 n2 c2 A3 n3 c3 A4 n4 c4 g r x A5 n5 c5] w (Ret (.bool (greatP S n5)) w):=by
 have HD:=zH (fun W (hW:Ext w W)=>qbQ A1 n1 c1 A2 n2 c2 A3 n3 c3 A4 n4 c4 S W (h.ext hW))
 have hS:greatP S n5=(YX S || decide (1000<n5)):=rfl
 rw[hS]
 clear hS h
 generalize YX S=d at *
 go_enter Tryz.func16,Tryz.ntmps16
 go_wp2_with fail
 generalize hw1:(World.alloc _ _)=w1
 have x1:Ext w w1:=by rw[←hw1];exact Ext.alloc _ _
 have r1:w1.heap[w.heap.size]?=some (.cells #[.slice A1 n1 c1,.slice A2 n2 c2,.slice A3 n3 c3,.slice A4 n4 c4,.int .u32 g,.int .i64 r,.int .u32 x,.slice A5 n5 c5] 32 (0,0)):=by rw[←hw1];exact World.alloc_heap_at _ _ _ rfl
 clear hw1
 refine(HD.out _ x1).mono ?_
 rintro e w2 ⟨rfl,hB⟩
 have x2:=x1.trans hB
 have r2:=qc r1 hB
 have k2:=qa r2
 clear hB r1 x1 HD
 cases d
 all_goals
  go_wp2
  all_goals
   go_ret
   refine⟨Ja ?_,x2⟩
   rw[Bool.eq_iff_iff]
   simp
   try omega
theorem Gl {x:It} (h:VV x=true):qM x=(1,x.i,0)∧x.r=0:=by
 unfold VV YA at h
 simp only[Bool.and_eq_true,decide_eq_true_eq] at h
 obtain⟨_,h1,_,h3,h4,_⟩:=h
 exact⟨by unfold qM;rw[←h1,←h3],h4.symm⟩
theorem qcR {S:Sto} {root next:Int} {dead:List Int} {vs:List Vol} (h:QT S root next dead vs):∃ its:List It,vs=its.map jX∧its.length≤16∧(∀ x∈its,zX next x=true)∧its.Pairwise (fun a b=>Zr (qM a) (qM b)=true):=by
 obtain⟨a,rfl,h8,h256,lvl,xs,hn,hs⟩:=Jb h.top
 have hv:=h.vols
 unfold JL at hv
 rw[show ((a:Nat):Int).toNat=a from rfl,hn] at hv
 simp only[Int.toNat_natCast] at hv
 rw[KL _ _ _ (by simp)] at hv
 split at hv
 ·rename_i hc
  simp only[Option.some.injEq,List.nil_append] at hv
  exact⟨qZ S lvl xs,hv.symm,by simpa using hc.2,fun x hx=>List.all_eq_true.1 hc.1 x hx,(span_ord hs).1⟩
 ·cases hv
structure VolsL (S:Sto) (root next:Int) (vs:List Vol) (refs:Nat→Nat):Prop where
 len:vs.length≤16
 rise:vs.Pairwise fun a b=>a.id<b.id
 num:∀ v∈vs,1≤v.id∧v.id<next
 at_:∀ v∈vs,∃ r:Nat,v.root=(r:Int)∧8≤r∧r<256∧1≤refs r
 top:∃ r:Nat,root=(r:Int)∧8≤r∧r<256∧1≤refs r
 now:∀ a,a<256→refs a≤(S.now[a]?.getD 0).toNat
theorem qbn (x:It):(jX x).id=x.i:=rfl
theorem pool_law {S:Sto} {root next:Int} {dead:List Int} {vs:List Vol} {refs nodes:Nat→Nat} (h:QT S root next dead vs) (hc:qU S (QI root dead vs) refs nodes) (he:zQ S refs) (h0:∀ v∈vs,0≤v.id):VolsL S root next vs refs:=by
 obtain⟨its,rfl,hl,hg,ho⟩:=qcR h
 have hroot:∀ r∈zY root dead (its.map jX),∃ n:Nat,r=(n:Int)∧8≤n∧n<256∧1≤refs n:=fun r hr=>by
  obtain⟨n,e,h1,h2,_⟩:=Jb (h.ok r hr)
  refine⟨n,e,h1,h2,?_⟩
  rw[hc.mkd.sum n]
  have:1≤(QI root dead (its.map jX)).count n:=List.one_le_count_iff.2 (List.mem_map.2 ⟨r,hr,by rw[e];rfl⟩)
  omega
 refine⟨by simpa using hl,?_,fun v hv=>?_,fun v hv=>hroot _ (List.mem_append_right _ (List.mem_map_of_mem hv)),hroot _ (List.mem_append_left _ List.mem_cons_self),he⟩
 ·rw[List.pairwise_map]
  refine(List.Pairwise.and_mem.1 ho).imp ?_
  rintro a b ⟨ha,hb,hlt⟩
  have ka:=(Gl (x:=a) (by have:=hg a ha;unfold zX at this;simp only[Bool.and_eq_true] at this;exact this.1)).1
  have kb:=(Gl (x:=b) (by have:=hg b hb;unfold zX at this;simp only[Bool.and_eq_true] at this;exact this.1)).1
  rw[ka,kb,Vj] at hlt
  simp only[qbn]
  simp only at hlt
  omega
 ·obtain⟨x,hx,rfl⟩:=List.mem_map.1 hv
  have:=hg x hx
  have h0':=h0 _ hv
  unfold zX at this
  simp only[Bool.and_eq_true,decide_eq_true_eq] at this
  rw[qbn] at h0' ⊢
  omega
theorem find_id {vs:List Vol} (h:vs.Pairwise fun a b=>a.id<b.id) {v:Vol} (hv:v∈vs):(vs.find? fun x=>decide (x.id=v.id))=some v:=by
 induction vs with
 |nil=>cases hv
 |cons a r ih =>
  rw[List.pairwise_cons] at h
  rcases List.mem_cons.1 hv with rfl|hv
  ·simp
  ·have:=h.1 v hv
   rw[List.find?_cons,decide_eq_false (by omega)]
   exact ih h.2 hv
theorem find_none {vs:List Vol} {id:Int} (h:∀ v∈vs,v.id≠id):(vs.find? fun x=>decide (x.id=id))=none:=by
 rw[List.find?_eq_none]
 intro v hv
 simpa using h v hv
theorem Gk {S:Sto}:∀ (h:Nat) (xs:List It),(∀ x∈xs,ZL x)→∀ y∈qZ S h xs,ZL y
 |0,xs,hx,y,hy=>hx y hy
 |h+1,xs,_,y,hy=>by
  rw[zR] at hy
  obtain⟨z,hz,hy⟩:=List.mem_flatMap.1 hy
  rcases hn:qu S z.r.toNat with _|⟨lvl,ys⟩
  ·rw[hn] at hy;cases hy
  ·rw[hn] at hy
   exact Gk h ys (fun x hx=>((Qa hn).2.1 x hx).1) y hy
theorem vols_okV {S:Sto} {root next:Int} {dead:List Int} {vs:List Vol} (h:QT S root next dead vs):∀ v∈vs,qaZ v:=fun v hv=>by
 obtain⟨a,rfl,h8,h256,lvl,xs,hn,hs⟩:=Jb h.top
 have hvs:=h.vols
 unfold JL at hvs
 rw[show ((a:Nat):Int).toNat=a from rfl,hn] at hvs
 simp only[Int.toNat_natCast] at hvs
 rw[KL _ _ _ (by simp)] at hvs
 split at hvs
 ·rename_i hc
  simp only[Option.some.injEq,List.nil_append] at hvs
  rw[←hvs] at hv
  obtain⟨x,hx,rfl⟩:=List.mem_map.1 hv
  have h1:=Gk (S:=S) lvl xs (fun y hy=>((Qa hn).2.1 y hy).1) x hx
  have h2:=List.all_eq_true.1 hc.1 x hx
  unfold zX VV at h2
  simp only[Bool.and_eq_true,decide_eq_true_eq] at h2
  exact qbd h1 (by omega)
 ·cases hvs
theorem vH.no {S:Sto} {root next:Int} {dead:List Int} {vs:List Vol} {refs nodes:Nat→Nat} (h:vH S root next dead) (hp:QT S root next dead vs) (hc:qU S (QI root dead vs) refs nodes) (he:zQ S refs):False:=by
 obtain⟨r,n,h1,h2⟩:=h vs hp
 obtain⟨_,e⟩:=Ze.same h1.mkd hc.mkd
 subst e
 exact h2 he
theorem pool_lawV {S:Sto} {root next:Int} {dead:List Int} {vs:List Vol} {refs nodes:Nat→Nat} (h:QT S root next dead vs) (hc:qU S (QI root dead vs) refs nodes) (he:zQ S refs):VolsL S root next vs refs:=pool_law h hc he fun v hv=>(vols_okV h v hv).1.1
theorem volOf_at {vs:List Vol} (h:vs.Pairwise fun a b=>a.id<b.id) {k:Nat} (hk:k<vs.length):VE vs vs[k].id=some vs[k]:=find_id h (List.getElem_mem hk)
theorem qdH {rs:Nat→List Nat} {M:Nat→Bool} {a b:Nat} (ha:M a=true):∀ n,a<n→(rs a).count b≤vY rs M b n
 |0,h=>by omega
 |n+1,h=>by
  unfold vY
  by_cases e:a=n
  ·subst e
   rw[if_pos ha]
   omega
  ·have:=qdH (b:=b) (rs:=rs) ha n (by omega)
   omega
theorem qeJ {S:Sto} {a b:Nat} (h:b∈ZC S a):b∈ZV S a:=by
 unfold ZC at h
 split at h
 ·cases h
 ·split at h
  ·exact h
  ·cases h
theorem met_tree {S:Sto} {root next:Int} {dead:List Int} {vs:List Vol} {refs nodes:Nat→Nat} (h:QT S root next dead vs) (hc:qU S (QI root dead vs) refs nodes) {a:Nat} (ha:0<nodes a):Za S a∧1≤refs a:=by
 have hm:Jv nodes a=true:=decide_eq_true ha
 have hr:=hc.mkd.reach a hm
 have htree:∀ b,Rch (ZC S) (· ∈ QI root dead vs) b→Za S b:=fun b hb=>hb.closed (M:=Za S) (fun c hcm=>by
  obtain⟨r,hr,rfl⟩:=List.mem_map.1 hcm
  obtain⟨n,rfl,ht⟩:=Jb (h.ok r hr)
  rw[Int.toNat_natCast]
  exact ht) fun c hcm d hd=>YJ hcm hd
 refine⟨htree a hr,?_⟩
 rw[hc.mkd.sum a]
 cases hr with
 |base hb =>
  have:1≤(QI root dead vs).count a:=List.one_le_count_iff.2 hb
  omega
 |step hb hk =>
  rename_i c
  have hcm:Jv nodes c=true:=(jC.done (Ze.walk.1 hc.mkd) c).2 hb
  have hlt:=(htree c hb).2.1
  have h1:=qdH (rs:=ZV S) (b:=a) hcm 256 hlt
  have h2:1≤(ZV S c).count a:=List.one_le_count_iff.2 (qeJ hk)
  omega
theorem metTo_mem {nodes:Nat→Nat} {a:Nat} {k:Nat} (h:a∈JR nodes k):a<k∧0<nodes a:=by
 unfold JR at h
 have:=List.mem_filter.1 h
 exact⟨by simpa using this.1,by simpa using this.2⟩
theorem metTo_rise (nodes:Nat→Nat) (k:Nat):(JR nodes k).Pairwise (· < ·):=by
 unfold JR
 exact List.Pairwise.filter _ (List.pairwise_lt_range)
theorem tree_read {S:Sto} {a:Nat} (hS:qo S=true) (h:Za S a):∃ (lvl:Nat) (xs:List It),(if Kf S (a:Int)=0 then qu S (a:Int).toNat else none)=some ((lvl:Int),xs):=by
 obtain⟨h8,h256,lvl,xs,hn,_⟩:=h
 have h0:¬Zx S a=0:=fun e=>by
  unfold qu at hn
  rw[if_pos (show (S.now[a]?.getD 0).toNat=0 from e)] at hn
  cases hn
 exact⟨lvl,xs,by rw[GO hS h8 h256,if_neg h0,if_pos rfl,Int.toNat_natCast,hn]⟩
def mixL:List Bool→Nat→List Value→(Nat→Value)→List Value
 | [],_,l,_=>l
 |_ :: _,_,[],_=>[]
 |b :: m,i,x :: r,g=>(bif b then g i else x) :: mixL m (i+1) r g
theorem wp_loop_mix {P:Program} {Q:Exit→Act→World→Prop} {tm:List Value} {df:List Deferred} {w:World} {c:Code} (mask:List Bool) (n₀:Nat) (rel:Nat→(Nat→Value)→World→Prop) (h₀:rel n₀ (fun i=>tm.getD i undef) w) (hmix:mixL mask 0 tm (fun i=>tm.getD i undef)=tm)
  (round:∀ (n:Nat) (g:Nat→Value) (wr:World) (K:Act→World→Prop),rel n g wr→(∀ (n':Nat) (g':Nat→Value) (w':World),n'<n→rel n' g' w'→K { tmps:=(mixL mask 0 tm g').toArray,defers:=df } w')→c.wp P (Exit.then K Q) { tmps:=(mixL mask 0 tm g).toArray,defers:=df } wr) :
  (Code.loop c).wp P Q { tmps:=tm.toArray,defers:=df } w:=by
 refine wp_loop_ghost (fun n a w=>∃ g,a={ tmps:=(mixL mask 0 tm g).toArray,defers:=df }∧rel n g w) n₀ ⟨_,by rw[hmix],h₀⟩ ?_
 rintro n a wr ⟨g,rfl,h⟩
 exact round n g wr _ h fun n' g' w' hlt hr=>⟨n',hlt,g',rfl,hr⟩
theorem mix_end {mask:List Bool} {tm:List Value} {df:List Deferred} {n:Nat} {rel:Nat→(Nat→Value)→World→Prop} {K:Act→World→Prop} (hK:∀ (n':Nat) (g':Nat→Value) (w':World),n'<n→rel n' g' w'→K { tmps:=(mixL mask 0 tm g').toArray,defers:=df } w') {l:List Value} {w':World} (n':Nat) (hlt:n'<n)
  (heq:l=mixL mask 0 tm (fun i=>l.getD i undef)) (hr:rel n' (fun i=>l.getD i undef) w'):K { tmps:=l.toArray,defers:=df } w':=by
 have:=hK n' _ w' hlt hr
 rwa [←heq] at this
end Go.Proofs.YtpbniokljofedaaGreat
namespace Go.Proofs.YtpbniokljofedaaGreat
open Go.RowKit Go.ChangeShapes Go.WideShapes Go.ChangeAt
section
variable {H:Type} {enc:TypeId×Value→H} {P:Program} {W:World}
theorem GG (zs:List Int) (h:∀ n∈zs,(Lit.int .u8 n).wf=true):∃ l:List UInt8,zs.map (Value.int .u8)=l.map bv:=by
 induction zs with
 |nil=>exact⟨[],rfl⟩
 |cons z r ih =>
  obtain⟨l,hl⟩:=ih (fun n hn=>h n (List.mem_cons_of_mem _ hn))
  have hz:=h z (List.mem_cons_self)
  have hb:0≤z∧z≤255:=by simpa [Lit.wf,IntKind.min,IntKind.max,IntKind.signed,IntKind.bits] using hz
  refine⟨UInt8.ofNat z.toNat :: l,?_⟩
  simp only[List.map_cons,hl]
  congr 1
  simp only[bv]
  congr 1
  have:(UInt8.ofNat z.toNat).toNat=z.toNat % 256:=by simp
  rw[this]
  omega
theorem VQ {a:Addr} {n c:Nat} {xs:List Value} (hn:n≤c) (hlen:xs.length=n) (hb:∀ x∈MemPlace.row a c,x.block<W.heap.size) (hc:∀ i u,xs[i]?=some u→W.cell? (a.add i)=some u):Rd W W.heap.size 1 (some a) n xs:=by
 refine⟨by omega,fun h0=>?_⟩
 obtain⟨u,hu⟩:∃ u,xs[0]?=some u:=⟨_,List.getElem?_eq_getElem (by omega)⟩
 have h1:=hc 0 u hu
 have hsp:a.spot=none:=by
  have:(a.add 0)=a:=by simp[Addr.add]
  rw[this] at h1
  unfold World.cell? at h1
  split at h1
  ·cases hs:a.spot with
   |none=>rfl
   |some s=>rw[hs] at h1;simp at h1
  ·cases h1
 obtain⟨b,off,sp⟩:=a
 simp only at hsp
 subst hsp
 have hbl:b<W.heap.size:=by
  have:W.cell? ((⟨b,off,none⟩:Addr).add 0)=some u:=h1
  have h2:=World.block_lt_of_cell? W _ this
  simpa [Addr.add] using h2
 refine⟨b,off,rfl,hbl,fun j v hv=>?_⟩
 rw[←hc j v hv]
 unfold Addr.add
 split
 ·subst_vars;rfl
 ·rfl
theorem Yf {t e:TypeId} {fuel:Nat} {cs:List Value} {d:DataW H} {p:List MemPlace} (ht:P.underlying t=some (.slice e)) (he:P.underlying e=some (.int .u8)) (hc:P.cellsOf e=1)
  (h:DataW.trod enc P W 0 (fun _=>true) true fuel t cs=some (d,p)) (hlt:∀ x∈p,x.block<W.heap.size):∃ A n c,cs=[.slice A n c]∧n≤c∧∃ l:List UInt8,Bys W W.heap.size (.slice A n c) l∧l.length=n:=by
 rcases open_ints ht he hc h with ⟨rfl,_⟩|⟨a,len,cap,zs,rfl,_,hl,hm,hz,hx,hcell,hwf⟩
 ·exact⟨none,0,0,rfl,Nat.le_refl _,[],Bys.nil W _,rfl⟩
 ·simp only[if_true] at hz
  obtain⟨l,hl'⟩:=GG (zs.take len) (fun n hn=>hwf n (List.mem_of_mem_take hn))
  have hll:l.length=len:=by
   have:=congrArg List.length hl'
   simp only[List.length_map,List.length_take] at this
   omega
  refine⟨some a,len,cap,rfl,hl,l,⟨some a,cap,by rw[hll],by omega,hm,?_⟩,hll⟩
  rw[hll]
  refine VQ (c:=cap) hl (by simp[hll]) (fun x hx'=>hlt x ?_) (fun i u hu=>?_)
  ·have e2:p=MemPlace.row a zs.length:=by injection hx
   rw[e2,hz];exact hx'
  ·rw[←hl'] at hu
   rw[List.getElem?_map,List.getElem?_take] at hu
   split at hu
   ·rename_i hi
    rw[hcell i (by omega)]
    rw[←hu]
    simp[List.getElem?_eq_getElem (show i<zs.length by omega)]
   ·cases hu
theorem vl {t:TypeId} {fs:Array Field} {fuel:Nat} {cs:List Value} {x:DataW H×List MemPlace} (ht:P.underlying t=some (.struct fs)) (h:DataW.trod enc P W 0 (fun _=>true) true fuel t cs=some x) :
  ∃ (xs:List (DataW H×List MemPlace)) (n:Nat),cs.length=P.cellsOf t∧xs.length=fs.size∧x.2=xs.flatMap (·.2) ∧
   ∀ (i:Nat) (T:TypeId) (off m:Nat),(fs[i]?).map (fun f=>(f.type,f.offset))=some (T,off)→P.cellsOf T=m→DataW.trod enc P W 0 (fun _=>true) true n T ((cs.drop off).take m)=xs[i]?:=by
 obtain⟨xs,n,_,hx,hl,hxl,hf⟩:=DataW.trod_struct ht h
 refine⟨xs,n,hl,hxl,by rw[hx],fun i T off m hi hm=>?_⟩
 obtain⟨f,hfi,he⟩:=Option.map_eq_some_iff.1 hi
 have:=hf i f hfi
 simp only[Prod.mk.injEq] at he
 rw[he.1,he.2,hm] at this
 exact this
end
end Go.Proofs.YtpbniokljofedaaGreat
namespace Go.Proofs.YtpbniokljofedaaGreat
open Go.RowKit Go.ChangeShapes Go.WideShapes Go.ChangeAt Go.Deep
theorem Tryz.cc_u8:Tryz.prog.cellsOf 5=1:=by kernel_rfl
theorem Tryz.cc_u32:Tryz.prog.cellsOf 29=1:=by kernel_rfl
theorem Tryz.cc_int:Tryz.prog.cellsOf 3=1:=by kernel_rfl
theorem Tryz.cc_bytes:Tryz.prog.cellsOf 26=1:=by kernel_rfl
theorem Tryz.cc_blocks:Tryz.prog.cellsOf 22=1:=by kernel_rfl
theorem Tryz.cc_writes:Tryz.prog.cellsOf 23=1:=by kernel_rfl
theorem Tryz.cc_ints:Tryz.prog.cellsOf 30=1:=by kernel_rfl
theorem Tryz.cc_write:Tryz.prog.cellsOf 130=2:=by kernel_rfl
theorem Tryz.cc_disk:Tryz.prog.cellsOf 25=2:=by kernel_rfl
theorem Tryz.cc_store:Tryz.prog.cellsOf 28=4:=by kernel_rfl
theorem Tryz.cc_pool:Tryz.prog.cellsOf 32=8:=by kernel_rfl
section
variable {H:Type} {enc:TypeId×Value→H} {W:World}
theorem GY {size:Nat} {a:Addr} {n:Nat} {xs:List Value} (hlen:xs.length=n*size) (hz:0<size) (hb:∀ x∈MemPlace.row a (n*size),x.block<W.heap.size) (hc:∀ i u,xs[i]?=some u→W.cell? (a.add i)=some u):Rd W W.heap.size size (some a) n xs:=by
 refine⟨hlen,fun h0=>?_⟩
 have hpos:0<xs.length:=by rw[hlen];exact Nat.mul_pos h0 hz
 obtain⟨u,hu⟩:∃ u,xs[0]?=some u:=⟨_,List.getElem?_eq_getElem hpos⟩
 have h1:=hc 0 u hu
 have hsp:a.spot=none:=by
  have:(a.add 0)=a:=by simp[Addr.add]
  rw[this] at h1
  unfold World.cell? at h1
  split at h1
  ·cases hs:a.spot with
   |none=>rfl
   |some s=>rw[hs] at h1;simp at h1
  ·cases h1
 obtain⟨b,off,sp⟩:=a
 simp only at hsp
 subst hsp
 have hbl:b<W.heap.size:=by
  have:W.cell? ((⟨b,off,none⟩:Addr).add 0)=some u:=h1
  have h2:=World.block_lt_of_cell? W _ this
  simpa [Addr.add] using h2
 refine⟨b,off,rfl,hbl,fun j v hv=>?_⟩
 rw[←hc j v hv]
 unfold Addr.add
 split
 ·subst_vars;rfl
 ·rfl
theorem qew {fuel:Nat} {cs:List Value} {d:DataW H} {p:List MemPlace} (h:DataW.trod enc Tryz.prog W 0 (fun _=>true) true fuel 22 cs=some (d,p)) (hlt:∀ x∈p,x.block<W.heap.size) :
  ∃ A c bs,cs=[.slice A bs.length c]∧Bls W W.heap.size (.slice A bs.length c) bs:=by
 rcases open_slice1 Tryz.underlying22 Tryz.cc_bytes h with ⟨rfl,_⟩|⟨a,len,cap,m,n,V,D,Pl,rfl,_,hl,hm,hmm,hx,hel⟩
 ·exact⟨none,0,[],rfl,[],none,0,rfl,Nat.le_refl _,by simp[maxLen],Rd.none_,fun i u l hu=>by simp at hu⟩
 ·simp only[if_true] at hmm
  subst hmm
  have hp:p=MemPlace.row a m++(List.range m).flatMap Pl:=congrArg Prod.snd hx
  have hb:∀ i,i<len→∃ l:List UInt8,Bys W W.heap.size (V i) l:=fun i hi=>by
   obtain⟨_,h2⟩:=hel i (by omega)
   obtain⟨A,n',c',e,_,l,hby,_⟩:=Yf Tryz.underlying26 Tryz.underlying5 Tryz.cc_u8 h2 (fun x hx'=>hlt x (by
    rw[hp]
    exact List.mem_append_right _ (List.mem_flatMap.2 ⟨i,List.mem_range.2 (by omega),hx'⟩)))
   simp only[List.cons.injEq,and_true] at e
   exact⟨l,by rw[e];exact hby⟩
  obtain⟨L,hL⟩:=choose_lt (α:=List UInt8) (p:=fun i l=>Bys W W.heap.size (V i) l) hb
  refine⟨some a,m,(List.range len).map L,by simp,(List.range len).map V,some a,m,by simp,by simpa using hl,hm,?_,fun i u l hu hll=>?_⟩
  ·rw[List.length_map,List.length_range]
   refine VQ (c:=m) hl (by simp) (fun x hx'=>hlt x (by rw[hp];exact List.mem_append_left _ hx')) (fun i u hu=>?_)
   have hi:i<len:=by
    have:=(List.getElem?_eq_some_iff.1 hu).1
    simpa using this
   rw[List.getElem?_map,List.getElem?_range hi] at hu
   cases hu
   exact(hel i (by omega)).1
  ·have hi:i<len:=by
    have:=(List.getElem?_eq_some_iff.1 hu).1
    simpa using this
   rw[List.getElem?_map,List.getElem?_range hi] at hu hll
   cases hu
   cases hll
   exact hL i hi
theorem rd_write {fuel:Nat} {cs:List Value} {d:DataW H} {p:List MemPlace} (h:DataW.trod enc Tryz.prog W 0 (fun _=>true) true fuel 130 cs=some (d,p)) (hlt:∀ x∈p,x.block<W.heap.size) :
  ∃ a A l c,cs=[.int .i64 a,.slice A l.length c]∧Bys W W.heap.size (.slice A l.length c) l∧(Lit.int .i64 a).wf=true:=by
 obtain⟨xs,n,hl,hxl,hp,hf⟩:=vl Tryz.underlying130 h
 rw[Tryz.cc_write] at hl
 match cs,hl with
 | [c0,c1],_ =>
  match xs,hxl with
  | [y0,y1],_ =>
   have g0:_=some y0:=hf 0 3 0 1 rfl Tryz.cc_int
   have g1:_=some y1:=hf 1 26 1 1 rfl Tryz.cc_bytes
   simp only[List.drop,List.take] at g0 g1
   obtain⟨a,ea,_,wa⟩:=DataW.trod_int Tryz.underlying3 g0
   have hp2:p=y0.2++(y1.2++[]):=hp
   obtain⟨d1,p1⟩:=y1
   obtain⟨A,m,c,es,hmc,l,hb,hlen⟩:=Yf Tryz.underlying26 Tryz.underlying5 Tryz.cc_u8 g1 (fun x hx=>hlt x (by rw[hp2];simp[hx]))
   simp only[List.cons.injEq,and_true] at ea es
   subst ea es hlen
   exact⟨a,A,l,c,rfl,hb,wa⟩
theorem qei {fuel:Nat} {cs:List Value} {d:DataW H} {p:List MemPlace} (h:DataW.trod enc Tryz.prog W 0 (fun _=>true) true fuel 23 cs=some (d,p)) (hlt:∀ x∈p,x.block<W.heap.size) :
  ∃ A c ws,cs=[.slice A ws.length c]∧Wrs W W.heap.size (.slice A ws.length c) ws:=by
 rcases open_slice Tryz.underlying23 h with ⟨rfl,_⟩|⟨a,len,cap,m,n,D,Pl,rfl,_,hl,hm,hmm,hx,hel⟩
 ·exact⟨none,0,[],rfl,[],rfl,⟨none,0,rfl,Nat.le_refl _,by simp[maxLen],Rd.none_⟩,fun p h=>by cases h⟩
 ·simp only[if_true] at hmm
  subst hmm
  rw[Tryz.cc_write] at hx hel
  have hp:p=MemPlace.row a (m*2)++(List.range m).flatMap Pl:=congrArg Prod.snd hx
  have hb:∀ i,i<len→∃ q:(Int×List UInt8)×Value,(∃ A c,q.2=.slice A q.1.2.length c)∧Bys W W.heap.size q.2 q.1.2∧W.cell? (a.add (i*2))=some (.int .i64 q.1.1)∧W.cell? (a.add (i*2+1))=some q.2:=fun i hi=>by
   obtain⟨cs',h1,h2⟩:=hel i (by omega)
   obtain⟨_,_,h3⟩:=World.cells?_some h1
   obtain⟨r,A,l,c,rfl,hby,_⟩:=rd_write h2 (fun x hx'=>hlt x (by
    rw[hp]
    exact List.mem_append_right _ (List.mem_flatMap.2 ⟨i,List.mem_range.2 (by omega),hx'⟩)))
   have e0:=h3 0 (by omega)
   have e1:=h3 1 (by omega)
   have ea:∀ j,(a.add (i*2)).add j=a.add (i*2+j):=fun j=>by
    unfold Addr.add
    repeat' split
    all_goals simp_all
    all_goals omega
   rw[ea] at e0 e1
   exact⟨((r,l),.slice A l.length c),⟨A,c,rfl⟩,hby,e0,e1⟩
  obtain⟨Q,hQ⟩:=choose_lt (α:=(Int×List UInt8)×Value) (p:=fun i q=>(∃ A c,q.2=.slice A q.1.2.length c)∧Bys W W.heap.size q.2 q.1.2∧W.cell? (a.add (i*2))=some (.int .i64 q.1.1)∧W.cell? (a.add (i*2+1))=some q.2) hb
  refine⟨some a,m,((List.range len).map Q).map (·.1),by simp,(List.range len).map Q,rfl,⟨some a,m,by simp,by simpa using hl,hm,?_⟩,fun q hq=>?_⟩
  ·rw[List.length_map,List.length_map,List.length_range]
   refine GY (by rw[jE];simp) (by omega) (fun x hx'=>hlt x ?_) (fun j u hu=>?_)
   ·rw[hp]
    refine List.mem_append_left _ ?_
    unfold MemPlace.row at hx' ⊢
    rw[List.mem_map] at hx' ⊢
    obtain⟨k,hk,e⟩:=hx'
    exact⟨k,List.mem_range.2 (by have:=List.mem_range.1 hk;omega),e⟩
   ·have hj:j<len*2:=by
     have:=(List.getElem?_eq_some_iff.1 hu).1
     rw[jE] at this
     simpa using this
    obtain⟨c0,c1⟩:=JE ((List.range len).map Q) (j / 2) (by simp;omega)
    obtain⟨_,_,q0,q1⟩:=hQ (j / 2) (by omega)
    rcases(show j=j / 2*2∨j=j / 2*2+1 by omega) with e|e
    ·have hu':some u=some _:=(hu.symm.trans (congrArg (fun t=>(QO ((List.range len).map Q))[t]?) e)).trans c0
     cases hu'
     rw[show a.add j=a.add (j / 2*2) from congrArg _ e,q0]
     simp
    ·have hu':some u=some _:=(hu.symm.trans (congrArg (fun t=>(QO ((List.range len).map Q))[t]?) e)).trans c1
     cases hu'
     rw[show a.add j=a.add (j / 2*2+1) from congrArg _ e,q1]
     simp
  ·obtain⟨i,hi,rfl⟩:=List.mem_map.1 hq
   obtain⟨q0,q1,_⟩:=hQ i (List.mem_range.1 hi)
   exact⟨q0,q1⟩
theorem rd_ints {fuel:Nat} {cs:List Value} {d:DataW H} {p:List MemPlace} (h:DataW.trod enc Tryz.prog W 0 (fun _=>true) true fuel 30 cs=some (d,p)) (hlt:∀ x∈p,x.block<W.heap.size) :
  ∃ A c l,cs=[.slice A l.length c]∧Zu W W.heap.size (.slice A l.length c) l∧∀ a∈l,(Lit.int .i64 a).wf=true:=by
 rcases open_ints Tryz.underlying30 Tryz.underlying3 Tryz.cc_int h with ⟨rfl,_⟩|⟨a,len,cap,zs,rfl,_,hl,hm,hz,hx,hcell,hwf⟩
 ·exact⟨none,0,[],rfl,⟨none,0,rfl,Nat.le_refl _,by simp[maxLen],Rd.none_⟩,fun a h=>by cases h⟩
 ·simp only[if_true] at hz
  have hp:p=MemPlace.row a zs.length:=congrArg Prod.snd hx
  have hll:(zs.take len).length=len:=by rw[List.length_take];omega
  refine⟨some a,cap,zs.take len,by rw[hll],⟨some a,cap,rfl,by omega,hm,?_⟩,fun n hn=>hwf n (List.mem_of_mem_take hn)⟩
  rw[hll]
  refine VQ (c:=cap) hl (by simp;omega) (fun x hx'=>hlt x (by rw[hp,hz];exact hx')) (fun i u hu=>?_)
  rw[List.getElem?_map,List.getElem?_take] at hu
  split at hu
  ·rename_i hi
   rw[hcell i (by omega),←hu]
   simp[List.getElem?_eq_getElem (show i<zs.length by omega)]
  ·cases hu
theorem rd_disk {fuel:Nat} {cs:List Value} {d:DataW H} {p:List MemPlace} (h:DataW.trod enc Tryz.prog W 0 (fun _=>true) true fuel 25 cs=some (d,p)) (hlt:∀ x∈p,x.block<W.heap.size) :
  ∃ A1 c1 A2 c2 bs ws,cs=[.slice A1 (List.length bs) c1,.slice A2 (List.length ws) c2]∧Bls W W.heap.size (.slice A1 bs.length c1) bs∧Wrs W W.heap.size (.slice A2 ws.length c2) ws:=by
 obtain⟨xs,n,hl,hxl,hp,hf⟩:=vl Tryz.underlying25 h
 rw[Tryz.cc_disk] at hl
 match cs,hl with
 | [c0,c1],_ =>
  match xs,hxl with
  | [(d0,p0),(d1,p1)],_ =>
   have g0:_=some (d0,p0):=hf 0 22 0 1 rfl Tryz.cc_blocks
   have g1:_=some (d1,p1):=hf 1 23 1 1 rfl Tryz.cc_writes
   simp only[List.drop,List.take] at g0 g1
   have hp2:p=p0++(p1++[]):=hp
   obtain⟨A1,k1,bs,e1,h1⟩:=qew g0 (fun x hx=>hlt x (by rw[hp2];simp[hx]))
   obtain⟨A2,k2,ws,e2,h2⟩:=qei g1 (fun x hx=>hlt x (by rw[hp2];simp[hx]))
   simp only[List.cons.injEq,and_true] at e1 e2
   subst e1 e2
   exact⟨A1,k1,A2,k2,bs,ws,rfl,h1,h2⟩
theorem rd_store {fuel:Nat} {cs:List Value} {d:DataW H} {p:List MemPlace} (h:DataW.trod enc Tryz.prog W 0 (fun _=>true) true fuel 28 cs=some (d,p)) (hlt:∀ x∈p,x.block<W.heap.size) :
  ∃ A1 c1 A2 c2 A3 c3 A4 c4,∃ S:Sto,cs=[.slice A1 S.bs.length c1,.slice A2 S.ws.length c2,.slice A3 S.now.length c3,.slice A4 S.last.length c4]∧Qc W W.heap.size (.slice A1 S.bs.length c1) (.slice A2 S.ws.length c2) (.slice A3 S.now.length c3) (.slice A4 S.last.length c4) S:=by
 obtain⟨xs,n,hl,hxl,hp,hf⟩:=vl Tryz.underlying28 h
 rw[Tryz.cc_store] at hl
 match cs,hl with
 | [c0,c1,c2,c3],_ =>
  match xs,hxl with
  | [(d0,p0),(d1,p1),(d2,p2)],_ =>
   have g0:_=some (d0,p0):=hf 0 25 0 2 rfl Tryz.cc_disk
   have g1:_=some (d1,p1):=hf 1 26 2 1 rfl Tryz.cc_bytes
   have g2:_=some (d2,p2):=hf 2 26 3 1 rfl Tryz.cc_bytes
   simp only[List.drop,List.take] at g0 g1 g2
   have hp2:p=p0++(p1++(p2++[])):=hp
   obtain⟨A1,k1,A2,k2,bs,ws,e1,h1,h2⟩:=rd_disk g0 (fun x hx=>hlt x (by rw[hp2];simp[hx]))
   obtain⟨A3,n3,k3,e3,_,l3,h3,q3⟩:=Yf Tryz.underlying26 Tryz.underlying5 Tryz.cc_u8 g1 (fun x hx=>hlt x (by rw[hp2];simp[hx]))
   obtain⟨A4,n4,k4,e4,_,l4,h4,q4⟩:=Yf Tryz.underlying26 Tryz.underlying5 Tryz.cc_u8 g2 (fun x hx=>hlt x (by rw[hp2];simp[hx]))
   simp only[List.cons.injEq,and_true] at e1 e3 e4
   obtain⟨rfl,rfl⟩:=e1
   subst e3 e4 q3 q4
   exact⟨A1,k1,A2,k2,A3,k3,A4,k4,⟨bs,ws,l3,l4⟩,rfl,h1,h2,h3,h4⟩
theorem rd_pool {fuel:Nat} {cs:List Value} {d:DataW H} {p:List MemPlace} (h:DataW.trod enc Tryz.prog W 0 (fun _=>true) true fuel 32 cs=some (d,p)) (hlt:∀ x∈p,x.block<W.heap.size) :
  ∃ A1 c1 A2 c2 A3 c3 A4 c4 gen root next A5 c5,∃ (S:Sto) (dead:List Int),cs=(Qo (.slice A1 S.bs.length c1) (.slice A2 S.ws.length c2) (.slice A3 S.now.length c3) (.slice A4 S.last.length c4) gen root next (.slice A5 dead.length c5)).toList ∧
   Qc W W.heap.size (.slice A1 S.bs.length c1) (.slice A2 S.ws.length c2) (.slice A3 S.now.length c3) (.slice A4 S.last.length c4) S∧Zu W W.heap.size (.slice A5 dead.length c5) dead ∧
   (Lit.int .u32 gen).wf=true∧(Lit.int .i64 root).wf=true∧(Lit.int .u32 next).wf=true∧∀ a∈dead,(Lit.int .i64 a).wf=true:=by
 obtain⟨xs,n,hl,hxl,hp,hf⟩:=vl Tryz.underlying32 h
 rw[Tryz.cc_pool] at hl
 match cs,hl with
 | [c0,c1,c2,c3,c4,c5,c6,c7],_ =>
  match xs,hxl with
  | [(d0,p0),(d1,p1),(d2,p2),(d3,p3),(d4,p4)],_ =>
   have g0:_=some (d0,p0):=hf 0 28 0 4 rfl Tryz.cc_store
   have g1:_=some (d1,p1):=hf 1 29 4 1 rfl Tryz.cc_u32
   have g2:_=some (d2,p2):=hf 2 3 5 1 rfl Tryz.cc_int
   have g3:_=some (d3,p3):=hf 3 29 6 1 rfl Tryz.cc_u32
   have g4:_=some (d4,p4):=hf 4 30 7 1 rfl Tryz.cc_ints
   simp only[List.drop,List.take] at g0 g1 g2 g3 g4
   have hp2:p=p0++(p1++(p2++(p3++(p4++[])))):=hp
   obtain⟨A1,k1,A2,k2,A3,k3,A4,k4,S,e0,hS⟩:=rd_store g0 (fun x hx=>hlt x (by rw[hp2];simp[hx]))
   obtain⟨gen,e1,_,w1⟩:=DataW.trod_int Tryz.underlying29 g1
   obtain⟨root,e2,_,w2⟩:=DataW.trod_int Tryz.underlying3 g2
   obtain⟨next,e3,_,w3⟩:=DataW.trod_int Tryz.underlying29 g3
   obtain⟨A5,k5,dead,e4,hd,w4⟩:=rd_ints g4 (fun x hx=>hlt x (by rw[hp2];simp[hx]))
   simp only[List.cons.injEq,and_true] at e0 e1 e2 e3 e4
   obtain⟨rfl,rfl,rfl,rfl⟩:=e0
   subst e1 e2 e3 e4
   exact⟨A1,k1,A2,k2,A3,k3,A4,k4,gen,root,next,A5,k5,S,dead,rfl,hS,hd,w1,w2,w3,w4⟩
end
end Go.Proofs.YtpbniokljofedaaGreat
namespace Go.Proofs.YtpbniokljofedaaGreat
set_option linter.unusedSimpArgs false
set_option linter.unusedVariables false
open Go.RowKit Go.ChangeShapes Go.WideShapes Go.ChangeAt
section
variable {H:Type} {enc:TypeId×Value→H} {P:Program}
theorem trodAll_stays (hl:laidOutB P=true) {W W':World} {sp:Nat→Bool}:∀ (ts:List TypeId) (vs:List Value) (ds:List (DataW H)) (p:List MemPlace),DataW.TrodAll enc P W 0 (fun _=>true) true ts vs ds p →
  (∀ t∈ts,P.readableRec t=true∧t<P.types.size)→(∀ x∈p,W.sameAt W' x)→(∀ x∈p,sp x.block=true)→DataW.TrodAll enc P W' 0 sp true ts vs ds p
 | [],vs,ds,p,h,_,_,_=>by
  obtain⟨rfl,rfl,rfl⟩:=trodAll_nil h
  exact trodAll_mk0
 |t :: ts,vs,ds,p,h,ht,hs,hsp=>by
  obtain⟨v,vs',d,ds',p0,q0,rfl,rfl,rfl,h0,h1⟩:=trodAll_cons h
  have e:=ht t (List.mem_cons_self)
  exact trodAll_cons_mk (WideElems.Trod_stays hl e.1 e.2 h0 (fun x hx=>hs x (List.mem_append_left _ hx)) (fun x hx=>hsp x (List.mem_append_left _ hx)))
   (trodAll_stays hl ts vs' ds' q0 h1 (fun t' h'=>ht t' (List.mem_cons_of_mem _ h')) (fun x hx=>hs x (List.mem_append_right _ hx)) (fun x hx=>hsp x (List.mem_append_right _ hx)))
theorem law_post {f:Func} {s:ChangeSpec} {W W':World} {args:Array Value} {ds gs:List (DataW H)} {before:List MemPlace} {b:TypeId} (hv:s.vars=[]) (hl:laidOutB P=true)
  (hr:f.resultTypes=#[b]) (hb:P.underlying b=some .bool) (ht:∀ t∈f.params.toList,P.readableRec t=true∧t<P.types.size)
  (hW:DataW.Whole enc P f.params.toList s.vars false W args.toList ds gs before) (hs:s.fn H (ds++gs)={ results:=[.lit (.bool true)],args:=ds,vars:=[] }) (hB:Below W.heap.size W W') :
  s.post enc P f false true false false W args (.bool true) W':=by
 have hlt:∀ x∈before,x.block<W.heap.size:=fun x hx=>hW.lt x hx
 have hW0:=hW
 obtain⟨p,q,hA,hV,rfl,_,_⟩:=hW
 have hq:q=[]:=by
  rw[hv] at hV
  cases gs with
  |nil=>exact hV
  |cons g gs=>cases hV
 subst hq
 refine⟨ds,gs,p++[],[],p,[],hW0,?_,?_,?_,?_,fun h=>by cases h⟩
 ·rw[hs,hr]
  exact trodAll_cons_mk (shut_bool hb true) trodAll_mk0
 ·rw[hs]
  exact trodAll_stays hl _ _ _ _ hA ht (fun x hx=>hB.same (hlt x (by simpa using hx))) (fun x hx=>by simpa using hlt x (by simpa using hx))
 ·rw[hs,hv]
  exact rfl
 ·exact World.keptBut_mono (fun x hx=>⟨by simpa using hx,Or.inr (Or.inl hx)⟩) (hB.frame (· ∈ p))
end
end Go.Proofs.YtpbniokljofedaaGreat
