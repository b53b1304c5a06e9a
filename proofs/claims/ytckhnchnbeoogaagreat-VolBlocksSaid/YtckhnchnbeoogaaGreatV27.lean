/- Texts KMarksW, KMarks, KEnough, May14, joined. -/
import Derived.Test.YtckhnchnbeoogaaGreatV21
import Derived.Test.YtckhnchnbeoogaaGreatV26
set_option linter.unusedSimpArgs false
set_option linter.unusedVariables false
namespace Go.Proofs.YtckhnchnbeoogaaGreat
open Go.RowKit
theorem Tryz.info_dspan:(Tryz.prog.info? 185).map (fun i=>(i.zero,i.size,i.bytes))=some (some (vg 0 none 0 0 (0,0,0) (0,0,0) false false),10,64):=by kernel_rfl
theorem qew (lvl:Int) (A:Option Addr) (n c:Nat) (f l:K3) (d b:Bool) (w:World):(Instr.field 185 (vg lvl A n c f l d b) 4).run Tryz.prog w=.ok (.bool b) w:=by kernel_rfl
def jH:Array Value:=madeCells (QV 0 none 0 0 (0,0,0) (0,0,0) false false) 2560
theorem run_mkD (w:World):(Instr.makeSlice 181 (.int .i64 256) (.int .i64 256)).run Tryz.prog w=.ok (.slice (some ⟨w.heap.size,0,none⟩) 256 256) (w.alloc (.cells jH 185)):=by
 obtain⟨i0,hi,hz0,hz1,hz2⟩:=info_parts Tryz.info_dspan
 have h:=run_make (P:=Tryz.prog) w 181 185 i0 _ Tryz.underlying181 hi hz0 .i64 .i64 256 256 (by omega) (by omega) (by rw[hz2];omega) (by omega)
 rw[hz1] at h
 exact h
theorem run_mkI (w:World):(Instr.makeSlice 30 (.int .i64 256) (.int .i64 256)).run Tryz.prog w=.ok (.slice (some ⟨w.heap.size,0,none⟩) 256 256) (w.alloc (.cells (zk fun _=>0).toArray 3)):=by kernel_rfl
theorem UD {w:World} {sb:Nat} (h:w.heap[sb]?=some (.cells jH 185 (0,0))):jN w sb fun _=>none:=by
 refine⟨_,h,size_madeCells _ _,fun a j ha hj=>?_⟩
 have hm:(a*10+j) % 10=j:=by omega
 unfold jH madeCells
 rw[Array.getElem?_map,Array.getElem?_range,if_pos (by omega)]
 show some ((QV 0 none 0 0 (0,0,0) (0,0,0) false false)[(a*10+j) % 10]!)=_
 rw[hm]
 show _=(QV 0 none 0 0 (0,0,0) (0,0,0) false false)[j]?
 have:j=0∨j=1∨j=2∨j=3∨j=4∨j=5∨j=6∨j=7∨j=8∨j=9:=by omega
 rcases this with rfl|rfl|rfl|rfl|rfl|rfl|rfl|rfl|rfl|rfl <;> rfl
def jr (S:Sto) (root next:Int) (dead:List Int) (w:World) (e:Ending) (w':World):Prop:=Below w.heap.size w w' ∧
 ((e=.returned (.tuple #[.slice none 0 0,.slice none 0 0,.bool false])∧∀ vs,¬QM S root next dead vs) ∨
  ∃ vs refs met rb mb,e=.returned (.tuple #[.slice (some ⟨rb,0,none⟩) 256 256,.slice (some ⟨mb,0,none⟩) 256 256,.bool true])∧QM S root next dead vs∧Qr (QX S) (zi S) (zl root dead vs) (zv met) refs ∧
   w'.heap[rb]?=some (.cells (zk refs).toArray 3 (0,0))∧w'.heap[mb]?=some (.cells (zk met).toArray 3 (0,0))∧w.heap.size≤rb∧w.heap.size≤mb∧rb≠mb)
theorem jr.bad {S:Sto} {root next:Int} {dead:List Int} {w w':World} (hB:Below w.heap.size w w') (h:∀ vs,¬QM S root next dead vs):jr S root next dead w (.returned (.tuple #[.slice none 0 0,.slice none 0 0,.bool false])) w':=⟨hB,.inl ⟨rfl,h⟩⟩
theorem Zk {R:Ending→World→Prop} {a:Act} {W:World} {u v t:Value} (h2:a.tmps[2]?.getD undef=u) (h3:a.tmps[3]?.getD undef=v) (h4:a.tmps[4]?.getD undef=t) (hd:a.defers=[]) (hR:R (.returned (.tuple #[u,v,t])) W):bodyPost Tryz.prog Tryz.f70 R .ret a W:=by
 refine bodyPost_ret (v:=.tuple #[u,v,t]) ?_ hd hR
 simp[results,Tryz.results70,go_sem,h2,h3,h4]
theorem qdt {S:Sto} {a h:Nat} {next:Int} {xs:List It} (hn:qV S a=some ((h:Int),xs)):Vj S (a:Int) next=if (qS S h xs).all (QU next)=true∧(qS S h xs).length≤16 then some ((qS S h xs).map Qq) else none:=by
 unfold Vj
 rw[Int.toNat_natCast,hn]
 simp only[Int.toNat_natCast]
 rw[Ul next _ [] (by simp)]
 simp
theorem bad_all {S:Sto} {a h:Nat} {next:Int} {xs:List It} {dead:List Int} (hn:qV S a=some ((h:Int),xs)) (hb:(qS S h xs).all (QU next)=false∨16<(qS S h xs).length):∀ vs,¬QM S (a:Int) next dead vs:=by
 intro vs hp
 have h1:=hp.vols
 rw[qdt hn] at h1
 split at h1
 ·rename_i hh
  rcases hb with hb|hb
  ·rw[hb] at hh;cases hh.1
  ·omega
 ·cases h1
theorem UI {next:Int} {l:List It} (h:l.all jF=false):l.all (QU next)=false:=by
 rw[List.all_eq_false] at h ⊢
 obtain⟨x,hx,hh⟩:=h
 exact⟨x,hx,fun e=>hh (by unfold QU at e;simp only[Bool.and_eq_true] at e;exact e.1)⟩
structure KR (root:Int) (dead:List Int) (next:Int) (l:List It) (w6:World) (v i:Value) (wr:World):Prop where
 ex:∃ k:Nat,k≤l.length∧i=.int .i64 (k:Int)∧(l.take k).all (QU next)=true∧wr.ownsRow w6.heap.size 3 1 v (1+dead.length+k) (Ki (ZB root dead (l.map Qq) k))∧Ext w6 wr
structure KM (p:KP) (roots:List Int) (w8:World) (rb mb:Nat) (i:Value) (wr:World):Prop where
 ex:∃ (k:Nat) (g:Int→Option Value) (refs met:Nat→Nat),k≤roots.length∧i=.int .i64 (k:Int)∧Ken p wr g∧(∀ r∈roots.take k,okL p.S (-1) r=true)∧Qr (QX p.S) (zi p.S) ((roots.take k).map Int.toNat) (zv met) refs ∧
  wr.heap[rb]?=some (.cells (zk refs).toArray 3 (0,0))∧wr.heap[mb]?=some (.cells (zk met).toArray 3 (0,0))∧w8.heap.size≤wr.heap.size∧wr.os=w8.os∧wr.tape=w8.tape∧wr.output=w8.output∧∀ b,b<w8.heap.size→b≠rb→b≠mb→b≠p.sb→wr.heap[b]?=w8.heap[b]?
theorem Tl {S:Sto} {R:List Nat} {refs met:Nat→Nat} (h:Qr (QX S) (zi S) R (zv met) refs) (hl:R.length≤57) (a:Nat):Few S 100 (bump refs a) met:=by
 intro b
 have h1:=h.sum b
 have h2:=List.count_le_length (a:=b) (l:=R)
 unfold bump
 split <;> omega
theorem Gg {S:Sto} {R:List Nat} {refs met:Nat→Nat} (h:Qr (QX S) (zi S) R (zv met) refs) (hl:R.length≤57) (a:Nat):refs a≤1337:=by
 have h1:=h.sum a
 have h2:=List.count_le_length (a:=a) (l:=R)
 have h3:=qbR S (zv met) a
 omega
theorem KM.below {p:KP} {roots:List Int} {w w8 wr:World} {rb mb B:Nat} {i:Value} (h:KM p roots w8 rb mb i wr) (hx:Below B w w8) (hB:B≤w8.heap.size) (h1:B≤rb) (h2:B≤mb) (h3:B≤p.sb):Below B w wr:=by
 obtain⟨k,g,refs,met,_,_,_,_,_,_,_,z,e1,e2,e3,hb⟩:=h.ex
 exact⟨e1.trans hx.os,e2.trans hx.tape,e3.trans hx.output,Nat.le_trans hx.size z,fun b hb9=>(hb b (by omega) (by omega) (by omega) (by omega)).trans (hx.block b hb9)⟩
set_option maxHeartbeats 1000000 in
set_option maxRecDepth 100000 in
theorem UU (A1:Option Addr) (n1 c1:Nat) (A2:Option Addr) (n2 c2:Nat) (A3:Option Addr) (n3 c3:Nat) (A4:Option Addr) (n4 c4:Nat) (gen root next:Int) (A5:Option Addr) (c5:Nat) (S:Sto) (dead:List Int) (w:World)
  (h:qH w w.heap.size (.slice A1 n1 c1) (.slice A2 n2 c2) (.slice A3 n3 c3) (.slice A4 n4 c4) S) (hd:QF w w.heap.size (.slice A5 dead.length c5) dead) :
  Calls Tryz.prog 70 #[.agg (qC (.slice A1 n1 c1) (.slice A2 n2 c2) (.slice A3 n3 c3) (.slice A4 n4 c4) gen root next (.slice A5 dead.length c5))] w (jr S root next dead w):=by
 have HM:=zH (fun W (hx:Ext w W)=>rmay_any A1 n1 c1 A2 n2 c2 A3 n3 c3 A4 n4 c4 S W (h.ext hx))
 have HST:=zH h
 have HD:=zH hd
 have hfi:=qew
 clear h hd
 go_enter Tryz.func70,Tryz.ntmps70
 go_wp2_with fail
 generalize hw1:World.alloc w _=w1
 have x1:Ext w w1:=by rw[←hw1];exact Ext.alloc _ _
 have p1:w1.heap[w.heap.size]?=some (.cells (qC (.slice A1 n1 c1) (.slice A2 n2 c2) (.slice A3 n3 c3) (.slice A4 n4 c4) gen root next (.slice A5 dead.length c5)) 32 (0,0)):=by rw[←hw1];exact World.alloc_heap_at _ _ _ rfl
 clear hw1
 refine(HM.out w1 x1).mono ?_
 clear HM
 rintro e w2 ⟨rfl,hB⟩
 have x2:Ext w w2:=Ext.trans x1 hB
 have p2:=qc p1 hB
 have hz2:w.heap.size<w2.heap.size:=(zG.1 p2).1
 have kp:=qa p2
 clear hB p1 x1
 rcases hmay:qB S with _|_
 ·have HB:=zH (jr.bad (S:=S) (next:=next) (root:=root) (dead:=dead) x2 (fun vs hp=>by have:=hp.may;rw[hmay] at this;cases this))
  replace hmay:=zH hmay
  go_wp2_with fail
  exact Zk rfl rfl rfl rfl HB.out
 rcases Nat.lt_or_ge 40 dead.length with h40|h40
 ·have hq:decide ((dead.length:Int)>40)=true:=decide_eq_true (by omega)
  have hq2:decide (40<dead.length)=true:=decide_eq_true (by omega)
  have HB:=zH (jr.bad (S:=S) (next:=next) (root:=root) (dead:=dead) x2 (fun vs hp=>by have:=hp.few;omega))
  replace hmay:=zH hmay
  go_wp2_with fail
  exact Zk rfl rfl rfl rfl HB.out
 have hq:decide ((dead.length:Int)>40)=false:=decide_eq_false (by omega)
 have hq2:decide (40<dead.length)=false:=decide_eq_false (by omega)
 replace hmay:=zH hmay
 go_upto_region 3 with fail
 have gP:∀ W,qu.r w2 W→∀ i,W.cell? ⟨w.heap.size,i,none⟩=(qC (.slice A1 n1 c1) (.slice A2 n2 c2) (.slice A3 n3 c3) (.slice A4 n4 c4) gen root next (.slice A5 dead.length c5))[i]?:=fun W h=>qa (qc p2 h)
 refine qv (by kernel_rfl) ?_
 refine Qu (w:=w2) qu (qE [(2,jd w2.heap.size 256 185 jH)]) [true,true,true] 3 (by kernel_rfl) (by kernel_rfl) (by kernel_rfl) (by kernel_rfl) (by kernel_rfl) (by kernel_rfl) (by kernel_rfl) ?st (Rel.drew _ _) ?walk
 case st=>exact qm (by simp only[List.forall_mem_cons];exact⟨fun p=>zD (vG _ _ _ _ p),fun _ h=>by cases h⟩)
 case walk =>
  intro K hK
  dsimp only[qz]
  repeat ((first|(refine qf ?_ (by rfl) (by rfl) (fun W hW _=>⟨W,?_,Rel.refl _ W⟩) ?_;rotate_left;(first|(go_simp;with_reducible rfl)|(go_simp;done)))|(refine qj (by rfl) ?_));try simp only[Act.put,qi,qe,qb,qg,qb,qY,zA,zB,zC])
  refine qA (jd w2.heap.size 256 185 jH) (by rfl) (by rfl) (fun W hW _=>?_) (fun (sb:Nat)=>?_)
  ·have hWx:Ext w2 W:=hW
   have hmk:=run_mkD W
   refine Qa (u:=.slice (some ⟨W.heap.size,0,none⟩) 256 256) (w':=W.alloc (.cells jH 185)) ?_ ⟨W.heap.size,rfl,⟨World.alloc_heap_at _ _ _ rfl,hWx.size⟩,Ext.alloc _ _⟩
   go_simp
  simp only[Act.put,qi,qe,qb,qg,qb,qY,zA,zB,zC]
  refine qD (hK _ _ fun W hW hF=>?_)
  have hWx:Ext w2 W:=hW
  obtain⟨rs,hsb⟩:W.heap[sb]?=some (.cells jH 185 (0,0))∧w2.heap.size≤sb:=(hF 2).1
  clear hF hK gP kp
  dsimp only[List.drop,List.length_cons,List.length_nil]
  have pW:=qc p2 hWx
  go_wp2
  refine Qw ?_
  obtain⟨kb,hkb⟩:∃ kb,kb=W.heap.size:=⟨_,rfl⟩
  generalize hw3:World.alloc W _=w3
  have x3:Ext W w3:=by rw[←hw3];exact Ext.alloc _ _
  have r3:w3.heap[kb]?=some (.cells #[.slice A1 n1 c1,.slice A2 n2 c2,.slice A3 n3 c3,.slice A4 n4 c4,.slice (some ⟨sb,0,none⟩) 256 256] 183 (0,0)):=by rw[←hw3];exact World.alloc_heap_at _ _ _ hkb
  have rs3:=qc rs x3
  have p3:=qc pW x3
  have xw3:Ext w w3:=(x2.trans hWx).trans x3
  have zsb:sb<kb:=by rw[hkb];exact(zG.1 rs).1
  have z3:kb<w3.heap.size:=(zG.1 r3).1
  obtain⟨p,hp⟩:∃ p:KP,p=⟨S,w2.heap.size,w3.heap.size,kb,sb,.slice A1 n1 c1,.slice A2 n2 c2,.slice A3 n3 c3,.slice A4 n4 c4⟩:=⟨_,rfl⟩
  have K3:Ken p w3 fun _=>none:=by
   rw[hp]
   refine⟨r3,UD rs3,(fun a v hv=>by cases hv),(HST.out.below xw3).more (by have:=x2.size;omega),⟨z3,by dsimp only;omega,by dsimp only;omega,Nat.le_refl _,by dsimp only;omega,by dsimp only;omega⟩,hmay.out⟩
  have pS:p.S=S:=by rw[hp]
  have pkb:p.kb=kb:=by rw[hp]
  have psb:p.sb=sb:=by rw[hp]
  have pB:p.B=w2.heap.size:=by rw[hp]
  clear hp rs r3 rs3 pW x3 hW hWx hw3
  rw[←hkb]
  clear hkb
  have kp3:=qa p3
  have HL:=kR p root w3 _ K3
  rw[pkb] at HL
  replace HL:=zH HL
  go_wp2_with fail
  refine HL.out.mono ?_
  clear HL
  rintro e w4 ⟨v,g,rfl,⟨lvl0,A0,n0,c0,fk0,lk0,d0,rfl,hknown⟩,hgr,hm,hg,hn⟩
  have K4:=K3.after hgr hm hg hn
  rw[psb] at hg
  rw[pS] at hknown ⊢
  have xw4:Below w.heap.size w w4:=Below.grown xw3 hg xw3.size (fun g e=>by cases e;omega)
  have p4:=(hg.block w.heap.size (by omega) (by simp;omega)).trans p3
  have kp4:=qa p4
  have z4:=hg.size
  rcases hok:okL S (-1) root with _|_
  ·have HB:=zH (jr.bad (S:=S) (next:=next) (root:=root) (dead:=dead) xw4 (fun vs hp=>by have:=hp.top;rw[hok] at this;cases this))
   replace hok:=zH hok
   replace K4:=zH K4
   clear hknown hgr hm hg hn K3 p3 p4 kp3
   go_wp2_with fail
   exact Zk rfl rfl rfl rfl HB.out
  obtain⟨a,rfl,htree⟩:=kS hok
  obtain⟨ha,ha2,hh,xs,hnode,hspan⟩:=htree
  have hst4:qH w4 w4.heap.size (.slice A1 n1 c1) (.slice A2 n2 c2) (.slice A3 n3 c3) (.slice A4 n4 c4) S:=(HST.out.below xw4).more xw4.size
  have HA:=zH (all_any A1 n1 c1 A2 n2 c2 A3 n3 c3 A4 n4 c4 gen next (.slice A5 dead.length c5) S a hh xs w4 hmay.out hst4 ha ha2 hnode hspan)
  have hvo:=zH (fun next=>qdt (next:=next) hnode)
  have hbadall:=zH (fun hb=>bad_all (next:=next) (dead:=dead) hnode hb)
  have hlok:=zH (To (S:=S) hh xs (fun x hx=>((Qn hnode).2.1 x hx).1))
  replace K4:=zH K4
  replace hok:=zH hok
  clear hknown hgr hm hg hn K3 p3 hst4 hspan kp3
  replace hnode:=zH hnode
  generalize qS S hh xs=l at *
  go_wp2_with fail
  refine HA.out.mono ?_
  clear HA
  rintro e w5 ⟨hB5,hQ5⟩
  have x45:Ext w4 w5:=hB5
  have xw5:Below w.heap.size w w5:=xw4.trans (Below.mono x45 xw4.size)
  have p5:=qc p4 x45
  have kp5:=qa p5
  clear kp4 p4 hB5
  rcases hQ5 with ⟨hall,rfl⟩|⟨hall,v,rfl,own5⟩
  ·have HB:=zH (jr.bad xw5 (hbadall.out (.inl (UI hall))))
   replace hall:=zH hall
   go_wp2_with fail
   exact Zk rfl rfl rfl rfl HB.out
  obtain⟨AV,cV,rfl,hcv1,hcv2⟩:=qw own5
  rcases Nat.lt_or_ge 16 l.length with h16|h16
  ·have hq3:decide ((l.length:Int)>16)=true:=decide_eq_true (by omega)
   have hq4:decide (16<l.length)=true:=decide_eq_true (by omega)
   have HB:=zH (jr.bad xw5 (hbadall.out (.inr h16)))
   replace hall:=zH hall
   replace own5:=zH own5
   clear hcv1 hcv2
   go_wp2_with fail
   exact Zk rfl rfl rfl rfl HB.out
  have hq3:decide ((l.length:Int)>16)=false:=decide_eq_false (by omega)
  have hq4:decide (16<l.length)=false:=decide_eq_false (by omega)
  obtain⟨i0,hi,hz0,hz1,hz2'⟩:=info_parts Tryz.info_int
  have hzw5:w.heap.size<w5.heap.size:=(zG.1 p5).1
  replace hall:=zH hall
  replace own5:=zH own5
  clear hcv1 hcv2
  go_wp2_with (at_builtin;refine qI ?_)
  have hda:Rd (w5.alloc (.cells #[.int .i64 (a:Int)] 3)) w.heap.size 1 A5 dead.length (dead.map fun (a:Int)=>Value.int .i64 a):=by
   obtain⟨A',c',e,_,_,hr⟩:=HD.out
   cases e
   exact(hr.below xw5).alloc (by omega) _
  have o7:(w5.alloc (.cells #[.int .i64 (a:Int)] 3)).ownsRow w5.heap.size 3 1 (.slice (some ⟨w5.heap.size,0,none⟩) 1 1) 1 [.int .i64 (a:Int)]:=World.ownsRow_lit (base:=w5.heap.size) (e:=3) (size:=1) w5 #[.int .i64 (a:Int)] 1 (Nat.le_refl _) (by unfold maxLen;omega) rfl
  refine Qc.go (qM _ rfl (.tmp 48) (.tmp 50) 30 rfl w5.heap.size 3 i0 (.int .i64 0) 1 8 Tryz.underlying30 hi hz0 hz1 hz2' rfl (by decide) _ 1 [.int .i64 (a:Int)] rfl o7 w.heap.size A5 dead.length c5 (dead.map fun (a:Int)=>Value.int .i64 a) rfl hda (by simp[Value.oneCell']) (by omega) (by decide) (by simp) ?_)
  intro v7 w7 o8 g7 hB7 hv7
  have x57:Ext w5 w7:=Below.trans (Ext.alloc w5 _) hB7
  have I1:KR (a:Int) dead next l w5 v7 (.int .i64 0) w7:=⟨0,Nat.zero_le _,rfl,rfl,by
   have e:Ki (ZB (a:Int) dead (l.map Qq) 0)=[.int .i64 (a:Int)]++dead.map fun (a:Int)=>Value.int .i64 a:=by unfold ZB Ki;simp
   rw[e]
   exact o8,x57⟩
  replace I1:=zH I1
  clear o7 o8 g7 hv7 hB7 hda hi hz0 hz1 hz2' kp5
  go_wp2_with fail
  go_loopw [8,9] (fun v i wr=>KR (a:Int) dead next l w5 v i wr) (fun _ i _=>l.length-(intOf i).toNat)
  case atStart=>exact I1.out
  case round =>
   obtain⟨k,hk,rfl,hgood,own,xr⟩:=hrel.ex
   clear hrel I1
   have pr:=qc p5 xr
   by_cases hlt:k<l.length
   ·have hlt':=hlt
    obtain⟨bv,offv,eA,hbv,hcel⟩:=(Rd.of_own (QK own5.out xr)).2 (by omega)
    subst eA
    obtain⟨d0,d1,d2,d3⟩:=GE (l.map Qq) k (by rw[List.length_map];exact hlt')
    replace d0:=hcel _ _ d0
    replace d1:=hcel _ _ d1
    rw[←Nat.add_assoc] at d1
    rw[List.getElem_map] at d0 d1
    have HSU:=zH (YC (a:Int) dead (l.map Qq) (k:=k) (by rw[List.length_map];exact hlt'))
    rw[List.getElem_map] at HSU
    have hxk:=hlok.out l[k] (List.getElem_mem hlt')
    have hivk:jF l[k]=true:=List.all_eq_true.1 hall.out _ (List.getElem_mem hlt')
    have hT:=zH (JR (QU next) l k hlt')
    have hBD:=zH (@Kf _ (QU next) l k hlt')
    have hidk:(Qq l[k]).id=l[k].i:=rfl
    generalize hxk9:l[k]=x at *
    clear hxk9 hcel d2 d3
    have hgd:QU next x=(decide (x.i≠0) && decide (x.i<next)):=by unfold QU;rw[hivk,Bool.true_and]
    obtain⟨-,⟨hi1,hi2⟩,-⟩:=hxk
    have hcs:(decide (x.i<1)=true∧QU next x=false)∨(decide (x.i<1)=false∧decide (x.i≥next)=true∧QU next x=false)∨(decide (x.i<1)=false∧decide (x.i≥next)=false∧QU next x=true):=by
     rw[hgd]
     by_cases h1:x.i<1
     ·exact .inl ⟨decide_eq_true h1,by rw[show x.i=0 by omega];simp⟩
     ·by_cases h2:x.i<next
      ·exact .inr (.inr ⟨decide_eq_false h1,decide_eq_false (by omega),by rw[decide_eq_true h2,decide_eq_true (by omega)];rfl⟩)
      ·exact .inr (.inl ⟨decide_eq_false h1,decide_eq_true (by omega),by rw[decide_eq_false h2];simp⟩)
    have hc1:decide (k<l.length)=true:=decide_eq_true hlt
    have hwk:=zH (IntWalk.wrap64_in ((k:Int)+1) (by omega))
    rw[hidk] at d0
    generalize (Qq x).root=ur at *
    clear hidk hgd hivk hi1 hi2
    obtain⟨AR,cR,rfl,hcr1,hcr2⟩:=qw own
    clear hcr1 hcr2
    replace own:=zH own
    replace hgood:=zH hgood
    go_upto_region 13 with fail
    have gV:∀ W,qu.r wr W→W.cell? ⟨bv,offv+k*4,none⟩=some (.int .u32 x.i):=fun W h=>Ext.cell h d0
    have gP:∀ W,qu.r wr W→∀ i,W.cell? ⟨w.heap.size,i,none⟩=(qC (.slice A1 n1 c1) (.slice A2 n2 c2) (.slice A3 n3 c3) (.slice A4 n4 c4) gen (a:Int) next (.slice A5 dead.length c5))[i]?:=fun W h=>qa (qc pr h)
    refine qv (by kernel_rfl) ?_
    refine Qu (w:=wr) qu (qE []) [true,true,true,true,true,true,true,true,true,true,true,true,true,true,true] 1 (by kernel_rfl) (by kernel_rfl) (by kernel_rfl) (by kernel_rfl) (by kernel_rfl) (by kernel_rfl) (by kernel_rfl) ?st2 (Rel.drew _ _) ?walk2
    case st2=>exact qm (fun _ h=>by cases h)
    case walk2 =>
     intro K2 hK2
     dsimp only[qz]
     rcases hcs with ⟨e1,e2⟩|⟨e1,e2,e3⟩|⟨e1,e2,e3⟩
     ·replace e2:=zH e2
      repeat ((first|(refine qf ?_ (by rfl) (by rfl) (fun W hW _=>⟨W,?_,Rel.refl _ W⟩) ?_;rotate_left;(first|(go_simp;with_reducible rfl)|(go_simp;done)))|(refine qj (by rfl) ?_));try simp only[Act.put,qi,qe,qb,qg,qb,qY,zA,zB,zC])
      refine qD (hK2 _ _ fun W hW hF=>?_)
      clear hF hK2 gV gP
      have hWx:Ext wr W:=hW
      dsimp only[List.drop,List.length_cons,List.length_nil]
      have HB:=zH (jr.bad (xw5.trans (Below.mono (xr.trans hWx) xw5.size)) (hbadall.out (.inl (hBD.out e2.out))))
      go_wp2
      refine Qw ?_
      go_wp2_with fail
      exact Zk rfl rfl rfl rfl HB.out
     ·replace e3:=zH e3
      repeat ((first|(refine qf ?_ (by rfl) (by rfl) (fun W hW _=>⟨W,?_,Rel.refl _ W⟩) ?_;rotate_left;(first|(go_simp;with_reducible rfl)|(go_simp;done)))|(refine qj (by rfl) ?_));try simp only[Act.put,qi,qe,qb,qg,qb,qY,zA,zB,zC])
      refine qD (hK2 _ _ fun W hW hF=>?_)
      clear hF hK2 gV gP
      have hWx:Ext wr W:=hW
      dsimp only[List.drop,List.length_cons,List.length_nil]
      have HB:=zH (jr.bad (xw5.trans (Below.mono (xr.trans hWx) xw5.size)) (hbadall.out (.inl (hBD.out e3.out))))
      go_wp2
      refine Qw ?_
      go_wp2_with fail
      exact Zk rfl rfl rfl rfl HB.out
     ·replace e3:=zH e3
      repeat ((first|(refine qf ?_ (by rfl) (by rfl) (fun W hW _=>⟨W,?_,Rel.refl _ W⟩) ?_;rotate_left;(first|(go_simp;with_reducible rfl)|(go_simp;done)))|(refine qj (by rfl) ?_));try simp only[Act.put,qi,qe,qb,qg,qb,qY,zA,zB,zC])
      refine qD (hK2 _ _ fun W hW hF=>?_)
      clear hF hK2 gV gP
      have hWx:Ext wr W:=hW
      dsimp only[List.drop,List.length_cons,List.length_nil]
      have d1W:=Ext.cell hWx d1
      go_wp2
      refine Qw ?_
      obtain⟨i0,hi,hz0,hz1,hz2'⟩:=info_parts Tryz.info_int
      go_wp2_with (at_builtin;refine qI ?_)
      refine Qc.go (QP _ rfl (.tmp 74) (.tmp 80) 30 rfl w5.heap.size 3 i0 (.int .i64 0) 1 8 Tryz.underlying30 hi hz0 hz1 hz2' rfl (by decide) _ _ _ rfl (QK own.out hWx) #[.int .i64 ur] rfl rfl (by simp[Value.oneCell']) (by omega) (by decide) (Nat.le_trans xr.size hWx.size) ?_)
      intro v8 w8 own8 _ hB8 _
      have IR:KR (a:Int) dead next l w5 v8 (.int .i64 ((k:Int)+1)) w8:=⟨k+1,hlt',rfl,by rw[hT.out,hgood.out,e3.out];rfl,by
       rw[HSU.out,Gu]
       exact own8,Below.trans (xr.trans hWx) hB8⟩
      replace IR:=zH IR
      clear own8 hB8 hi hz0 hz1 hz2'
      go_wp2_with fail
      refine⟨IR.out,?_⟩
      simp[intOf]
      omega
   ·obtain rfl:k=l.length:=by omega
    rw[List.take_length] at hgood
    have hvs:Vj S (a:Int) next=some (l.map Qq):=by rw[hvo.out,if_pos ⟨hgood,h16⟩]
    have hall9:ZB (a:Int) dead (l.map Qq) l.length=Qs (a:Int) dead (l.map Qq):=by
     have:=kP (a:Int) dead (l.map Qq)
     rwa [List.length_map] at this
    have hRl:(Qs (a:Int) dead (l.map Qq)).length=1+dead.length+l.length:=by
     have:=XE (a:Int) dead (l.map Qq) (k:=l.length) (by rw[List.length_map];exact Nat.le_refl _)
     rwa [hall9] at this
    rw[hall9,←hRl] at own
    have KW:=K4.out.ext (x45.trans xr)
    have xwr:Below w.heap.size w wr:=xw5.trans (Below.mono xr xw5.size)
    have hz9:w4.heap.size≤wr.heap.size:=Nat.le_trans x45.size xr.size
    have hz10:=xr.size
    have hz45:=x45.size
    obtain⟨AR,cR,rfl,hcr1,hcr2⟩:=qw own
    obtain⟨N,hN⟩:∃ N,N=(Qs (a:Int) dead (l.map Qq)).length:=⟨_,rfl⟩
    rw[←hN] at own hRl ⊢
    have hc1:decide (l.length<l.length)=false:=decide_eq_false (by omega)
    clear hcr1 hcr2 hgood hall9 p5
    replace KW:=zH KW
    replace own:=zH own
    replace hN:=zH hN
    replace hRl:=zH hRl
    have hmk:=run_mkI
    go_upto_region 16 with fail
    go_region
    all_goals go_upto_region 17 with fail
    ·have x8:Ext wr ((wr.alloc (.cells (zk fun _=>0).toArray 3)).alloc (.cells (zk fun _=>0).toArray 3)).drew:=((Ext.alloc _ _).trans (Ext.alloc _ _)).trans (Ext.drew _)
     have r80:((wr.alloc (.cells (zk fun _=>0).toArray 3)).alloc (.cells (zk fun _=>0).toArray 3)).drew.heap[wr.heap.size]?=some (.cells (zk fun _=>0).toArray 3 (0,0)):=(Below.heap_alloc _ _ _ (by simp)).trans (World.alloc_heap_at _ _ _ rfl)
     have r81:((wr.alloc (.cells (zk fun _=>0).toArray 3)).alloc (.cells (zk fun _=>0).toArray 3)).drew.heap[wr.heap.size+1]?=some (.cells (zk fun _=>0).toArray 3 (0,0)):=World.alloc_heap_at _ _ _ (by simp)
     generalize hw8:World.drew _=w8 at *
     have K8:=KW.out.ext x8
     have hownlt:=zY own.out
     have own8:=QK own.out x8
     have xw8:Below w.heap.size w w8:=xwr.trans (Below.mono x8 xwr.size)
     have z80:wr.heap.size+1<w8.heap.size:=(zG.1 r81).1
     have hwz:=xwr.size
     clear hw8 KW own x8
     generalize wr.heap.size=s0 at *
     have hkbs:kb<s0:=by omega
     have H2:Rows2 p (s0) (s0+1):=⟨by omega,by rw[pkb];omega,by rw[pkb];omega,by rw[psb];omega,by rw[psb];omega,by rw[pB];omega,by rw[pB];omega⟩
     have I2:KM p (Qs (a:Int) dead (l.map Qq)) w8 (s0) (s0+1) (.int .i64 0) w8:=⟨0,g,fun _=>0,fun _=>0,Nat.zero_le _,rfl,K8,(fun r hr=>by cases hr),(Qj.zero p.S).mkd,by assumption,by assumption,Nat.le_refl _,rfl,rfl,rfl,fun _ _ _ _ _=>rfl⟩
     replace I2:=zH I2
     clear r80 r81 hmk
     go_wp2_with fail
     go_loopw [12] (fun i wr=>KM p (Qs (a:Int) dead (l.map Qq)) w8 (s0) (s0+1) i wr) (fun i _=>N-(intOf i).toNat)
     case atStart=>exact I2.out
     case round =>
      have xwq:=hrel.below xw8 (by omega) (by omega) (by omega) (by rw[psb];omega)
      obtain⟨k,g9,refs,met,hk,rfl,K9,hall9,hmk9,rr,rm,zq,eo1,eo2,eo3,hblk⟩:=hrel.ex
      clear hrel I2
      by_cases hlt:k<(Qs (a:Int) dead (l.map Qq)).length
      ·have hlt3:k<N:=by rw[hN.out];exact hlt
       have hcN:decide (k<N)=true:=decide_eq_true hlt3
       obtain⟨br,offr,eR,hbr,hcel⟩:=(Rd.of_own own8).2 (by omega)
       subst eR
       have hbr2:=hownlt br rfl
       have dk:=hcel k _ (Uq _ k hlt)
       replace dk:=(World.cell?_of_block (a:=⟨br,offr+k,none⟩) (hblk br hbr (show br≠_ by omega) (show br≠_ by omega) (show br≠p.sb by rw[psb];omega))).trans dk
       have HTK:=zH (List.take_succ_eq_append_getElem hlt)
       have HMM:=zH (List.getElem_mem hlt)
       have hRlen:((Qs (a:Int) dead (l.map Qq)).take k).length≤57:=by rw[List.length_take];have:=hRl.out;have:=hN.out;omega
       generalize (Qs (a:Int) dead (l.map Qq))[k]=r at *
       have HL9:=kR p r wr g9 K9
       rw[pkb] at HL9
       replace HL9:=zH HL9
       have hwk:=zH (IntWalk.wrap64_in ((k:Int)+1) (by have:=hRl.out;have:=hN.out;omega))
       clear hcel
       go_wp2_with fail
       refine HL9.out.mono ?_
       clear HL9
       rintro e w9 ⟨v,gA,rfl,⟨lvlA,AA,nA,cA,fkA,lkA,dA,rfl,hknA⟩,hgrA,hmA,hgA,hnA⟩
       have KA:=K9.after hgrA hmA hgA hnA
       rw[psb] at hgA
       have zA:=hgA.size
       have xwA:Below w.heap.size w w9:=Below.grown xwq hgA (by have:=xwq.size;omega) (fun g e=>by cases e;omega)
       have dkA:=(World.cell?_of_block (a:=⟨br,offr+k,none⟩) (hgA.block br (show br<_ by omega) (by simp;omega))).trans dk
       have rrA:=(hgA.block (s0) (by omega) (by simp;omega)).trans rr
       have rmA:=(hgA.block (s0+1) (by omega) (by simp;omega)).trans rm
       rcases hokA:okL p.S (-1) r with _|_
       ·have HB:=zH (jr.bad (S:=S) (next:=next) (root:=(a:Int)) (dead:=dead) xwA (fun vs hp=>by
         have h1:=hp.vols
         rw[hvs] at h1
         cases h1
         have:=hp.ok r HMM.out
         rw[pS] at hokA
         rw[hokA] at this
         cases this))
        replace hokA:=zH hokA
        replace KA:=zH KA
        replace K9:=zH K9
        clear hknA hgrA hmA hgA hnA rrA rmA dkA
        go_wp2_with fail
        exact Zk rfl rfl rfl rfl HB.out
       ·obtain⟨a9,rfl,htree9⟩:=kS hokA
        have ha9:a9<256:=htree9.2.1
        have hfa:=hknA hokA
        obtain⟨h8a,h8b,lv9,xs9,hn9,hs9⟩:=id htree9
        have hgk:=Zn refs ha9
        rw[←List.getElem?_toArray] at hgk
        have krA:=qa rrA
        have frA:=qd rrA
        have hle9:=Gg hmk9 (by rw[List.length_map];exact hRlen) a9
        have hw64:wrap64 ((refs a9:Int)+1)=(refs a9:Int)+1:=IntWalk.wrap64_in _ (by omega)
        have hfw:=Tl hmk9 (by rw[List.length_map];exact hRlen) a9
        have rrB:=qh rrA a9 (.int .i64 ((refs a9:Int)+1))
        rw[Xj refs ha9] at rrB
        have rmB:=(Below.heap_setCell w9 ⟨(s0),a9,none⟩ (.int .i64 ((refs a9:Int)+1)) (s0+1) (show (s0+1)≠(s0) by omega)).trans rmA
        have kpB:jZ (s0) (s0+1) w9 (w9.setCell ⟨(s0),a9,none⟩ (.int .i64 ((refs a9:Int)+1))):=(jZ.refl _ _ _).set (.inl rfl) _
        have dkB:=(World.cell?_of_block (a:=⟨br,offr+k,none⟩) (Below.heap_setCell w9 ⟨(s0),a9,none⟩ (.int .i64 ((refs a9:Int)+1)) br (show br≠(s0) by omega))).trans dkA
        have KB:=KA.kept kpB (ZV rrA) (ZV rmA) ⟨H2.kr,H2.km,H2.sr,H2.sm,H2.br,H2.bm⟩
        replace hokA:=zH hokA
        replace KA:=zH KA
        replace K9:=zH K9
        clear hknA hnA hmA
        replace KB:=zH KB
        replace hfw:=zH hfw
        replace hle9:=zH hle9
        replace htree9:=zH htree9
        replace hn9:=zH hn9
        replace hs9:=zH hs9
        replace hmk9:=zH hmk9
        replace hall9:=zH hall9
        replace hblk:=zH hblk
        replace kpB:=zH kpB
        replace rrB:=zH rrB
        replace rmB:=zH rmB
        replace hgA:=zH hgA
        replace hgrA:=zH hgrA
        replace hfa:=zH hfa
        go_upto_region 23 with fail
        generalize hwB:World.setCell w9 _ _=wB at *
        have HMk:=TC p lv9 a9 xs9 wB gA (s0) (s0+1) (bump refs a9) met 100 KB.out htree9.out hn9.out (by rw[hfa.out.2];rfl) H2 rrB.out rmB.out hfw.out (by omega)
        rw[pkb] at HMk
        replace HMk:=zH HMk
        have zB:=kpB.out.size
        clear hwB krA frA hgk hfa htree9 h8a h8b hn9 hs9 hw64 hle9
        go_wp2_with fail
        refine HMk.out.mono ?_
        clear HMk
        rintro e wC ⟨rfl,kpC,refs',met',rrC,rmC,hmkC⟩
        have KC:=KB.out.kept kpC (ZV rrB.out) (ZV rmB.out) ⟨H2.kr,H2.km,H2.sr,H2.sm,H2.br,H2.bm⟩
        have kpAC:=kpB.out.trans kpC
        have IR:KM p (Qs (a:Int) dead (l.map Qq)) w8 (s0) (s0+1) (.int .i64 ((k:Int)+1)) wC:=⟨k+1,gA,refs',met',hlt,rfl,KC,(by
          intro r' hr'
          rw[HTK.out] at hr'
          rcases List.mem_append.1 hr' with h1|h1
          ·exact hall9.out r' h1
          ·rw[List.mem_singleton.1 h1];exact hokA.out),(by
          rw[HTK.out,List.map_append]
          exact hmk9.out.add (fun b=>rfl) hmkC),rrC,rmC,by have:=kpAC.size;omega,kpAC.os.trans (hgA.out.os.trans eo1),kpAC.tape.trans (hgA.out.tape.trans eo2),kpAC.output.trans (hgA.out.output.trans eo3),fun b h1 h2 h3 h4 =>
          (kpAC.block b (by omega) h2 h3).trans ((hgA.out.block b (by omega) (by rw[←psb];simpa using h4)).trans (hblk.out b h1 h2 h3 h4))⟩
        replace IR:=zH IR
        clear rrC rmC hmkC KC kpC kpAC
        go_wp2_with fail
        try rw[hwk.out]
        refine⟨IR.out,?_⟩
        simp[intOf]
        omega
      ·have hke:k=(Qs (a:Int) dead (l.map Qq)).length:=by omega
       have hcN:decide (k<N)=false:=decide_eq_false (by rw[hN.out];omega)
       rw[hke,List.take_length] at hall9 hmk9
       rw[pS] at hmk9
       have hpool:QM S (a:Int) next dead (l.map Qq):=⟨hmay.out,h40,hok.out,hvs,fun r hr=>by have:=hall9 r hr;rwa [pS] at this⟩
       have HQ:jr S (a:Int) next dead w (.returned (.tuple #[.slice (some ⟨(s0),0,none⟩) 256 256,.slice (some ⟨(s0+1),0,none⟩) 256 256,.bool true])) wr:=
        ⟨xwq,.inr ⟨_,refs,met,_,_,rfl,hpool,hmk9,rr,rm,by omega,by omega,by omega⟩⟩
       replace HQ:=zH HQ
       replace hke:=zH hke
       replace K9:=zH K9
       replace hmk9:=zH hmk9
       clear rr rm hpool hblk
       go_wp2
       exact Zk rfl rfl rfl rfl HQ.out
    ·have x8:Ext wr ((wr.alloc (.cells (zk fun _=>0).toArray 3)).alloc (.cells (zk fun _=>0).toArray 3)).drew:=((Ext.alloc _ _).trans (Ext.alloc _ _)).trans (Ext.drew _)
     have r80:((wr.alloc (.cells (zk fun _=>0).toArray 3)).alloc (.cells (zk fun _=>0).toArray 3)).drew.heap[wr.heap.size]?=some (.cells (zk fun _=>0).toArray 3 (0,0)):=(Below.heap_alloc _ _ _ (by simp)).trans (World.alloc_heap_at _ _ _ rfl)
     have r81:((wr.alloc (.cells (zk fun _=>0).toArray 3)).alloc (.cells (zk fun _=>0).toArray 3)).drew.heap[wr.heap.size+1]?=some (.cells (zk fun _=>0).toArray 3 (0,0)):=World.alloc_heap_at _ _ _ (by simp)
     generalize hw8:World.drew _=w8 at *
     have K8:=KW.out.ext x8
     have hownlt:=zY own.out
     have own8:=QK own.out x8
     have xw8:Below w.heap.size w w8:=xwr.trans (Below.mono x8 xwr.size)
     have z80:wr.heap.size+1<w8.heap.size:=(zG.1 r81).1
     have hwz:=xwr.size
     clear hw8 KW own x8
     generalize wr.heap.size=s0 at *
     have hkbs:kb<s0:=by omega
     have H2:Rows2 p (s0+1) (s0):=⟨by omega,by rw[pkb];omega,by rw[pkb];omega,by rw[psb];omega,by rw[psb];omega,by rw[pB];omega,by rw[pB];omega⟩
     have I2:KM p (Qs (a:Int) dead (l.map Qq)) w8 (s0+1) (s0) (.int .i64 0) w8:=⟨0,g,fun _=>0,fun _=>0,Nat.zero_le _,rfl,K8,(fun r hr=>by cases hr),(Qj.zero p.S).mkd,by assumption,by assumption,Nat.le_refl _,rfl,rfl,rfl,fun _ _ _ _ _=>rfl⟩
     replace I2:=zH I2
     clear r80 r81 hmk
     go_wp2_with fail
     go_loopw [12] (fun i wr=>KM p (Qs (a:Int) dead (l.map Qq)) w8 (s0+1) (s0) i wr) (fun i _=>N-(intOf i).toNat)
     case atStart=>exact I2.out
     case round =>
      have xwq:=hrel.below xw8 (by omega) (by omega) (by omega) (by rw[psb];omega)
      obtain⟨k,g9,refs,met,hk,rfl,K9,hall9,hmk9,rr,rm,zq,eo1,eo2,eo3,hblk⟩:=hrel.ex
      clear hrel I2
      by_cases hlt:k<(Qs (a:Int) dead (l.map Qq)).length
      ·have hlt3:k<N:=by rw[hN.out];exact hlt
       have hcN:decide (k<N)=true:=decide_eq_true hlt3
       obtain⟨br,offr,eR,hbr,hcel⟩:=(Rd.of_own own8).2 (by omega)
       subst eR
       have hbr2:=hownlt br rfl
       have dk:=hcel k _ (Uq _ k hlt)
       replace dk:=(World.cell?_of_block (a:=⟨br,offr+k,none⟩) (hblk br hbr (show br≠_ by omega) (show br≠_ by omega) (show br≠p.sb by rw[psb];omega))).trans dk
       have HTK:=zH (List.take_succ_eq_append_getElem hlt)
       have HMM:=zH (List.getElem_mem hlt)
       have hRlen:((Qs (a:Int) dead (l.map Qq)).take k).length≤57:=by rw[List.length_take];have:=hRl.out;have:=hN.out;omega
       generalize (Qs (a:Int) dead (l.map Qq))[k]=r at *
       have HL9:=kR p r wr g9 K9
       rw[pkb] at HL9
       replace HL9:=zH HL9
       have hwk:=zH (IntWalk.wrap64_in ((k:Int)+1) (by have:=hRl.out;have:=hN.out;omega))
       clear hcel
       go_wp2_with fail
       refine HL9.out.mono ?_
       clear HL9
       rintro e w9 ⟨v,gA,rfl,⟨lvlA,AA,nA,cA,fkA,lkA,dA,rfl,hknA⟩,hgrA,hmA,hgA,hnA⟩
       have KA:=K9.after hgrA hmA hgA hnA
       rw[psb] at hgA
       have zA:=hgA.size
       have xwA:Below w.heap.size w w9:=Below.grown xwq hgA (by have:=xwq.size;omega) (fun g e=>by cases e;omega)
       have dkA:=(World.cell?_of_block (a:=⟨br,offr+k,none⟩) (hgA.block br (show br<_ by omega) (by simp;omega))).trans dk
       have rrA:=(hgA.block (s0+1) (by omega) (by simp;omega)).trans rr
       have rmA:=(hgA.block (s0) (by omega) (by simp;omega)).trans rm
       rcases hokA:okL p.S (-1) r with _|_
       ·have HB:=zH (jr.bad (S:=S) (next:=next) (root:=(a:Int)) (dead:=dead) xwA (fun vs hp=>by
         have h1:=hp.vols
         rw[hvs] at h1
         cases h1
         have:=hp.ok r HMM.out
         rw[pS] at hokA
         rw[hokA] at this
         cases this))
        replace hokA:=zH hokA
        replace KA:=zH KA
        replace K9:=zH K9
        clear hknA hgrA hmA hgA hnA rrA rmA dkA
        go_wp2_with fail
        exact Zk rfl rfl rfl rfl HB.out
       ·obtain⟨a9,rfl,htree9⟩:=kS hokA
        have ha9:a9<256:=htree9.2.1
        have hfa:=hknA hokA
        obtain⟨h8a,h8b,lv9,xs9,hn9,hs9⟩:=id htree9
        have hgk:=Zn refs ha9
        rw[←List.getElem?_toArray] at hgk
        have krA:=qa rrA
        have frA:=qd rrA
        have hle9:=Gg hmk9 (by rw[List.length_map];exact hRlen) a9
        have hw64:wrap64 ((refs a9:Int)+1)=(refs a9:Int)+1:=IntWalk.wrap64_in _ (by omega)
        have hfw:=Tl hmk9 (by rw[List.length_map];exact hRlen) a9
        have rrB:=qh rrA a9 (.int .i64 ((refs a9:Int)+1))
        rw[Xj refs ha9] at rrB
        have rmB:=(Below.heap_setCell w9 ⟨(s0+1),a9,none⟩ (.int .i64 ((refs a9:Int)+1)) (s0) (show (s0)≠(s0+1) by omega)).trans rmA
        have kpB:jZ (s0+1) (s0) w9 (w9.setCell ⟨(s0+1),a9,none⟩ (.int .i64 ((refs a9:Int)+1))):=(jZ.refl _ _ _).set (.inl rfl) _
        have dkB:=(World.cell?_of_block (a:=⟨br,offr+k,none⟩) (Below.heap_setCell w9 ⟨(s0+1),a9,none⟩ (.int .i64 ((refs a9:Int)+1)) br (show br≠(s0+1) by omega))).trans dkA
        have KB:=KA.kept kpB (ZV rrA) (ZV rmA) ⟨H2.kr,H2.km,H2.sr,H2.sm,H2.br,H2.bm⟩
        replace hokA:=zH hokA
        replace KA:=zH KA
        replace K9:=zH K9
        clear hknA hnA hmA
        replace KB:=zH KB
        replace hfw:=zH hfw
        replace hle9:=zH hle9
        replace htree9:=zH htree9
        replace hn9:=zH hn9
        replace hs9:=zH hs9
        replace hmk9:=zH hmk9
        replace hall9:=zH hall9
        replace hblk:=zH hblk
        replace kpB:=zH kpB
        replace rrB:=zH rrB
        replace rmB:=zH rmB
        replace hgA:=zH hgA
        replace hgrA:=zH hgrA
        replace hfa:=zH hfa
        go_upto_region 23 with fail
        generalize hwB:World.setCell w9 _ _=wB at *
        have HMk:=TC p lv9 a9 xs9 wB gA (s0+1) (s0) (bump refs a9) met 100 KB.out htree9.out hn9.out (by rw[hfa.out.2];rfl) H2 rrB.out rmB.out hfw.out (by omega)
        rw[pkb] at HMk
        replace HMk:=zH HMk
        have zB:=kpB.out.size
        clear hwB krA frA hgk hfa htree9 h8a h8b hn9 hs9 hw64 hle9
        go_wp2_with fail
        refine HMk.out.mono ?_
        clear HMk
        rintro e wC ⟨rfl,kpC,refs',met',rrC,rmC,hmkC⟩
        have KC:=KB.out.kept kpC (ZV rrB.out) (ZV rmB.out) ⟨H2.kr,H2.km,H2.sr,H2.sm,H2.br,H2.bm⟩
        have kpAC:=kpB.out.trans kpC
        have IR:KM p (Qs (a:Int) dead (l.map Qq)) w8 (s0+1) (s0) (.int .i64 ((k:Int)+1)) wC:=⟨k+1,gA,refs',met',hlt,rfl,KC,(by
          intro r' hr'
          rw[HTK.out] at hr'
          rcases List.mem_append.1 hr' with h1|h1
          ·exact hall9.out r' h1
          ·rw[List.mem_singleton.1 h1];exact hokA.out),(by
          rw[HTK.out,List.map_append]
          exact hmk9.out.add (fun b=>rfl) hmkC),rrC,rmC,by have:=kpAC.size;omega,kpAC.os.trans (hgA.out.os.trans eo1),kpAC.tape.trans (hgA.out.tape.trans eo2),kpAC.output.trans (hgA.out.output.trans eo3),fun b h1 h2 h3 h4 =>
          (kpAC.block b (by omega) h2 h3).trans ((hgA.out.block b (by omega) (by rw[←psb];simpa using h4)).trans (hblk.out b h1 h2 h3 h4))⟩
        replace IR:=zH IR
        clear rrC rmC hmkC KC kpC kpAC
        go_wp2_with fail
        try rw[hwk.out]
        refine⟨IR.out,?_⟩
        simp[intOf]
        omega
      ·have hke:k=(Qs (a:Int) dead (l.map Qq)).length:=by omega
       have hcN:decide (k<N)=false:=decide_eq_false (by rw[hN.out];omega)
       rw[hke,List.take_length] at hall9 hmk9
       rw[pS] at hmk9
       have hpool:QM S (a:Int) next dead (l.map Qq):=⟨hmay.out,h40,hok.out,hvs,fun r hr=>by have:=hall9 r hr;rwa [pS] at this⟩
       have HQ:jr S (a:Int) next dead w (.returned (.tuple #[.slice (some ⟨(s0+1),0,none⟩) 256 256,.slice (some ⟨(s0),0,none⟩) 256 256,.bool true])) wr:=
        ⟨xwq,.inr ⟨_,refs,met,_,_,rfl,hpool,hmk9,rr,rm,by omega,by omega,by omega⟩⟩
       replace HQ:=zH HQ
       replace hke:=zH hke
       replace K9:=zH K9
       replace hmk9:=zH hmk9
       clear rr rm hpool hblk
       go_wp2
       exact Zk rfl rfl rfl rfl HQ.out
structure EnI (S:Sto) (refs:Nat→Nat) (w1:World) (i:Value) (wr:World):Prop where
 ex:∃ k:Nat,k≤256∧i=.int .i64 (k:Int)∧(∀ a,a<k→refs a≤(S.now[a]?.getD 0).toNat)∧Ext w1 wr
set_option maxHeartbeats 1000000 in
set_option maxRecDepth 100000 in
theorem TM (A1:Option Addr) (n1 c1:Nat) (A2:Option Addr) (n2 c2:Nat) (A3:Option Addr) (n3 c3:Nat) (A4:Option Addr) (n4 c4:Nat) (S:Sto) (rb:Nat) (refs:Nat→Nat) (w:World) (hS:qB S=true)
  (h:qH w w.heap.size (.slice A1 n1 c1) (.slice A2 n2 c2) (.slice A3 n3 c3) (.slice A4 n4 c4) S) (hr:w.heap[rb]?=some (.cells (zk refs).toArray 3 (0,0))) :
  Calls Tryz.prog 71 #[Qy A1 n1 c1 A2 n2 c2 A3 n3 c3 A4 n4 c4,.slice (some ⟨rb,0,none⟩) 256 256] w (Ret (.bool (vE S refs)) w):=by
 obtain⟨_,_,hl3,_⟩:=qQ hS
 obtain⟨b3,o3,c3',e3,hb3,hc3⟩:=tab_at h.now hl3
 simp only[Value.slice.injEq] at e3
 obtain⟨rfl,rfl,rfl⟩:=e3
 replace hc3:=zH hc3
 clear h hS hl3
 go_enter Tryz.func71,Tryz.ntmps71
 go_wp2_with fail
 generalize hw1:World.alloc w _=w1
 have x1:Ext w w1:=by rw[←hw1];exact Ext.alloc _ _
 have r1:w1.heap[w.heap.size]?=some (.cells #[.slice A1 n1 c1,.slice A2 n2 c2,.slice (some ⟨b3,o3,none⟩) 256 c3,.slice A4 n4 c4] 28 (0,0)):=by rw[←hw1];exact World.alloc_heap_at _ _ _ rfl
 clear hw1
 go_loopw [5] (fun i wr=>EnI S refs w1 i wr) (fun i _=>256-(intOf i).toNat)
 case atStart=>exact⟨0,by omega,rfl,fun a h=>absurd h (Nat.not_lt_zero _),Ext.refl _⟩
 case round =>
  obtain⟨k,hk,rfl,hle,xr⟩:=hrel.ex
  clear hrel
  have xw:=x1.trans xr
  by_cases hlt:k<256
  ·have d3:=Ext.cell xw (hc3.out k hlt)
   have rr:=qc hr xw
   have hgk:=Zn refs hlt
   rw[←List.getElem?_toArray] at hgk
   have hq8:(S.now[k]?.getD 0).toNat<256:=UInt8.toNat_lt _
   have hBAD:(S.now[k]?.getD 0).toNat<refs k→vE S refs=false:=fun hg=>by
    cases he:vE S refs
    ·rfl
    ·have:=(jj S refs).1 he k hlt;omega
   have hNX:refs k≤(S.now[k]?.getD 0).toNat→∀ a,a<k+1→refs a≤(S.now[a]?.getD 0).toNat:=fun hg a ha=>by
    rcases Nat.lt_or_ge a k with h1|h1
    ·exact hle a h1
    ·obtain rfl:a=k:=by omega
     exact hg
   generalize (S.now[k]?.getD 0).toNat=q at *
   replace hBAD:=zH hBAD
   replace hNX:=zH hNX
   replace hle:=zH hle
   go_upto_region 4 with fail
   have gC:∀ W,qu.r wr W→∀ i,W.cell? ⟨rb,i,none⟩=(zk refs).toArray[i]?:=fun W h=>qa (qc rr h)
   have gN:∀ W,qu.r wr W→W.cell? ⟨b3,o3+k,none⟩=some (.int .u8 (q:Nat)):=fun W h=>Ext.cell h d3
   have gP:∀ W,qu.r wr W→∀ i,W.cell? ⟨w.heap.size,i,none⟩=#[.slice A1 n1 c1,.slice A2 n2 c2,.slice (some ⟨b3,o3,none⟩) 256 c3,.slice A4 n4 c4][i]?:=fun W h=>qa (qc r1 (xr.trans h))
   refine qv (by kernel_rfl) ?_
   refine Qu (w:=wr) qu (qE []) [true,true,true,true,true,true,true,true,true,true] 1 (by kernel_rfl) (by kernel_rfl) (by kernel_rfl) (by kernel_rfl) (by kernel_rfl) (by kernel_rfl) (by kernel_rfl) ?st (Rel.drew _ _) ?walk
   case st=>exact qm (fun _ h=>by cases h)
   case walk =>
    intro K hK
    dsimp only[qz]
    repeat ((first|(refine qf ?_ (by rfl) (by rfl) (fun W hW _=>⟨W,?_,Rel.refl _ W⟩) ?_;rotate_left;(first|(go_simp;with_reducible rfl)|(go_simp;done)))|(refine qj (by rfl) ?_));try simp only[Act.put,qi,qe,qb,qg,zA,zB,zC])
    refine qD (hK _ _ fun W hW hF=>?_)
    have hWx:Ext wr W:=hW
    clear hF hK gC gN gP
    dsimp only[List.drop,List.length_cons,List.length_nil]
    have hwk:=zH (IntWalk.wrap64_in ((k:Int)+1) (by omega))
    rcases Nat.lt_or_ge q (refs k) with hg|hg
    ·have hc1:decide ((refs k:Int)>(q:Int))=true:=decide_eq_true (by omega)
     have hc2:decide (q<refs k)=true:=decide_eq_true hg
     have HB:=zH (hBAD.out hg)
     have xf:Below w.heap.size w W:=xw.trans hWx
     replace hg:=zH hg
     go_wp2
     refine Qw ?_
     go_wp2_with fail
     all_goals first
      |(exfalso;have:=hg.out;omega)
      |(go_ret
        exact⟨by rw[HB.out];rfl,xf⟩)
    ·have hc1:decide ((refs k:Int)>(q:Int))=false:=decide_eq_false (by omega)
     have hc2:decide (q<refs k)=false:=decide_eq_false (by omega)
     have IR:EnI S refs w1 (.int .i64 ((k:Int)+1)) W:=⟨k+1,hlt,rfl,hNX.out hg,xr.trans hWx⟩
     replace IR:=zH IR
     replace hg:=zH hg
     go_wp2
     refine Qw ?_
     go_wp2_with fail
     all_goals first
      |(exfalso;have:=hg.out;omega)
      |(try rw[hwk.out]
        refine⟨IR.out,?_⟩
        simp[intOf]
        omega)
  ·have he:vE S refs=true:=(jj S refs).2 fun a ha=>hle a (by omega)
   have hk2:k=256:=by omega
   subst hk2
   replace he:=zH he
   replace hle:=zH hle
   go_wp2
   go_ret
   exact⟨by rw[he.out];rfl,xw⟩
def MayQ (S:Sto) (root next:Int) (dead:List Int) (w:World) (e:Ending) (w':World):Prop:=Below w.heap.size w w' ∧
 ((e=.returned (.bool false)∧∀ vs,QM S root next dead vs→∃ refs met,Qr (QX S) (zi S) (zl root dead vs) (zv met) refs∧¬QY S refs) ∨
  ∃ vs refs met,e=.returned (.bool true)∧QM S root next dead vs∧Qr (QX S) (zi S) (zl root dead vs) (zv met) refs∧QY S refs)
theorem YR {R:Ending→World→Prop} {a:Act} {W:World} {u:Value} (h2:a.tmps[2]?.getD undef=u) (hd:a.defers=[]) (hR:R (.returned u) W):bodyPost Tryz.prog Tryz.f38 R .ret a W:=by
 refine bodyPost_ret (v:=u) ?_ hd hR
 simp[results,Tryz.results38,go_sem,h2]
set_option maxHeartbeats 1000000 in
set_option maxRecDepth 100000 in
theorem qeB (A1:Option Addr) (n1 c1:Nat) (A2:Option Addr) (n2 c2:Nat) (A3:Option Addr) (n3 c3:Nat) (A4:Option Addr) (n4 c4:Nat) (gen root next:Int) (A5:Option Addr) (c5:Nat) (S:Sto) (dead:List Int) (w:World)
  (h:qH w w.heap.size (.slice A1 n1 c1) (.slice A2 n2 c2) (.slice A3 n3 c3) (.slice A4 n4 c4) S) (hd:QF w w.heap.size (.slice A5 dead.length c5) dead) :
  Calls Tryz.prog 38 #[.agg (qC (.slice A1 n1 c1) (.slice A2 n2 c2) (.slice A3 n3 c3) (.slice A4 n4 c4) gen root next (.slice A5 dead.length c5))] w (MayQ S root next dead w):=by
 have HT:=zH (fun W (hx:Ext w W)=>UU A1 n1 c1 A2 n2 c2 A3 n3 c3 A4 n4 c4 gen root next A5 c5 S dead W (h.ext hx) (by
  obtain⟨A,c,e,q1,q2,q3⟩:=hd
  exact⟨A,c,e,q1,q2,(q3.below hx).more hx.size⟩))
 have HS:=zH h
 clear h hd
 go_enter Tryz.func38,Tryz.ntmps38
 go_wp2_with fail
 generalize hw1:World.alloc w _=w1
 have x1:Ext w w1:=by rw[←hw1];exact Ext.alloc _ _
 have r1:w1.heap[w.heap.size]?=some (.cells (qC (.slice A1 n1 c1) (.slice A2 n2 c2) (.slice A3 n3 c3) (.slice A4 n4 c4) gen root next (.slice A5 dead.length c5)) 32 (0,0)):=by rw[←hw1];exact World.alloc_heap_at _ _ _ rfl
 clear hw1
 refine(HT.out w1 x1).mono ?_
 clear HT
 rintro e w2 ⟨hB,hQ⟩
 have x2:Ext w w2:=Ext.trans x1 hB
 have r2:=qc r1 hB
 have k2:=qa r2
 have z1:=x1.size
 rcases hQ with ⟨rfl,hno⟩|⟨vs,refs,met,rb,mb,rfl,hp,hm,rr,rm,z2,z3,z4⟩
 ·have HB:MayQ S root next dead w (.returned (.bool false)) w2:=⟨x2,.inl ⟨rfl,fun vs hp=>absurd hp (hno vs)⟩⟩
  replace HB:=zH HB
  clear hno hB
  go_wp2_with fail
  exact YR rfl rfl HB.out
 ·have HE:=zH (TM A1 n1 c1 A2 n2 c2 A3 n3 c3 A4 n4 c4 S rb refs w2 hp.may (HS.out.ext x2) rr)
  replace hp:=zH hp
  replace hm:=zH hm
  clear hB rm
  go_wp2_with fail
  refine HE.out.mono ?_
  clear HE
  rintro e w3 ⟨rfl,hB3⟩
  have x3:Below w.heap.size w w3:=Ext.trans x2 hB3
  have rr3:=qc rr hB3
  clear hB3
  rcases hen:vE S refs with _|_
  ·have HB:MayQ S root next dead w (.returned (.bool false)) w3:=⟨x3,.inl ⟨rfl,fun vs' hp'=>by
    obtain rfl:=hp.out.same hp'
    exact⟨refs,met,hm.out,fun he=>by have:=(jj S refs).2 he;rw[hen] at this;cases this⟩⟩⟩
   replace HB:=zH HB
   replace hen:=zH hen
   go_wp2_with fail
   exact YR rfl rfl HB.out
  ·have HB:MayQ S root next dead w (.returned (.bool true)) w3:=⟨x3,.inr ⟨vs,refs,met,rfl,hp.out,hm.out,(jj S refs).1 hen⟩⟩
   replace HB:=zH HB
   replace hen:=zH hen
   go_wp2_with fail
   exact YR rfl rfl HB.out
end Go.Proofs.YtckhnchnbeoogaaGreat
