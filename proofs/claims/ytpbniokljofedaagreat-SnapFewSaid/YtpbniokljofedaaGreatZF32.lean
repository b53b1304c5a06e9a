/- Texts Snap, Freeze, Cre1, FreeN, joined. -/
import Derived.Test.YtpbniokljofedaaGreatZF10
import Derived.Test.YtpbniokljofedaaGreatZF21
import Derived.Test.YtpbniokljofedaaGreatZF31
set_option linter.unusedSimpArgs false
set_option linter.unusedVariables false
set_option maxHeartbeats 8000000
namespace Go.Proofs.YtpbniokljofedaaGreat
open Go.RowKit
section
variable {gb:Nat} {c0 c1 c2 c3 c4 c5 c6 c7:Value} {er:Int}
theorem ghold_no (her:er≠0) (v:Vol) (w:World) (hr:w.heap[gb]?=some (.cells #[c0,c1,c2,c3,c4,c5,c6,c7,.int .i64 er] 105 (0,0))) :
  Calls Tryz.prog 62 #[.pointer (some ⟨gb,0,none⟩),jK v] w (Ret (.tuple #[]) w):=by
 have zg:=(zG.1 hr).1
 have kr:=qa hr
 have hb:(er == 0)=false:=by rw[beq_eq_false_iff_ne];exact her
 have hb2:decide (er=0)=false:=decide_eq_false her
 clear her hr
 go_enter Tryz.func62,Tryz.ntmps62
 go_wp2_with fail
 go_end0
 exact⟨rfl,zN _ _⟩
theorem qgR (her:er≠0) (v:Vol) (w:World) (hr:w.heap[gb]?=some (.cells #[c0,c1,c2,c3,c4,c5,c6,c7,.int .i64 er] 105 (0,0))) :
  Calls Tryz.prog 63 #[.pointer (some ⟨gb,0,none⟩),jK v] w (Ret (.tuple #[]) w):=by
 have zg:=(zG.1 hr).1
 have kr:=qa hr
 have hb:(er == 0)=false:=by rw[beq_eq_false_iff_ne];exact her
 have hb2:decide (er=0)=false:=decide_eq_false her
 clear her hr
 go_enter Tryz.func63,Tryz.ntmps63
 go_wp2_with fail
 go_end0
 exact⟨rfl,zN _ _⟩
end
theorem eight {W C:World} {b:Nat} {u0 u1 u2 u3 u4 u5 u6 u7 x0 x1 x2 x3 x4 x5 x6 x7:Value} {ty:TypeId} (rp:W.heap[b]?=some (.cells #[u0,u1,u2,u3,u4,u5,u6,u7] ty (0,0)))
  (hC:(((((((W.setCell ⟨b,0,none⟩ x0).setCell ⟨b,1,none⟩ x1).setCell ⟨b,2,none⟩ x2).setCell ⟨b,3,none⟩ x3).setCell ⟨b,4,none⟩ x4).setCell ⟨b,5,none⟩ x5).setCell ⟨b,6,none⟩ x6).setCell ⟨b,7,none⟩ x7=C) :
  C.heap[b]?=some (.cells #[x0,x1,x2,x3,x4,x5,x6,x7] ty (0,0))∧(∀ k,k≠b→C.heap[k]?=W.heap[k]?)∧C.heap.size=W.heap.size∧∀ {B:Nat} {w0:World},B≤b→Below B w0 W→Below B w0 C:=by
 subst hC
 exact⟨jj rp _ _ _ _ _ _ _ _,fun k hk=>ja hk _ _ _ _ _ _ _ _,by simp,fun hb h0=>QV h0 hb _ _ _ _ _ _ _ _⟩
def qeE (next:Int) (v:Vol) (fz:Bool) (id:Int):Vol:=⟨next,v.root,fz,id⟩
def Vm (S:Sto) (root next:Int) (dead:List Int) (id:Int) (fz:Bool) (er:Int):Prop:=(er=8∧zF S root next dead)∨∃ vs refs nodes,Ql S root next dead vs∧qR S (Qw root dead vs) refs nodes∧QD S refs ∧
 ((er=6∧zm vs id=none)∨∃ v,zm vs id=some v∧((er=9∧(16≤vs.length∨next=4294967295))∨QB S v.root=er∨(QB S v.root=0∧(KF (Qv S v.root) root (next+1) dead (qeE next v fz id) er∨∃ r S' vs',Kk (Qv S v.root) root (next+1) dead (qeE next v fz id) r S' vs'∧er=9∧za S'≠0))))
def SnapOk (S:Sto) (root next:Int) (dead:List Int) (id:Int) (fz:Bool) (r:Nat) (S':Sto):Prop:=∃ vs refs nodes v vs',Ql S root next dead vs∧qR S (Qw root dead vs) refs nodes∧QD S refs ∧
 zm vs id=some v∧vs.length<16∧next<4294967295∧QB S v.root=0∧Kk (Qv S v.root) root (next+1) dead (qeE next v fz id) r S' vs'∧za S'=0
def SnapQ (S:Sto) (gen root next:Int) (dead:List Int) (id:Int) (fz:Bool) (w:World) (e:Ending) (w':World):Prop:=Below w.heap.size w w' ∧
 ((∃ er,er≠0∧e=.returned (.tuple #[Jb,.int .u32 0,.int .i64 er])∧Vm S root next dead id fz er) ∨
  ∃ r S' u,SnapOk S root next dead id fz r S'∧e=.returned (.tuple #[u,.int .u32 next,.int .i64 0])∧jE w.heap.size S' gen (r:Int) (next+1) dead u w')
theorem Vd {R:Ending→World→Prop} {a:Act} {W:World} {b:Nat} {x0 x1 x2 x3 x4 x5 x6 x7 u v:Value} (h4:a.tmps[6]?.getD undef=.pointer (some ⟨b,0,none⟩)) (h7:a.tmps[7]?.getD undef=u) (h5:a.tmps[8]?.getD undef=v) (hd:a.defers=[])
  (hrow:W.heap[b]?=some (.cells #[x0,x1,x2,x3,x4,x5,x6,x7] 32 (0,0))) (hR:R (.returned (.tuple #[.agg #[x0,x1,x2,x3,x4,x5,x6,x7],u,v])) W):bodyPost Tryz.prog Tryz.f28 R .ret a W:=by
 refine bodyPost_ret (v:=.tuple #[.agg #[x0,x1,x2,x3,x4,x5,x6,x7],u,v]) ?_ hd hR
 have k:=qa hrow
 simp[results,Tryz.results28,go_sem,h4,h7,h5,k]
set_option maxRecDepth 100000 in
theorem qbL (A1:Option Addr) (n1 c1:Nat) (A2:Option Addr) (n2 c2:Nat) (A3:Option Addr) (n3 c3:Nat) (A4:Option Addr) (n4 c4:Nat) (gen root next:Int) (A5:Option Addr) (c5:Nat) (S:Sto) (dead:List Int) (id:Int) (fz:Bool) (hid:0≤id∧id<4294967296) (hnx:0≤next∧next<4294967296) (w:World)
  (h:qP w w.heap.size (.slice A1 n1 c1) (.slice A2 n2 c2) (.slice A3 n3 c3) (.slice A4 n4 c4) S) (hd:Zn w w.heap.size (.slice A5 dead.length c5) dead) :
  Calls Tryz.prog 28 #[.agg (qC (.slice A1 n1 c1) (.slice A2 n2 c2) (.slice A3 n3 c3) (.slice A4 n4 c4) gen root next (.slice A5 dead.length c5)),.int .u32 id,.bool fz] w (SnapQ S gen root next dead id fz w):=by
 have HV:=zH (fun W (hx:Ext w W)=>qbk A1 n1 c1 A2 n2 c2 A3 n3 c3 A4 n4 c4 gen root next A5 c5 S dead W (h.ext hx) (hd.ext_ hx))
 have hwn0:Hid (next<4294967295→IntKind.u32.wrap (next+1)=next+1):=zH fun h1=>by
  simp only[IntKind.wrap,IntKind.bits,IntKind.signed,Bool.false_and,Bool.false_eq_true,if_false]
  omega
 have hnxH:=zH hnx
 have hvok:Hid (∀ v:Vol,VM v→VM (qeE next v fz id)):=zH fun v hv=>⟨hnx,hv.2.1,hid⟩
 replace h:=zH h
 replace hd:=zH hd
 go_enter Tryz.func28,Tryz.ntmps28
 go_wp2_with fail
 generalize hw1:World.alloc (World.alloc (World.alloc w _) _) _=w1
 have x1:Ext w w1:=by rw[←hw1];exact((zN _ _).trans (zN _ _)).trans (zN _ _)
 have rp1:w1.heap[w.heap.size]?=some (.cells (qC (.slice A1 n1 c1) (.slice A2 n2 c2) (.slice A3 n3 c3) (.slice A4 n4 c4) gen root next (.slice A5 dead.length c5)) 32 (0,0)):=by rw[←hw1];exact(zK _ _ _ (by simp <;> omega)).trans ((zK _ _ _ (by simp <;> omega)).trans (zI _ _ _ rfl))
 have ro1:w1.heap[w.heap.size+1]?=some (.cells VK 32 (0,0)):=by rw[←hw1];exact(zK _ _ _ (by simp <;> omega)).trans (zI _ _ _ (by simp))
 have rg1:w1.heap[w.heap.size+1+1]?=some (.cells (jp (.slice A1 n1 c1) (.slice A2 n2 c2) (.slice A3 n3 c3) (.slice A4 n4 c4) gen root next (.slice A5 dead.length c5) 0) 105 (0,0)):=by rw[←hw1];exact zI _ _ _ (by simp)
 have s1:w1.heap.size=w.heap.size+3:=by rw[←hw1];simp
 clear hw1
 refine(qhK (w.heap.size+1+1) A1 n1 c1 A2 n2 c2 A3 n3 c3 A4 n4 c4 gen root next A5 c5 S dead id 0 w1 rg1 (h.out.ext x1) (hd.out.ext_ x1)).mono ?_
 rintro e w2 ⟨u,er,rfl,hu,ht2,rg2⟩
 have x2:Ext w w2:=ht2.below x1 (by omega) (by omega)
 have rp2:=ht2.row rp1 (by omega)
 have ro2:=ht2.row ro1 (by omega)
 have s2:=ht2.size
 clear rp1 ro1 rg1 ht2
 obtain⟨ui,ur,uf,um⟩:=u
 unfold jK
 have kp2:=qa rp2
 have zp2:=(zG.1 rp2).1
 go_wp2_with fail
 generalize hw3:World.alloc w2 _=w3
 have x23:Ext w2 w3:=by rw[←hw3];exact zN _ _
 have x3:Ext w w3:=x2.trans x23
 have rv3:w3.heap[w2.heap.size]?=some (.cells #[.int .u32 ui,.int .i64 ur,.bool uf,.int .u32 um] 40 (0,0)):=by rw[←hw3];exact zI _ _ _ (by simp)
 have rp3:=qb rp2 x23
 have ro3:=qb ro2 x23
 have rg3:=qb rg2 x23
 have s3:=x23.size
 clear hw3 rp2 ro2 rg2 x23 kp2 zp2
 refine(HV.out w3 x3).mono ?_
 clear HV
 rintro e w4 ⟨hB,hQ⟩
 have x4:Ext w w4:=x3.trans hB
 have rv4:=qb rv3 hB
 have rp4:=qb rp3 hB
 have ro4:=qb ro3 hB
 have rg4:=qb rg3 hB
 have s4:=hB.size
 have kv4:=qa rv4
 have kp4:=qa rp4
 have ko4:=qa ro4
 have kg4:=qa rg4
 have fo4:=qd ro4
 have fg4:=qd rg4
 have zv4:=(zG.1 rv4).1
 have zp4:=(zG.1 rp4).1
 have zo4:w.heap.size+1<w4.heap.size:=(zG.1 ro4).1
 have zg4:w.heap.size+1+1<w4.heap.size:=(zG.1 rg4).1
 clear hB rv3 rp3 ro3 rg3
 by_cases h0:er=0
 case neg =>
  have hE:Hid (Vm S root next dead id fz er):=zH (by
   rcases hu with ⟨e1,_,hb⟩|⟨vs,refs,nodes,hp,hc,he,⟨e1,_,hv⟩|⟨e1,_⟩⟩
   ·exact .inl ⟨e1,hb⟩
   ·exact .inr ⟨vs,refs,nodes,hp,hc,he,.inl ⟨e1,hv⟩⟩
   ·exact absurd e1 h0)
  obtain⟨AV,nV,cV,ev,rfl⟩:∃ AV nV cV ev,e=.returned (.tuple #[.slice AV nV cV,.int .i64 ev]):=by
   rcases hQ with ⟨rfl,_⟩|⟨vs,refs,nodes,cb,ca,vv,lo,rfl,hlo,hT⟩
   ·exact⟨none,0,0,8,rfl⟩
   ·obtain⟨AV,cV,rfl,-,-⟩:=qv hT.own
    exact⟨AV,_,cV,0,rfl⟩
  have b1:(er == 0)=false:=by rw[beq_eq_false_iff_ne];exact h0
  have b2:(er != 0)=true:=by rw[bne_iff_ne];exact h0
  have b3:decide (er=0)=false:=decide_eq_false h0
  have h0':=zH h0
  clear hQ hu h0
  go_wp2_with fail
  refine(ghold_no h0'.out ⟨ui,ur,uf,um⟩ w4 rg4).mono ?_
  rintro e w5 ⟨rfl,hB⟩
  have x5:Ext w w5:=x4.trans hB
  have rv5:=qb rv4 hB
  have rp5:=qb rp4 hB
  have ro5:=qb ro4 hB
  have rg5:=qb rg4 hB
  have kv5:=qa rv5
  have kp5:=qa rp5
  have kg5:=qa rg5
  have fg5:=qd rg5
  have zg5:w.heap.size+1+1<w5.heap.size:=(zG.1 rg5).1
  clear hB rv4 rp4 ro4 rg4 kv4 kp4 ko4 kg4 fo4 fg4
  go_wp2_with fail
  generalize hw6:World.setCell w5 _ _=w6
  have x6:Ext w w6:=by rw[←hw6];exact Below.setCell x5 (p:=⟨w.heap.size+1+1,6,none⟩) (by simp;omega) _
  have rg6:=qi rg5 6 (.int .u32 ((next+1) % 4294967296))
  rw[hw6] at rg6
  have o6:∀ k,k≠w.heap.size+1+1→w6.heap[k]?=w5.heap[k]?:=fun k hk=>by rw[←hw6];exact zJ _ _ _ _ hk
  have ro6:=(o6 _ (by omega)).trans ro5
  clear hw6 kv5 kp5 kg5 fg5 rg5 rp5 rv5 o6
  refine(qgR h0'.out ⟨next,ur,fz,id⟩ w6 rg6).mono ?_
  rintro e w7 ⟨rfl,hB⟩
  have x7:Ext w w7:=x6.trans hB
  have ro7:=qb ro6 hB
  have rg7:=qb rg6 hB
  clear hB ro6 rg6
  go_wp2_with fail
  refine(XE (w.heap.size+1+1) ⟨A1,n1,c1,A2,n2,c2,A3,n3,c3,A4,n4,c4,gen,root,(next+1) % 4294967296,A5,dead.length,c5⟩ er S w7 rg7 (fun h=>absurd h h0'.out)).mono ?_
  rintro e we ⟨rfl,hBe⟩
  have xe:Ext w we:=x7.trans hBe
  have roe:=qb ro7 hBe
  have koe:=qa roe
  have foe:=qd roe
  have zoe:w.heap.size+1<we.heap.size:=(zG.1 roe).1
  rw[(show Kw ⟨A1,n1,c1,A2,n2,c2,A3,n3,c3,A4,n4,c4,gen,root,(next+1) % 4294967296,A5,dead.length,c5⟩ er S=.tuple #[Jb,.int .i64 er] by unfold Kw;rw[if_pos h0'.out])]
  clear hBe
  go_wp2_with fail
  exact Vd (b:=w.heap.size+1) rfl rfl rfl rfl (jj (jj roe _ _ _ _ _ _ _ _) _ _ _ _ _ _ _ _) ⟨QV (QV xe (by omega) _ _ _ _ _ _ _ _) (by omega) _ _ _ _ _ _ _ _,.inl ⟨er,h0'.out,rfl,hE.out⟩⟩
 case pos =>
  subst h0
  obtain⟨vs,refs,nodes,hp,hc,he,hv⟩:∃ vs refs nodes,Ql S root next dead vs∧qR S (Qw root dead vs) refs nodes∧QD S refs∧zm vs id=some ⟨ui,ur,uf,um⟩:=by
   rcases hu with ⟨h,_⟩|⟨vs,refs,nodes,hp,hc,he,⟨h,_⟩|⟨_,hv⟩⟩
   ·cases h
   ·cases h
   ·exact⟨vs,refs,nodes,hp,hc,he,hv⟩
  clear hu
  rcases hQ with ⟨rfl,hbad⟩|⟨vs',refs',nodes',cb,ca,vv,lo,rfl,hlo,hT⟩
  case inl=>exact(zF.no hbad hp hc he).elim
  case inr =>
   obtain⟨rfl,rfl,-⟩:=Ql.unique hp hc hT.pool hT.cnt
   obtain⟨AV,cV,rfl,-,-⟩:=qv hT.own
   have hE:Hid (∀ er,((er=9∧(16≤vs'.length∨next=4294967295))∨QB S ur=er∨(QB S ur=0∧(KF (Qv S ur) root (next+1) dead ⟨next,ur,fz,id⟩ er∨∃ r S' vs',Kk (Qv S ur) root (next+1) dead ⟨next,ur,fz,id⟩ r S' vs'∧er=9∧za S'≠0)))→Vm S root next dead id fz er):=zH fun er hh=>.inr ⟨vs',refs',nodes,hp,hc,he,.inr ⟨_,hv,hh⟩⟩
   have hvk:Hid (VM ⟨next,ur,fz,id⟩):=zH (hvok.out _ (qeQ hp _ (ky hv)))
   have hroot:Hid (okL S (-1) ur=true):=zH (hp.ok ur (by unfold Zl;exact List.mem_append_right _ (List.mem_map.2 ⟨_,ky hv,rfl⟩)))
   replace hp:=zH hp
   replace hc:=zH hc
   replace he:=zH he
   replace hv:=zH hv
   clear hT hlo hvok
   by_cases hl:16≤vs'.length
   ·have hE9:Hid (Vm S root next dead id fz 9):=zH (hE.out 9 (.inl ⟨rfl,.inl hl⟩))
    have d1:decide ((vs'.length:Int)≥16)=true:=decide_eq_true (by omega)
    have d2:decide (16≤vs'.length)=true:=decide_eq_true hl
    replace hl:=zH hl
    go_wp2_with fail
    exact Vd (b:=w.heap.size+1) rfl rfl rfl rfl (jj ro4 _ _ _ _ _ _ _ _) ⟨QV x4 (by omega) _ _ _ _ _ _ _ _,.inl ⟨9,by decide,rfl,hE9.out⟩⟩
   ·have d1:decide ((vs'.length:Int)≥16)=false:=decide_eq_false (by omega)
    have d2:decide (16≤vs'.length)=false:=decide_eq_false hl
    have hl16:Hid (vs'.length<16):=zH (by omega)
    replace hl:=zH hl
    by_cases hm:next=4294967295
    ·have hE9:Hid (Vm S root next dead id fz 9):=zH (hE.out 9 (.inl ⟨rfl,.inr hm⟩))
     have d3:(next == 4294967295)=true:=by rw[beq_iff_eq];exact hm
     have d4:decide (next=4294967295)=true:=decide_eq_true hm
     replace hm:=zH hm
     go_wp2_with fail
     exact Vd (b:=w.heap.size+1) rfl rfl rfl rfl (jj ro4 _ _ _ _ _ _ _ _) ⟨QV x4 (by omega) _ _ _ _ _ _ _ _,.inl ⟨9,by decide,rfl,hE9.out⟩⟩
    ·have d3:(next == 4294967295)=false:=by rw[beq_eq_false_iff_ne];exact hm
     have d4:decide (next=4294967295)=false:=decide_eq_false hm
     have hnl:next<4294967295:=by have:=hnxH.out;omega
     have hw1:=hwn0.out hnl
     have hw2:(next+1) % 4294967296=next+1:=by have:=hnxH.out;omega
     replace hm:=zH hm
     replace hnl:=zH hnl
     go_wp2_with fail
     refine(qhM (w.heap.size+1+1) A1 n1 c1 A2 n2 c2 A3 n3 c3 A4 n4 c4 gen root next (.slice A5 dead.length c5) S ⟨ui,ur,uf,um⟩ w4 rg4 (h.out.ext x4)).mono ?_
     rintro e w5 ⟨rfl,ht5,hQ⟩
     have x5:Ext w w5:=ht5.below x4 (by omega) x4.size
     have rv5:=ht5.row rv4 (by omega)
     have rp5:=ht5.row rp4 (by omega)
     have ro5:=ht5.row ro4 (by omega)
     have s5:=ht5.size
     have kv5:=qa rv5
     have kp5:=qa rp5
     clear ht5 rv4 rp4 ro4 rg4 kv4 kp4 ko4 kg4 fo4 fg4
     by_cases h0:QB S ur=0
     case neg =>
      have hq:XG S ur=.error (QB S ur):=by unfold XG;rw[if_neg h0]
      simp only[hq] at hQ
      have hEr:Hid (Vm S root next dead id fz (QB S ur)):=zH (hE.out _ (.inr (.inl rfl)))
      generalize QB S ur=er at *
      have b1:(er == 0)=false:=by rw[beq_eq_false_iff_ne];exact h0
      have b3:decide (er=0)=false:=decide_eq_false h0
      have kg5:=qa hQ
      have fg5:=qd hQ
      have zg5:w.heap.size+1+1<w5.heap.size:=(zG.1 hQ).1
      have h0':=zH h0
      clear h0 hq
      go_wp2_with fail
      generalize hw6:World.setCell w5 _ _=w6
      have x6:Ext w w6:=by rw[←hw6];exact Below.setCell x5 (p:=⟨w.heap.size+1+1,6,none⟩) (by simp;omega) _
      have rg6:=qi hQ 6 (.int .u32 (next+1))
      rw[hw6] at rg6
      have o6:∀ k,k≠w.heap.size+1+1→w6.heap[k]?=w5.heap[k]?:=fun k hk=>by rw[←hw6];exact zJ _ _ _ _ hk
      have ro6:=(o6 _ (by omega)).trans ro5
      clear hw6 kv5 kp5 kg5 fg5 hQ rp5 rv5 o6
      refine(qgR h0'.out ⟨next,ur,fz,id⟩ w6 rg6).mono ?_
      rintro e w7 ⟨rfl,hB⟩
      have x7:Ext w w7:=x6.trans hB
      have ro7:=qb ro6 hB
      have rg7:=qb rg6 hB
      clear hB ro6 rg6
      go_wp2_with fail
      refine(XE (w.heap.size+1+1) ⟨none,0,0,none,0,0,none,0,0,none,0,0,gen,root,next+1,A5,dead.length,c5⟩ er S w7 rg7 (fun h=>absurd h h0'.out)).mono ?_
      rintro e we ⟨rfl,hBe⟩
      have xe:Ext w we:=x7.trans hBe
      have roe:=qb ro7 hBe
      have koe:=qa roe
      have foe:=qd roe
      have zoe:w.heap.size+1<we.heap.size:=(zG.1 roe).1
      rw[(show Kw ⟨none,0,0,none,0,0,none,0,0,none,0,0,gen,root,next+1,A5,dead.length,c5⟩ er S=.tuple #[Jb,.int .i64 er] by unfold Kw;rw[if_pos h0'.out])]
      have hneb:(er != 0)=true:=by rw[bne_iff_ne];exact h0'.out
      clear hBe
      go_wp2_with fail
      exact Vd (b:=w.heap.size+1) rfl rfl rfl rfl (jj (jj roe _ _ _ _ _ _ _ _) _ _ _ _ _ _ _ _) ⟨QV (QV xe (by omega) _ _ _ _ _ _ _ _) (by omega) _ _ _ _ _ _ _ _,.inl ⟨er,h0'.out,rfl,hEr.out⟩⟩
     case pos =>
      have hq:XG S ur=.ok (Qv S ur):=by unfold XG;rw[if_pos h0]
      simp only[hq] at hQ
      obtain⟨y0,y1,y2,y3,rg5,hTw⟩:=hQ
      obtain⟨hSm,hsm,hS1m⟩:=qch h0
      obtain⟨BB,WW,gg,B3,d3',B4,d4',e9,-⟩:=_root_.id hTw
      simp only[Value.agg.injEq,Array.mk.injEq,List.cons.injEq,and_true] at e9
      obtain⟨rfl,rfl,rfl,rfl⟩:=e9
      have hns:=zH (vI (hTw.newSto (QY hS1m)))
      have htree:=zH (hsm.okL hroot.out)
      have kg5:=qa rg5
      have fg5:=qd rg5
      have zg5:w.heap.size+1+1<w5.heap.size:=(zG.1 rg5).1
      have h0':=zH h0
      clear h0 hq hTw hSm hsm hS1m
      go_wp2_with fail
      generalize hw6:World.setCell w5 _ _=w6
      have x6:Ext w w6:=by rw[←hw6];exact Below.setCell x5 (p:=⟨w.heap.size+1+1,6,none⟩) (by simp;omega) _
      have rg6:=qi rg5 6 (.int .u32 (next+1))
      rw[hw6] at rg6
      have z6:w6.heap.size=w5.heap.size:=by rw[←hw6];simp
      have o6:∀ k,k≠w.heap.size+1+1→w6.heap[k]?=w5.heap[k]?:=fun k hk=>by rw[←hw6];exact zJ _ _ _ _ hk
      have ro6:=(o6 _ (by omega)).trans ro5
      have rp6:=(o6 _ (by omega)).trans rp5
      have hst6:=(hns.out w6 (Jc fun k h1 h2=>o6 k (by omega))).more (show w5.heap.size≤w6.heap.size by omega)
      refine(gset_any (w.heap.size+1+1) (some ⟨BB,0,none⟩) (Qv S ur).bs.length (Qv S ur).bs.length (some ⟨WW,0,none⟩) (Qv S ur).ws.length ((Qv S ur).ws.length+1) B3 (Qv S ur).now.length d3' B4 (Qv S ur).last.length d4' gen root (next+1) A5 c5 (Qv S ur) dead ⟨next,ur,fz,id⟩ hvk.out (fun _ _ _=>htree.out) w6 rg6 hst6 (hd.out.ext_ x6)).mono ?_
      rintro e w7 ⟨rfl,ht7,p,er,rg7,hR⟩
      have x7:Ext w w7:=ht7.below x6 (by omega) x6.size
      have ro7:=ht7.row ro6 (by omega)
      have rp7:=ht7.row rp6 (by omega)
      have s7:=ht7.size
      clear hw6 kv5 kp5 kg5 fg5 rg5 rp5 rv5 o6 hns ht7 ro6 rp6 rg6 hst6 htree
      go_wp2_with fail
      rcases hR with ⟨hne,rfl,hSE⟩|⟨rfl,r,S9,vs9,hO,hN⟩
      ·have hEr:Hid (Vm S root next dead id fz er):=zH (hE.out er (.inr (.inr ⟨h0'.out,.inl hSE⟩)))
       have hneb:(er != 0)=true:=by rw[bne_iff_ne];exact hne
       refine(XE (w.heap.size+1+1) PV.zero er S w7 rg7 (fun h=>absurd h hne)).mono ?_
       have hne':=zH hne
       have hev:Kw PV.zero er S=.tuple #[Jb,.int .i64 er]:=by unfold Kw;rw[if_pos hne]
       rw[hev]
       clear hev hSE hne
       rintro e we ⟨rfl,hBe⟩
       have xe:Ext w we:=x7.trans hBe
       have roe:=qb ro7 hBe
       have koe:=qa roe
       have foe:=qd roe
       have zoe:w.heap.size+1<we.heap.size:=(zG.1 roe).1
       clear hBe
       go_wp2_with fail
       exact Vd (b:=w.heap.size+1) rfl rfl rfl rfl (jj (jj roe _ _ _ _ _ _ _ _) _ _ _ _ _ _ _ _) ⟨QV (QV xe (by omega) _ _ _ _ _ _ _ _) (by omega) _ _ _ _ _ _ _ _,.inl ⟨er,hne'.out,rfl,hEr.out⟩⟩
      ·obtain⟨E1,m1,e1,E2,m2,e2,E3,m3,e3,E4,m4,e4,g9,t9,n9,E5,m5,e5⟩:=p
       obtain⟨F1,f1,F2,f2,F3,f3,F4,f4,F5,f5,ee,hst,hin⟩:=hN.sto
       simp only[PV.cs,qC,Value.agg.injEq,Array.mk.injEq,List.cons.injEq,Value.slice.injEq,Value.int.injEq,true_and,and_true] at ee
       obtain⟨⟨rfl,rfl,rfl⟩,⟨rfl,rfl,rfl⟩,⟨rfl,rfl,rfl⟩,⟨rfl,rfl,rfl⟩,rfl,rfl,rfl,rfl,rfl,rfl⟩:=ee
       refine(XE (w.heap.size+1+1) _ 0 S9 w7 rg7 (fun _=>hst)).mono ?_
       replace hO:=zH hO
       replace hN:=zH hN
       clear hst hin
       by_cases hrm:za S9=0
       case neg =>
        have hEr:Hid (Vm S root next dead id fz 9):=zH (hE.out 9 (.inr (.inr ⟨h0'.out,.inr ⟨_,S9,vs9,hO.out,rfl,hrm⟩⟩)))
        rw[show Kw _ 0 S9=.tuple #[Jb,.int .i64 9] by unfold Kw;rw[if_neg (by simp),if_neg hrm]]
        replace hrm:=zH hrm
        rintro e we ⟨rfl,hBe⟩
        have xe:Ext w we:=x7.trans hBe
        have roe:=qb ro7 hBe
        have koe:=qa roe
        have foe:=qd roe
        have zoe:w.heap.size+1<we.heap.size:=(zG.1 roe).1
        clear hBe
        go_wp2_with fail
        exact Vd (b:=w.heap.size+1) rfl rfl rfl rfl (jj (jj roe _ _ _ _ _ _ _ _) _ _ _ _ _ _ _ _) ⟨QV (QV xe (by omega) _ _ _ _ _ _ _ _) (by omega) _ _ _ _ _ _ _ _,.inl ⟨9,by decide,rfl,hEr.out⟩⟩
       case pos =>
        rw[show Kw _ 0 S9=.tuple #[.agg (PV.cs _),.int .i64 0] by unfold Kw;rw[if_neg (by simp),if_pos hrm]]
        have hrm':=zH hrm
        clear hrm
        rintro e we ⟨rfl,hBe⟩
        have xe:Ext w we:=x7.trans hBe
        have x7e:Ext w7 we:=hBe
        have roe:=qb ro7 hBe
        have rpe:=qb rp7 hBe
        have koe:=qa roe
        have foe:=qd roe
        have zoe:w.heap.size+1<we.heap.size:=(zG.1 roe).1
        have se:=hBe.size
        clear hBe ro7 rp7 rg7
        simp only[PV.cs]
        go_upto_region 12 with fail
        generalize hw8:World.setCell (World.setCell (World.setCell (World.setCell (World.setCell (World.setCell (World.setCell (World.setCell we _ _) _ _) _ _) _ _) _ _) _ _) _ _) _ _=w8
        obtain⟨ro8,o8,s8,b8⟩:=eight roe hw8
        have x8:Ext w w8:=b8 (by omega) xe
        have rp8:=(o8 w.heap.size (by omega)).trans rpe
        clear hw8 koe foe roe rpe b8
        have gO:∀ W,ql.r w8 W→_:=fun W h=>qa (qb ro8 h)
        have gP:∀ W,ql.r w8 W→_:=fun W h=>qa (qb rp8 h)
        refine qo (by kernel_rfl) ?_
        refine qO (w:=w8) ql (qF [(3,Zu)]) (List.replicate 4 true) 2 (by kernel_rfl) (by kernel_rfl) (by kernel_rfl) (by kernel_rfl) (by kernel_rfl) (by kernel_rfl) (by kernel_rfl) ?st (Rel.drew _ _) ?walk
        case st=>exact qk (by simp only[List.forall_mem_cons];exact⟨Zh,fun _ h=>by cases h⟩)
        case walk =>
         intro K hK
         dsimp only[qp,List.replicate]
         repeat ((first|(refine qe ?_ (by rfl) (by rfl) (fun W hW _=>⟨W,?_,Rel.refl _ W⟩) ?_;rotate_left;(go_simp<;>with_reducible rfl))|(refine qh (by rfl) ?_));try simp only[Act.put,qj,qf,qc,qg,Qc,zA,zB,zC])
         refine qy Zu (by rfl) (by rfl) (fun W hW _=>?_) (fun (p:Unit)=>?_)
         ·have hW:Ext w8 W:=hW
          have r8:=qb ro8 hW
          have k8:=qa r8
          have f8:=qd r8
          have z8:=(zG.1 r8).1
          refine jq ?_ (same8 r8)
          clear gO gP
          go_simp
         simp only[Act.put,qj,qf,qc,qg,Qc,zA,zB,zC]
         repeat ((first|(refine qe ?_ (by rfl) (by rfl) (fun W hW _=>⟨W,?_,Rel.refl _ W⟩) ?_;rotate_left;(go_simp<;>with_reducible rfl))|(refine qh (by rfl) ?_));try simp only[Act.put,qj,qf,qc,qg,Qc,zA,zB,zC])
         refine qt (hK _ _ fun W hW hF=>?_)
         clear hF hK gO gP
         have hW:Ext w8 W:=hW
         dsimp only[List.drop,List.length_cons,List.length_nil,Nat.reduceAdd,Nat.reduceSub]
         have x9:Ext w W:=x8.trans hW
         have ro9:=qb ro8 hW
         have s9:=hW.size
         have hk:∀ k,w6.heap.size≤k→k<w7.heap.size→W.heap[k]?=w7.heap[k]?:=fun k h1 h2=>(Below.block hW k (by omega)).trans ((o8 k (by omega)).trans (Below.block x7e k h2))
         replace hk:=zH hk
         clear o8
         go_wp2
         refine Qm ?_
         go_wp2_with fail
         exact Vd (b:=w.heap.size+1) rfl rfl rfl rfl ro9 ⟨x9,.inr ⟨_,S9,_,⟨vs',refs',nodes,_,vs9,hp.out,hc.out,he.out,hv.out,hl16.out,hnl.out,h0'.out,hO.out,hrm'.out⟩,rfl,hN.out.keep x6.size (by omega) hk.out⟩⟩

def CreEnd (bp be ba:Nat) (cs:Array Value) (a e:Int) (S:Sto) (W W':World):Prop:=Kl bp be ba W W' ∧
 ((e=0∧za S=0∧W'.heap[bp]?=some (.cells cs 32 (0,0))∧W'.heap[be]?=some (.cells #[.int .i64 0] 36 (0,0))∧W'.heap[ba]?=some (.cells #[.int .u32 a] 29 (0,0))) ∨
  ∃ e',e'≠0∧((e=0∧e'=za S)∨(e≠0∧e'=e))∧W'.heap[bp]?=some (.cells VK 32 (0,0))∧W'.heap[be]?=some (.cells #[.int .i64 e'] 36 (0,0))∧W'.heap[ba]?=some (.cells #[.int .u32 0] 29 (0,0)))
set_option maxRecDepth 100000 in
theorem cre1_any (bp be ba:Nat) (h12:bp≠be) (h13:bp≠ba) (h23:be≠ba) (A1:Option Addr) (n1 c1:Nat) (A2:Option Addr) (n2 c2:Nat) (A3:Option Addr) (n3 c3:Nat) (A4:Option Addr) (n4 c4:Nat) (gen root next:Int) (v5:Value) (a e:Int) (S:Sto) (u:FrameMode) (w:World)
  (hp:w.heap[bp]?=some (.cells (qC (.slice A1 n1 c1) (.slice A2 n2 c2) (.slice A3 n3 c3) (.slice A4 n4 c4) gen root next v5) 32 (0,0))) (he:w.heap[be]?=some (.cells #[.int .i64 e] 36 (0,0))) (ha:w.heap[ba]?=some (.cells #[.int .u32 a] 29 (0,0)))
  (h:e=0→qP w w.heap.size (.slice A1 n1 c1) (.slice A2 n2 c2) (.slice A3 n3 c3) (.slice A4 n4 c4) S) :
  CallsD Tryz.prog 126 #[.pointer (some ⟨bp,0,none⟩),.pointer (some ⟨be,0,none⟩),.pointer (some ⟨ba,0,none⟩)] u w (fun x u' w'=>u'=u∧x=.returned (.tuple #[])∧CreEnd bp be ba (qC (.slice A1 n1 c1) (.slice A2 n2 c2) (.slice A3 n3 c3) (.slice A4 n4 c4) gen root next v5) a e S w w'):=by
 have HR:=qij bp be h12 A1 n1 c1 A2 n2 c2 A3 n3 c3 A4 n4 c4 gen root next v5 e S w hp he h
 clear h hp he
 go_enter_d Tryz.func126,Tryz.ntmps126
 go_wp2_with fail
 refine HR.mono ?_
 rintro x w2 ⟨rfl,hT,⟨h0,hE,hp2,he2⟩|⟨e',h0,hE,hp2,he2⟩⟩
 ·have ha2:=(hT.same ba (zG.1 ha).1 (Ne.symm h13) (Ne.symm h23)).trans ha
  have ke2:=qa he2
  have hz:=zH h0
  clear h0
  go_wp2_with fail
  go_end0
  exact⟨rfl,Kl.of_two hT,.inl ⟨hz.out,hE,hp2,he2,ha2⟩⟩
 ·have ha2:=(hT.same ba (zG.1 ha).1 (Ne.symm h13) (Ne.symm h23)).trans ha
  have ke2:=qa he2
  have ka2:=qa ha2
  have fa2:=qd ha2
  have b1:(e' != 0)=true:=by rw[bne_iff_ne];exact h0
  replace h0:=zH h0
  replace hE:=zH hE
  go_wp2_with fail
  go_end0
  exact⟨rfl,(Kl.of_two hT).set _,.inr ⟨e',h0.out,hE.out,(zJ _ _ _ _ h13).trans hp2,(zJ _ _ _ _ h23).trans he2,qi ha2 0 _⟩⟩
structure VL (n:Nat) (A:Array Bool) (m:Nat):Prop where
 size:A.size=n
 at_:∀ j,j<n→A[j]?=some (m.testBit j)
 out:∀ j,n≤j→m.testBit j=false
theorem VL.none_ (n:Nat):VL n (Array.replicate n false) 0:=
 ⟨by simp,fun j hj=>by rw[Array.getElem?_replicate,if_pos hj,Nat.zero_testBit],fun j _=>Nat.zero_testBit j⟩
theorem VL.getT {n m:Nat} {A:Array Bool} (h:VL n A m) {j:Nat} (hj:j<n) (d:Bool):A.getD j d=m.testBit j:=by
 rw[Array.getD_eq_getD_getElem?,h.at_ j hj]
 rfl
theorem VL.set {n m:Nat} {A:Array Bool} (h:VL n A m) {k:Nat} (hk:k<n):VL n (A.setIfInBounds k true) (m ||| 2 ^ k):=by
 refine⟨by simpa using h.size,fun j hj=>?_,fun j hj=>?_⟩
 ·rw[Nat.testBit_or,Nat.testBit_two_pow]
  by_cases e:k=j
  ·subst e
   rw[Array.getElem?_setIfInBounds_self_of_lt (by rw[h.size];exact hk)]
   simp
  ·rw[Array.getElem?_setIfInBounds_ne e,h.at_ j hj]
   simp[e]
 ·rw[Nat.testBit_or,Nat.testBit_two_pow,h.out j hj]
  simp
  omega
def freeN (ops:Array Oper) (oi:Oper) (k m:Nat):Nat→List Oper→Bool
 |_,[]=>true
 |j,oj :: r=>(j == k || m.testBit j || oj.after.any (fun e=>Region.binds .any e && e.on == k) || oi.apart ops oj) && freeN ops oi k m (j+1) r
theorem Gp {ops:Array Oper} {oi:Oper} {k m:Nat}:∀ (l:List Oper) (j:Nat),freeN ops oi k m j l=true→∀ i o,l[i]?=some o→(j+i == k || m.testBit (j+i) || o.after.any (fun e=>Region.binds .any e && e.on == k) || oi.apart ops o)=true
 | [],_,_,i,o,h=>by simp at h
 |x :: r,j,h,i,o,ho=>by
  simp only[freeN,Bool.and_eq_true] at h
  rcases i with _|i
  ·simp only[List.getElem?_cons_zero,Option.some.injEq] at ho
   subst ho
   exact h.1
  ·have:=Gp r (j+1) h.2 i o (by simpa using ho)
   rwa [show j+1+i=j+(i+1) by omega] at this
def lexN (l:List Oper) (fin:Nat):List Nat→Nat→Bool
 | [],m=>m == fin
 |k :: r,m=>!m.testBit k && (match l[k]? with
  |some o=>o.after.toList.all (fun e=>!Region.binds .any e || m.testBit e.on) && freeN l.toArray o k m 0 l
  |none=>false) && lexN l fin r (m ||| 2 ^ k)
theorem qbr {l:List Oper} {L:Array Bool} {fin:Nat} (hL:VL l.length L fin):∀ (ks:List Nat) (A:Array Bool) (m:Nat),VL l.length A m→lexN l fin ks m=true→Zs l.toArray L ks A=true
 | [],A,m,hA,h=>by
  simp only[lexN,beq_iff_eq] at h
  subst h
  simp only[Zs,beq_iff_eq]
  refine Array.ext_getElem? fun j=>?_
  by_cases hj:j<l.length
  ·rw[hA.at_ j hj,hL.at_ j hj]
  ·rw[Array.getElem?_eq_none (by rw[hA.size];omega),Array.getElem?_eq_none (by rw[hL.size];omega)]
 |k :: r,A,m,hA,h=>by
  simp only[lexN,Bool.and_eq_true,Bool.not_eq_true'] at h
  obtain⟨⟨h0,h1⟩,h2⟩:=h
  split at h1
  ·rename_i o ho
   simp only[Bool.and_eq_true] at h1
   obtain⟨h1,h3⟩:=h1
   have hk:k<l.length:=(List.getElem?_eq_some_iff.1 ho).1
   have hoA:l.toArray[k]?=some o:=by simpa using ho
   simp only[Zs,Bool.and_eq_true]
   refine⟨⟨?_,?_⟩,qbr hL r _ _ (hA.set hk) h2⟩
   ·have:k∈Region.ready .any l.toArray A:=mem_ready.2 ⟨by rw[hA.getT hk,h0],o,hoA,fun e he hb=>by
     have h4:=List.all_eq_true.1 h1 e (by simpa using he)
     rw[hb] at h4
     simp only[Bool.not_true,Bool.false_or] at h4
     by_cases hj:e.on<l.length
     ·rw[hA.getT hj,h4]
     ·rw[hA.out e.on (by omega)] at h4
      cases h4⟩
    simpa using this
   ·unfold Region.free
    rw[hoA]
    simp only[List.all_eq_true,List.mem_range]
    intro j hj
    have hj':j<l.length:=by simpa using hj
    have h4:=Gp l 0 h3 j l[j] (zL hj')
    rw[Nat.zero_add] at h4
    rw[hA.getT hj',List.getElem?_toArray,zL hj']
    simp only
    simp only[Bool.or_eq_true] at h4 ⊢
    rcases h4 with ((h4|h4)|h4)|h4
    ·exact .inl (.inl h4)
    ·exact .inl (.inr h4)
    ·exact .inr (.inl h4)
    ·exact .inr (.inr h4)
  ·cases h1
theorem VL.listed (n m:Nat) (h:m≤n):VL n (QM n m) (2 ^ m-1):=by
 refine⟨by simp[QM],fun j hj=>?_,fun j hj=>?_⟩
 ·unfold QM
  rw[List.getElem?_toArray,List.getElem?_map,List.getElem?_range hj,Nat.testBit_two_pow_sub_one]
  rfl
 ·rw[Nat.testBit_two_pow_sub_one]
  simp
  omega
theorem qhx {P:Program} {l:List Oper} {Q:Exit→Act→World→Prop} {fuel:Nat} {a:Act} {w W:World} (R:Rel) (H:Nat→Option qS) (M:List Bool) (t:Nat)
  (hs:Region.noSelect l.toArray=true) (ht:qeH l.toArray (QM l.length (l.length-t)) ((qp 0 l M).map (·.1))=true) (hc0:Yl l.toArray (Array.replicate l.length false)=true) (hB:lexN l (2 ^ (l.length-t)-1) ((qp 0 l M).map (·.1)) 0=true)
  (hseq:TQ l.toArray t (l.length-t) (QM l.length (l.length-t))=true) (hfu:fuel=(qp 0 l M).length+t) (htl:(l.drop (l.length-t)).length=t)
  (hH:∀ i h,H i=some h→∀ p,qD R (h.φ p)) (hW:R.r w W)
  (h:∀ K:Act→qM→Prop,(∀ a' F',(∀ W,R.r w W→(∀ k,F' k W)→wpList P l.toArray Q (l.drop (l.length-t)) a' W)→K a' F')→ji R P l.toArray w H K (qp 0 l M) a (fun _ _=>True)):wpAny P .any l.toArray Q fuel (Array.replicate l.length false) a W:=
 qO R H M t hs ht hc0 (qbr (VL.listed _ _ (Nat.sub_le _ _)) _ _ _ (VL.none_ _) hB) hseq hfu htl hH hW h
end Go.Proofs.YtpbniokljofedaaGreat
