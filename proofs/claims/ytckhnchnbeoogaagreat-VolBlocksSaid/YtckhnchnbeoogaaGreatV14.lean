/- Texts VolsW, Vols, joined. -/
import Derived.Test.YtckhnchnbeoogaaGreatV08
import Derived.Test.YtckhnchnbeoogaaGreatV09
import Derived.Test.YtckhnchnbeoogaaGreatV13
set_option linter.unusedSimpArgs false
set_option linter.unusedVariables false
namespace Go.Proofs.YtckhnchnbeoogaaGreat
open Go.RowKit
def qS (S:Sto):Nat→List It→List It
 |0,xs=>xs
 |h+1,xs=>xs.flatMap fun y=>match qV S y.r.toNat with
  |none=>[]
  |some (_,ys)=>qS S h ys
def QU (next:Int) (y:It):Bool:=jF y && (decide (y.i≠0) && decide (y.i<next))
def zR (next:Int):List Vol→List It→Option (List Vol)
 |vs,[]=>some vs
 |vs,y :: r=>if QU next y=true∧vs.length≠16 then zR next (vs++[Qq y]) r else none
theorem Xk (next:Int) (vs:List Vol) (y:It) (r:List It):zR next vs (y :: r)=if QU next y=true∧vs.length≠16 then zR next (vs++[Qq y]) r else none:=rfl
theorem je (S:Sto) (h:Nat) (xs:List It):qS S (h+1) xs=xs.flatMap fun y=>match qV S y.r.toNat with|none=>[]|some (_,ys)=>qS S h ys:=rfl
theorem jT (next:Int):∀ (l m:List It) (vs:List Vol),zR next vs (l++m)=(zR next vs l).bind fun vs'=>zR next vs' m
 | [],m,vs=>rfl
 |y :: r,m,vs=>by
  rw[List.cons_append,Xk,Xk]
  split
  ·exact jT next r m _
  ·rfl
theorem KU (next:Int):∀ (l:List It) (vs vs':List Vol),vs.length≤16→zR next vs l=some vs'→vs'.length≤16
 | [],vs,vs',h,e=>by cases e;exact h
 |y :: r,vs,vs',h,e=>by
  unfold zR at e
  split at e
  ·rename_i hc
   exact KU next r _ vs' (by rw[List.length_append,List.length_singleton];have:=hc.2;omega) e
  ·cases e
theorem Ul (next:Int):∀ (l:List It) (vs:List Vol),vs.length≤16→zR next vs l=if l.all (QU next)=true∧vs.length+l.length≤16 then some (vs++l.map Qq) else none
 | [],vs,h=>by
  unfold zR
  rw[if_pos ⟨rfl,by simpa using h⟩]
  simp
 |y :: r,vs,h=>by
  unfold zR
  by_cases hg:QU next y=true
  ·by_cases hl:vs.length=16
   ·rw[if_neg (fun x=>x.2 hl),if_neg (fun x=>by have:=x.2;simp at this;omega)]
   ·rw[if_pos ⟨hg,hl⟩,Ul next r _ (by rw[List.length_append,List.length_singleton];omega)]
    simp only[List.all_cons,hg,Bool.true_and,List.length_append,List.length_cons,List.length_nil,List.append_assoc,List.map_cons,List.cons_append,List.nil_append]
    by_cases h1:r.all (QU next)=true∧vs.length+(0+1)+r.length≤16
    ·rw[if_pos h1,if_pos ⟨h1.1,by omega⟩]
    ·rw[if_neg h1,if_neg (fun x=>h1 ⟨x.1,by omega⟩)]
  ·rw[if_neg (fun x=>hg x.1),if_neg (fun x=>by have:=x.1;simp only[List.all_cons,Bool.and_eq_true] at this;exact hg this.1)]
theorem qcv {S:Sto} {xs:List It} {k:Nat} (hk:k<xs.length):qS S 0 (xs.take (k+1))=qS S 0 (xs.take k)++[xs[k]]:=List.take_succ_eq_append_getElem hk
theorem TA {S:Sto} {h:Nat} {xs ys:List It} {lvl:Int} {k:Nat} (hk:k<xs.length) (hn:qV S xs[k].r.toNat=some (lvl,ys)):qS S (h+1) (xs.take (k+1))=qS S (h+1) (xs.take k)++qS S h ys:=by
 rw[List.take_succ_eq_append_getElem hk,je,je,List.flatMap_append]
 simp[hn]
theorem UV {S:Sto} (h:Nat):qS S h []=[]:=by
 cases h <;> rfl
theorem qbx {S:Sto} {h:Nat} {xs:List It} {k:Nat} (hk:k≤xs.length):∃ r,qS S h xs=qS S h (xs.take k)++r:=by
 cases h with
 |zero=>exact⟨xs.drop k,(List.take_append_drop k xs).symm⟩
 |succ h =>
  refine⟨qS S (h+1) (xs.drop k),?_⟩
  have:=(List.take_append_drop k xs).symm
  conv=>lhs;rw[this]
  rw[je,je,je,List.flatMap_append]
theorem qcf {S:Sto} {h:Nat} {xs:List It} {k:Nat} {next:Int} {vs:List Vol} (hk:k≤xs.length) (hb:zR next vs (qS S h (xs.take k))=none):zR next vs (qS S h xs)=none:=by
 obtain⟨r,hr⟩:=qbx (S:=S) (h:=h) hk
 rw[hr,jT,hb]
 rfl
def Zu (vs:List Vol):List Value:=vs.flatMap fun v=>[.int .u32 v.id,.int .i64 v.root,.bool v.fz,.int .u32 v.frm]
theorem XK (vs:List Vol) (v:Vol):Zu (vs++[v])=Zu vs++[.int .u32 v.id,.int .i64 v.root,.bool v.fz,.int .u32 v.frm]:=by simp[Zu]
structure VolI (p:CP) (w1 w:World) (vs:List Vol) (vv:Value) (ca:Array Value) (refs nodes:Nat→Nat):Prop where
 t:TrI p w1.heap.size w1 w vv ca refs nodes
 own:w.ownsRow w1.heap.size 70 4 vv vs.length (Zu vs)
structure VK (p:CP) (vv:Value) (w w':World):Prop where
 os:w'.os=w.os
 tape:w'.tape=w.tape
 output:w'.output=w.output
 size:w.heap.size≤w'.heap.size
 block:∀ k,k<w.heap.size→k≠p.cb→vv.ownBlock≠some k→w'.heap[k]?=w.heap[k]?
def vA (vv:Value) (n:Nat) (vv':Value):Prop:=vv'.ownBlock=vv.ownBlock∨∃ g,vv'.ownBlock=some g∧n≤g
def VolsQ (p:CP) (w1:World) (refs nodes:Nat→Nat) (next:Int) (vs:List Vol) (l:List It) (vv:Value) (w:World) (e:Ending) (w':World):Prop:=
 VK p vv w w'∧match zR next vs l with
  |none=>e=.returned (.int .i64 8)
  |some vs'=>e=.returned (.int .i64 0)∧∃ vv' ca',VolI p w1 w' vs' vv' ca' refs nodes∧vA vv w.heap.size vv'
theorem VK.refl (p:CP) (vv:Value) (w:World):VK p vv w w:=⟨rfl,rfl,rfl,Nat.le_refl _,fun _ _ _ _=>rfl⟩
theorem VK.ext {p:CP} {vv:Value} {w w' w'':World} (h:VK p vv w w') (hx:Ext w' w''):VK p vv w w'':=
 ⟨hx.os.trans h.os,hx.tape.trans h.tape,hx.output.trans h.output,Nat.le_trans h.size hx.size,fun k h1 h2 h3=>(hx.block k (Nat.lt_of_lt_of_le h1 h.size)).trans (h.block k h1 h2 h3)⟩
theorem VK.trans {p:CP} {vv vv':Value} {w w' w'':World} (h:VK p vv w w') (h':VK p vv' w' w'') (hn:vA vv w.heap.size vv'):VK p vv w w'':=
 ⟨h'.os.trans h.os,h'.tape.trans h.tape,h'.output.trans h.output,Nat.le_trans h.size h'.size,fun k h1 h2 h3=>(h'.block k (Nat.lt_of_lt_of_le h1 h.size) h2 (fun e=>by
  rcases hn with x|⟨g,x,y⟩
  ·exact h3 (x ▸ e)
  ·rw[x] at e;cases e;omega)).trans (h.block k h1 h2 h3)⟩
theorem vA.refl (vv:Value) (n:Nat):vA vv n vv:=.inl rfl
theorem vA.trans {vv vv' vv'':Value} {n n':Nat} (h:vA vv n vv') (h':vA vv' n' vv'') (hn:n≤n'):vA vv n vv'':=by
 rcases h' with x|⟨g,x,y⟩
 ·rcases h with z|⟨g,z,y⟩
  ·exact .inl (x.trans z)
  ·exact .inr ⟨g,x.trans z,y⟩
 ·exact .inr ⟨g,x,by omega⟩
theorem VolI.ext {p:CP} {w1 w w':World} {vs:List Vol} {vv:Value} {ca:Array Value} {refs nodes:Nat→Nat} (h:VolI p w1 w vs vv ca refs nodes) (hx:Ext w w'):VolI p w1 w' vs vv ca refs nodes:=⟨h.t.ext hx,QK h.own hx⟩
theorem TrI.setVol {p:CP} {B:Nat} {w1 wr:World} {vv:Value} {ca:Array Value} {refs nodes:Nat→Nat} (h:TrI p B w1 wr vv ca refs nodes) (vv':Value):TrI p B w1 (wr.setCell ⟨p.cb,518,none⟩ vv') vv' (ca.setIfInBounds 518 vv') refs nodes:=by
 have hs:=h.ar.size
 refine⟨h.off.setCell (p:=⟨p.cb,518,none⟩) (.inl rfl) _,qh h.row _ _,⟨by simp[hs],fun a ha=>?_,fun a ha=>?_,?_⟩,fun i hi=>(qan (by omega) hi).trans (h.low i hi),h.lt⟩
 ·rw[Array.getElem?_setIfInBounds,if_neg (by omega),h.ar.ref a ha]
 ·rw[Array.getElem?_setIfInBounds,if_neg (by omega),h.ar.node a ha]
 ·rw[Array.getElem?_setIfInBounds,if_pos rfl,if_pos (by omega)]
theorem VK.grown {p:CP} {vv0 vv:Value} {w w' w'':World} (h:VK p vv0 w w') (hn:vA vv0 w.heap.size vv) (hg:w'.grownBy w'' vv.ownBlock):VK p vv0 w w'':=
 ⟨hg.os.trans h.os,hg.tape.trans h.tape,hg.output.trans h.output,Nat.le_trans h.size hg.size,fun k h1 h2 h3=>(hg.block k (Nat.lt_of_lt_of_le h1 h.size) (fun e=>by
  rcases hn with x|⟨g,x,y⟩
  ·exact h3 (x ▸ e.symm)
  ·rw[x] at e;cases e;omega)).trans (h.block k h1 h2 h3)⟩
theorem VK.setC {p:CP} {vv0 u:Value} {w w':World} {i:Nat} (h:VK p vv0 w w'):VK p vv0 w (w'.setCell ⟨p.cb,i,none⟩ u):=
 ⟨h.os,h.tape,h.output,by simpa using h.size,fun k h1 h2 h3=>(Below.heap_setCell _ _ _ _ (fun e=>h2 e)).trans (h.block k h1 h2 h3)⟩
abbrev qC (s1 s2 s3 s4:Value) (gen root next:Int) (dead:Value):Array Value:=#[s1,s2,s3,s4,.int .u32 gen,.int .i64 root,.int .u32 next,dead]
def VolsC (p:CP) (w1:World) (f:Int→Option Value) (refs nodes:Nat→Nat) (s1 s2 s3 s4:Value) (gen root next:Int) (dead:Value) (h:Nat):Prop:=
 ∀ (xs:List It) (A:Option Addr) (c:Nat) (vs:List Vol) (vv:Value) (ca:Array Value) (w:World),VolI p w1 w vs vv ca refs nodes→vs.length≤16→(∀ x∈xs,Yk x)→xs.length≤5→zU p.lo w1 (.slice A xs.length c) xs →
  (QL p.S h xs).isSome=true→(0<h→∀ y∈xs,(f y.r).isSome=true) →
  Calls Tryz.prog 88 #[.pointer (some ⟨p.cb,0,none⟩),.agg (qC s1 s2 s3 s4 gen root next dead),Zv h A xs.length c] w (VolsQ p w1 refs nodes next vs (qS p.S h xs) vv w)
theorem Tryz.info_vol:(Tryz.prog.info? 70).map (fun i=>(i.zero,i.size,i.bytes))=some (some (.agg #[.int .u32 0,.int .i64 0,.bool false,.int .u32 0]),4,24):=by kernel_rfl
abbrev XS (v:Vol):Array Value:=#[.int .u32 v.id,.int .i64 v.root,.bool v.fz,.int .u32 v.frm]
structure VRel (p:CP) (w1:World) (refs nodes:Nat→Nat) (pcs:Array Value) (next:Int) (vs0:List Vol) (xs:List It) (h:Nat) (A:Option Addr) (c:Nat) (vv0:Value) (w:World) (i:Value) (wr:World):Prop where
 ex:∃ (k:Nat) (vs:List Vol) (vv:Value) (ca:Array Value),k≤xs.length∧i=.int .i64 (k:Int)∧zR next vs0 (qS p.S h (xs.take k))=some vs∧vs.length≤16∧VolI p w1 wr vs vv ca refs nodes∧VK p vv0 w wr∧vA vv0 w.heap.size vv ∧
  (∀ q,vv.ownBlock=some q→q≠w.heap.size∧q≠w.heap.size+1)∧wr.heap[w.heap.size]?=some (.cells pcs 32 (0,0))∧wr.heap[w.heap.size+1]?=some (.cells #[.int .i64 h,.slice A xs.length c] 118 (0,0))
set_option maxHeartbeats 4000000 in
set_option maxRecDepth 100000 in
theorem qbj (p:CP) (w1:World) (f:Int→Option Value) (refs nodes:Nat→Nat) (s1 s2 s3 s4:Value) (gen root next:Int) (dead:Value) (hC:Cen p w1 f) (h:Nat) (HL:∀ h',h=h'+1→VolsC p w1 f refs nodes s1 s2 s3 s4 gen root next dead h') :
  VolsC p w1 f refs nodes s1 s2 s3 s4 gen root next dead h:=by
 intro xs A c vs0 vv0 ca0 w HI hvl hxs hlen hits hsp hkn
 have hlo:=zY HI.own
 replace hC:=zH hC
 replace HI:=zH HI
 replace hxs:=zH hxs
 replace hits:=zH hits
 replace hsp:=zH hsp
 replace hkn:=zH hkn
 replace hlo:=zH hlo
 replace HL:=zH HL
 replace hvl:=zH hvl
 go_enter Tryz.func88,Tryz.ntmps88
 go_wp2
 generalize hw2:(World.alloc (World.alloc _ _) _)=w2
 have x2:Ext w w2:=by rw[←hw2];exact(Ext.alloc _ _).trans (Ext.alloc _ _)
 have q2:w2.heap[w.heap.size]?=some (.cells (qC s1 s2 s3 s4 gen root next dead) 32 (0,0)):=by
  rw[←hw2];exact(Below.heap_alloc _ _ _ (by simp)).trans (World.alloc_heap_at _ _ _ rfl)
 have n2:w2.heap[w.heap.size+1]?=some (.cells #[.int .i64 h,.slice A xs.length c] 118 (0,0)):=by
  rw[←hw2];exact World.alloc_heap_at _ _ _ (by simp)
 clear hw2
 have I0:VRel p w1 refs nodes (qC s1 s2 s3 s4 gen root next dead) next vs0 xs h A c vv0 w (.int .i64 0) w2:=by
  refine⟨0,vs0,vv0,ca0,Nat.zero_le _,rfl,?_,hvl.out,HI.out.ext x2,(VK.refl _ _ _).ext x2,vA.refl _ _,fun q hq=>?_,q2,n2⟩
  ·rw[List.take_zero,UV];rfl
  ·have:=(hlo.out q hq).2
   omega
 replace I0:=zH I0
 clear x2 q2 n2
 go_loopw [15] (fun i wr=>VRel p w1 refs nodes (qC s1 s2 s3 s4 gen root next dead) next vs0 xs h A c vv0 w i wr) (fun i _=>xs.length-(intOf i).toNat)
 case atStart=>exact I0.out
 case round =>
  obtain⟨k,vs,vv,ca,hk,rfl,hgo,hvs,V,F,hnew,hnq,qr,nr⟩:=hrel.ex
  clear I0
  by_cases hlt:k<xs.length
  ·have hlt':=hlt
   obtain⟨b9,off9,rfl,hb9⟩:=hits.out.its.at_.2.2.2 (by omega)
   obtain⟨A',c',d0,d1,d2,d3,d4,hby⟩:=(V.t.its hC.out hits.out).its.item k hlt'
   have hxk:=hxs.out xs[k] (List.getElem_mem hlt')
   have HLEAF:Hid (h=0→qS p.S h (xs.take (k+1))=qS p.S h (xs.take k)++[xs[k]]):=zH fun e=>by rw[e];exact qcv hlt'
   have HNODE:Hid (∀ h' ys lvl,h=h'+1→qV p.S xs[k].r.toNat=some (lvl,ys)→qS p.S h (xs.take (k+1))=qS p.S h (xs.take k)++qS p.S h' ys):=zH fun h' ys lvl e hn=>by rw[e];exact TA hlt' hn
   have HONE:=zH (kj hsp.out xs[k] (List.getElem_mem hlt'))
   have HKN:=zH (fun h0=>hkn.out h0 xs[k] (List.getElem_mem hlt'))
   have HBAD:=zH (fun hb=>@qcf p.S h xs (k+1) next vs0 hlt' hb)
   generalize xs[k]=x at *
   have kn:=qa nr
   have kq:=qa qr
   replace V:=zH V
   replace F:=zH F
   replace hnew:=zH hnew
   replace hnq:=zH hnq
   replace hgo:=zH hgo
   replace hby:=zH hby
   replace hxk:=zH hxk
   have hz:w.heap.size+1<wr.heap.size:=(zG.1 nr).1
   have hz0:w.heap.size<wr.heap.size:=by omega
   replace hvs:=zH hvs
   rcases Nat.eq_zero_or_pos h with hh|hh
   ·have hd:decide ((h:Int)>0)=false:=decide_eq_false (by omega)
    have hd2:decide (0<h)=false:=decide_eq_false (by omega)
    have hd3:¬0<h:=by omega
    replace hh:=zH hh
    go_wp2_with fail
    generalize hw3:World.alloc wr _=w3
    have x3:Ext wr w3:=by rw[←hw3];exact Ext.alloc _ _
    clear hw3 d0 d1 d2 d3 d4
    refine(qdk x hxk.out A' c' w3 ((hby.out.below x3).more x3.size)).mono ?_
    rintro e w4 ⟨u,rfl,⟨v',rfl,hv'⟩,hB⟩
    have x4:=x3.trans hB
    clear hB x3
    have hstep:zR next vs0 (qS p.S h (xs.take (k+1)))=if QU next x=true∧vs.length≠16 then some (vs++[Qq x]) else none:=by
     rw[HLEAF.out hh.out,jT,hgo.out]
     rfl
    have HB8:Hid (¬(QU next x=true∧vs.length≠16)→∀ W,Ext wr W→VolsQ p w1 refs nodes next vs0 (qS p.S h xs) vv0 w (.returned (.int .i64 8)) W):=zH fun hb W hx =>
     ⟨F.out.ext hx,by rw[HBAD.out (by rw[hstep,if_neg hb])]⟩
    have V4:=V.out.ext x4
    obtain⟨AV,cV,rfl,-,-⟩:=qw V4.own
    have kc:w4.cell? ⟨p.cb,518,none⟩=some (.slice AV vs.length cV):=by rw[qa V4.t.row];exact V4.t.ar.vol
    have kq4:=qa (qc qr x4)
    have hcb4:p.cb<w4.heap.size:=(zG.1 V4.t.row).1
    have hqz4:w.heap.size<w4.heap.size:=by have:=x4.size;omega
    replace hstep:=zH hstep
    rcases hiv:jF x with _|_
    ·have HB:=HB8.out (fun hh=>by have:=hh.1;unfold QU at this;rw[hiv] at this;cases this)
     replace HB:=zH HB
     replace hiv:=zH hiv
     clear kc kq4 V4
     go_wp2_with fail
     go_ret
     exact HB.out _ (x4.trans (Ext.alloc _ _))
    ·have hve:=hv' hiv
     have hid:v'.id=x.i:=by rw[hve];rfl
     have hgd:QU next x=(decide (x.i≠0) && decide (x.i<next)):=by unfold QU;rw[hiv,Bool.true_and]
     replace hiv:=zH hiv
     replace hve:=zH hve
     rcases Int.decEq v'.id 0 with hi0|hi0
     ·rcases Int.decLt v'.id next with hi1|hi1
      ·have HB:=HB8.out (fun hh=>by have:=hh.1;rw[hgd] at this;simp at this;omega)
       have hg1:decide (v'.id≥next)=true:=decide_eq_true (by omega)
       have hg2:decide (next≤v'.id)=true:=decide_eq_true (by omega)
       replace HB:=zH HB
       replace hid:=zH hid
       replace hgd:=zH hgd
       clear hi1 hv' V4
       go_wp2_with fail
       go_ret
       exact HB.out _ (x4.trans (Ext.alloc _ _))
      ·have hg1:decide (v'.id≥next)=false:=decide_eq_false (by omega)
       have hg2:decide (next≤v'.id)=false:=decide_eq_false (by omega)
       rcases Nat.decEq vs.length 16 with h16|h16
       ·have hf1:((vs.length:Int) == 16)=false:=by rw[beq_eq_false_iff_ne];omega
        have hok:QU next x=true:=by rw[hgd];simp;omega
        replace hok:=zH hok
        replace hid:=zH hid
        replace hgd:=zH hgd
        replace V4:=zH V4
        clear hi1 hv'
        have h16':=zH h16
        go_wp2_with fail
        generalize hw5:World.alloc w4 _=w5
        have x45:Ext w4 w5:=by rw[←hw5];exact Ext.alloc _ _
        have r5:w5.heap[w4.heap.size]?=some (.cells (XS v') 70 (0,0)):=by rw[←hw5];exact World.alloc_heap_at _ _ _ rfl
        have z5:w4.heap.size<w5.heap.size:=(zG.1 r5).1
        clear hw5 kc kq4 h16 hf1 hg1 hg2 hi0
        have x5:=x4.trans x45
        have V5:=V4.out.ext x45
        have q5:=qc qr x5
        have nr5:=qc nr x5
        have hol:=zY V5.own
        have hcb5:=V5.t.lt
        have hbase5:=V5.t.off.size
        have hvs5:=hvs.out
        have hn4:(Value.slice AV vs.length cV).ownBlock≠some w4.heap.size:=fun e=>by have:=(zY V4.out.own _ e).2;omega
        have hnc:(Value.slice AV vs.length cV).ownBlock≠some p.cb:=fun e=>by have:=(hol _ e).1;omega
        obtain⟨RR,hRR⟩:∃ RR:Rel,RR=jI w1.heap.size 70 4 w5.heap.size (.slice AV vs.length cV) vs.length (Zu vs) (vs.length+1) (Zu vs++(XS v').toList):=⟨_,rfl⟩
        replace hRR:=zH hRR
        have gV:∀ W,RR.r w5 W→W.cell? ⟨p.cb,518,none⟩=some (.slice AV vs.length cV):=fun W h=>zy (hRR.out ▸ h) hnc (by rw[qa V5.t.row];exact V5.t.ar.vol)
        have gv:∀ W,RR.r w5 W→∀ i,W.cell? ⟨w4.heap.size,i,none⟩=(XS v')[i]?:=fun W h=>qa (jb (hRR.out ▸ h) hn4 r5)
        refine qv (by kernel_rfl) ?_
        refine Qu (w:=w5) RR (qE [(6,jd w5.heap.size 1 70 (XS v')),(7,jX w1.heap.size 70 4 w5.heap.size (.slice AV vs.length cV) (vs.length+1) (Zu vs++(XS v').toList))])
         [true,true,true,true,true,true,true,true] 3 (by kernel_rfl) (by kernel_rfl) (by kernel_rfl) (by kernel_rfl) (by kernel_rfl) (by kernel_rfl) (by kernel_rfl) ?st (Rel.drew _ _) ?walk
        case st=>rw[hRR.out];exact qm (by simp only[List.forall_mem_cons];exact⟨kz (fun g hg=>by have:=hol g hg;omega),Jr,fun _ h=>by cases h⟩)
        case walk =>
         intro K hK
         dsimp only[qz]
         repeat ((first|(refine qf ?_ (by rfl) (by rfl) (fun W hW _=>⟨W,?_,Rel.refl _ W⟩) ?_;rotate_left;(first|(go_simp;with_reducible rfl)|(go_simp;done)))|(refine qj (by rfl) ?_));try simp only[Act.put,qi,qe,qb,qg,qb,qY,QO,zA,zB,zC])
         refine qA (jd w5.heap.size 1 70 (XS v')) (by rfl) (by rfl) (fun W hW _=>?_) (fun (pb:Nat)=>?_)
         ·rw[hRR.out] at hW ⊢
          refine XF ?_ hW.1.size
          go_simp
         simp only[Act.put,qi,qe,qb,qg,qb,qY,QO,zA,zB,zC]
         refine qA (jX w1.heap.size 70 4 w5.heap.size (.slice AV vs.length cV) (vs.length+1) (Zu vs++(XS v').toList)) (by rfl) (by rfl) (fun W hW hp=>?_) (fun (p7:Option Addr×Nat)=>?_)
         ·rw[hRR.out] at hW ⊢
          obtain⟨i0,hi,hz0,hz1,hz2⟩:=info_parts Tryz.info_vol
          obtain⟨hcells,_⟩:=(hp 6 (by decide)).1
          obtain⟨v2,w',hrun,hD,hR'⟩:=ZY (P:=Tryz.prog) (lo:=w5.heap.size) W 107 107 i0 _ 24 Tryz.underlying107 hi hz0 hz1 hz2 rfl (by decide) (hW.2.1 V5.own) ⟨pb,0,none⟩ 1 1 (XS v').toList rfl (VV hcells) (by simp[Value.oneCell']) (by omega) (by decide) (by have:=hW.1.size;omega) hW.1.size
          obtain⟨A2,c2,rfl,_,_⟩:=qw hD.1
          refine Qa (u:=.slice A2 (vs.length+1) c2) (w':=w') ?_ ⟨(A2,c2),rfl,hD,hR'⟩
          exact QQ (s:=.tmp 67) (x:=.tmp 69) rfl rfl rfl hrun
         obtain⟨A2,c2⟩:=p7
         simp only[Act.put,qi,qe,qb,qg,qb,qY,QO,zA,zB,zC]
         repeat ((first|(refine qf ?_ (by rfl) (by rfl) (fun W hW _=>⟨W,?_,Rel.refl _ W⟩) ?_;rotate_left;(first|(go_simp;with_reducible rfl)|(go_simp;done)))|(refine qj (by rfl) ?_));try simp only[Act.put,qi,qe,qb,qg,qb,qY,QO,zA,zB,zC])
         refine qD (hK _ _ fun W hW hF=>?_)
         have hD:=(hF 7).1
         clear hF hK gV gv
         rw[hRR.out] at hW
         change XT _ _ _ _ _ _ _ _ W at hD
         dsimp only[List.drop,List.length_cons,List.length_nil]
         have TW:=V5.t.grown hW.1 (fun q hq=>(hol q hq).1)
         have T6:=TW.setVol (.slice A2 (vs.length+1) c2)
         have own6:=QR hD.1 (p:=⟨p.cb,518,none⟩) hcb5 (.slice A2 (vs.length+1) c2)
         have hcw:p.cb<w.heap.size:=Nat.lt_of_lt_of_le hcb5 HI.out.t.off.size
         have q6:(W.setCell ⟨p.cb,518,none⟩ (.slice A2 (vs.length+1) c2)).heap[w.heap.size]?=_:=(Below.heap_setCell _ _ _ _ (by show w.heap.size≠p.cb;omega)).trans (jb hW (fun e=>(hnq.out _ e).1 rfl) q5)
         have n6:(W.setCell ⟨p.cb,518,none⟩ (.slice A2 (vs.length+1) c2)).heap[w.heap.size+1]?=_:=(Below.heap_setCell _ _ _ _ (by show w.heap.size+1≠p.cb;omega)).trans (jb hW (fun e=>(hnq.out _ e).2 rfl) nr5)
         have F6:=((F.out.ext x5).grown hnew.out hW.1).setC (i:=518) (u:=.slice A2 (vs.length+1) c2)
         have N6:vA vv0 w.heap.size (.slice A2 (vs.length+1) c2):=vA.trans hnew.out (n':=w5.heap.size) hD.2 (by have:=F.out.size;have:=x5.size;omega)
         have B6:∀ q,(Value.slice A2 (vs.length+1) c2).ownBlock=some q→q≠w.heap.size∧q≠w.heap.size+1:=by
          intro q hq
          rcases hD.2 with e|⟨g,e,e2⟩
          ·exact hnq.out q (e ▸ hq)
          ·rw[e] at hq
           cases hq
           have:=x5.size
           omega
         have kc:=qa TW.row
         have kv:=TW.ar.vol
         have fc:=qd TW.row
         have IR:VRel p w1 refs nodes (qC s1 s2 s3 s4 gen root next dead) next vs0 xs h (some ⟨b9,off9,none⟩) c vv0 w (.int .i64 ((k:Int)+1)) (W.setCell ⟨p.cb,518,none⟩ (.slice A2 (vs.length+1) c2)):=by
          refine⟨k+1,vs++[v'],_,_,hlt',rfl,?_,?_,⟨T6,?_⟩,F6,N6,B6,q6,n6⟩
          ·rw[hstep.out,if_pos ⟨hok.out,h16'.out⟩,hve.out]
          ·rw[List.length_append,List.length_singleton]
           have:=h16'.out
           omega
          ·rw[List.length_append,List.length_singleton,XK]
           exact own6
         replace IR:=zH IR
         clear T6 own6 q6 n6 F6 N6 B6 hW hD q5 nr5 V5 r5 x5 x4 x45
         replace TW:=zH TW
         go_wp2
         refine Qw ?_
         go_wp2_with fail
         refine⟨IR.out,?_⟩
         simp[intOf]
         omega
       ·have hf1:((vs.length:Int) == 16)=true:=by rw[beq_iff_eq];omega
        have HB:=HB8.out (fun hh=>hh.2 h16)
        replace HB:=zH HB
        replace hid:=zH hid
        replace hgd:=zH hgd
        replace h16:=zH h16
        clear hi1 hv' V4
        go_wp2_with fail
        go_ret
        exact HB.out _ (x4.trans (Ext.alloc _ _))
     ·have HB:=HB8.out (fun hh=>by have:=hh.1;rw[hgd] at this;simp at this;omega)
      replace HB:=zH HB
      replace hid:=zH hid
      replace hgd:=zH hgd
      clear hv' V4 kc kq4
      go_wp2_with fail
      go_ret
      exact HB.out _ (x4.trans (Ext.alloc _ _))
   ·have hd:decide ((h:Int)>0)=true:=decide_eq_true (by omega)
    have hd2:decide (0<h)=true:=decide_eq_true hh
    replace hh:=zH hh
    obtain⟨h',hh'⟩:∃ h',h=h'+1:=⟨h-1,by have:=hh.out;omega⟩
    obtain⟨b,hxr,hb1,hb2,ys,hnode,hsy⟩:=VN (hh' ▸ HONE.out)
    obtain⟨v9,hv9⟩:=Option.isSome_iff_exists.1 (HKN.out hh.out)
    obtain⟨n9,lv9,ys',A9,c9,f9,l9,b9',e9,-,-,hn9,rfl,hits9,hsp9,hcl9⟩:=hC.out.known _ _ hv9
    obtain rfl:b=n9:=by omega
    rw[hnode,Option.some.injEq,Prod.mk.injEq] at hn9
    obtain⟨e1,rfl⟩:=hn9
    obtain rfl:h'=lv9:=by omega
    have hMAP:=hC.out.map
    have hmay:=(Qn hnode).1
    have hys:=fun y hy=>((Qn hnode).2.1 y hy).1
    have hylen:ys.length≤5:=by unfold qR zN at hmay;simp at hmay;omega
    have hyk:0<h'→∀ y∈ys,(f y.r).isSome=true:=fun h0=>hcl9 (by rw[hsp9.1];exact hsy) h0
    have HN2:=HNODE.out h' ys h' hh' (by rw[hxr,Int.toNat_natCast];exact hnode)
    have HCALL:=HL.out h' hh' ys A9 c9 vs vv ca
    rw[hxr] at d3 hv9
    have hfn:=qdJ
    replace hh':=zH hh'
    replace hxr:=zH hxr
    replace hnode:=zH hnode
    replace hsy:=zH hsy
    replace hits9:=zH hits9
    replace hys:=zH hys
    replace hyk:=zH hyk
    replace HN2:=zH HN2
    replace HCALL:=zH HCALL
    replace hv9:=zH hv9
    clear hsp9 hcl9 hmay e9 e1
    replace hMAP:=zH hMAP
    go_wp2_with fail
    generalize hw3:World.alloc wr _=w3
    have x3:Ext wr w3:=by rw[←hw3];exact Ext.alloc _ _
    have r3:w3.heap[wr.heap.size]?=some (.cells #[.int .u8 x.k,.int .u32 x.i,.int .u32 x.o,.int .i64 b,.slice A' x.val.length c'] 38 (0,0)):=by rw[←hw3];exact World.alloc_heap_at _ _ _ rfl
    clear hw3 d0 d1 d2 d3 d4
    have V3:=V.out.ext x3
    have C3:=V3.t.cen hC.out
    have gP:∀ W,qu.r w3 W→∀ i,W.cell? ⟨w.heap.size,i,none⟩=(qC s1 s2 s3 s4 gen root next dead)[i]?:=fun W h=>qa (qc (qc qr x3) h)
    have gX:∀ W,qu.r w3 W→∀ i,W.cell? ⟨wr.heap.size,i,none⟩=#[.int .u8 x.k,.int .u32 x.i,.int .u32 x.o,.int .i64 b,.slice A' x.val.length c'][i]?:=fun W h=>qa (qc r3 h)
    have gM:∀ W,qu.r w3 W→W.cell? ⟨p.cb,5,none⟩=some (.map (some p.mb)):=fun W h=>by rw[qa (qc C3.row h)];exact C3.c5
    refine qv (by kernel_rfl) ?_
    refine Qu (w:=w3) qu (qE []) [true,true,true,true,true,true,true,true,true,true] 2 (by kernel_rfl) (by kernel_rfl) (by kernel_rfl) (by kernel_rfl) (by kernel_rfl) (by kernel_rfl) (by kernel_rfl) ?st2 (Rel.drew _ _) ?walk2
    case st2=>exact qm (fun _ h=>by cases h)
    case walk2 =>
     intro K hK
     dsimp only[qz]
     repeat ((first|(refine qf ?_ (by rfl) (by rfl) (fun W hW _=>⟨W,?_,Rel.refl _ W⟩) ?_;rotate_left;(first|(go_simp;with_reducible rfl)|(go_simp;done)))|(refine qj (by rfl) ?_));try simp only[Act.put,qi,qe,qb,qg,qb,qY,QO,zA,zB,zC])
     refine qf (zh h' A9 ys.length c9 f9 l9 b9') (by rfl) (by rfl) (fun W hW _=>⟨W,?_,Rel.refl _ W⟩) ?_
     ·have hWx:Ext w3 W:=hW
      have hm:=kN (P:=Tryz.prog) W (C3.ext hWx).map 109 3 159 Tryz.underlying109 Tryz.underlying3 hv9.out
      go_simp
     simp only[Act.put,qi,qe,qb,qg,qb,qY,QO,zA,zB,zC]
     repeat ((first|(refine qf ?_ (by rfl) (by rfl) (fun W hW _=>⟨W,?_,Rel.refl _ W⟩) ?_;rotate_left;(first|(go_simp;with_reducible rfl)|(go_simp;done)))|(refine qj (by rfl) ?_));try simp only[Act.put,qi,qe,qb,qg,qb,qY,QO,zA,zB,zC])
     refine qD (hK _ _ fun W hW hF=>?_)
     have hWx:Ext w3 W:=hW
     have x4:=x3.trans hWx
     clear hF hK gP gX gM hfn
     dsimp only[List.drop,List.length_cons,List.length_nil]
     have VW:=V.out.ext x4
     have qW:=qc qr x4
     have nW:=qc nr x4
     clear hW hWx x3 r3 V3 C3
     replace VW:=zH VW
     go_wp2_with fail
     refine(HCALL.out W VW.out hvs.out hys.out hylen hits9.out hsy.out hyk.out).mono ?_
     rintro e w6 ⟨F6,hm⟩
     have hstep:zR next vs0 (qS p.S h (xs.take (k+1)))=zR next vs (qS p.S h' ys):=by
      rw[HN2.out,jT,hgo.out]
      rfl
     have FW:=(F.out.ext x4).trans F6 hnew.out
     have hcw:p.cb<w.heap.size:=Nat.lt_of_lt_of_le V.out.t.lt HI.out.t.off.size
     have hzW:w.heap.size+1<W.heap.size:=(zG.1 nW).1
     have q6:=(F6.block w.heap.size (by omega) (by omega) (fun e=>(hnq.out _ e).1 rfl)).trans qW
     have n6:=(F6.block (w.heap.size+1) (by omega) (by omega) (fun e=>(hnq.out _ e).2 rfl)).trans nW
     rcases hg6:zR next vs (qS p.S h' ys) with _|vs'
     ·rw[hg6] at hm hstep
      obtain rfl:e=.returned (.int .i64 8):=hm
      have HB:VolsQ p w1 refs nodes next vs0 (qS p.S h xs) vv0 w (.returned (.int .i64 8)) w6:=⟨FW,by rw[HBAD.out hstep]⟩
      replace HB:=zH HB
      clear q6 n6 FW F6 hstep x4 qW nW
      go_wp2_with fail
      refine Qw ?_
      go_wp2_with fail
      go_ret
      exact HB.out
     ·rw[hg6] at hm hstep
      obtain⟨rfl,vv',ca',V6,N6⟩:=hm
      have IR:VRel p w1 refs nodes (qC s1 s2 s3 s4 gen root next dead) next vs0 xs h (some ⟨b9,off9,none⟩) c vv0 w (.int .i64 ((k:Int)+1)) w6:=by
       refine⟨k+1,vs',vv',ca',hlt',rfl,hstep,KU next _ _ _ hvs.out hg6,V6,FW,vA.trans hnew.out N6 (by omega),fun q hq=>?_,q6,n6⟩
       rcases N6 with e|⟨g,e,e2⟩
       ·exact hnq.out q (e ▸ hq)
       ·rw[e] at hq
        cases hq
        omega
      replace IR:=zH IR
      clear q6 n6 FW F6 hstep x4 qW nW V6 N6
      go_wp2_with fail
      refine Qw ?_
      go_wp2_with fail
      refine⟨IR.out,?_⟩
      simp[intOf]
      omega
  ·have hke:k=xs.length:=by omega
   have HQ:VolsQ p w1 refs nodes next vs0 (qS p.S h xs) vv0 w (.returned (.int .i64 0)) wr:=by
    rw[hke,List.take_length] at hgo
    exact⟨F,by rw[hgo];exact⟨rfl,vv,ca,V,hnew⟩⟩
   replace HQ:=zH HQ
   replace V:=zH V
   replace F:=zH F
   replace hnew:=zH hnew
   replace hnq:=zH hnq
   replace hgo:=zH hgo
   replace hke:=zH hke
   clear qr nr
   go_wp2
   go_ret
   exact HQ.out
end Go.Proofs.YtckhnchnbeoogaaGreat
