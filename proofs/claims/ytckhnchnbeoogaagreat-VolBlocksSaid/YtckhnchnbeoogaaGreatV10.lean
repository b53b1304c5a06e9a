/- Texts Room, Read8, Bench, BackW, joined. -/
import Derived.Test.YtckhnchnbeoogaaGreatV09
set_option linter.unusedSimpArgs false
set_option linter.unusedVariables false
namespace Go.Proofs.YtckhnchnbeoogaaGreat
open Go.RowKit
structure Sto where
 bs:List (List UInt8)
 ws:List (Int×List UInt8)
 now:List UInt8
 last:List UInt8
def qB (S:Sto):Bool:=Qe S.bs S.ws && (QJ S.now && QJ S.last)
abbrev Qy (A1:Option Addr) (n1 c1:Nat) (A2:Option Addr) (n2 c2:Nat) (A3:Option Addr) (n3 c3:Nat) (A4:Option Addr) (n4 c4:Nat):Value:=.agg #[.slice A1 n1 c1,.slice A2 n2 c2,.slice A3 n3 c3,.slice A4 n4 c4]
structure qH (w:World) (B:Nat) (v1 v2 v3 v4:Value) (S:Sto):Prop where
 bs:Bls w B v1 S.bs
 ws:Wrs w B v2 S.ws
 now:Bys w B v3 S.now
 last:Bys w B v4 S.last
theorem qH.below {w w':World} {B:Nat} {v1 v2 v3 v4:Value} {S:Sto} (h:qH w B v1 v2 v3 v4 S) (hb:Below B w w'):qH w' B v1 v2 v3 v4 S:=⟨h.bs.below hb,h.ws.below hb,h.now.below hb,h.last.below hb⟩
theorem qH.more {w:World} {B B':Nat} {v1 v2 v3 v4:Value} {S:Sto} (h:qH w B v1 v2 v3 v4 S) (hb:B≤B'):qH w B' v1 v2 v3 v4 S:=⟨h.bs.more hb,h.ws.more hb,h.now.more hb,h.last.more hb⟩
theorem qH.ext {w w':World} {v1 v2 v3 v4:Value} {S:Sto} (h:qH w w.heap.size v1 v2 v3 v4 S) (hx:Ext w w'):qH w' w'.heap.size v1 v2 v3 v4 S:=(h.below hx).more hx.size
set_option maxHeartbeats 2000000 in
theorem JQ (A1:Option Addr) (n1 c1:Nat) (A2:Option Addr) (n2 c2:Nat) (A3:Option Addr) (n3 c3:Nat) (A4:Option Addr) (n4 c4:Nat) (S:Sto) (w:World) (h:qH w w.heap.size (.slice A1 n1 c1) (.slice A2 n2 c2) (.slice A3 n3 c3) (.slice A4 n4 c4) S) :
  Calls Tryz.prog 66 #[Qy A1 n1 c1 A2 n2 c2 A3 n3 c3 A4 n4 c4] w (Ret (.int .i64 (kl (qB S))) w):=by
 have HD:=zH (fun W (hW:Ext w W)=>TD A1 n1 c1 A2 n2 c2 S.bs S.ws W (h.ext hW).bs (h.ext hW).ws)
 have HN:=zH (fun W (hW:Ext w W)=>KO (.slice A3 n3 c3) S.now W (h.ext hW).now)
 have HL:=zH (fun W (hW:Ext w W)=>KO (.slice A4 n4 c4) S.last W (h.ext hW).last)
 have hS:qB S=(Qe S.bs S.ws && (QJ S.now && QJ S.last)):=rfl
 rw[hS]
 clear hS h
 generalize Qe S.bs S.ws=d at *
 generalize QJ S.now=n at *
 generalize QJ S.last=l at *
 go_enter Tryz.func66,Tryz.ntmps66
 go_wp2_with fail
 generalize hw1:(World.alloc _ _)=w1
 have x1:Ext w w1:=by rw[←hw1];exact Ext.alloc _ _
 have r1:w1.heap[w.heap.size]?=some (.cells #[.slice A1 n1 c1,.slice A2 n2 c2,.slice A3 n3 c3,.slice A4 n4 c4] 28 (0,0)):=by rw[←hw1];exact World.alloc_heap_at _ _ _ rfl
 clear hw1
 refine(HD.out _ x1).mono ?_
 rintro e w2 ⟨rfl,hB⟩
 have x2:=x1.trans hB
 have r2:=qc r1 hB
 have k2:=qa r2
 clear hB r1 x1 HD
 cases d
 ·go_wp2
  go_ret
  exact⟨rfl,x2⟩
 ·go_wp2_with fail
  refine(HN.out _ x2).mono ?_
  rintro e w3 ⟨rfl,hB⟩
  have x3:=x2.trans hB
  have r3:=qc r2 hB
  have k3:=qa r3
  clear hB r2 x2 k2 HN
  cases n
  ·go_wp2
   go_ret
   exact⟨rfl,x3⟩
  ·go_wp2_with fail
   refine(HL.out _ x3).mono ?_
   rintro e w4 ⟨rfl,hB⟩
   have x4:=x3.trans hB
   clear hB r3 x3 k3 HL
   cases l
   all_goals
    go_wp2
    go_ret
    exact⟨rfl,x4⟩
set_option maxHeartbeats 2000000 in
theorem rmay_any (A1:Option Addr) (n1 c1:Nat) (A2:Option Addr) (n2 c2:Nat) (A3:Option Addr) (n3 c3:Nat) (A4:Option Addr) (n4 c4:Nat) (S:Sto) (w:World) (h:qH w w.heap.size (.slice A1 n1 c1) (.slice A2 n2 c2) (.slice A3 n3 c3) (.slice A4 n4 c4) S) :
  Calls Tryz.prog 105 #[Qy A1 n1 c1 A2 n2 c2 A3 n3 c3 A4 n4 c4] w (Ret (.bool (qB S)) w):=by
 have HD:=zH (fun W (hW:Ext w W)=>dmay_any A1 n1 c1 A2 n2 c2 S.bs S.ws W (h.ext hW).bs (h.ext hW).ws)
 have HN:=zH (fun W (hW:Ext w W)=>qby (.slice A3 n3 c3) S.now W (h.ext hW).now)
 have HL:=zH (fun W (hW:Ext w W)=>qby (.slice A4 n4 c4) S.last W (h.ext hW).last)
 have hS:qB S=(Qe S.bs S.ws && (QJ S.now && QJ S.last)):=rfl
 rw[hS]
 clear hS h
 generalize Qe S.bs S.ws=d at *
 generalize QJ S.now=n at *
 generalize QJ S.last=l at *
 go_enter Tryz.func105,Tryz.ntmps105
 go_wp2_with fail
 generalize hw1:(World.alloc _ _)=w1
 have x1:Ext w w1:=by rw[←hw1];exact Ext.alloc _ _
 have r1:w1.heap[w.heap.size]?=some (.cells #[.slice A1 n1 c1,.slice A2 n2 c2,.slice A3 n3 c3,.slice A4 n4 c4] 28 (0,0)):=by rw[←hw1];exact World.alloc_heap_at _ _ _ rfl
 clear hw1
 refine(HD.out _ x1).mono ?_
 rintro e w2 ⟨rfl,hB⟩
 have x2:=x1.trans hB
 have r2:=qc r1 hB
 have k2:=qa r2
 clear hB r1 x1 HD
 cases d
 ·go_wp2
  go_ret
  exact⟨rfl,x2⟩
 ·go_wp2_with fail
  refine(HN.out _ x2).mono ?_
  rintro e w3 ⟨rfl,hB⟩
  have x3:=x2.trans hB
  have r3:=qc r2 hB
  have k3:=qa r3
  clear hB r2 x2 k2 HN
  cases n
  ·go_wp2
   go_ret
   exact⟨rfl,x3⟩
  ·go_wp2_with fail
   refine(HL.out _ x3).mono ?_
   rintro e w4 ⟨rfl,hB⟩
   have x4:=x3.trans hB
   clear hB r3 x3 k3 HL
   cases l
   all_goals
    go_wp2
    go_ret
    exact⟨rfl,x4⟩
def Za (ws:List (Int×List UInt8)) (a:Int):Option (List UInt8):=(ws.reverse.find? fun p=>p.1 == a).map (·.2)
def Zi (S:Sto) (a:Nat):List UInt8:=match Za S.ws a with|some l=>l|none=>S.bs[a]?.getD []
theorem Jd {ws:List (Int×List UInt8)} {a:Int} {k:Nat} (h:k<ws.length):Za (ws.take (k+1)) a=if ws[k].1=a then some ws[k].2 else Za (ws.take k) a:=by
 unfold Za
 rw[List.take_succ_eq_append_getElem h,List.reverse_append,List.reverse_singleton,List.singleton_append,List.find?_cons]
 by_cases h1:ws[k].1=a
 ·rw[if_pos h1];simp[h1]
 ·rw[if_neg h1]
  have:(ws[k].1 == a)=false:=by simpa using h1
  rw[this]
set_option maxHeartbeats 2000000 in
theorem qaS (A1:Option Addr) (n1 c1:Nat) (A2:Option Addr) (n2 c2:Nat) (S:Sto) (a:Nat) (ha:a<S.bs.length) (hw4:S.ws.length≤4096) (w:World) (hb:Bls w w.heap.size (.slice A1 n1 c1) S.bs) (hw:Wrs w w.heap.size (.slice A2 n2 c2) S.ws) :
  Calls Tryz.prog 48 #[Zw A1 n1 c1 A2 n2 c2,.int .i64 (a:Int)] w (zE (fun u W=>Bys W W.heap.size u (Zi S a)) w):=by
 obtain⟨e1,hc1,hm1,hA1⟩:=hb.at_
 obtain⟨e2,hc2,hm2,hA2⟩:=hw.at_
 subst e1
 subst e2
 have HB:=zH hb
 have HW:=zH hw
 have HL:=zH (fun k (h:k<S.ws.length)=>@Jd S.ws a k h)
 have HE:Hid (S.ws.take S.ws.length=S.ws):=zH (List.take_length)
 have HS:Hid (Zi S a=match Za S.ws a with|some l=>l|none=>S.bs[a]?.getD []):=rfl
 obtain⟨b1,o1,rfl,hb1⟩:=hA1 (by omega)
 have ha1:S.bs[a]?.getD []=S.bs[a]:=by rw[List.getElem?_eq_getElem ha];rfl
 rw[ha1] at HS
 clear hb hw hA1 ha1
 unfold maxLen at hm1
 go_enter Tryz.func48,Tryz.ntmps48
 go_wp2
 generalize hw1:(World.alloc _ _)=w1
 have x1:Ext w w1:=by rw[←hw1];exact Ext.alloc _ _
 have r1:w1.heap[w.heap.size]?=some (.cells #[.slice (some ⟨b1,o1,none⟩) S.bs.length c1,.slice A2 S.ws.length c2] 25 (0,0)):=by rw[←hw1];exact World.alloc_heap_at _ _ _ rfl
 clear hw1
 go_loopw [5] (fun i wr=>∃ k:Nat,k≤S.ws.length∧i=.int .i64 ((k:Int)-1)∧Za S.ws a=Za (S.ws.take k) a∧Ext w1 wr) (fun i _=>(intOf i+1).toNat)
 case atStart=>exact⟨S.ws.length,by omega,by go_num,by rw[HE.out],Ext.refl _⟩
 case round =>
  obtain⟨k,hk,rfl,hok,hE⟩:=hrel
  have hEw:=x1.trans hE
  have rr:=qc r1 hE
  have kr:=qa rr
  rcases k with _|k
  ·have hnone:Za S.ws a=none:=by rw[hok];rfl
   have hsb:Zi S a=S.bs[a]:=by rw[HS.out,hnone]
   obtain⟨A',c',hc,hby⟩:=((HB.out.below hEw).more hEw.size).get a ha
   replace hsb:=zH hsb
   replace hok:=zH hok
   clear hnone
   go_wp2
   go_ret
   exact⟨_,rfl,by rw[hsb.out];exact hby,hEw⟩
  ·have hlt:k<S.ws.length:=by omega
   have hlt':=hlt
   obtain⟨b2,o2,rfl,hb2⟩:=hA2 (by omega)
   obtain⟨A',c',hca,hcb,hby⟩:=((HW.out.below hEw).more hEw.size).get k hlt
   have hl:=HL.out k hlt
   have hsn:S.ws[k].1=(a:Int)→Zi S a=S.ws[k].2:=fun h=>by rw[HS.out,hok,hl,if_pos h]
   have hsk:¬S.ws[k].1=(a:Int)→Za S.ws a=Za (S.ws.take k) a:=fun h=>by rw[hok,hl,if_neg h]
   replace hok:=zH hok
   replace hby:=zH hby
   replace hsn:=zH hsn
   replace hsk:=zH hsk
   clear hl
   have hk1:((k+1:Nat):Int)-1=(k:Int):=by omega
   rw[hk1]
   generalize S.ws[k].1=q at *
   generalize S.ws[k].2=l at *
   by_cases hq:q=(a:Int)
   ·have hs:=hsn.out hq
    have hqe:(q == (a:Int))=true:=by rw[beq_iff_eq];exact hq
    replace hs:=zH hs
    subst hq
    go_wp2
    go_ret
    exact⟨_,rfl,by rw[hs.out];exact hby.out,hEw⟩
   ·have hqe:(q == (a:Int))=false:=by rw[beq_eq_false_iff_ne];exact hq
    have hs:=hsk.out hq
    replace hs:=zH hs
    go_wp2
    go_roundw
    case rel=>exact⟨k,by omega,by go_num,hs.out,hE⟩
    case measure=>first|(simp[intOf];done)|(simp[intOf];omega)
def qV (S:Sto) (a:Nat):Option (Int×List It):=if (S.now[a]?.getD 0).toNat=0 then none else QC (Zi S a)
theorem qQ {S:Sto} (h:qB S=true):S.bs.length=256∧S.ws.length≤4096∧S.now.length=256∧S.last.length=256:=by
 unfold qB Qe headD QJ at h
 simp at h
 omega
def Node8P (lo:Nat) (q:Option (Int×List It)) (u:Value) (W:World):Prop:=
 match q with
 |none=>u=.tuple #[Zv 0 none 0 0,.bool false]
 |some (lvl,xs)=>∃ A c,u=.tuple #[Zv lvl A xs.length c,.bool true]∧zU lo W (.slice A xs.length c) xs
abbrev GO:Value:=.tuple #[Zv 0 none 0 0,.bool false]
set_option maxHeartbeats 4000000 in
theorem GJ (A1:Option Addr) (n1 c1:Nat) (A2:Option Addr) (n2 c2:Nat) (A3:Option Addr) (n3 c3:Nat) (A4:Option Addr) (n4 c4:Nat) (S:Sto) (hS:qB S=true) (a:Nat) (ha:8≤a) (ha2:a<256) (w:World) (h:qH w w.heap.size (.slice A1 n1 c1) (.slice A2 n2 c2) (.slice A3 n3 c3) (.slice A4 n4 c4) S) :
  Calls Tryz.prog 59 #[Qy A1 n1 c1 A2 n2 c2 A3 n3 c3 A4 n4 c4,.int .i64 (a:Int)] w (zE (Node8P w.heap.size (qV S a)) w):=by
 obtain⟨hl1,hl2,hl3,hl4⟩:=qQ hS
 obtain⟨hn3,hc3,hm3,hA3⟩:=h.now.at_
 obtain⟨b3,o3,rfl,hb3⟩:=hA3 (by omega)
 have hcell:w.cell? ⟨b3,o3+a,none⟩=some (.int .u8 ((S.now[a]?.getD 0).toNat:Int)):=by
  obtain⟨A',c',e,_,_,hr⟩:=h.now
  cases e
  obtain⟨b',off',e,_,hc⟩:=hr.2 (by omega)
  cases e
  exact hc a _ (by rw[List.getElem?_map,List.getElem?_eq_getElem (by omega)];rfl)
 have hN:qV S a=if (S.now[a]?.getD 0).toNat=0 then none else QC (Zi S a):=rfl
 rw[hN]
 have HS:=zH (fun W (hW:Ext w W)=>qaS A1 n1 c1 A2 n2 c2 S a (by omega) hl2 W (h.ext hW).bs (h.ext hW).ws)
 have HR:=zH (fun v W (hv:Bys W W.heap.size v (Zi S a))=>qcP v (Zi S a) W hv)
 generalize Zi S a=l at *
 generalize (S.now[a]?.getD 0).toNat=nw at *
 generalize QC l=R at *
 have hn:n3=256:=by rw[hn3,hl3]
 have hbw:b3≠w.heap.size:=by omega
 clear hN h hn3 hS hl1 hl2 hl3 hl4 hA3
 subst hn
 have hd1:decide ((a:Int)<8)=false:=decide_eq_false (by omega)
 have hd2:decide ((a:Int)≥256)=false:=decide_eq_false (by omega)
 by_cases h0:nw=0
 ·subst h0
  rw[if_pos rfl]
  clear HS HR
  go_enter Tryz.func59,Tryz.ntmps59
  go_wp2
  generalize hwf:(World.alloc _ _)=wf
  have rf:wf.heap[w.heap.size+1]?=some (.cells #[.int .i64 0,.slice none 0 0] 118 (0,0)):=by rw[←hwf];exact World.alloc_heap_at _ _ _ (by simp)
  have bf:Below w.heap.size w wf:=by rw[←hwf];exact(by repeat' (first|with_reducible exact Below.refl _ _|with_reducible assumption|with_reducible apply Below.drew|with_reducible apply qp|with_reducible refine Below.alloc ?_ ?_ _|with_reducible refine Below.setCell ?_ ?_ _|(simp;done)|(simp;omega)|omega))
  have kf:=qa rf
  exact bodyPost_ret (v:=GO) (by simp[results,Tryz.results59,go_sem,kf]) rfl ⟨_,rfl,rfl,bf⟩
 ·rw[if_neg h0]
  have hne:((nw:Int) == 0)=false:=by rw[beq_eq_false_iff_ne];omega
  clear h0
  go_enter Tryz.func59,Tryz.ntmps59
  go_wp2_with fail
  generalize hw1:(World.alloc (World.alloc _ _) _)=w1
  have x1:Ext w w1:=by rw[←hw1];exact(Ext.alloc _ _).trans (Ext.alloc _ _)
  have q1:w1.heap[w.heap.size+1]?=some (.cells #[.int .i64 0,.slice none 0 0] 118 (0,0)):=by rw[←hw1];exact World.alloc_heap_at _ _ _ (by simp)
  clear hw1
  refine(HS.out _ x1).mono ?_
  rintro e w2 ⟨u,rfl,hu,hB⟩
  have x2:=x1.trans hB
  have q2:=qc q1 hB
  clear hB q1 HS
  go_wp2_with fail
  refine(HR.out _ _ hu).mono ?_
  clear HR hu
  rintro e w3 ⟨u3,rfl,hu3,hB⟩
  have x3:=x2.trans hB
  have q3:=qc q2 hB
  have s3:w.heap.size+1<w3.heap.size:=(zG.1 q3).1
  have s2:w.heap.size+1<w2.heap.size:=(zG.1 q2).1
  have k3:=qa q3
  have f3:=qd q3
  have x3':Below w.heap.size w w3:=x3
  clear hB q2
  rcases R with _|⟨lvl,xs⟩
  ·obtain⟨er,hne2,rfl⟩:=hu3
   have hne3:(er == 0)=false:=by rw[beq_eq_false_iff_ne];exact hne2
   go_wp2
   generalize hwf:(World.alloc _ _)=wf
   have rf:wf.heap[w.heap.size+1]?=some (.cells #[.int .i64 0,.slice none 0 0] 118 (0,0)):=by rw[←hwf];exact(Below.heap_alloc _ _ _ (by simpa using s3)).trans (qh (qh q3 0 _) 1 _)
   have bf:Below w.heap.size w wf:=by rw[←hwf];exact(by repeat' (first|with_reducible exact Below.refl _ _|with_reducible assumption|with_reducible apply Below.drew|with_reducible apply qp|with_reducible refine Below.alloc ?_ ?_ _|with_reducible refine Below.setCell ?_ ?_ _|(simp;done)|(simp;omega)|omega))
   have kf:=qa rf
   exact bodyPost_ret (v:=GO) (by simp[results,Tryz.results59,go_sem,kf,hne3]) rfl ⟨_,rfl,rfl,bf⟩
  ·obtain⟨A,c,rfl,hi⟩:=hu3
   go_wp2
   generalize hwf:(World.alloc _ _)=wf
   have rf:wf.heap[w.heap.size+1]?=some (.cells #[.int .i64 lvl,.slice A xs.length c] 118 (0,0)):=by rw[←hwf];exact(Below.heap_alloc _ _ _ (by simpa using s3)).trans (qh (qh q3 0 _) 1 _)
   have bf:Below w.heap.size w wf:=by rw[←hwf];exact(by repeat' (first|with_reducible exact Below.refl _ _|with_reducible assumption|with_reducible apply Below.drew|with_reducible apply qp|with_reducible refine Below.alloc ?_ ?_ _|with_reducible refine Below.setCell ?_ ?_ _|(simp;done)|(simp;omega)|omega))
   have hfi:zU w2.heap.size wf (.slice A xs.length c) xs:=by
    refine hi.keep (by rw[←hwf];simp) (fun p h1 h2=>?_)
    rw[←hwf,World.cell?_alloc_lt _ _ _ (by simpa using h2),World.cell?_setCell_other _ _ _ _ (fun e=>by subst e;simp at h1;omega),World.cell?_setCell_other _ _ _ _ (fun e=>by subst e;simp at h1;omega)]
   have kf:=qa rf
   exact bodyPost_ret (v:=.tuple #[Zv lvl A xs.length c,.bool true]) (by simp[results,Tryz.results59,go_sem,kf]) rfl ⟨_,rfl,⟨A,c,rfl,hfi.mono (by omega)⟩,bf⟩
set_option maxHeartbeats 1000000 in
theorem qbk (A:Option Addr) (n c:Nat) (hn:n≤c) (hc:c≤maxLen) (w:World) :
  Calls Tryz.prog 91 #[.slice A n c] w (Ret (.slice A n n) w):=by
 unfold maxLen at hc
 go_enter Tryz.func91,Tryz.ntmps91
 have h1:(n:Int)≤(c:Int):=by omega
 have h2:(0:Int)≤(n:Int):=by omega
 go_wp2
 go_ret
 exact⟨rfl,Below.refl _ _⟩
def OnB (lo b:Nat) (v1 v2 v3 v4:Value) (S:Sto) (W:World):Prop:=lo≤b∧W.heap[b]?=some (.cells #[v1,v2,v3,v4] 167 (0,0))∧qH W W.heap.size v1 v2 v3 v4 S
theorem Wrs.clip {w:World} {B:Nat} {A:Option Addr} {n c:Nat} {ws:List (Int×List UInt8)} (h:Wrs w B (.slice A n c) ws):Wrs w B (.slice A n n) ws:=by
 obtain⟨ps,e,⟨A',c',e1,e2,e3,hr⟩,hp⟩:=h
 cases e1
 exact⟨ps,e,⟨_,_,rfl,Nat.le_refl _,by omega,hr⟩,hp⟩
set_option maxHeartbeats 2000000 in
set_option maxRecDepth 100000 in
theorem on_any (A1:Option Addr) (n1 c1:Nat) (A2:Option Addr) (n2 c2:Nat) (A3:Option Addr) (n3 c3:Nat) (A4:Option Addr) (n4 c4:Nat) (S:Sto) (hl:S.now.length<1073741824) (w:World) (h:qH w w.heap.size (.slice A1 n1 c1) (.slice A2 n2 c2) (.slice A3 n3 c3) (.slice A4 n4 c4) S) :
  Calls Tryz.prog 55 #[Qy A1 n1 c1 A2 n2 c2 A3 n3 c3 A4 n4 c4] w (zE (fun u W=>∃ b A3' c3',u=.pointer (some ⟨b,0,none⟩)∧OnB w.heap.size b (.slice A1 n1 c1) (.slice A2 n2 n2) (.slice A3' n3 c3') (.slice A4 n4 c4) S W∧QD w.heap.size (.slice A3' n3 c3')) w):=by
 have hn3:Hid (n3=S.now.length):=zH h.now.at_.1
 obtain⟨-,h2a,h2b,-⟩:=h.ws.at_
 have HC:=zH (fun W (hW:Ext w W)=>Zh (.slice A3 n3 c3) S.now hl W (h.ext hW).now)
 replace h:=zH h
 go_enter Tryz.func55,Tryz.ntmps55
 go_wp2_with fail
 generalize hw1:(World.alloc _ _)=w1
 have x1:Ext w w1:=by rw[←hw1];exact Ext.alloc _ _
 have r1:w1.heap[w.heap.size]?=some (.cells #[.slice A1 n1 c1,.slice A2 n2 c2,.slice A3 n3 c3,.slice A4 n4 c4] 28 (0,0)):=by rw[←hw1];exact World.alloc_heap_at _ _ _ rfl
 clear hw1
 refine(HC.out _ x1).mono ?_
 rintro e w2 ⟨u,rfl,hu,hB⟩
 have x2:=x1.trans hB
 have r2:=qc r1 hB
 have hby:=Bys.of_own hu
 have hfr:=QD.of_own hu
 have s1:w.heap.size<w1.heap.size:=(zG.1 r1).1
 obtain⟨A3',c3',rfl,_,_⟩:=qw hu
 have k2:=qa r2
 have f2:=qd r2
 clear hB r1 HC hu
 rw[←hn3.out] at hby hfr ⊢
 go_wp2_with fail
 have hby3:=hby.setCell hfr (p:=⟨w.heap.size,2,none⟩) s1 (.slice A3' n3 c3')
 generalize hw3:(World.setCell _ _ _)=w3 at *
 have x3:Ext w w3:=by rw[←hw3];exact Below.setCell x2 (p:=⟨w.heap.size,2,none⟩) (Nat.le_refl _) _
 have r3:w3.heap[w.heap.size]?=some (.cells #[.slice A1 n1 c1,.slice A2 n2 c2,.slice A3' n3 c3',.slice A4 n4 c4] 28 (0,0)):=by rw[←hw3];exact qh r2 2 _
 have hz3:w3.heap.size=w2.heap.size:=by rw[←hw3];simp
 rw[←hz3] at hby3
 clear hw3 k2 f2 r2 x2 hby
 refine(qbk A2 n2 c2 h2a h2b _).mono ?_
 rintro e w4 ⟨rfl,hB⟩
 have x4:=x3.trans hB
 have r4:=qc r3 hB
 have hby4:=(hby3.below hB).more hB.size
 have k4:=qa r4
 have f4:=qd r4
 have s4:w.heap.size<w4.heap.size:=(zG.1 r4).1
 clear hB r3 x3 hby3
 go_wp2
 have hfrw:QD w.heap.size (.slice A3' n3 c3'):=hfr.mono (by omega)
 have hby5:=hby4.setCell hfr (p:=⟨w.heap.size,1,none⟩) s1 (.slice A2 n2 n2)
 have bf:Below w.heap.size w ((w4.setCell ⟨w.heap.size,1,none⟩ (.slice A2 n2 n2)).alloc (.cells #[.slice A1 n1 c1,.slice A2 n2 n2,.slice A3' n3 c3',.slice A4 n4 c4] 167)):=by
  have x4':Below w.heap.size w w4:=x4
  exact(by repeat' (first|with_reducible exact Below.refl _ _|with_reducible assumption|with_reducible apply Below.drew|with_reducible apply qp|with_reducible refine Below.alloc ?_ ?_ _|with_reducible refine Below.setCell ?_ ?_ _|(simp;done)|(simp;omega)|omega))
 go_ret
 refine⟨_,rfl,⟨w4.heap.size,A3',c3',rfl,⟨by omega,World.alloc_heap_at _ _ _ (by simp),?_⟩,hfrw⟩,bf⟩
 have h0:=(h.out.below bf).more bf.size
 refine⟨h0.bs,h0.ws.clip,?_,h0.last⟩
 exact(hby5.below (Below.alloc (Below.refl _ _) (by simp) _)).more (by simp)
end Go.Proofs.YtckhnchnbeoogaaGreat
namespace Go.Proofs.YtckhnchnbeoogaaGreat
open Go.RowKit Go.Shelf
attribute [local go_sem] Oper.semAt_some
abbrev Sl:Type:=Option Addr×Nat×Nat
abbrev sv (s:Sl):Value:=.slice s.1 s.2.1 s.2.2
abbrev W2:Type:=Int×Sl
abbrev w2z:W2:=(0,none,0,0)
set_option maxRecDepth 100000 in
set_option maxHeartbeats 1000000 in
theorem backW_in (n:Nat) (hn:1≤n) (l Bs b off len cap:Nat) (us:List W2) (hreach:len<1099511627776) (J Jx:List (Nat×W2)→World→Prop)
  (hY:∀ pre x W,J pre W→pre.length<len→YieldAt Fence.wide (n-1) Tryz.prog l #[.int .i64 (x.1:Int),.agg #[.int .i64 x.2.1,sv x.2.2]] W fun e W' =>
   (e=.returned (.bool true)∧J (pre++[x]) W'∧QW Bs b W W')∨(e=.returned (.bool false)∧Jx (pre++[x]) W'))
  (W:World) (hBs:W.cell? ⟨Bs,0,none⟩=some (.slice (some ⟨b,off,none⟩) len cap)) (hc:∀ i,i<len→W.cell? ⟨b,off+i*2,none⟩=some (.int .i64 (us[i]?.getD w2z).1)∧W.cell? ⟨b,off+i*2+1,none⟩=some (sv (us[i]?.getD w2z).2)) (h0:J [] W) :
  CallsIn Fence.wide n Tryz.prog 112 #[.func (.yield l) #[] #[],.pointer (some ⟨Bs,0,none⟩)] W fun e W'=>(∃ v,e=.returned v) ∧
   ((∃ ys,ys=jW (fun j=>(len-1-j,us[len-1-j]?.getD w2z)) len∧J ys W')∨(∃ pre,(∃ k,k≤len∧pre=jW (fun j=>(len-1-j,us[len-1-j]?.getD w2z)) k)∧Jx pre W')):=by
 refine callsIn_of_wp Tryz.func112 rfl trivial ?_ rfl
 simp only[Tryz.ntmps112,List.size_toArray,List.length_cons,List.length_nil,Nat.reduceAdd,Nat.reduceSub,Array.replicate_succ,Array.replicate_zero,List.push_toArray,List.append_toArray,List.nil_append,List.cons_append]
 gi_wp2
 gi_loopw [3] (fun i wr=>∃ k:Nat,k≤len∧i=.int .i64 ((len:Int)-1-k)∧J (jW (fun j=>(len-1-j,us[len-1-j]?.getD w2z)) k) wr∧QW Bs b W wr)
  (fun i _=>(intOf i+1).toNat)
 case atStart=>exact⟨0,Nat.zero_le _,by simp,h0,QW.refl _ _ _⟩
 case round =>
  obtain⟨k,hk,rfl,hJs,hnx⟩:=hrel
  have hBr:wr.cell? ⟨Bs,0,none⟩=some (.slice (some ⟨b,off,none⟩) len cap):=(World.cell?_of_block (w:=W) hnx.1).trans hBs
  by_cases hlt:k<len
  ·have hcx:=(World.cell?_of_block (w:=W) (a:=⟨b,off+(len-1-k)*2,none⟩) hnx.2).trans (hc (len-1-k) (by omega)).1
   have hcy:=(World.cell?_of_block (w:=W) (a:=⟨b,off+(len-1-k)*2+1,none⟩) hnx.2).trans (hc (len-1-k) (by omega)).2
   obtain⟨fn,tmps,assign,body,hy,hR⟩:=hY _ (len-1-k,us[len-1-k]?.getD w2z) wr hJs (by rw[kI];exact hlt)
   dsimp only at hy
   obtain⟨i,hi⟩:∃ i:Nat,len-1-k=i:=⟨_,rfl⟩
   have hi2:(len:Int)-1-k=(i:Int):=by omega
   have hil:i<len:=by omega
   have hik:k+i+1≤len∧len≤k+i+1:=by omega
   have HU:=zH (kT (fun j=>(len-1-j,us[len-1-j]?.getD w2z)) k)
   obtain⟨u,hu⟩:∃ u,us[i]?.getD w2z=u:=⟨_,rfl⟩
   rw[hi] at hcx hcy hy hR
   rw[hu] at hcx hcy hy hR
   rw[hi2]
   clear hi2
   have HE:=zH hu
   clear hu
   have HI:=zH hi
   clear hi
   gi_wp2
   refine hR.mono ?_
   rintro e W3 (⟨rfl,hJ3,hk3⟩|⟨rfl,hJx3⟩)
   ·gi_wp2
    go_roundw
    case rel=>exact⟨k+1,by omega,by go_num,by rw[HU.out,HI.out,HE.out];exact hJ3,hnx.t hk3⟩
    case measure=>simp[intOf]
   ·gi_wp2
    refine bodyPost_ret (results_none rfl _ _ _) rfl ?_
    exact⟨⟨_,rfl⟩,.inr ⟨_,⟨k+1,by omega,by rw[HU.out,HI.out,HE.out]⟩,hJx3⟩⟩
  ·obtain rfl:k=len:=by omega
   gi_wp2
   go_end0
   exact⟨⟨_,rfl⟩,.inl ⟨_,rfl,hJs⟩⟩
set_option maxRecDepth 100000 in
set_option maxHeartbeats 1000000 in
theorem qam (n l Bs c:Nat) (A:Option Addr) (J:List (Nat×W2)→World→Prop) (W:World) (hBs:W.cell? ⟨Bs,0,none⟩=some (.slice A 0 c)) (h0:J [] W) :
  CallsIn Fence.wide n Tryz.prog 112 #[.func (.yield l) #[] #[],.pointer (some ⟨Bs,0,none⟩)] W fun e W'=>(∃ v,e=.returned v)∧J [] W':=by
 refine callsIn_of_wp Tryz.func112 rfl trivial ?_ rfl
 simp only[Tryz.ntmps112,List.size_toArray,List.length_cons,List.length_nil,Nat.reduceAdd,Nat.reduceSub,Array.replicate_succ,Array.replicate_zero,List.push_toArray,List.append_toArray,List.nil_append,List.cons_append]
 gi_wp2
 gi_loopw [3] (fun i wr=>i=.int .i64 (-1)∧J [] wr) (fun _ _=>0)
 case atStart=>exact⟨rfl,h0⟩
 case round =>
  obtain⟨rfl,hJs⟩:=hrel
  gi_wp2
  go_end0
  exact⟨⟨_,rfl⟩,hJs⟩
def Ya (us:List W2) (k:Nat):List (Nat×W2):=jW (fun j=>(us.length-1-j,us[us.length-1-j]?.getD w2z)) k
def SW (W:World) (Bs b:Nat) (v:Value) (us:List W2):Prop:=
 W.cell? ⟨Bs,0,none⟩=some v∧((us=[]∧∃ A c,v=.slice A 0 c)∨∃ off cap,v=.slice (some ⟨b,off,none⟩) us.length cap∧∀ i,i<us.length→W.cell? ⟨b,off+i*2,none⟩=some (.int .i64 (us[i]?.getD w2z).1)∧W.cell? ⟨b,off+i*2+1,none⟩=some (sv (us[i]?.getD w2z).2))
theorem SW.keep {W W':World} {Bs b:Nat} {v:Value} {us:List W2} (h:SW W Bs b v us) (hk:QW Bs b W W'):SW W' Bs b v us:=by
 refine⟨(World.cell?_of_block (w:=W) hk.1).trans h.1,?_⟩
 rcases h.2 with h|⟨off,cap,e,hc⟩
 ·exact .inl h
 ·exact .inr ⟨off,cap,e,fun i hi=>⟨(World.cell?_of_block (w:=W) hk.2).trans (hc i hi).1,(World.cell?_of_block (w:=W) hk.2).trans (hc i hi).2⟩⟩
theorem qbP (n:Nat) (hn:1≤n) (Bs b:Nat) (v:Value) (us:List W2) (hreach:us.length<1099511627776) (w:World) (hBs:Bs<w.heap.size) (hb:b<w.heap.size) (hS:SW w Bs b v us) :
  SeqStopsK Fence.wide n Tryz.prog 112 #[.pointer (some ⟨Bs,0,none⟩)] (fun x:Nat×W2=>#[.int .i64 (x.1:Int),.agg #[.int .i64 x.2.1,sv x.2.2]]) (QW Bs b) (fun ys=>ys=Ya us us.length)
   (fun pre=>∃ k,k≤us.length∧pre=Ya us k) us.length w:=fun l J Jx W hW _ _ hY h0=>by
 obtain⟨hc,h⟩:=hS.keep (QW.below hW hBs hb)
 rcases h with ⟨rfl,A,c,rfl⟩|⟨off,cap,rfl,hcs⟩
 ·exact(qam n l Bs c A J W hc h0).mono fun e W' ⟨he,hj⟩=>⟨he,.inl ⟨_,rfl,hj⟩⟩
 ·exact backW_in n hn l Bs b off us.length cap us hreach J Jx hY W hc hcs h0
set_option maxHeartbeats 1000000 in
theorem Ku (A:Option Addr) (m c:Nat) (w:World) :
  Calls Tryz.prog 86 #[.slice A m c] w (fun e w'=>e=.returned (.func (.func 112) #[] #[.pointer (some ⟨w.heap.size,0,none⟩)])∧w'=w.alloc (.cells #[.slice A m c] 23)):=by
 go_enter Tryz.func86,Tryz.ntmps86
 go_wp2
 go_ret
 exact⟨rfl,rfl⟩
end Go.Proofs.YtckhnchnbeoogaaGreat
