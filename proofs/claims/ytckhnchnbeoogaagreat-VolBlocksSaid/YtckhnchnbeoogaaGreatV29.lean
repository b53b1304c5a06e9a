/- Texts BackN, DRead, VDat, DDat17, SpoilW, joined. -/
import Derived.Test.YtckhnchnbeoogaaGreatV10
import Derived.Test.YtckhnchnbeoogaaGreatV11
import Derived.Test.YtckhnchnbeoogaaGreatV17
import Derived.Test.YtckhnchnbeoogaaGreatV18
import Derived.Test.YtckhnchnbeoogaaGreatV20
import Derived.Test.YtckhnchnbeoogaaGreatV21
import Derived.Test.YtckhnchnbeoogaaGreatV22
import Derived.Test.YtckhnchnbeoogaaGreatV28
set_option linter.unusedSimpArgs false
set_option linter.unusedVariables false
namespace Go.Proofs.YtckhnchnbeoogaaGreat
open Go.RowKit Go.Shelf
attribute [local go_sem] Oper.semAt_some
set_option maxRecDepth 100000 in
set_option maxHeartbeats 1000000 in
theorem backN_in (n:Nat) (hn:1≤n) (l Bs b off len cap:Nat) (us:List W2) (hreach:len<1099511627776) (J Jx:List Nat→World→Prop)
  (hY:∀ pre (x:Nat) W,J pre W→pre.length<len→YieldAt Fence.wide (n-1) Tryz.prog l #[.int .i64 (x:Int),.agg #[.int .i64 (us[x]?.getD w2z).1,sv (us[x]?.getD w2z).2]] W fun e W' =>
   (e=.returned (.bool true)∧J (pre++[x]) W'∧QW Bs b W W')∨(e=.returned (.bool false)∧Jx (pre++[x]) W'))
  (W:World) (hBs:W.cell? ⟨Bs,0,none⟩=some (.slice (some ⟨b,off,none⟩) len cap)) (hc:∀ i,i<len→W.cell? ⟨b,off+i*2,none⟩=some (.int .i64 (us[i]?.getD w2z).1)∧W.cell? ⟨b,off+i*2+1,none⟩=some (sv (us[i]?.getD w2z).2)) (h0:J [] W) :
  CallsIn Fence.wide n Tryz.prog 112 #[.func (.yield l) #[] #[],.pointer (some ⟨Bs,0,none⟩)] W fun e W'=>(∃ v,e=.returned v) ∧
   ((∃ ys,ys=jW (fun j=>len-1-j) len∧J ys W')∨(∃ pre,(∃ k,k≤len∧pre=jW (fun j=>len-1-j) k)∧Jx pre W')):=by
 refine callsIn_of_wp Tryz.func112 rfl trivial ?_ rfl
 simp only[Tryz.ntmps112,List.size_toArray,List.length_cons,List.length_nil,Nat.reduceAdd,Nat.reduceSub,Array.replicate_succ,Array.replicate_zero,List.push_toArray,List.append_toArray,List.nil_append,List.cons_append]
 gi_wp2
 gi_loopw [3] (fun i wr=>∃ k:Nat,k≤len∧i=.int .i64 ((len:Int)-1-k)∧J (jW (fun j=>len-1-j) k) wr∧QW Bs b W wr)
  (fun i _=>(intOf i+1).toNat)
 case atStart=>exact⟨0,Nat.zero_le _,by simp,h0,QW.refl _ _ _⟩
 case round =>
  obtain⟨k,hk,rfl,hJs,hnx⟩:=hrel
  have hBr:wr.cell? ⟨Bs,0,none⟩=some (.slice (some ⟨b,off,none⟩) len cap):=(World.cell?_of_block (w:=W) hnx.1).trans hBs
  by_cases hlt:k<len
  ·have hcx:=(World.cell?_of_block (w:=W) (a:=⟨b,off+(len-1-k)*2,none⟩) hnx.2).trans (hc (len-1-k) (by omega)).1
   have hcy:=(World.cell?_of_block (w:=W) (a:=⟨b,off+(len-1-k)*2+1,none⟩) hnx.2).trans (hc (len-1-k) (by omega)).2
   obtain⟨fn,tmps,assign,body,hy,hR⟩:=hY _ (len-1-k) wr hJs (by rw[kI];exact hlt)
   try dsimp only at hy
   obtain⟨i,hi⟩:∃ i:Nat,len-1-k=i:=⟨_,rfl⟩
   have hi2:(len:Int)-1-k=(i:Int):=by omega
   have hil:i<len:=by omega
   have hik:k+i+1≤len∧len≤k+i+1:=by omega
   have HU:=zH (kT (fun j=>len-1-j) k)
   obtain⟨u,hu⟩:∃ u,us[i]?.getD w2z=u:=⟨_,rfl⟩
   rw[hi] at hcx hcy hy hR
   rw[hu] at hcx hcy hy
   rw[hi2]
   clear hi2
   have HE:=zH hu
   clear hu
   have HI:=zH hi
   clear hi
   gi_wp2
   refine hR.mono ?_
   rintro e W3 (⟨rfl,hJ3,hk3⟩|⟨rfl,hJx3⟩)
   ·gi_wp2
    go_roundw
    case rel=>exact⟨k+1,by omega,by go_num,by rw[HU.out,HI.out];exact hJ3,hnx.t hk3⟩
    case measure=>simp[intOf]
   ·gi_wp2
    refine bodyPost_ret (results_none rfl _ _ _) rfl ?_
    exact⟨⟨_,rfl⟩,.inr ⟨_,⟨k+1,by omega,by rw[HU.out,HI.out]⟩,hJx3⟩⟩
  ·obtain rfl:k=len:=by omega
   gi_wp2
   go_end0
   exact⟨⟨_,rfl⟩,.inl ⟨_,rfl,hJs⟩⟩
set_option maxRecDepth 100000 in
set_option maxHeartbeats 1000000 in
theorem GR (n l Bs c:Nat) (A:Option Addr) (J:List Nat→World→Prop) (W:World) (hBs:W.cell? ⟨Bs,0,none⟩=some (.slice A 0 c)) (h0:J [] W) :
  CallsIn Fence.wide n Tryz.prog 112 #[.func (.yield l) #[] #[],.pointer (some ⟨Bs,0,none⟩)] W fun e W'=>(∃ v,e=.returned v)∧J [] W':=by
 refine callsIn_of_wp Tryz.func112 rfl trivial ?_ rfl
 simp only[Tryz.ntmps112,List.size_toArray,List.length_cons,List.length_nil,Nat.reduceAdd,Nat.reduceSub,Array.replicate_succ,Array.replicate_zero,List.push_toArray,List.append_toArray,List.nil_append,List.cons_append]
 gi_wp2
 gi_loopw [3] (fun i wr=>i=.int .i64 (-1)∧J [] wr) (fun _ _=>0)
 case atStart=>exact⟨rfl,h0⟩
 case round =>
  obtain⟨rfl,hJs⟩:=hrel
  gi_wp2
  go_end0
  exact⟨⟨_,rfl⟩,hJs⟩
theorem qbO (n:Nat) (hn:1≤n) (Bs b:Nat) (v:Value) (us:List W2) (hreach:us.length<1099511627776) (w:World) (hBs:Bs<w.heap.size) (hb:b<w.heap.size) (hS:SW w Bs b v us) :
  SeqStopsK Fence.wide n Tryz.prog 112 #[.pointer (some ⟨Bs,0,none⟩)] (fun x:Nat=>#[.int .i64 (x:Int),.agg #[.int .i64 (us[x]?.getD w2z).1,sv (us[x]?.getD w2z).2]]) (QW Bs b) (fun ys=>ys=jW (fun j=>us.length-1-j) us.length)
   (fun pre=>∃ k,k≤us.length∧pre=jW (fun j=>us.length-1-j) k) us.length w:=fun l J Jx W hW _ _ hY h0=>by
 obtain⟨hc,h⟩:=hS.keep (QW.below hW hBs hb)
 rcases h with ⟨rfl,A,c,rfl⟩|⟨off,cap,rfl,hcs⟩
 ·exact(GR n l Bs c A J W hc h0).mono fun e W' ⟨he,hj⟩=>⟨he,.inl ⟨_,rfl,hj⟩⟩
 ·exact backN_in n hn l Bs b off us.length cap us hreach J Jx hY W hc hcs h0
def atN (ws:List (Int×List UInt8)) (j:Nat):Int:=((ws[j]?).map (·.1)).getD 0
def Uv (ws:List (Int×List UInt8)) (j:Nat):List UInt8:=((ws[j]?).map (·.2)).getD []
theorem Xd (n k j:Nat) (h:j<k):(jW (fun i=>n-1-i) k)[j]?=some (n-1-j):=by
 unfold jW
 rw[List.getElem?_map,List.getElem?_range h];rfl
theorem Yn {ws:List (Int×List UInt8)} {a:Int}:∀ (d m:Nat),m+d=ws.length→(∀ i,m≤i→i<ws.length→atN ws i≠a)→Za ws a=Za (ws.take m) a:=by
 intro d
 induction d with
 |zero=>intro m hm _;rw[show m=ws.length by omega,List.take_length]
 |succ d ih =>
  intro m hm h
  have hne:=h m (Nat.le_refl _) (by omega)
  unfold atN at hne
  rw[List.getElem?_eq_getElem (by omega)] at hne
  rw[ih (m+1) (by omega) (fun i hi hl=>h i (by omega) hl),Jd (by omega)]
  exact if_neg hne
theorem qcx {ws:List (Int×List UInt8)} {a:Int} {k:Nat} {pre:List Nat} {x:Nat} (hk:k≤ws.length) (he:pre++[x]=jW (fun j=>ws.length-1-j) k) (hx:atN ws x=a) (hp:∀ y∈pre,atN ws y≠a):Za ws a=some (Uv ws x):=by
 have hl:pre.length+1=k:=by
  have:=congrArg List.length he
  simpa [jW] using this
 have hxk:x=ws.length-1-pre.length:=by
  have h1:=Xd ws.length k pre.length (by omega)
  rw[←he] at h1
  simpa using h1
 have hxl:x<ws.length:=by omega
 rw[Yn (ws:=ws) (a:=a) pre.length (x+1) (by omega) (fun i h1 h2=>by
  have h3:=Xd ws.length k (ws.length-1-i) (by omega)
  rw[←he,List.getElem?_append_left (by omega),show ws.length-1-(ws.length-1-i)=i by omega] at h3
  exact hp _ (List.mem_of_getElem? h3)),Jd hxl]
 unfold atN at hx
 unfold Uv
 rw[List.getElem?_eq_getElem hxl] at hx ⊢
 exact if_pos hx
theorem qbY {ws:List (Int×List UInt8)} {a:Int} (hp:∀ y∈jW (fun j=>ws.length-1-j) ws.length,atN ws y≠a):Za ws a=none:=by
 rw[Yn (ws:=ws) (a:=a) ws.length 0 (by simp) (fun i _ h2=>by
  have h3:=Xd ws.length ws.length (ws.length-1-i) (by omega)
  rw[show ws.length-1-(ws.length-1-i)=i by omega] at h3
  exact hp _ (List.mem_of_getElem? h3))]
 rfl
theorem Ky {w w':World} {lo:Nat} {e:TypeId} {size:Nat} {v:Value} {n:Nat} {xs:List Value} (h:w.ownsRow lo e size v n xs) (hk:Qv w w'):w'.ownsRow lo e size v n xs:=
 ⟨h.1,h.2.imp id fun ⟨g,cap,cur,h1,h2,h3,h4⟩=>⟨g,cap,cur,h1,h2,hk.row h3,h4⟩⟩
theorem qeS {W W':World} (h:Ext W W'):KeepsOthers W W':=⟨h.size,fun k _ hk _=>(h.block k (zG.1 hk).1).trans hk⟩
def ReadB (b:Nat) (l:List UInt8) (W:World):Prop:=∃ v,W.heap[b+2]?=some (.cells #[v] 26 (0,0))∧W.heap[b+3]?=some (.cells #[.int .i64 0] 39 (0,0))∧W.ownsRow b 5 1 v l.length (l.map bv)
theorem TJ {n b D:Nat} {l:List UInt8} {R:Ending→World→Prop} {a:Act} {W:World} (h4:a.tmps[4]?.getD undef=.pointer (some ⟨b+1+1,0,none⟩)) (h5:a.tmps[5]?.getD undef=.pointer (some ⟨b+1+1+1,0,none⟩)) (hd:a.defers=[{ target:=.collected D,args:=#[] }])
  (hK:W.heap[D]?=some (.deferred (some []))) (hD:b+3<D) (hB:ReadB b l W)
  (hR:∀ v W',W'.ownsRow b 5 1 v l.length (l.map bv)→W'=W.putObj D (.deferred none)→R (.returned (.tuple #[v,.int .i64 0])) W') :
  bodyPostM Fence.wide n Tryz.prog Tryz.f47 R .ret a W:=by
 obtain⟨v,r4,r5,ho⟩:=hB
 have k4:=qa ((World.putObj_heap_other (o:=.deferred none) (show b+2≠D by omega)).trans r4)
 have k5:=qa ((World.putObj_heap_other (o:=.deferred none) (show b+3≠D by omega)).trans r5)
 change LeavesInM Fence.wide n Tryz.prog Tryz.f47 a.tmps R a.defers .returning W
 rw[hd]
 refine⟨by simp,.inl ⟨_,_,rfl,run_takeDeferred hK,.tuple #[v,.int .i64 0],?_,hR v _ (Ky ho ((Qv.refl W).put _ hK rfl)) rfl⟩⟩
 simp[results,Tryz.results47,go_sem,h4,h5,k4,k5]
set_option maxHeartbeats 4000000 in
set_option maxRecDepth 100000 in
theorem qeC (A1:Option Addr) (n1 c1:Nat) (A2:Option Addr) (n2 c2:Nat) (S:Sto) (hS:qB S=true) (m:Nat) (hm:m<256) (w:World) (hb:Bls w w.heap.size (.slice A1 n1 c1) S.bs) (hw:Wrs w w.heap.size (.slice A2 n2 c2) S.ws) :
  Calls Tryz.prog 47 #[Zw A1 n1 c1 A2 n2 c2,.int .i64 (m:Int)] w (zE (fun u W=>∃ v,u=.tuple #[v,.int .i64 0]∧W.ownsRow w.heap.size 5 1 v (Zi S m).length ((Zi S m).map bv)) w):=by
 obtain⟨hl1,hl2,hl3,hl4⟩:=qQ hS
 have hE:Kh (Qe S.bs S.ws) (m:Int)=0:=by
  have:Qe S.bs S.ws=true:=by unfold qB at hS;simp at hS;exact hS.1
  unfold Kh
  rw[if_pos this,if_pos (by omega)]
 have HA:=zH (fun W (hx:Ext w W)=>Uf A1 n1 c1 A2 n2 c2 S.bs S.ws (m:Int) W ((hb.below hx).more hx.size) ((hw.below hx).more hx.size))
 rw[hE] at HA
 clear hE
 have hbl:=zK hS
 have hseen:Zi S m=match Za S.ws m with|some l=>l|none=>S.bs[m]:=by
  unfold Zi;rw[List.getElem?_eq_getElem (by omega)];rfl
 obtain⟨hn1,hc1,hm1,hA1⟩:=hb.at_
 obtain⟨b1,o1,rfl,hb1⟩:=hA1 (by omega)
 obtain⟨A0,c0,hcb,hbyb⟩:=hb.get (bs:=S.bs) m (by omega)
 have hn1':n1=256:=by rw[hn1,hl1]
 have hl0:S.bs[m].length<1000000:=hbl.be _ (List.getElem_mem _)
 have hlws:∀ j,(Uv S.ws j).length<1000000:=fun j=>by
  unfold Uv
  rcases hj:S.ws[j]? with _|p
  ·simp
  ·exact hbl.we p (List.mem_of_getElem? hj)
 generalize S.bs[m]=l0 at *
 generalize Zi S m=l at *
 generalize hwsE:S.ws=ws at *
 obtain⟨ps,hps,⟨A2',c2',e2,hw1,hw2,hw3⟩,hw4⟩:=hw
 rw[←hps] at hseen e2 hw1 hw3 hl2
 clear hn1 hS hl1 hl3 hl4 hA1 hbl hwsE hb
 subst hn1'
 simp only[Value.slice.injEq] at e2
 obtain⟨rfl,hw5,rfl⟩:=e2
 rw[←hw5] at hw1 hw3 hl2
 replace hw5:=zH hw5
 replace hseen:=zH hseen
 have hpl:ps.length=n2:=by rw[hw5.out];simp
 obtain⟨us,hus⟩:∃ us:List W2,us=ps.map fun p=>((p.1.1,KI p.2):W2):=⟨_,rfl⟩
 have hul:us.length=n2:=by rw[hus,List.length_map,hpl]
 have hua:∀ j,(us[j]?.getD w2z).1=atN ws j:=fun j=>by
  unfold atN
  rw[hus,←hps,List.getElem?_map,List.getElem?_map]
  cases ps[j]? <;> rfl
 have hud:∀ j W,Ext w W→Bys W W.heap.size (sv (us[j]?.getD w2z).2) (Uv ws j):=fun j W hx=>by
  unfold Uv
  rw[hus,←hps,List.getElem?_map,List.getElem?_map]
  rcases hj:ps[j]? with _|p
  ·exact⟨none,0,rfl,Nat.le_refl _,by unfold maxLen;omega,by simp,fun hn=>absurd hn (by simp)⟩
  ·obtain⟨⟨A',c',e'⟩,hy⟩:=hw4 p (List.mem_of_getElem? hj)
   have:sv (KI p.2)=p.2:=by rw[e'];rfl
   simp only[Option.map_some,Option.getD_some]
   rw[this]
   exact(hy.below hx).more hx.size
 refine(callsIn_wide (n:=3)).1 ?_
 refine callsIn_of_wp_marks Tryz.func47 rfl trivial ?_ rfl
 simp only[Tryz.ntmps47,List.size_toArray,List.length_cons,List.length_nil,Nat.reduceAdd,Nat.reduceSub,Array.replicate_succ,Array.replicate_zero,List.push_toArray,List.append_toArray,List.nil_append,List.cons_append]
 refine wpIn_wide.2 ?_
 go_wp2_with fail
 generalize hw1':(World.alloc (World.alloc _ _) _)=w1
 have x1:Ext w w1:=by rw[←hw1'];exact(((Ext.alloc _ _).trans (Ext.alloc _ _)).trans (Ext.alloc _ _)).trans (Ext.alloc _ _)
 have s1:w1.heap.size=w.heap.size+4:=by rw[←hw1'];simp
 have ra1:w1.heap[w.heap.size]?=some (.cells #[.slice (some ⟨b1,o1,none⟩) 256 c1,.slice A2 n2 c2] 25 (0,0)):=by rw[←hw1'];exact(Below.heap_alloc _ _ _ (by simp <;> omega)).trans ((Below.heap_alloc _ _ _ (by simp <;> omega)).trans ((Below.heap_alloc _ _ _ (by simp <;> omega)).trans (World.alloc_heap_at _ _ _ rfl)))
 have rb1:w1.heap[w.heap.size+1]?=some (.cells #[.int .i64 (m:Int)] 3 (0,0)):=by rw[←hw1'];exact(Below.heap_alloc _ _ _ (by simp <;> omega)).trans ((Below.heap_alloc _ _ _ (by simp <;> omega)).trans (World.alloc_heap_at _ _ _ (by simp)))
 have rc1:w1.heap[w.heap.size+2]?=some (.cells #[.slice none 0 0] 26 (0,0)):=by rw[←hw1'];exact(Below.heap_alloc _ _ _ (by simp <;> omega)).trans (World.alloc_heap_at _ _ _ (by simp))
 have rd1:w1.heap[w.heap.size+3]?=some (.cells #[.int .i64 0] 39 (0,0)):=by rw[←hw1'];exact World.alloc_heap_at _ _ _ (by simp)
 clear hw1'
 refine(HA.out w1 x1).mono ?_
 clear HA
 rintro e w2 ⟨rfl,hB⟩
 have x2:Ext w w2:=x1.trans hB
 have s2:=hB.size
 have ra2:=qc ra1 hB
 have rb2:=qc rb1 hB
 have rc2:=qc rc1 hB
 have rd2:=qc rd1 hB
 clear hB ra1 rb1 rc1 rd1 x1
 have ka2:=qa ra2
 have kb2:=qa rb2
 go_wp2_with fail
 refine(Ku A2 n2 c2 w2).mono ?_
 rintro e w3 ⟨rfl,rfl⟩
 go_wp2_with fail
 have x5:Ext w2 (w2.alloc (.cells #[.slice A2 n2 c2] 23)):=Ext.alloc _ _
 obtain⟨b2,hb2,hSW⟩:∃ b2,b2<w.heap.size∧SW (w2.alloc (.cells #[.slice A2 n2 c2] 23)) w2.heap.size b2 (.slice A2 n2 c2) us:=by
  have hbox:(w2.alloc (.cells #[.slice A2 n2 c2] 23)).cell? ⟨w2.heap.size,0,none⟩=some (.slice A2 n2 c2):=by rw[qa (World.alloc_heap_at _ _ _ rfl)];rfl
  by_cases hz:n2=0
  ·have:us=[]:=List.length_eq_zero_iff.1 (by omega)
   exact⟨b1,hb1,hbox,.inl ⟨this,A2,c2,by rw[hz]⟩⟩
  ·obtain⟨b2,o2,rfl,hlt,hc⟩:=hw3.2 (by omega)
   refine⟨b2,hlt,hbox,.inr ⟨o2,c2,by rw[hul],fun i hi=>?_⟩⟩
   have hi':i<ps.length:=by omega
   obtain⟨g0,g1⟩:=JM ps i hi'
   have hx:=x2.trans x5
   rw[hus]
   refine⟨?_,?_⟩
   ·rw[Ext.cell hx (hc _ _ g0),List.getElem?_map,List.getElem?_eq_getElem hi'];rfl
   ·obtain⟨⟨A',c',e'⟩,_⟩:=hw4 ps[i] (List.getElem_mem hi')
    rw[Nat.add_assoc,Ext.cell hx (hc _ _ g1),List.getElem?_map,List.getElem?_eq_getElem hi']
    simp only[Option.map_some,Option.getD_some]
    rw[e']
    rfl
 clear hus hw3
 replace hua:=zH hua
 replace hud:=zH hud
 refine(wpIn_wide (n:=3)).1 ?_
 refine wpIn_rangeFunc_ownH rfl (by omega) (gf:=112) (lb:=#[.pointer (some ⟨w2.heap.size,0,none⟩)]) rfl trivial (enters_of Tryz.func112 (by kernel_rfl) rfl)
  (qbO (3-1) (by omega) w2.heap.size b2 _ _ (by rw[hul];omega) _ (by simp) (by simp;omega) hSW) QW.t (QW.b (by simp) (by simp;omega)) (Below.refl _ _) (fun _=>rfl)
  (fun pre W'=>((W'.heap[w.heap.size]?=some (.cells #[.slice (some ⟨b1,o1,none⟩) 256 c1,.slice A2 n2 c2] 25 (0,0))∧W'.heap[w.heap.size+1]?=some (.cells #[.int .i64 (m:Int)] 3 (0,0)))∧((W'.heap[w.heap.size+2]?=some (.cells #[.slice none 0 0] 26 (0,0))∧W'.heap[w.heap.size+3]?=some (.cells #[.int .i64 0] 39 (0,0)))∧W'.heap[w2.heap.size]?=some (.cells #[.slice A2 n2 c2] 23 (0,0))))∧(Below w.heap.size w W'∧∀ y∈pre,atN ws y≠(m:Int)))
  (fun c pre W'=>(∃ pre' x Wb,c=.ret∧pre=pre'++[x]∧atN ws x=(m:Int)∧(∀ y∈pre',atN ws y≠(m:Int))∧ReadB w.heap.size (Uv ws x) Wb∧Qv Wb W')∧Below w.heap.size w W')
  (OwnFrom.and (OwnFrom.and (OwnFrom.and (Qf _ _ _ _) (Qf _ _ _ _)) (OwnFrom.and (OwnFrom.and (Qf _ _ _ _) (Qf _ _ _ _)) (Qf _ _ _ _))) (OwnFrom.and (ownFrom_below (Nat.le_refl _) (by simp;omega)) (js _ _)))
  (fun c=>OwnFrom.and (fun s A C row hs hg hr=>by
   obtain⟨pre',x,Wb,h1,h2,h3,h4,h5,h6⟩:=hs
   exact⟨pre',x,Wb,h1,h2,h3,h4,h5,h6.grown hg fun r e=>(hr r e).2⟩) (ownFrom_below (Nat.le_refl _) (by simp;omega)))
  ⟨⟨⟨qc ra2 x5,qc rb2 x5⟩,⟨qc rc2 x5,qc rd2 x5⟩,World.alloc_heap_at _ _ _ rfl⟩,x2.trans x5,fun y hy=>by cases hy⟩
  (fun x a' W'=>∃ t8,a'={ tmps:=#[Zw (some ⟨b1,o1,none⟩) 256 c1 A2 n2 c2,.int .i64 (m:Int),.pointer (some ⟨w.heap.size,0,none⟩),.pointer (some ⟨w.heap.size+1,0,none⟩),.pointer (some ⟨w.heap.size+1+1,0,none⟩),.pointer (some ⟨w.heap.size+1+1+1,0,none⟩),.int .i64 0,undef,.pointer (some ⟨t8,0,none⟩),
    .agg #[.slice (some ⟨b1,o1,none⟩) 256 c1,.slice A2 n2 c2],.int .i64 (m:Int),.int .i64 0,.int .i64 0,.bool false,undef,.pointer (some ⟨w.heap.size,1,none⟩),.slice A2 n2 c2,.func (.func 112) #[] #[.pointer (some ⟨w2.heap.size,0,none⟩)],
    .int .i64 (x:Int),.agg #[.int .i64 (us[x]?.getD w2z).1,sv (us[x]?.getD w2z).2],undef,undef,undef,undef,undef,undef,undef,undef,undef,undef,undef,undef,undef],defers:=[] }∧W'.heap[t8]?=some (.cells #[.int .i64 (us[x]?.getD w2z).1,sv (us[x]?.getD w2z).2] 100 (0,0)))
  (fun x a' s A C row hs hg hr=>by
   obtain⟨t8,e,h⟩:=hs
   exact⟨t8,e,Qf (β:=Unit) _ _ _ _ () A C row h hg hr⟩) ?assign ?body ?done ?stop
 case assign =>
  rintro l' pre x W' K ⟨⟨⟨i1,i2⟩,⟨i3,i6⟩,i7⟩,i4,i5⟩ hK
  gi_wp2
  have z1:=(zG.1 i1).1
  have z2:=(zG.1 i2).1
  have z3:=(zG.1 i3).1
  have z6:=(zG.1 i6).1
  have z7:=(zG.1 i7).1
  have z4:=i4.size
  refine hK _ _ ((KeepsOthers.alloc _ _).from _) ⟨Below.heap_alloc _ _ _ z7,Below.heap_alloc _ _ _ (by omega)⟩ ⟨⟨⟨(Below.heap_alloc _ _ _ z1).trans i1,(Below.heap_alloc _ _ _ z2).trans i2⟩,⟨(Below.heap_alloc _ _ _ z3).trans i3,(Below.heap_alloc _ _ _ z6).trans i6⟩,(Below.heap_alloc _ _ _ z7).trans i7⟩,Below.alloc i4 z4 _,i5⟩ ⟨W'.heap.size,rfl,World.alloc_heap_at _ _ _ rfl⟩
 case body =>
  rintro l' pre x a' W' hl ⟨rr,hlp⟩ ⟨⟨⟨i1,i2⟩,⟨i3,i6⟩,i7⟩,i4,i5⟩ ⟨t8,rfl,hr8⟩ _
  have HC:=Zh _ (Uv ws x) (by have:=hlws x;omega) W' (hud.out x W' i4)
  have hax:=hua.out x
  generalize (us[x]?.getD w2z)=u9 at *
  obtain⟨a9,A9,n9,c9⟩:=u9
  simp only at hax
  subst hax
  have k8:=qa hr8
  have k2:=qa i2
  replace hlws:=zH hlws
  replace HC:=zH HC
  replace i5:=zH i5
  clear ka2 kb2
  by_cases hq:atN ws x=(m:Int)
  ·have hqe:(atN ws x == (m:Int))=true:=by rw[beq_iff_eq];exact hq
   replace hq:=zH hq
   gi_wp2_with fail
   refine⟨trivial,(CallsIn.inRound _ (callsIn_wide.2 HC.out)).mono ?_⟩
   clear HC
   rintro e W4 ⟨u,rfl,hown,hB4⟩
   obtain⟨A4,c4,rfl,_,_⟩:=qw hown
   have r3:=qc i3 hB4
   have r6:=qc i6 hB4
   have k3:=qa r3
   have k6:=qa r6
   have f3:=qd r3
   have f6:=qd r6
   have z4:=hB4.size
   have zW:=i4.size
   have z36:=(zG.1 i6).1
   replace hown:=zH hown
   have x4:Ext w W4:=i4.trans (Below.mono hB4 i4.size)
   have kk:=qeS hB4
   clear hB4
   gi_wp2_with fail
   refine⟨((kk.trans (KeepsOthers.setCell _ _ _)).trans (KeepsOthers.setCell _ _ _)).from _,⟨pre,x,_,rfl,rfl,hq.out,i5.out,⟨.slice A4 (Uv ws x).length c4,?_,?_,?_⟩,Qv.refl _⟩,Below.setCell (Below.setCell x4 (p:=⟨w.heap.size+1+1,0,none⟩) (by simp;omega) _) (p:=⟨w.heap.size+1+1+1,0,none⟩) (by simp;omega) _⟩
   ·exact(Below.heap_setCell _ _ _ _ (by simp)).trans (qh r3 0 _)
   ·exact qh ((Below.heap_setCell _ _ _ _ (by simp)).trans r6) 0 _
   ·exact QT (QR (QR (QT hown.out (Nat.le_refl _)) (p:=⟨w.heap.size+1+1,0,none⟩) (by simp;omega) _) (p:=⟨w.heap.size+1+1+1,0,none⟩) (by simp;omega) _) (by omega)
  ·have hqe:(atN ws x == (m:Int))=false:=by rw[beq_eq_false_iff_ne];exact hq
   replace hq:=zH hq
   gi_wp2_with fail
   refine⟨KeepsFrom.refl _ _,QW.refl _ _ _,⟨⟨i1,i2⟩,⟨i3,i6⟩,i7⟩,i4,fun y hy=>?_⟩
   rcases List.mem_append.1 hy with h|h
   ·exact i5.out y h
   ·obtain rfl:y=x:=by simpa using h
    exact hq.out
 case done =>
  rintro D ys W' hD rfl ⟨⟨⟨i1,i2⟩,⟨i3,i6⟩,_⟩,i4,i5⟩ hK
  have h0:=qbY (ws:=ws) (a:=(m:Int)) (by rw[show ws.length=us.length by rw[hul,←hpl,←hps,List.length_map]];exact i5)
  have hll:l=l0:=by rw[hseen.out,hps,h0]
  have HC:=Zh _ l0 (by omega) W' ((hbyb.below i4).more i4.size)
  have hcb':=Ext.cell i4 hcb
  rw[←hll] at HC hcb'
  clear h0 hll hcb hbyb
  have k1:=qa i1
  have k2:=qa i2
  have im:(m:Int)<256:=by omega
  have im2:decide (m<256)=true:=decide_eq_true hm
  replace HC:=zH HC
  replace i5:=zH i5
  clear ka2 kb2 hw4 hw5
  go_wp2_with fail
  refine(HC.out).mono ?_
  clear HC
  rintro e W4 ⟨u,rfl,hown,hB4⟩
  obtain⟨A4,c4,rfl,_,_⟩:=qw hown
  have r3:=qc i3 hB4
  have r6:=qc i6 hB4
  have k3:=qa r3
  have k6:=qa r6
  have f3:=qd r3
  have f6:=qd r6
  have z4:=hB4.size
  have zW:=i4.size
  replace hown:=zH hown
  have x4:Ext w W4:=i4.trans (Below.mono hB4 i4.size)
  have hK4:W4.heap[D]?=some (.deferred (some [])):=(hB4.block D (zG.1 hK).1).trans hK
  clear hB4
  go_wp2_with fail
  have hDw:w.heap.size+3<D:=by simp at hD;omega
  have q3:=(Below.heap_setCell _ ⟨w.heap.size+1+1+1,0,none⟩ (.int .i64 0) (w.heap.size+2) (by simp)).trans (qh r3 0 (.slice A4 l.length c4))
  have q6:=qh ((Below.heap_setCell _ ⟨w.heap.size+1+1,0,none⟩ (.slice A4 l.length c4) (w.heap.size+3) (by simp)).trans r6) 0 (.int .i64 0)
  have qK:=(Below.heap_setCell _ ⟨w.heap.size+1+1+1,0,none⟩ (.int .i64 0) D (by simp;omega)).trans ((Below.heap_setCell _ ⟨w.heap.size+1+1,0,none⟩ (.slice A4 l.length c4) D (by simp;omega)).trans hK4)
  have z36:=(zG.1 i6).1
  have qo:=QR (QR (QT hown.out (Nat.le_refl _)) (p:=⟨w.heap.size+1+1,0,none⟩) (by simp;omega) (.slice A4 l.length c4)) (p:=⟨w.heap.size+1+1+1,0,none⟩) (by simp;omega) (.int .i64 0)
  have qx:=Below.setCell (Below.setCell x4 (p:=⟨w.heap.size+1+1,0,none⟩) (by simp;omega) (.slice A4 l.length c4)) (p:=⟨w.heap.size+1+1+1,0,none⟩) (by simp;omega) (.int .i64 0)
  generalize World.setCell (World.setCell W4 _ _) _ _=wf at *
  exact TJ (b:=w.heap.size) (l:=l) rfl rfl rfl qK hDw ⟨_,q3,q6,QT qo (by omega)⟩ (fun v W' ho e=>⟨_,rfl,⟨v,rfl,ho⟩,e ▸ qx.trans (belowK_b (w:=w) (Nat.le_refl _) wf D _ _ (by omega) qK rfl rfl)⟩)
 case stop =>
  rintro D c pre W' hD ⟨k,hk,hpre⟩ ⟨⟨pre',x,Wb,rfl,rfl,hx,hpp,hRB,hCK⟩,i4⟩ hK
  gi_wp2_with fail
  have hDw:w.heap.size+3<D:=by simp at hD;omega
  have hl2:l=Uv ws x:=by rw[hseen.out,hps,qcx (ws:=ws) (k:=k) (by rw[←hps,List.length_map,hpl,←hul];exact hk) (by rw[show ws.length=us.length by rw[hul,←hpl,←hps,List.length_map]];exact hpre) hx hpp]
  rw[←hl2] at hRB
  obtain⟨v,q3,q6,qo⟩:=hRB
  exact TJ (b:=w.heap.size) (l:=l) rfl rfl rfl hK hDw ⟨v,hCK.row q3,hCK.row q6,Ky qo hCK⟩ (fun v W'' ho e=>⟨_,rfl,⟨v,rfl,ho⟩,e ▸ i4.trans (belowK_b (w:=w) (Nat.le_refl _) W' D _ _ (by omega) hK rfl rfl)⟩)
end Go.Proofs.YtckhnchnbeoogaaGreat
namespace Go.Proofs.YtckhnchnbeoogaaGreat
open Go.RowKit
def VDatQ (S:Sto) (root next:Int) (dead:List Int) (a:Int) (w:World) (e:Ending) (w':World):Prop:=Below w.heap.size w w' ∧
 ((e=.returned (.tuple #[.slice none 0 0,.int .i64 8])∧∀ vs,QM S root next dead vs→∃ refs nodes,Qj S (zl root dead vs) refs nodes∧¬QY S refs) ∨
  ∃ vs refs nodes,QM S root next dead vs∧Qj S (zl root dead vs) refs nodes∧QY S refs∧((Qk S refs nodes a false≠0∧e=.returned (.tuple #[.slice none 0 0,.int .i64 (Qk S refs nodes a false)])) ∨
   (Qk S refs nodes a false=0∧∃ v,e=.returned (.tuple #[v,.int .i64 0])∧w'.ownsRow w.heap.size 5 1 v (Zi S a.toNat).length ((Zi S a.toNat).map bv))))
theorem Uk {R:Ending→World→Prop} {a:Act} {W:World} {u v:Value} (h4:a.tmps[4]?.getD undef=u) (h5:a.tmps[5]?.getD undef=v) (hd:a.defers=[]) (hR:R (.returned (.tuple #[u,v])) W):bodyPost Tryz.prog Tryz.f20 R .ret a W:=by
 refine bodyPost_ret (v:=.tuple #[u,v]) ?_ hd hR
 simp[results,Tryz.results20,go_sem,h4,h5]
theorem GH {S:Sto} {refs nodes:Nat→Nat} {a:Int} {held:Bool} (h:Qk S refs nodes a held=0):∃ m:Nat,a=(m:Int)∧m<256:=by
 unfold Qk at h
 split at h
 ·exact⟨a.toNat,by omega,by omega⟩
 ·cases h
set_option maxHeartbeats 4000000 in
set_option maxRecDepth 100000 in
theorem vdat_any (A1:Option Addr) (n1 c1:Nat) (A2:Option Addr) (n2 c2:Nat) (A3:Option Addr) (n3 c3:Nat) (A4:Option Addr) (n4 c4:Nat) (gen root next:Int) (A5:Option Addr) (c5:Nat) (S:Sto) (dead:List Int) (a:Int) (w:World)
  (h:qH w w.heap.size (.slice A1 n1 c1) (.slice A2 n2 c2) (.slice A3 n3 c3) (.slice A4 n4 c4) S) (hd:QF w w.heap.size (.slice A5 dead.length c5) dead) :
  Calls Tryz.prog 20 #[.agg (qC (.slice A1 n1 c1) (.slice A2 n2 c2) (.slice A3 n3 c3) (.slice A4 n4 c4) gen root next (.slice A5 dead.length c5)),.int .i64 a] w (VDatQ S root next dead a w):=by
 have HD:=zH (fun W (hx:Ext w W)=>Ug A1 n1 c1 A2 n2 c2 A3 n3 c3 A4 n4 c4 gen root next A5 c5 S dead a false W (h.ext hx) (hd.ext_ hx))
 replace h:=zH h
 clear hd
 go_enter Tryz.func20,Tryz.ntmps20
 go_wp2_with fail
 generalize hw1:World.alloc w _=w1
 have x1:Ext w w1:=by rw[←hw1];exact Ext.alloc _ _
 have r1:w1.heap[w.heap.size]?=some (.cells (qC (.slice A1 n1 c1) (.slice A2 n2 c2) (.slice A3 n3 c3) (.slice A4 n4 c4) gen root next (.slice A5 dead.length c5)) 32 (0,0)):=by rw[←hw1];exact World.alloc_heap_at _ _ _ rfl
 clear hw1
 refine(HD.out w1 x1).mono ?_
 clear HD
 rintro e w2 ⟨hB,hQ⟩
 have x2:Ext w w2:=Ext.trans x1 hB
 have r2:=qc r1 hB
 have k2:=qa r2
 clear hB r1 x1
 rcases hQ with ⟨rfl,hno⟩|⟨vs,refs,nodes,hpool,hcnt,hen,rfl⟩
 ·replace hno:=zH hno
  go_wp2_with fail
  exact Uk rfl rfl rfl ⟨x2,.inl ⟨rfl,hno.out⟩⟩
 ·have hS:=hpool.may
  replace hpool:=zH hpool
  replace hcnt:=zH hcnt
  replace hen:=zH hen
  by_cases h0:Qk S refs nodes a false=0
  ·obtain⟨m,rfl,hm⟩:=GH h0
   have HR:=zH (qeC A1 n1 c1 A2 n2 c2 S hS m hm w2 (h.out.ext x2).bs (h.out.ext x2).ws)
   rw[h0]
   replace h0:=zH h0
   replace hS:=zH hS
   go_wp2_with fail
   refine HR.out.mono ?_
   clear HR
   rintro e w3 ⟨u,rfl,⟨v,rfl,ho⟩,hB⟩
   have x3:Ext w w3:=x2.trans hB
   have z12:=x2.size
   obtain⟨A6,c6,rfl,_,_⟩:=qw ho
   replace ho:=zH ho
   clear hB
   go_wp2_with fail
   exact Uk rfl rfl rfl ⟨x3,.inr ⟨vs,refs,nodes,hpool.out,hcnt.out,hen.out,.inr ⟨h0.out,_,rfl,QT ho.out z12⟩⟩⟩
  ·generalize hE:Qk S refs nodes a false=er at *
   have he:(er != 0)=true:=by rw[bne_iff_ne];exact h0
   have hq:=zH h0
   replace hE:=zH hE
   clear h0
   go_wp2_with fail
   exact Uk rfl rfl rfl ⟨x2,.inr ⟨vs,refs,nodes,hpool.out,hcnt.out,hen.out,.inl ⟨by rw[hE.out];exact hq.out,by rw[hE.out];rfl⟩⟩⟩
def DDatQ (S:Sto) (root next:Int) (dead:List Int) (a:Int) (w:World) (e:Ending) (w':World):Prop:=Below w.heap.size w w' ∧
 ((e=.returned (.tuple #[.slice none 0 0,.int .i64 8])∧∀ vs,QM S root next dead vs→∃ refs met,Qr (QX S) (zi S) (zl root dead vs) (zv met) refs∧¬QY S refs) ∨
  ∃ vs refs met,QM S root next dead vs∧Qr (QX S) (zi S) (zl root dead vs) (zv met) refs∧QY S refs∧((Qk S refs met a false≠0∧e=.returned (.tuple #[.slice none 0 0,.int .i64 (Qk S refs met a false)])) ∨
   (Qk S refs met a false=0∧∃ v,e=.returned (.tuple #[v,.int .i64 0])∧Bys w' w'.heap.size v (Zi S a.toNat))))
theorem TZ {R:Ending→World→Prop} {a:Act} {W:World} {u v:Value} (h4:a.tmps[4]?.getD undef=u) (h5:a.tmps[5]?.getD undef=v) (hd:a.defers=[]) (hR:R (.returned (.tuple #[u,v])) W):bodyPost Tryz.prog Tryz.f21 R .ret a W:=by
 refine bodyPost_ret (v:=.tuple #[u,v]) ?_ hd hR
 simp[results,Tryz.results21,go_sem,h4,h5]
theorem qbQ {S:Sto} (h:qB S=true) (m:Nat):(Zi S m).length<1000000:=by
 have hs:=zK h
 unfold Zi
 rcases hl:Za S.ws m with _|l
 ·rcases hb:S.bs[m]? with _|b
  ·simp
  ·exact hs.be b (List.mem_of_getElem? hb)
 ·unfold Za at hl
  rcases hf:S.ws.reverse.find? (fun p=>p.1 == (m:Int)) with _|p
  ·rw[hf] at hl;cases hl
  ·rw[hf] at hl
   cases hl
   exact hs.we p (by simpa using List.mem_of_find?_eq_some hf)
set_option maxHeartbeats 4000000 in
set_option maxRecDepth 100000 in
theorem ddat_any (A1:Option Addr) (n1 c1:Nat) (A2:Option Addr) (n2 c2:Nat) (A3:Option Addr) (n3 c3:Nat) (A4:Option Addr) (n4 c4:Nat) (gen root next:Int) (A5:Option Addr) (c5:Nat) (S:Sto) (dead:List Int) (a:Int) (w:World)
  (h:qH w w.heap.size (.slice A1 n1 c1) (.slice A2 n2 c2) (.slice A3 n3 c3) (.slice A4 n4 c4) S) (hd:QF w w.heap.size (.slice A5 dead.length c5) dead) :
  Calls Tryz.prog 21 #[.agg (qC (.slice A1 n1 c1) (.slice A2 n2 c2) (.slice A3 n3 c3) (.slice A4 n4 c4) gen root next (.slice A5 dead.length c5)),.int .i64 a] w (DDatQ S root next dead a w):=by
 obtain⟨i0,hi,hz0,hz1,hz2⟩:=info_parts Tryz.info_u8
 have HD:=zH (fun W (hx:Ext w W)=>YZ A1 n1 c1 A2 n2 c2 A3 n3 c3 A4 n4 c4 gen root next A5 c5 S dead a false W (h.ext hx) (hd.ext_ hx))
 replace h:=zH h
 clear hd
 go_enter Tryz.func21,Tryz.ntmps21
 go_wp2_with fail
 generalize hw1:World.alloc w _=w1
 have x1:Ext w w1:=by rw[←hw1];exact Ext.alloc _ _
 have r1:w1.heap[w.heap.size]?=some (.cells (qC (.slice A1 n1 c1) (.slice A2 n2 c2) (.slice A3 n3 c3) (.slice A4 n4 c4) gen root next (.slice A5 dead.length c5)) 32 (0,0)):=by rw[←hw1];exact World.alloc_heap_at _ _ _ rfl
 clear hw1
 refine(HD.out w1 x1).mono ?_
 clear HD
 rintro e w2 ⟨hB,hQ⟩
 have x2:Ext w w2:=Ext.trans x1 hB
 have r2:=qc r1 hB
 have k2:=qa r2
 clear hB r1 x1
 rcases hQ with ⟨rfl,hno⟩|⟨vs,refs,met,hpool,hm,hen,rfl⟩
 ·replace hno:=zH hno
  go_wp2_with fail
  exact TZ rfl rfl rfl ⟨x2,.inl ⟨rfl,hno.out⟩⟩
 ·have hS:=hpool.may
  replace hpool:=zH hpool
  replace hm:=zH hm
  replace hen:=zH hen
  by_cases h0:Qk S refs met a false=0
  ·obtain⟨m,rfl,hm2⟩:=GH h0
   obtain⟨hl1,hl2,-,-⟩:=qQ hS
   have HR:=zH (qaS A1 n1 c1 A2 n2 c2 S m (by omega) hl2 w2 (h.out.ext x2).bs (h.out.ext x2).ws)
   have hln:=qbQ hS m
   rw[h0]
   replace h0:=zH h0
   replace hS:=zH hS
   go_wp2_with fail
   refine HR.out.mono ?_
   clear HR
   rintro e w3 ⟨u,rfl,hby,hB⟩
   have x3:Ext w w3:=x2.trans hB
   obtain⟨A6,c6,rfl,hc6,hm6,hr6⟩:=hby
   clear hB
   go_wp2_with (at_builtin;refine qI ?_)
   refine Qc.go (qM w3 rfl (.const (.slice none 0 0)) (.tmp 17) 26 rfl w3.heap.size 5 i0 (.int .u8 0) 1 1 Tryz.underlying26 hi hz0 hz1 hz2 rfl (by decide) (.slice none 0 0) 0 [] (by exact rfl) (World.ownsRow_nil _ _ _ _) w3.heap.size A6 (Zi S m).length c6 ((Zi S m).map bv) (by exact rfl) hr6 (zT (Zi S m)) (by omega) (by decide) (Nat.le_refl _) ?_)
   intro v w4 own _ hB _
   simp only[Nat.zero_add,List.nil_append] at own
   have x4:Ext w w4:=Ext.trans x3 hB
   obtain⟨A8,c8,rfl,-,-⟩:=qw own
   replace own:=zH own
   clear hB hr6
   go_wp2_with fail
   exact TZ rfl rfl rfl ⟨x4,.inr ⟨vs,refs,met,hpool.out,hm.out,hen.out,.inr ⟨h0.out,_,rfl,Bys.of_own own.out⟩⟩⟩
  ·generalize hE:Qk S refs met a false=er at *
   have he:(er != 0)=true:=by rw[bne_iff_ne];exact h0
   have hq:=zH h0
   replace hE:=zH hE
   clear h0
   go_wp2_with fail
   exact TZ rfl rfl rfl ⟨x2,.inr ⟨vs,refs,met,hpool.out,hm.out,hen.out,.inl ⟨by rw[hE.out];exact hq.out,by rw[hE.out];rfl⟩⟩⟩
structure jC (lo hi:Nat) (W W':World):Prop where
 os:W'.os=W.os
 tape:W'.tape=W.tape
 output:W'.output=W.output
 size:W.heap.size≤W'.heap.size
 same:∀ k,k<W.heap.size→¬(lo≤k∧k<hi)→W'.heap[k]?=W.heap[k]?
theorem jC.of_ext {lo hi:Nat} {W W':World} (h:Ext W W'):jC lo hi W W':=⟨h.os,h.tape,h.output,h.size,fun k hk _=>h.block k hk⟩
theorem jC.trans {lo hi:Nat} {W W1 W2:World} (h:jC lo hi W W1) (k:jC lo hi W1 W2):jC lo hi W W2:=⟨k.os.trans h.os,k.tape.trans h.tape,k.output.trans h.output,Nat.le_trans h.size k.size,fun b hb hn=>(k.same b (Nat.lt_of_lt_of_le hb h.size) hn).trans (h.same b hb hn)⟩
theorem jC.set {lo hi:Nat} {W W1:World} (h:jC lo hi W W1) {q:Addr} (hq:lo≤q.block∧q.block<hi) (v:Value):jC lo hi W (W1.setCell q v):=
 ⟨h.os,h.tape,h.output,by simpa using h.size,fun b hb hn=>(Below.heap_setCell _ _ _ _ (fun e=>hn (by rw[e];exact hq))).trans (h.same b hb hn)⟩
theorem jC.row {lo hi:Nat} {W W':World} (h:jC lo hi W W') {b:Nat} {o:Obj} (hn:¬(lo≤b∧b<hi)) (hr:W.heap[b]?=some o):W'.heap[b]?=some o:=(h.same b (zG.1 hr).1 hn).trans hr
theorem jC.below {lo hi B:Nat} {w W W':World} (h:jC lo hi W W') (hw:Below B w W) (hB:B≤lo) (hs:B≤W.heap.size):Below B w W':=⟨h.os.trans hw.os,h.tape.trans hw.tape,h.output.trans hw.output,Nat.le_trans hw.size h.size,fun b hb=>(h.same b (by omega) (by omega)).trans (hw.block b hb)⟩
theorem ZK (W:World) (q:Addr) (v:Value):thaw (W.setCell q v)=(thaw W).setCell q v:=by
 unfold thaw World.setCell
 simp only[World.mk.injEq,and_true]
 apply Array.ext_getElem?
 intro k
 rw[Array.getElem?_map,Array.getElem?_modify,Array.getElem?_modify,Array.getElem?_map]
 by_cases hk:q.block=k
 ·rw[if_pos hk,if_pos hk]
  cases W.heap[k]? with
  |none=>rfl
  |some o =>
   simp only[Option.map_some,Option.some.injEq]
   cases o with
   |cells c t f =>
    simp only[UX]
    by_cases hf:f=(0,0)
    ·rw[if_pos hf,if_pos hf]
    ·rw[if_neg hf,if_neg hf]
   |_=>rfl
 ·rw[if_neg hk,if_neg hk]
def Byt (lo hi:Nat) (A:Option Addr) (i:Nat) (W:World):Prop:=∃ b o x,A=some ⟨b,o,none⟩∧(lo≤b∧b<hi)∧(thaw W).cell? ⟨b,o+i,none⟩=some (.int .u8 x)
def Hdr (lo hi:Nat) (A:Option Addr) (i:Nat) (W:World):Prop:=∃ b o A' n c,A=some ⟨b,o,none⟩∧(lo≤b∧b<hi)∧W.cell? ⟨b,o+i,none⟩=some (.slice A' n c)∧n≤maxLen∧(0<n→Byt lo hi A' 0 W)
structure Sp (lo hi:Nat) (A1:Option Addr) (n1:Nat) (A2:Option Addr) (n2:Nat) (A3:Option Addr) (n3:Nat) (A4 A5:Option Addr) (n5:Nat) (W:World):Prop where
 bs:∀ i,i<n1→Hdr lo hi A1 i W
 ws:∀ i,i<n2→Hdr lo hi A2 (i*2+1) W
 now:∀ i,i<n3→Byt lo hi A3 i W
 last:∀ i,i<n3→Byt lo hi A4 i W
 dead:∀ i,i<n5→∃ b o x,A5=some ⟨b,o,none⟩∧(lo≤b∧b<hi)∧(thaw W).cell? ⟨b,o+i,none⟩=some (.int .i64 x)
theorem set_at {W:World} {q:Addr} {v u:Value} (h:W.cell? q=some v):(W.setCell q u).cell? q=some u:=by
 unfold World.cell? at *
 unfold World.setCell
 simp only[Array.getElem?_modify,if_true]
 cases hb:W.heap[q.block]? with
 |none=>rw[hb] at h;cases h
 |some o =>
  rw[hb] at h
  cases o with
  |cells c t f =>
   simp only[Option.map_some] at h ⊢
   by_cases hs:q.spot.isSome=true
   ·rw[if_pos hs] at h;cases h
   ·rw[if_neg hs] at h ⊢
    rw[if_neg hs]
    obtain⟨hlt,-⟩:=zG.1 h
    rw[Array.getElem?_setIfInBounds,if_pos rfl,if_pos hlt]
  |_=>cases h
section
variable {lo hi:Nat} {A:Option Addr} {i:Nat} {W W':World}
theorem Byt.set {q:Addr} {x y:Int} (h:Byt lo hi A i W) (_:(thaw W).cell? q=some (.int .u8 x)):Byt lo hi A i (W.setCell q (.int .u8 y)):=by
 obtain⟨b,o,z,e,hb,hc⟩:=h
 by_cases hq:(⟨b,o+i,none⟩:Addr)=q
 ·subst hq
  exact⟨b,o,y,e,hb,by rw[ZK];exact set_at hc⟩
 ·exact⟨b,o,z,e,hb,by rw[ZK,World.cell?_setCell_other _ _ _ _ (by first|exact hq|exact Ne.symm hq)];exact hc⟩
theorem Byt.setI {q:Addr} {x y:Int} (h:Byt lo hi A i W) (hq:(thaw W).cell? q=some (.int .i64 x)):Byt lo hi A i (W.setCell q (.int .i64 y)):=by
 obtain⟨b,o,z,e,hb,hc⟩:=h
 have hne:(⟨b,o+i,none⟩:Addr)≠q:=fun e=>by rw[e,hq] at hc;cases hc
 exact⟨b,o,z,e,hb,by rw[ZK,World.cell?_setCell_other _ _ _ _ (by first|exact hne|exact Ne.symm hne)];exact hc⟩
theorem Hdr.set {q:Addr} {x y:Int} (h:Hdr lo hi A i W) (hq:(thaw W).cell? q=some (.int .u8 x)):Hdr lo hi A i (W.setCell q (.int .u8 y)):=by
 obtain⟨b,o,A',n,c,e,hb,hc,hn,hy⟩:=h
 have hne:(⟨b,o+i,none⟩:Addr)≠q:=fun e=>by rw[e,(Qd hq).1] at hc;cases hc
 exact⟨b,o,A',n,c,e,hb,by rw[World.cell?_setCell_other _ _ _ _ (by first|exact hne|exact Ne.symm hne)];exact hc,hn,fun hp=>(hy hp).set hq⟩
theorem Hdr.setI {q:Addr} {x y:Int} (h:Hdr lo hi A i W) (hq:(thaw W).cell? q=some (.int .i64 x)):Hdr lo hi A i (W.setCell q (.int .i64 y)):=by
 obtain⟨b,o,A',n,c,e,hb,hc,hn,hy⟩:=h
 have hne:(⟨b,o+i,none⟩:Addr)≠q:=fun e=>by rw[e,(Qd hq).1] at hc;cases hc
 exact⟨b,o,A',n,c,e,hb,by rw[World.cell?_setCell_other _ _ _ _ (by first|exact hne|exact Ne.symm hne)];exact hc,hn,fun hp=>(hy hp).setI hq⟩
theorem Byt.keep (h:Byt lo hi A i W) (hk:∀ k,lo≤k→k<hi→W'.heap[k]?=W.heap[k]?):Byt lo hi A i W':=by
 obtain⟨b,o,z,e,hb,hc⟩:=h
 exact⟨b,o,z,e,hb,(Qi (hk b hb.1 hb.2)).trans hc⟩
theorem Hdr.keep (h:Hdr lo hi A i W) (hk:∀ k,lo≤k→k<hi→W'.heap[k]?=W.heap[k]?):Hdr lo hi A i W':=by
 obtain⟨b,o,A',n,c,e,hb,hc,hn,hy⟩:=h
 exact⟨b,o,A',n,c,e,hb,(World.cell?_of_block (hk b hb.1 hb.2)).trans hc,hn,fun hp=>(hy hp).keep hk⟩
end
section
variable {lo hi:Nat} {A1 A2 A3 A4 A5:Option Addr} {n1 n2 n3 n5:Nat} {W W':World}
theorem Sp.set {q:Addr} {x:Int} (h:Sp lo hi A1 n1 A2 n2 A3 n3 A4 A5 n5 W) (hq:(thaw W).cell? q=some (.int .u8 x)) (y:Int):Sp lo hi A1 n1 A2 n2 A3 n3 A4 A5 n5 (W.setCell q (.int .u8 y)):=
 ⟨fun i hi=>(h.bs i hi).set hq,fun i hi=>(h.ws i hi).set hq,fun i hi=>(h.now i hi).set hq,fun i hi=>(h.last i hi).set hq,fun i hi=>by
  obtain⟨b,o,z,e,hb,hc⟩:=h.dead i hi
  have hne:(⟨b,o+i,none⟩:Addr)≠q:=fun e=>by rw[e,hq] at hc;cases hc
  exact⟨b,o,z,e,hb,by rw[ZK,World.cell?_setCell_other _ _ _ _ (by first|exact hne|exact Ne.symm hne)];exact hc⟩⟩
theorem Sp.setI {q:Addr} {x:Int} (h:Sp lo hi A1 n1 A2 n2 A3 n3 A4 A5 n5 W) (hq:(thaw W).cell? q=some (.int .i64 x)) (y:Int):Sp lo hi A1 n1 A2 n2 A3 n3 A4 A5 n5 (W.setCell q (.int .i64 y)):=
 ⟨fun i hi=>(h.bs i hi).setI hq,fun i hi=>(h.ws i hi).setI hq,fun i hi=>(h.now i hi).setI hq,fun i hi=>(h.last i hi).setI hq,fun i hi=>by
  obtain⟨b,o,z,e,hb,hc⟩:=h.dead i hi
  by_cases hq2:(⟨b,o+i,none⟩:Addr)=q
  ·subst hq2
   exact⟨b,o,y,e,hb,by rw[ZK];exact set_at hc⟩
  ·exact⟨b,o,z,e,hb,by rw[ZK,World.cell?_setCell_other _ _ _ _ (by first|exact hq2|exact Ne.symm hq2)];exact hc⟩⟩
theorem Sp.keep (h:Sp lo hi A1 n1 A2 n2 A3 n3 A4 A5 n5 W) (hk:∀ k,lo≤k→k<hi→W'.heap[k]?=W.heap[k]?):Sp lo hi A1 n1 A2 n2 A3 n3 A4 A5 n5 W':=
 ⟨fun i hi=>(h.bs i hi).keep hk,fun i hi=>(h.ws i hi).keep hk,fun i hi=>(h.now i hi).keep hk,fun i hi=>(h.last i hi).keep hk,fun i hi=>by
  obtain⟨b,o,z,e,hb,hc⟩:=h.dead i hi
  exact⟨b,o,z,e,hb,(Qi (hk b hb.1 hb.2)).trans hc⟩⟩
end
def Gz (lo:Nat) (W:World):World:=mixW lo W.heap.size (thaw W) { W with heap:=#[] }
theorem qey (lo:Nat) (W:World):UK lo W (Gz lo W):=fun q v h1 h2 h3=>by
 unfold Gz
 rw[Yq,if_pos ⟨h1,h2⟩]
 exact h3
theorem Vp {lo:Nat} {W:World} {q:Addr} {v:Value} (h:(Gz lo W).cell? q=some v):(lo≤q.block∧q.block<W.heap.size)∧(thaw W).cell? q=some v:=by
 unfold Gz at h
 rw[Yq] at h
 split at h
 ·rename_i h1;exact⟨h1,h⟩
 ·simp[World.cell?] at h
theorem GS {lo:Nat} {W:World} {B:Nat} {A:Option Addr} {n c:Nat} {l:List UInt8} (h:Bys (Gz lo W) B (.slice A n c) l) {i:Nat} (hi:i<n):Byt lo W.heap.size A i W:=by
 obtain⟨A',c',e,_,_,hr⟩:=h
 simp only[Value.slice.injEq] at e
 obtain⟨rfl,rfl,rfl⟩:=e
 obtain⟨b,off,rfl,_,hc⟩:=hr.2 (by omega)
 obtain⟨h1,h2⟩:=Vp (hc i (bv l[i]) (by rw[List.getElem?_map,List.getElem?_eq_getElem hi];rfl))
 exact⟨b,off,_,rfl,h1,h2⟩
theorem sp_of {lo:Nat} {S:Sto} {dead:List Int} {A1 A2 A3 A4 A5:Option Addr} {n1 c1 n2 c2 n3 c3 n4 c4 n5 c5:Nat} {W:World} (h:∀ C:World,UK lo W C→qH C W.heap.size (.slice A1 n1 c1) (.slice A2 n2 c2) (.slice A3 n3 c3) (.slice A4 n4 c4) S∧QF C W.heap.size (.slice A5 n5 c5) dead) (h34:n3≤n4) :
  Sp lo W.heap.size A1 n1 A2 n2 A3 n3 A4 A5 n5 W:=by
 obtain⟨hS,hd⟩:=h (Gz lo W) (qey lo W)
 refine⟨fun i hi=>?_,fun i hi=>?_,fun i hi=>GS hS.now hi,fun i hi=>GS hS.last (by omega),fun i hi=>?_⟩
 ·obtain⟨e1,e2,e3,e4⟩:=hS.bs.at_
  obtain⟨b,off,rfl,_⟩:=e4 (by omega)
  obtain⟨A',c',hc,hy⟩:=hS.bs.get i (by omega)
  obtain⟨h1,h2⟩:=Vp hc
  obtain⟨_,_,e5,h5,h6,_⟩:=id hy
  cases e5
  exact⟨b,off,A',_,c',rfl,h1,(Qd h2).1,by omega,fun hp=>GS hy hp⟩
 ·obtain⟨e1,e2,e3,e4⟩:=hS.ws.at_
  obtain⟨b,off,rfl,_⟩:=e4 (by omega)
  obtain⟨A',c',_,hc,hy⟩:=hS.ws.get i (by omega)
  obtain⟨h1,h2⟩:=Vp hc
  obtain⟨_,_,e5,h5,h6,_⟩:=id hy
  cases e5
  exact⟨b,off,A',_,c',rfl,h1,by rw[←Nat.add_assoc];exact(Qd h2).1,by omega,fun hp=>GS hy hp⟩
 ·obtain⟨A',c',e,_,_,hr⟩:=hd
  simp only[Value.slice.injEq] at e
  obtain⟨rfl,rfl,rfl⟩:=e
  obtain⟨b,off,rfl,_,hc⟩:=hr.2 (by omega)
  obtain⟨h1,h2⟩:=Vp (hc i (.int .i64 dead[i]) (by simp[hi]))
  exact⟨b,off,_,rfl,h1,h2⟩
end Go.Proofs.YtckhnchnbeoogaaGreat
