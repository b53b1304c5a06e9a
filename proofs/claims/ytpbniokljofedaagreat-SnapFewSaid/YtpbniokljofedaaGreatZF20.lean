/- Texts PushR, BMake2, PutE, StepsW, CopyK, joined. -/
import Derived.Test.YtpbniokljofedaaGreatZF13
import Derived.Test.YtpbniokljofedaaGreatZF15
import Derived.Test.YtpbniokljofedaaGreatZF18
import Derived.Test.YtpbniokljofedaaGreatZF19
set_option linter.unusedSimpArgs false
set_option linter.unusedVariables false
set_option maxHeartbeats 8000000
namespace Go.Proofs.YtpbniokljofedaaGreat
open Go.RowKit
theorem qaR {P:Program} (w:World) (t ty:TypeId) (e:TypeId) (i:TypeInfo) (z:Value) (size bytes:Nat) (ht:P.underlying t=some (.slice e)) (hi:P.info? e=some i) (hz:i.zero=some z)
  (hsize:i.size=size) (hby:i.bytes=bytes) (hzs:z.cells.size=size) (hsz:0<size)
  (B:Nat) (A:Option Addr) (n:Nat) (xs:List Value) (hr:Rd w B size A n xs) (cs:Array Value) (hl:cs.size=size) (h1:∀ u∈cs.toList,u.oneCell'=true)
  (hn:n<1073741824) (hbytes:bytes≤65536) :
  ∃ v' w',(Builtin.append_ #[t,t] ty #[.slice A n n,.slice (some ⟨w.heap.size,0,none⟩) 1 1]).run P (w.alloc (.cells cs e))=.ok v' w'∧w'.ownsRow (w.heap.size+1) e size v' (n+1) (xs++cs.toList)∧Ext w w'∧v'.ownBlock=some (w.heap.size+1):=by
 have hb:(n+1)*bytes≤140737488355328:=Nat.le_trans (Nat.mul_le_mul_left _ hbytes) (by omega)
 have hm:n+1≤maxLen:=by unfold maxLen;omega
 have hm2:((n+1:Nat):Int)≤9223372036854775807:=by omega
 rcases A with _|ad
 ·have hn0:n=0:=by
   rcases Nat.eq_zero_or_pos n with h0|h0
   ·exact h0
   ·obtain⟨b,off,h,_⟩:=hr.2 h0
    cases h
  subst hn0
  have hx:xs=[]:=List.eq_nil_of_length_eq_zero (by simpa using hr.1)
  subst hx
  obtain⟨v',w',hrun,h2,h3,h4,h5⟩:=run_append_own_at (P:=P) (w.alloc (.cells cs e)) (w.heap.size+1) t ty e i z size bytes ht hi hz hsize hby hzs hsz (.slice none 0 0) 0 [] (World.ownsRow_nil _ _ _ _) ⟨w.heap.size,0,none⟩ 1 1 cs.toList
   (by rw[Array.length_toList];omega) (KG w cs e) h1 hm hb (by simp)
  refine⟨v',w',hrun,h2,Ext.trans (zN w (.cells cs e)) ((Below.refl _ _).grown h3 (zM _) (fun k hk=>by cases hk)),?_⟩
  rcases h5 with h5|h5
  ·exfalso
   rcases h2.2 with ⟨e0,_⟩|⟨g,cap,cur,e0,_⟩
   ·have:=(h4.1 e0).2
    omega
   ·rw[e0] at h5
    cases h5
  ·rw[h5];simp
 ·have hcells:∀ j u,xs[j]?=some u→w.cell? (ad.add j)=some u:=by
   intro j u hu
   rcases Nat.eq_zero_or_pos n with h0|h0
   ·subst h0
    have hx:xs=[]:=List.eq_nil_of_length_eq_zero (by simpa using hr.1)
    subst hx
    simp at hu
   ·obtain⟨b,off,h,_⟩:=hr.2 h0
    injection h with h
    subst h
    exact hr.adds h0 j u hu
  subst hsize
  subst hby
  have hr':=run_append_grow (P:=P) (w.alloc (.cells cs e)) t ty e i z ht hi hz ad n n xs hr.1 (fun j u hu=>Ext.cell (zN w _) (hcells j u hu)) ⟨w.heap.size,0,none⟩ 1 1 cs.toList (by rw[Array.length_toList];omega) (KG w cs e) (by omega) hm2 (growslice_fits (by omega) hb)
  refine⟨_,_,hr',?_,(zN w _).trans ((Ext.drew _).trans (zN _ _)),by simp[Value.ownBlock]⟩
  have hge:=grownCap_ge (w.alloc (.cells cs e)) (n+1) n e
  have hcm:grownCap (w.alloc (.cells cs e)) (n+1) n e≤maxLen:=grownCap_le_maxLen _ (n+1) n e hm
  have hlen:(xs++cs.toList).length=(n+1)*i.size:=by rw[List.length_append,hr.1,Array.length_toList,hl,Nat.add_mul,Nat.one_mul]
  refine⟨hlen,.inr ⟨_,_,_,rfl,by simp,heap_alloc_new (w.alloc (.cells cs e)).drew _,hge,hcm,?_,?_⟩⟩
  ·simp only[Array.size_append,List.size_toArray,size_zeroCells,hzs,hr.1,Array.length_toList,hl]
   rw[←Nat.succ_mul,←Nat.add_mul]
   congr 1
   omega
  ·simp only[Array.toList_append,List.append_assoc]
   rw[←List.append_assoc,←hlen]
   exact List.take_left
theorem WsB.push {D:Nat→Prop} {B lo b g:Nat} {k:Option Nat} {v:Value} {ws:List (Int×List UInt8)} {w:World} (h:WsB D B lo b g k v ws w) (hlo:lo≤w.heap.size) (hk:∀ q,k=some q→¬(q<B∨D q)) (hws:ws.length<1073741824) (at_:Int) (A0:Option Addr) (c0:Nat) (l:List UInt8) (hd:∀ C,Qb (YU B D) w C→Bys C C.heap.size (.slice A0 l.length c0) l) (ty:TypeId) :
  ∃ v' w' k',(Builtin.append_ #[23,23] ty #[v,.slice (some ⟨w.heap.size,0,none⟩) 1 1]).run Tryz.prog (w.alloc (.cells #[.int .i64 at_,.slice A0 l.length c0] 130))=.ok v' w'∧WsB D B lo b g k' v' (ws++[(at_,l)]) w'∧qY lo b g k w w'∧Ze w.heap.size k k' ∧
   (∀ q,q<w.heap.size→k≠some q→w'.heap[q]?=w.heap[q]?):=by
 obtain⟨i0,hi,hz0,hz1,hz2⟩:=info_parts Tryz.info_write
 obtain⟨ps,rfl,hw,hp⟩:=h
 have h1:∀ u∈(#[.int .i64 at_,.slice A0 l.length c0]:Array Value).toList,u.oneCell'=true:=by simp[Value.oneCell']
 rw[List.length_map] at hws hw
 have fin:∀ (v':Value) (w':World) (k':Option Nat),w'.ownsRow lo 130 2 v' (ps.length+1) (ZB ps++[.int .i64 at_,.slice A0 l.length c0])→(∃ q,v'.ownBlock=some q∧k'=some q)→(∀ q,q<w.heap.size→k≠some q→w'.heap[q]?=w.heap[q]?)→WsB D B lo b g k' v' (ps.map (·.1)++[(at_,l)]) w':=fun v' w' k' ho ⟨q,hq1,hq2⟩ hR=>by
  have hX:Qb (YU B D) w w':=YU.keep fun q hq h1=>hR q hq fun e=>hk q e h1
  refine⟨ps++[((at_,l),.slice A0 l.length c0)],by simp,.inr ⟨q,hq2,hq1,by rw[qds];simpa using ho⟩,fun p hpm=>?_⟩
  rcases List.mem_append.1 hpm with hpm|hpm
  ·exact⟨(hp p hpm).1,fun C hC=>(hp p hpm).2 C (hX.trans hC fun _ _ h=>h)⟩
  ·obtain rfl:p=((at_,l),.slice A0 l.length c0):=by simpa using hpm
   exact⟨⟨A0,c0,rfl⟩,fun C hC=>hd C (hX.trans hC fun _ _ h=>h)⟩
 rcases hw with ⟨rfl,hm,A,rfl,hr⟩|⟨q,rfl,hq,ho⟩
 ·obtain⟨v',w',hrun,h2,hx,hb⟩:=qaR (P:=Tryz.prog) w 23 ty 130 i0 (.agg #[.int .i64 0,.slice none 0 0]) 2 32 Tryz.underlying23 hi hz0 hz1 hz2 rfl (by decide) B A ps.length (ZB ps) hr #[.int .i64 at_,.slice A0 l.length c0] rfl h1 hws (by decide)
  have hN:Ze w.heap.size none (some (w.heap.size+1)):=fun q hq=>.inr (by cases hq;omega)
  have hB:qY lo b g none w w':=qY.of_ext hx hlo
  exact⟨v',w',some (w.heap.size+1),hrun,fin v' w' _ (QF h2 (by omega)) ⟨_,hb,rfl⟩ (fun q hq _=>Below.block hx q hq),hB,hN,fun q hq _=>Below.block hx q hq⟩
 ·obtain⟨v',w',hrun,h2,h3,_,h5⟩:=run_append_own_at (P:=Tryz.prog) (w.alloc (.cells #[.int .i64 at_,.slice A0 l.length c0] 130)) lo 23 ty 130 i0 (.agg #[.int .i64 0,.slice none 0 0]) 2 32 Tryz.underlying23 hi hz0 hz1 hz2 rfl (by decide) v ps.length (ZB ps) (ho.alloc _) ⟨w.heap.size,0,none⟩ 1 1 [.int .i64 at_,.slice A0 l.length c0]
   rfl (KG w #[.int .i64 at_,.slice A0 l.length c0] 130) h1 (by unfold maxLen;omega) (by omega) (by simp;omega)
  have hlq:=(QR ho q hq).1
  rw[hq] at h3 h5
  have hB:Below lo w w':=Below.trans (Below.mono (zN w _) hlo) ((Below.refl lo _).grown h3 (by simp;omega) (fun k hk=>by cases hk;exact hlq))
  have hrow:∀ q',q'<w.heap.size→(some q≠some q')→w'.heap[q']?=w.heap[q']?:=fun q' h1 hne=>(h3.block q' (by simp;omega) (fun e=>hne e.symm)).trans (zK w _ q' h1)
  have hK:qY lo b g (some q) w w':=⟨hB,fun q' h1 hn=>hrow q' h1 fun e=>hn (.inr (.inr e))⟩
  rcases h5 with h5|h5
  ·exact⟨v',w',some q,hrun,fin v' w' _ h2 ⟨q,h5,rfl⟩ hrow,hK,Ze.refl _ _,hrow⟩
  ·have hN:Ze w.heap.size (some q) (some (w.heap.size+1)):=fun q' hq'=>.inr (by cases hq';omega)
   exact⟨v',w',some (w.heap.size+1),hrun,fin v' w' _ h2 ⟨_,by rw[h5];simp,rfl⟩ hrow,hK,hN,hrow⟩
theorem qcR {ops:Array Oper} {rest:List Oper} {o:Oper} {a:Act} {Q:Exit→Act→World→Prop} (hgd:o.guard=none) (s x:Operand) (ho:o.op=.call { callee:=.builtin .append,args:=#[s,x],argTypes:=#[23,23] })
  {D:Nat→Prop} {B lo b g:Nat} {k:Option Nat} {v:Value} {ws:List (Int×List UInt8)} {w:World} (hs:a.eval s=v) (hx:a.eval x=.slice (some ⟨w.heap.size,0,none⟩) 1 1) (h:WsB D B lo b g k v ws w) (hlo:lo≤w.heap.size) (hk:∀ q,k=some q→¬(q<B∨D q)) (hws:ws.length<1073741824)
  (at_:Int) (A0:Option Addr) (n0 c0:Nat) (l:List UInt8) (hn0:n0=l.length) (hd:∀ C,Qb (YU B D) w C→Bys C C.heap.size (.slice A0 n0 c0) l)
  (hK:∀ v' w' k',WsB D B lo b g k' v' (ws++[(at_,l)]) w'→qY lo b g k w w'→Ze w.heap.size k k'→(∀ q,q<w.heap.size→k≠some q→w'.heap[q]?=w.heap[q]?)→wpList Tryz.prog ops Q rest (a.put o.dst v') w') :
  wpList Tryz.prog ops Q (o :: rest) a (w.alloc (.cells #[.int .i64 at_,.slice A0 n0 c0] 130)):=by
 subst hn0
 refine wpList_plain hgd fun K hKK=>?_
 obtain⟨v',w',k',hrun,h1,h2,h3,h4⟩:=h.push hlo hk hws at_ A0 c0 l hd o.type
 unfold Oper.wp execOp
 simp only[ho,resolve,invoke,builtin,Sem.run_bind,Sem.run_pure,Result.andThen_ok,List.map_toArray,List.map_cons,List.map_nil,hs,hx,hrun]
 exact hKK _ _ (hK v' w' k' h1 h2 h3 h4)
theorem Bch.put {D:Nat→Prop} {B lo b g:Nat} {k k':Option Nat} {S:Sto} {w W:World} (h:Bch D B lo b g k S w) {A1:Option Addr} {n1 c1 c3 c4:Nat} {A4:Option Addr} {v2 v':Value} (hr:w.heap[b]?=some (.cells #[.slice A1 n1 c1,v2,.slice (some ⟨g,0,none⟩) 256 c3,.slice A4 256 c4] 191 (0,0))) (ho:w.ownsRow lo 5 1 (.slice (some ⟨g,0,none⟩) 256 c3) 256 (S.now.map bv))
  (hb:Bls w B (.slice A1 n1 c1) S.bs) (hl:Bys w B (.slice A4 256 c4) S.last) {f:Nat} {l:List UInt8} (hf:f<256) (hw:WsB D B lo b g k' v' (S.ws++[((f:Int),l)]) W) (hB:qY lo b g k w W) (hN:Ze w.heap.size k k') (hrows:∀ q,q<w.heap.size→k≠some q→W.heap[q]?=w.heap[q]?) :
  Bch D B lo b g k' ⟨S.bs,S.ws++[((f:Int),l)],S.now.set f 1,S.last⟩ ((W.setCell ⟨b,1,none⟩ v').setCell ⟨g,f,none⟩ (.int .u8 1))∧qY lo b g k w ((W.setCell ⟨b,1,none⟩ v').setCell ⟨g,f,none⟩ (.int .u8 1)):=by
 obtain⟨hlb,hzb,hlg,hzg,hgb,hlw,hkq⟩:=h.size
 have hbl:=h.blo
 have hkd:=h.offk
 have hzW:=hB.below.size
 have hrb:=(hrows b hzb fun e=>(hkq b e).2.2.1 rfl).trans hr
 have hkq':∀ q,k'=some q→q≠b∧q≠g:=fun q hq=>(hN q hq).elim (fun e=>(hkq q e).2.2) fun e=>by omega
 have st:∀ q,q≠b→q≠g→((W.setCell ⟨b,1,none⟩ v').setCell ⟨g,f,none⟩ (.int .u8 1)).heap[q]?=W.heap[q]?:=fun q h1 h2=>(zJ _ _ _ _ h2).trans (zJ _ _ _ _ h1)
 have hB1:Below lo W ((W.setCell ⟨b,1,none⟩ v').setCell ⟨g,f,none⟩ (.int .u8 1)):=Below.setCell (Below.setCell (Below.refl _ _) (p:=⟨b,1,none⟩) hlb _) (p:=⟨g,f,none⟩) hlg _
 have hB2:Below lo w ((W.setCell ⟨b,1,none⟩ v').setCell ⟨g,f,none⟩ (.int .u8 1)):=hB.below.trans hB1
 have hX:Qb (YU B D) W ((W.setCell ⟨b,1,none⟩ v').setCell ⟨g,f,none⟩ (.int .u8 1)):=YU.keep fun q _ hq=>st q (fun e=>hkd b (.inl rfl) (e ▸ hq)) (fun e=>hkd g (.inr (.inl rfl)) (e ▸ hq))
 have ho1:=zO ho (w':=W) fun q hq=>by cases hq;exact hrows g hzg fun e=>(hkq g e).2.2.2 rfl
 have ho2:=UY (qel (k:=1) (v:=v') ho1 hgb) (k:=f) hf 1
 refine⟨⟨hlb,hbl,fun q hq=>⟨(h.dB q hq).1,by have:=(h.dB q hq).2.1;simp;omega,fun hx=>?_⟩,A1,n1,c1,v',c3,A4,c4,(zJ _ _ _ _ fun e=>hgb e.symm).trans (qi hrb 1 v'),ho2,?_,hb.below (Below.mono hB2 hbl),hl.below (Below.mono hB2 hbl)⟩,⟨hB2,fun q hq hn=>(st q (fun e=>hn (.inl e)) (fun e=>hn (.inr (.inl e)))).trans (hB.rows q hq hn)⟩⟩
 ·exact(h.dB q hq).2.2 (B3.of_new hN q (h.dB q hq).2.1 hx)
 ·obtain⟨ps,e,hc,hp⟩:=hw
  refine⟨ps,e,?_,fun p hpm=>⟨(hp p hpm).1,fun C hC=>(hp p hpm).2 C (hX.trans hC fun _ _ h=>h)⟩⟩
  rcases hc with ⟨e1,hm,A,e2,hrd⟩|⟨q,e1,e2,how⟩
  ·exact .inl ⟨e1,hm,A,e2,hrd.below (Below.mono hB1 hbl)⟩
  ·exact .inr ⟨q,e1,e2,zO how fun q' hq'=>by
    rw[e2] at hq'
    cases hq'
    exact st q (hkq' q e1).1 (hkq' q e1).2⟩
theorem or_none (a b:Nat) (ha:a<256) (hb:b<256):(bits .or .u8 (a:Int) (b:Int) != 0)=!(decide (a=0) && decide (b=0)):=by
 rw[←qgY a b ha hb]
 rfl
theorem first_eq {S:Sto} {f:Nat} (hf:f<256) (h:ZL S f=true) (hmin:∀ k,8≤k→k<f→ZL S k=false):QQ S≠[]∧QS S=f:=by
 have e:∃ l,QQ S=f :: l:=by
  unfold QQ
  have h0:jB S f=[]:=by
   unfold jB
   rw[List.filter_eq_nil_iff]
   intro k hk
   have hkf:k<f:=by simpa using hk
   rcases Nat.lt_or_ge k 8 with h8|h8
   ·unfold ZL;simp;omega
   ·rw[hmin k h8 hkf];decide
  have h1:=KM S f
  rw[if_pos h,h0] at h1
  obtain⟨t,ht⟩:=Gq S (show f+1≤256 by omega)
  exact⟨t,by rw[←ht,h1];rfl⟩
 obtain⟨l,e⟩:=e
 exact⟨by rw[e];simp,by unfold QS;rw[e];rfl⟩
theorem qhI {S:Sto} (h:∀ k,8≤k→k<256→ZL S k=false):QQ S=[]:=by
 unfold QQ jB
 rw[List.filter_eq_nil_iff]
 intro k hk
 have hkf:k<256:=by simpa using hk
 rcases Nat.lt_or_ge k 8 with h8|h8
 ·unfold ZL;simp;omega
 ·rw[h k h8 hkf];decide
theorem IsB.keepX {X:Nat→Prop} {lo n:Nat} {l:List UInt8} {v:Value} {w C:World} (h:IsB lo n l v w) (hk:Qb X w C) (hX:∀ q,lo≤q→q<w.heap.size→¬X q):Bys C C.heap.size v l:=by
 obtain⟨A,c,e,⟨A',c',e',hc,hm,hr⟩,hf⟩:=h
 refine⟨A',c',e',hc,hm,hr.1,fun hn=>?_⟩
 obtain⟨b,off,e2,hb,hcell⟩:=hr.2 hn
 subst e2
 have hlo:=hf ⟨b,off,none⟩ _ _ e'
 have hl:0<(l.map bv).length:=by simpa using hn
 exact⟨b,off,rfl,World.block_lt_of_cell? C ⟨b,off+0,none⟩ (hk _ _ (hX b hlo hb) (hcell 0 _ (zL hl))),fun j u hu=>hk _ _ (hX b hlo hb) (hcell j u hu)⟩
theorem WsB.slice {D:Nat→Prop} {B lo b g:Nat} {k:Option Nat} {v:Value} {ws:List (Int×List UInt8)} {w:World} (h:WsB D B lo b g k v ws w):∃ A c,v=.slice A ws.length c:=by
 obtain⟨ps,e,hc,_⟩:=h
 rcases hc with ⟨_,_,A,e2,_⟩|⟨q,_,_,how⟩
 ·exact⟨A,_,e2⟩
 ·obtain⟨A,c,e,_⟩:=qv how
  exact⟨A,c,e⟩
def KE (D:Nat→Prop) (B lo b g:Nat) (k:Option Nat) (S:Sto) (lvl:Int) (its:List It) (w:World) (e:Ending) (W:World):Prop:=qY lo b g k w W ∧
 match zX S lvl its with
 | .error er=>e=.returned (.tuple #[.int .i64 0,.int .i64 er])
 | .ok (f,S')=>e=.returned (.tuple #[.int .i64 (f:Int),.int .i64 0])∧∃ k' D',Ze w.heap.size k k'∧Kt w.heap.size D D'∧Bch D' B lo b g k' S' W
theorem KE.bad {D:Nat→Prop} {B lo b g:Nat} {k:Option Nat} {S:Sto} {lvl:Int} {its:List It} {w W:World} {er:Int} (h:zX S lvl its=.error er) (hB:qY lo b g k w W):KE D B lo b g k S lvl its w (.returned (.tuple #[.int .i64 0,.int .i64 er])) W:=by
 refine⟨hB,?_⟩
 rw[h]
theorem KE.good {D D':Nat→Prop} {B lo b g:Nat} {k k':Option Nat} {S S':Sto} {lvl:Int} {its:List It} {w W:World} {f:Nat} (h:zX S lvl its=.ok (f,S')) (hB:qY lo b g k w W) (hN:Ze w.heap.size k k') (hD:Kt w.heap.size D D') (hb:Bch D' B lo b g k' S' W):KE D B lo b g k S lvl its w (.returned (.tuple #[.int .i64 (f:Int),.int .i64 0])) W:=by
 refine⟨hB,?_⟩
 rw[h]
 exact⟨rfl,k',D',hN,hD,hb⟩
theorem vF {R:Ending→World→Prop} {a:Act} {W:World} {u v:Value} (h4:a.tmps[4]?.getD undef=u) (h5:a.tmps[5]?.getD undef=v) (hd:a.defers=[]) (hR:R (.returned (.tuple #[u,v])) W):bodyPost Tryz.prog Tryz.f142 R .ret a W:=by
 refine bodyPost_ret (v:=.tuple #[u,v]) ?_ hd hR
 simp[results,Tryz.results142,go_sem,h4,h5]
set_option maxRecDepth 100000 in
theorem qbc (D:Nat→Prop) (B lo b g:Nat) (k:Option Nat) (S:Sto) (lvl:Int) (A:Option Addr) (n c:Nat) (its:List It) (hio:∀ x∈its,ZY x) (hws:S.ws.length≤4096) (w:World) (h:Bch D B lo b g k S w) (hx:Vk (B3 b g k) w (.slice A n c) its) :
  Calls Tryz.prog 142 #[.pointer (some ⟨b,0,none⟩),jg lvl A n c] w (KE D B lo b g k S lvl its w):=by
 obtain⟨hlb,hzb,hlg,hzg,hgb,hlw,hkq⟩:=h.size
 have hb3:=h.b3
 obtain⟨hnn,-,-,hA⟩:=hx.now.at_
 subst hnn
 cases hm:Qe lvl its
 case false =>
  have hE:=zH (show zX S lvl its=.error 8 by unfold zX;rw[hm];rfl)
  have hW:=zH (fun W (hw:Ext w W)=>qfX lvl A its.length c its W (hx.now.ext hw) hm)
  replace hx:=zH hx
  replace h:=zH h
  clear hA hm hkq hb3
  go_enter Tryz.func142,Tryz.ntmps142
  go_wp2_with fail
  generalize hw1:World.alloc _ _=w1
  have x1:Ext w w1:=by rw[←hw1];exact zN _ _
  clear hw1
  refine(hW.out w1 x1).mono ?_
  rintro e w2 ⟨rfl,hB⟩
  have x2:Ext w w2:=x1.trans hB
  clear hB x1 hW
  go_wp2_with fail
  exact vF rfl rfl rfl (KE.bad hE.out (qY.of_ext x2 hlw))
 case true =>
  have hE:Hid (zX S lvl its=match ZG (qV its) S.now with
   | .error e=>.error e
   | .ok t=>if QQ (qw S t)=[]∨S.ws.length=4096 then .error 9 else .ok (QS (qw S t),Kp (qw S t) (QS (qw S t)) (jh (zP lvl its)))):=zH (by unfold zX;rw[hm];rfl)
  obtain⟨hl1,hl2,hl5,hib⟩:=jH hm
  have hW:=zH (fun W (hw:Ext w W)=>GK lvl A its.length c its W (hx.now.ext hw) hm hio)
  have hX:=zH hx
  have hsl:=zH (vK (b:=zP lvl its) (by
   have:=Kj lvl its.length its.length hio hl5
   rw[Ki] at this
   omega))
  replace hA:=zH hA
  replace hib:=zH hib
  replace hio:=zH hio
  replace h:=zH h
  replace hb3:=zH hb3
  replace hkq:=zH hkq
  replace hws:=zH hws
  clear hx hm hl1 hl2
  go_enter Tryz.func142,Tryz.ntmps142
  go_wp2_with fail
  generalize hw1:World.alloc _ _=w1
  have x1:Ext w w1:=by rw[←hw1];exact zN _ _
  have p1:w1.heap[w.heap.size]?=some (.cells #[.int .i64 lvl,.slice A its.length c] 49 (0,0)):=by rw[←hw1];exact zI _ _ _ rfl
  clear hw1
  refine(hW.out w1 x1).mono ?_
  rintro e w2 ⟨u,rfl,⟨u,rfl,hu⟩,hB⟩
  have hB:Ext w1 w2:=hB
  have x2:Ext w w2:=x1.trans hB
  have p2:=qb p1 hB
  have kp:=qa p2
  have z1:w.heap.size<w1.heap.size:=(zG.1 p1).1
  have z12:=hB.size
  obtain⟨A0,c0,rfl,hu1,hu2⟩:=hu
  have hu:IsB w1.heap.size 128 (jh (zP lvl its)) (.slice A0 128 c0) w2:=⟨A0,c0,rfl,hu1,hu2⟩
  replace hu:=zH hu
  clear hB x1 p1 hW hu1 hu2
  go_wp2_with fail
  go_loopw [21] (fun i wr=>∃ (j:Nat) (t:List UInt8),j≤its.length∧i=.int .i64 (j:Int)∧ZG (qV (its.take j)) S.now=.ok t∧Bch D B lo b g k (qw S t) wr∧qY lo b g k w2 wr) (fun i _=>its.length-(intOf i).toNat)
  case atStart=>exact⟨0,S.now,Nat.zero_le _,rfl,rfl,h.out.ext x2,qY.refl _ _ _ _ _⟩
  case round =>
   obtain⟨j,t,hj,rfl,hsh,hbc,hbk⟩:=hrel
   have hxr:=hX.out.trans ((Qb.of_ext (X:=B3 b g k) x2).trans hbk.keepX fun _ _ h=>h) (fun _ _ h=>h)
   by_cases hlt:j<its.length
   ·obtain⟨bi,off,rfl,hbi⟩:=hA.out (by omega)
    obtain⟨A',c',d0,d1,d2,d3,d4,-⟩:=hxr.now.item j hlt
    have hr8:=hib.out its[j] (List.getElem_mem hlt)
    have hrr:its[j].r=0∨(8≤its[j].r∧its[j].r<256):=by unfold itB at hr8;simp at hr8;exact hr8.1
    have hbad:=zH (fun e h1=>qgl hlt (e:=e) hsh h1)
    have hmore:=zH (fun t' h1=>qeC hlt (t'':=t') hsh h1)
    generalize its[j]=x at *
    have hwk:=zH (IntWalk.wrap64_in ((j:Int)+1) (by omega))
    replace hsh:=zH hsh
    replace hxr:=zH hxr
    clear hbi hr8
    rcases hrr with hr0|hr1
    ·have hsh2:=zH (hmore.out t (by rw[hr0];simp[Jy]))
     rw[hr0] at d3
     have hz0:=hbc.size.2.2.2.2.2.1
     replace hbc:=zH hbc
     replace hbk:=zH hbk
     clear hr0 hbad hmore kp
     go_wp2_with fail
     try rw[hwk.out]
     refine⟨⟨j+1,t,by omega,rfl,hsh2.out,hbc.out.ext (zN _ _),hbk.out.trans (qY.of_ext (zN _ _) hz0) (Ze.refl _ _)⟩,?_⟩
     simp[intOf]
     omega
    ·obtain⟨a,hra⟩:∃ a:Nat,x.r=(a:Int):=⟨x.r.toNat,by omega⟩
     have ha8:8≤a:=by omega
     have ha9:a<256:=by omega
     have hsa:(x.r).toNat=a:=by omega
     rw[hra] at d3
     rw[hsa] at hbad hmore
     have hs1:Hid (Jy t a=if Qh t a=0 then .error 6 else if Qh t a=255 then .error 70 else .ok (jc t a 1)):=zH (by unfold Jy;rw[if_neg (by omega)])
     have hza:((a:Int) == 0)=false:=by rw[beq_eq_false_iff_ne];omega
     have hzb2:decide (a=0)=false:=decide_eq_false (by omega)
     have hz0:=hbc.size.2.2.2.2.2.1
     have HS:=zH (fun W (hW:Ext wr W)=>qfh D B lo b g k (qw S t) a ha9 W (hbc.ext hW))
     replace hbc:=zH hbc
     replace hbk:=zH hbk
     clear kp hr1 hsa hra
     go_wp2_with fail
     generalize hwa:World.alloc _ _=wa
     have xa:Ext wr wa:=by rw[←hwa];exact zN _ _
     have ra:wa.heap[wr.heap.size]?=some (.cells #[.int .u8 x.k,.int .u32 x.i,.int .u32 x.o,.int .i64 (a:Int),.slice A' x.val.length c'] 68 (0,0)):=by rw[←hwa];exact zI _ _ _ rfl
     have ka:=qa ra
     clear hwa d0 d1 d2 d3 d4
     go_wp2_with fail
     refine(HS.out wa xa).mono ?_
     rintro e wsh ⟨hk2,hcase⟩
     have hk3:=hbk.out.trans ((qY.of_ext xa hz0).trans hk2 (Ze.refl _ _)) (Ze.refl _ _)
     clear HS hk2 ka ra xa
     rcases hcase with ⟨hc0,rfl⟩|⟨hc0,rfl⟩|⟨hc0,hc1,rfl,hb3⟩
     ·have hEE:=zH (show zX S lvl its=.error 6 by rw[hE.out,hbad.out 6 (by rw[hs1.out,if_pos hc0])])
      clear hE hbad hmore hs1 hc0
      go_wp2_with fail
      exact vF rfl rfl rfl (KE.bad hEE.out ((qY.of_ext x2 hlw).trans hk3 (Ze.refl _ _)))
     ·have hEE:=zH (show zX S lvl its=.error 70 by rw[hE.out,hbad.out 70 (by rw[hs1.out,if_neg (by omega),if_pos hc0])])
      clear hE hbad hmore hs1 hc0
      go_wp2_with fail
      exact vF rfl rfl rfl (KE.bad hEE.out ((qY.of_ext x2 hlw).trans hk3 (Ze.refl _ _)))
     ·have IR:∃ (j':Nat) (t':List UInt8),j'≤its.length∧Value.int .i64 ((j:Int)+1)=.int .i64 (j':Int)∧ZG (qV (its.take j')) S.now=.ok t'∧Bch D B lo b g k (qw S t') wsh∧qY lo b g k w2 wsh:=
       ⟨j+1,jc t a 1,by omega,rfl,hmore.out _ (by rw[hs1.out,if_neg hc0,if_neg hc1]),hb3,hk3⟩
      replace IR:=zH IR
      clear hE hbad hmore hs1 hc0 hc1 hb3 hk3 hbk hbc
      go_wp2_with fail
      try rw[hwk.out]
      refine⟨IR.out,?_⟩
      simp[intOf]
      omega
   ·obtain rfl:j=its.length:=by omega
    rw[List.take_length] at hsh
    rw[hsh] at hE
    have hE:Hid (zX S lvl its=if QQ (qw S t)=[]∨S.ws.length=4096 then .error 9 else .ok (QS (qw S t),Kp (qw S t) (QS (qw S t)) (jh (zP lvl its)))):=hE
    have hEw:Hid ((qw S t).ws.length=S.ws.length):=rfl
    rw[←hEw.out] at hE hws
    generalize qw S t=S' at *
    have hbk0:=(qY.of_ext (b:=b) (g:=g) (k:=k) x2 hlw).trans hbk (Ze.refl _ _)
    obtain⟨D',hD'⟩:∃ D':Nat→Prop,D'=fun q=>D q∨(w1.heap.size≤q∧q<w2.heap.size):=⟨_,rfl⟩
    have hb3:=hb3.out
    have hzw:=h.out.size.2.2.2.2.2.1
    have hux:=zH (fun C (hC:Qb (YU B D') wr C)=>hu.out.keepX (X:=fun q=>B3 b g k q∨YU B D' q) ((hbk.keepX.mono fun q _ h=>.inl h).trans hC fun _ _ h=>.inr h) (fun q h1 h2=>by
     rintro (hx|hx)
     ·have:=(hb3 q hx).2
      omega
     ·exact hx.2 (by rw[hD'];exact .inr ⟨h1,h2⟩)))
    have hDD:∀ q,D q→D' q:=fun q hq=>by rw[hD'];exact .inl hq
    have hDn:Kt w.heap.size D D':=fun q hq=>by rw[hD'] at hq;exact hq.imp id fun h=>by omega
    have hDb:∀ W,Ext wr W→∀ q,D' q→lo≤q∧q<W.heap.size∧¬B3 b g k q:=fun W hW q hq=>by
     have hz:=hW.size
     have hz2:=hbk.below.size
     rw[hD'] at hq
     rcases hq with hq|⟨h1,h2⟩
     ·have:=hbc.dB q hq
      exact⟨this.1,by omega,this.2.2⟩
     ·exact⟨by omega,by omega,fun hx=>by have:=(hb3 q hx).2;omega⟩
    have hkD:∀ q,k=some q→¬(q<B∨D' q):=fun q hq hx=>hx.elim (fun h1=>h.out.off q h1 (.inr (.inr hq))) fun h1=>(hDb wr (Ext.refl _) q h1).2.2 (.inr (.inr hq))
    replace hDb:=zH hDb
    replace hDn:=zH hDn
    replace hDD:=zH hDD
    replace hkD:=zH hkD
    clear hD' hb3 hzw
    obtain⟨A1,n1,c1,v2,c3,A4,c4,hr,ho,hwb,hb1,hb4⟩:=hbc.ex
    obtain⟨hlen,hlen4⟩:=hbc.lens
    obtain⟨hkn,hfn,-,-⟩:=Zc ho
    obtain⟨b4,o4,rfl,hb4lt,hk4⟩:∃ b4 o4,A4=some ⟨b4,o4,none⟩∧b4<B∧∀ a,a<256→wr.cell? ⟨b4,o4+a,none⟩=some (.int .u8 (VR S' a:Int)):=by
     obtain⟨A',c',e,_,_,hrd⟩:=hb4
     simp only[Value.slice.injEq] at e
     obtain⟨rfl,_,rfl⟩:=e
     obtain⟨b4,o4,e,h1,h2⟩:=hrd.2 (by omega)
     exact⟨b4,o4,e,h1,fun a ha=>h2 a _ (by rw[List.getElem?_map,zL (by omega)];simp[VR,zL (show a<S'.last.length by omega)])⟩
    have hkn:Hid (∀ a,a<256→wr.cell? ⟨g,a,none⟩=some (.int .u8 (zE S' a:Int))):=zH hkn
    have hk4:=zH hk4
    have hfr:Hid (∀ k,8≤k→(bits .or .u8 (zE S' k:Int) (VR S' k:Int) != 0)=!ZL S' k):=zH fun k h8=>by
     rw[or_none _ _ (qgV S' k) (qdS S' k)]
     unfold ZL
     rw[decide_eq_true h8,Bool.true_and]
    obtain⟨A2,c2,rfl⟩:=hwb.slice
    have h5g:=h.out.size
    have hkq2:=hbc.size.2.2.2.2.2.2
    replace hkq2:=zH hkq2
    have h0:=h
    clear kp hu hxr hX hA hib hio h hbk hsh hEw p2 hkq h5g
    replace hbc:=zH hbc
    replace hwb:=zH hwb
    replace ho:=zH ho
    replace hb1:=zH hb1
    replace hb4:=zH hb4
    replace hbk0:=zH hbk0
    replace hfn:=zH hfn
    replace hlen:=zH hlen
    replace hlen4:=zH hlen4
    have hwx:=zH (Ext.refl wr)
    generalize hwm:wr=wm at *
    clear hwm
    go_wp2_with fail
    go_loopw [4] (fun i wr=>∃ k:Nat,8≤k∧k≤256∧i=.int .i64 (k:Int)∧(∀ j,8≤j→j<k→ZL S' j=false)∧Ext wm wr) (fun i _=>256-(intOf i).toNat)
    case atStart=>exact⟨8,zM _,by omega,rfl,fun _ _ h=>by omega,Ext.refl _⟩
    case round =>
     obtain⟨f,h8,hf,rfl,hmin,hE2⟩:=hrel
     replace hmin:=zH hmin
     have r2:=qb hr hE2
     by_cases hlt:f<256
     ·have g1:∀ W,ql.r wr W→∀ i,W.cell? ⟨b,i,none⟩=#[.slice A1 n1 c1,.slice A2 S'.ws.length c2,.slice (some ⟨g,0,none⟩) 256 c3,.slice (some ⟨b4,o4,none⟩) 256 c4][i]?:=fun W h=>qa (qb r2 h)
      have g2:∀ W,ql.r wr W→W.cell? ⟨g,f,none⟩=some (.int .u8 (zE S' f:Int)):=fun W h=>Ext.cell (hE2.trans h) (hkn.out f hlt)
      have g3:∀ W,ql.r wr W→W.cell? ⟨b4,o4+f,none⟩=some (.int .u8 (VR S' f:Int)):=fun W h=>Ext.cell (hE2.trans h) (hk4.out f hlt)
      have hbit:=hfr.out f h8
      generalize zE S' f=nw at *
      generalize VR S' f=lw at *
      have d1:decide ((f:Int)<256)=true:=decide_eq_true (by omega)
      have d2:decide (f<256)=true:=decide_eq_true hlt
      have hwk:=zH (IntWalk.wrap64_in ((f:Int)+1) (by omega))
      have hmin2:=zH (fun (h:ZL S' f=false)=>(fun j hj (hlt:j<f+1)=>(Nat.lt_or_ge j f).elim (fun h1=>hmin.out j hj h1) fun h1=>by rw[show j=f by omega];exact h:∀ j,8≤j→j<f+1→ZL S' j=false))
      have hfirst:=zH (fun (h:ZL S' f=true)=>first_eq hlt h hmin.out)
      generalize ZL S' f=fb at *
      have e0:=zH hE2
      clear hE2
      go_upto_region 13 with fail
      refine qo (by kernel_rfl) ?_
      refine qO (w:=wr) ql (qF []) (List.replicate 22 true) 0 (by kernel_rfl) (by kernel_rfl) (by kernel_rfl) (by kernel_rfl) (by kernel_rfl) (by kernel_rfl) (by kernel_rfl) ?st (Rel.drew _ _) ?walk
      case st=>exact qk (fun _ h=>by cases h)
      case walk =>
       intro K hK
       dsimp only[qp,List.replicate]
       repeat ((first|(refine qe ?_ (by rfl) (by rfl) (fun W hW _=>⟨W,?_,Rel.refl _ W⟩) ?_;rotate_left;(go_simp<;>with_reducible rfl))|(refine qh (by rfl) ?_));try simp only[Act.put,qj,qf,qc,qg,zA,zB,zC])
       refine qe (.pointer (some ⟨g,f,none⟩)) (by rfl) (by rfl) (fun W hW _=>⟨W,?_,Rel.refl _ W⟩) ?_
       ·go_simp
        intro hge
        exfalso
        omega
       simp only[Act.put,qj,qf,qc,qg,zA,zB,zC]
       repeat ((first|(refine qe ?_ (by rfl) (by rfl) (fun W hW _=>⟨W,?_,Rel.refl _ W⟩) ?_;rotate_left;(go_simp<;>with_reducible rfl))|(refine qh (by rfl) ?_));try simp only[Act.put,qj,qf,qc,qg,zA,zB,zC])
       refine qe (.pointer (some ⟨b4,o4+f,none⟩)) (by rfl) (by rfl) (fun W hW _=>⟨W,?_,Rel.refl _ W⟩) ?_
       ·go_simp
        intro hge
        exfalso
        omega
       simp only[Act.put,qj,qf,qc,qg,zA,zB,zC]
       repeat ((first|(refine qe ?_ (by rfl) (by rfl) (fun W hW _=>⟨W,?_,Rel.refl _ W⟩) ?_;rotate_left;(go_simp<;>with_reducible rfl))|(refine qh (by rfl) ?_));try simp only[Act.put,qj,qf,qc,qg,zA,zB,zC])
       refine qt (hK _ _ fun W hW hF=>?_)
       clear hF hK g1 g2 g3
       have hW:Ext wr W:=hW
       have xE:Ext wm W:=e0.out.trans hW
       clear e0 hW
       dsimp only[List.drop,List.length_cons,List.length_nil,Nat.reduceAdd,Nat.reduceSub]
       cases fb
       ·have IR:∃ k':Nat,8≤k'∧k'≤256∧Value.int .i64 ((f:Int)+1)=.int .i64 (k':Int)∧(∀ j,8≤j→j<k'→ZL S' j=false)∧Ext wm W:=⟨f+1,by omega,by omega,rfl,hmin2.out rfl,xE⟩
        replace IR:=zH IR
        clear xE hmin hmin2 hfirst
        go_wp2
        refine Qm ?_
        go_wp2_with fail
        try rw[hwk.out]
        refine⟨IR.out,?_⟩
        simp[intOf]
        omega
       ·have hne:=zH (hfirst.out rfl).1
        have hfs:=zH (hfirst.out rfl).2
        clear hmin hmin2 hfirst hbit hkn hk4 hfr d1 d2
        have r3:=qb hr xE
        have k3:=qa r3
        have f3:=qd r3
        have e1:((f:Int) == 256)=false:=by rw[beq_eq_false_iff_ne];omega
        have e2:decide (f=256)=false:=decide_eq_false (by omega)
        have e3:((256:Int) == (f:Int))=false:=by rw[beq_eq_false_iff_ne];omega
        by_cases hw4:S'.ws.length=4096
        ·have hEE:=zH (show zX S lvl its=.error 9 by rw[hE.out,if_pos (.inr hw4)])
         have hl1:((S'.ws.length:Int) == 4096)=true:=by rw[beq_iff_eq];omega
         have hl2:decide (S'.ws.length=4096)=true:=decide_eq_true hw4
         replace hw4:=zH hw4
         replace xE:=zH xE
         go_wp2
         refine Qm ?_
         go_wp2_with fail
         exact vF rfl rfl rfl (KE.bad hEE.out (hbk0.out.trans (qY.of_ext xE.out hbc.out.size.2.2.2.2.2.1) (Ze.refl _ _)))
        ·have hEE:=zH (show zX S lvl its=.ok (f,Kp S' f (jh (zP lvl its))) by rw[hE.out,if_neg (fun h=>h.elim hne.out hw4),hfs.out])
         have hl1:((S'.ws.length:Int) == 4096)=false:=by rw[beq_eq_false_iff_ne];omega
         have hl2:decide (S'.ws.length=4096)=false:=decide_eq_false hw4
         replace hw4:=zH hw4
         have xw:=zH xE
         have zW:=xE.size
         have zwm:=hbc.out.size.2.2.2.2.2.1
         have hbW:=zH ((hbc.out.ext xE).mono hDD.out (hDb.out W (hwx.out.trans xE)))
         clear xE
         go_wp2
         refine Qm ?_
         go_wp2_with (at_builtin;refine qZ ?_)
         have zBlo:=h0.out.blo
         refine Qy.go (qcR rfl (.tmp 78) (.tmp 82) rfl rfl rfl ((hwb.out.mono hDD.out).ext xw.out (by omega)) (by omega) hkD.out (by have:=hws.out;omega) (f:Int) A0 128 c0 (jh (zP lvl its)) hsl.out.symm (fun C hC=>hux.out C ((Qb.of_ext (hwx.out.trans xw.out)).trans hC fun _ _ h=>h)) ?_)
         intro v4 w4 k4 hW4 hK4 hN4 hrows4
         obtain⟨A5,c5,rfl⟩:=hW4.slice
         rw[List.length_append,List.length_singleton] at hW4
         have r4:=(hrows4 b (zG.1 r3).1 fun e=>(hkq2.out b e).2.2.1 rfl).trans r3
         have kr4:=qa r4
         have fr4:=qd r4
         have oW:=QP ho.out xw.out
         have o4:=zO oW (w':=w4) fun q hq=>by cases hq;exact hrows4 g (QR oW g rfl).2 fun e=>(hkq2.out g e).2.2.2 rfl
         have kg4:=(Zc o4).1 f hlt
         have fg4:=(Zc o4).2.1 f
         have hgb':g≠b:=hbc.out.size.2.2.2.2.1
         have P:=zH (Bch.put hbW.out r3 oW (hb1.out.below (Below.mono xw.out (by omega))) (hb4.out.below (Below.mono xw.out (by omega))) hlt hW4 hK4 hN4 hrows4)
         have hAll:Hid (qY lo b g k w _):=zH (hbk0.out.trans ((qY.of_ext xw.out zwm).trans P.out.2 (Ze.refl _ _)) (Ze.refl _ _))
         replace hN4:=zH hN4
         clear o4 oW hrows4 hW4 r3 k3 f3 hK4
         go_wp2_with fail
         exact vF rfl rfl rfl (KE.good hEE.out hAll.out (hN4.out.mono (by have:=hbk0.out.below.size;omega)) hDn.out P.out.1)
     ·have d1:decide ((f:Int)<256)=false:=decide_eq_false (by omega)
      have d2:decide (f<256)=false:=decide_eq_false (by omega)
      have e1:((f:Int) == 256)=true:=by rw[beq_iff_eq];omega
      have e2:decide (f=256)=true:=decide_eq_true (by omega)
      have hf6:f=256:=by omega
      have hEE:=zH (show zX S lvl its=.error 9 by rw[hE.out,if_pos (.inl (qhI fun j h8 hj=>hmin.out j h8 (by omega)))])
      have e0:=zH hE2
      replace hf6:=zH hf6
      clear hE2 hkn hk4 hfr hmin r2
      go_upto_region 13 with fail
      refine qo (by kernel_rfl) ?_
      refine qO (w:=wr) ql (qF []) (List.replicate 22 true) 0 (by kernel_rfl) (by kernel_rfl) (by kernel_rfl) (by kernel_rfl) (by kernel_rfl) (by kernel_rfl) (by kernel_rfl) ?st (Rel.drew _ _) ?walk
      case st=>exact qk (fun _ h=>by cases h)
      case walk =>
       intro K hK
       dsimp only[qp,List.replicate]
       repeat ((first|(refine qe ?_ (by rfl) (by rfl) (fun W hW _=>⟨W,?_,Rel.refl _ W⟩) ?_;rotate_left;(go_simp<;>with_reducible rfl))|(refine qh (by rfl) ?_));try simp only[Act.put,qj,qf,qc,qg,zA,zB,zC])
       refine qt (hK _ _ fun W hW hF=>?_)
       clear hF hK
       have hW:Ext wr W:=hW
       have xE:Ext wm W:=e0.out.trans hW
       clear e0 hW
       dsimp only[List.drop,List.length_cons,List.length_nil,Nat.reduceAdd,Nat.reduceSub]
       replace xE:=zH xE
       go_wp2
       refine Qm ?_
       go_wp2_with fail
       exact vF rfl rfl rfl (KE.bad hEE.out (hbk0.out.trans (qY.of_ext xE.out hbc.out.size.2.2.2.2.2.1) (Ze.refl _ _)))
def QI:List Nat→List UInt8→Except Int (List UInt8)
 | [],t=>.ok t
 |a :: r,t=>if a=0 then QI r t else if Qh t a=0 then .error 6 else QI r (VQ t a)
theorem Ja (r:List Nat) (t:List UInt8):QI (0 :: r) t=QI r t:=by simp[QI]
theorem Ju {a:Nat} (ha:a≠0) {t:List UInt8} (h:Qh t a=0) (r:List Nat):QI (a :: r) t=.error 6:=by simp only[QI];rw[if_neg ha,if_pos h]
theorem jZ {a:Nat} (ha:a≠0) {t:List UInt8} (h:Qh t a≠0) (r:List Nat):QI (a :: r) t=QI r (VQ t a):=by simp only[QI];rw[if_neg ha,if_neg h]
theorem jG:∀ (l r:List Nat) (t:List UInt8),QI (l++r) t=match QI l t with
  | .error e=>.error e
  | .ok t'=>QI r t'
 | [],_,_=>rfl
 |a :: l,r,t=>by
  by_cases ha:a=0
  ·subst ha
   rw[List.cons_append,Ja,Ja]
   exact jG l r t
  ·by_cases h:Qh t a=0
   ·rw[List.cons_append,Ju ha h,Ju ha h]
   ·rw[List.cons_append,jZ ha h,jZ ha h]
    exact jG l r _
def vS (S:Sto):Nat→Int→List UInt8→Nat→Option (List UInt8)
 |0,_,_,_=>none
 |h+1,lvl,t,a=>if Qh t a=0 then none else if 1<Qh t a then some (VQ t a) else
  match qu S a with
  |none=>none
  |some (l,xs)=>if 0≤lvl∧l≠lvl then none else if 0<l then (qV xs).foldl (fun acc r=>acc.bind fun t=>vS S h (l-1) t r) (some (t.set a 0)) else
   match QI (qV xs) (t.set a 0) with
   | .error _=>none
   | .ok t'=>some t'
theorem Vu (S:Sto) (h:Nat) (lvl:Int) (t:List UInt8) (a:Nat):vS S (h+1) lvl t a=if Qh t a=0 then none else if 1<Qh t a then some (VQ t a) else
  match qu S a with
  |none=>none
  |some (l,xs)=>if 0≤lvl∧l≠lvl then none else if 0<l then (qV xs).foldl (fun acc r=>acc.bind fun t=>vS S h (l-1) t r) (some (t.set a 0)) else
   match QI (qV xs) (t.set a 0) with
   | .error _=>none
   | .ok t'=>some t':=rfl
theorem Un (S:Sto):∀ (h:Nat) (lvl:Int) (t:List UInt8) (a:Nat),0≤lvl→lvl<h→vS S (h+1) lvl t a=vS S h lvl t a
 |0,lvl,t,a,h0,h1=>by omega
 |h+1,lvl,t,a,h0,h1=>by
  rw[Vu,Vu]
  split
  ·rfl
  ·split
   ·rfl
   ·split
    ·rfl
    ·rename_i l xs _
     split
     ·rfl
     ·rename_i hl
      have e:l=lvl:=by
       by_cases h:l=lvl
       ·exact h
       ·exact absurd ⟨h0,h⟩ hl
      subst e
      split
      ·rename_i hp
       congr 1
       funext acc r
       congr 1
       funext t
       exact Un S h (l-1) t r (by omega) (by omega)
      ·rfl
theorem ZO {S:Sto} {a:Nat} {lvl:Int} {xs:List It} (h:qu S a=some (lvl,xs)):0≤lvl∧lvl<6∧xs.length≤5:=by
 have:=jH (Qa h).1
 exact⟨this.1,this.2.1,this.2.2.1⟩
def QH (S:Sto) (lvl:Int) (t:List UInt8) (a:Nat):Option (List UInt8):=vS S 7 lvl t a
def jR (S:Sto):List (Nat×Int)→List UInt8→Option (List UInt8)
 | [],t=>some t
 |x :: r,t=>match QH S x.2 t x.1 with
  |none=>none
  |some t'=>jR S r t'
theorem YK (S:Sto):∀ (l r:List (Nat×Int)) (t:List UInt8),jR S (l++r) t=match jR S l t with
  |none=>none
  |some t'=>jR S r t'
 | [],_,_=>rfl
 |x :: l,r,t=>by
  simp only[List.cons_append,jR]
  cases QH S x.2 t x.1 with
  |none=>rfl
  |some t'=>exact YK S l r t'
theorem Uo (S:Sto) (l:Int):∀ (rs:List Nat) (o:Option (List UInt8)),rs.foldl (fun acc r=>acc.bind fun t=>QH S l t r) o=o.bind fun t=>jR S (rs.map fun r=>(r,l)) t
 | [],o=>by cases o <;> rfl
 |a :: r,o=>by
  rw[List.foldl_cons,Uo S l r]
  cases o with
  |none=>rfl
  |some t =>
   simp only[Option.bind_some,List.map_cons,jR]
   cases QH S l t a <;> rfl
theorem KS (S:Sto) (lvl:Int) (t:List UInt8) (a:Nat):QH S lvl t a=if Qh t a=0 then none else if 1<Qh t a then some (VQ t a) else
  match qu S a with
  |none=>none
  |some (l,xs)=>if 0≤lvl∧l≠lvl then none else if 0<l then jR S ((qV xs).map fun r=>(r,l-1)) (t.set a 0) else
   match QI (qV xs) (t.set a 0) with
   | .error _=>none
   | .ok t'=>some t':=by
 obtain⟨h,hh⟩:∃ h,h=6:=⟨_,rfl⟩
 have L1:∀ lvl t a,QH S lvl t a=vS S (h+1) lvl t a:=fun lvl t a=>by rw[hh];rfl
 rw[L1,Vu]
 have key:∀ l xs,qu S a=some (l,xs)→0<l→(qV xs).foldl (fun acc r=>acc.bind fun t=>vS S h (l-1) t r) (some (t.set a 0))=jR S ((qV xs).map fun r=>(r,l-1)) (t.set a 0):=fun l xs hn h0=>by
  obtain⟨_,h6,_⟩:=ZO hn
  have e1:=Uo S (l-1) (qV xs) (some (t.set a 0))
  rw[Option.bind_some] at e1
  rw[←e1]
  have e:(fun (acc:Option (List UInt8)) (r:Nat)=>acc.bind fun t=>vS S h (l-1) t r)=fun acc r=>acc.bind fun t=>QH S (l-1) t r:=by
   funext acc r
   cases acc with
   |none=>rfl
   |some t =>
    simp only[Option.bind_some]
    rw[L1,Un S h (l-1) t r (by omega) (by omega)]
  rw[e]
 split
 ·rfl
 ·split
  ·rfl
  ·split
   ·rfl
   ·rename_i l xs hn
    split
    ·rfl
    ·split
     ·rename_i h0
      exact key l xs hn h0
     ·rfl
def mkIt (k:K3) (r:Nat):It:=⟨k.1,k.2.1,k.2.2,(r:Int),[]⟩
def TE (p:List It):K3:=match p with
 | []=>(0,0,0)
 |x :: _=>qE x
def ZT (lvl:Int):List (List It)→Sto→Except Int (List It×Sto)
 | [],S=>.ok ([],S)
 |p :: r,S=>match zX S lvl p with
  | .error e=>.error e
  | .ok (f,S')=>match ZT lvl r S' with
   | .error e=>.error e
   | .ok (up,S'')=>.ok (mkIt (TE p) f :: up,S'')
def vy (l:List It):List (List It):=if 5<l.length then [l.take 3,l.drop 3] else [l]
def QW (S:Sto) (lvl:Int) (l held:List It):Except Int (List It×Sto):=match ZT lvl (vy l) S with
 | .error e=>.error e
 | .ok (up,S')=>match QI (qV held) S'.now with
  | .error e=>.error e
  | .ok t=>.ok (up,qw S' t)
def Kq (xs:List It) (p many:Nat) (up:List It):List It:=xs.take p++up++xs.drop (p+many)
def vD (S:Sto) (k:K3):Nat→List It→List (Nat×List It×Nat)
 |0,xs=>[(0,xs,qL xs k)]
 |h+1,xs=>(h+1,xs,if KR xs k=true then qL xs k else qL xs k-1) :: match xs[if KR xs k=true then qL xs k else qL xs k-1]? with
  |none=>[]
  |some y=>match qu S y.r.toNat with
   |none=>[]
   |some (_,ys)=>vD S k h ys
def VX (k:K3) (lvl:Nat) (xs:List It):Nat:=if lvl=0∧KR xs k=false then 0 else 1
def ZR (k:K3):List (Nat×List It×Nat)→List It→Sto→Except Int (List It×Sto)
 | [],up,S=>.ok (up,S)
 |(lvl,xs,p) :: r,up,S=>match QW S (lvl:Int) (Kq xs p (VX k lvl xs) up) up with
  | .error e=>.error e
  | .ok (up',S')=>ZR k r up' S'
def Uy (k:K3) (l:List (Nat×List It×Nat)):Bool:=decide (l.length=6) && (l.all fun s=>!decide (s.2.1.length<5)) && !(match l.getLast? with
 |none=>false
 |some s=>KR s.2.1 k)
def putX (S:Sto) (L:Nat) (xs:List It) (root:Nat) (x:It):Except Int (Nat×Sto):=
 if Uy (qE x) (vD S (qE x) L xs)=true then .error 120 else
 match ZR (qE x) (vD S (qE x) L xs).reverse [x] S with
 | .error e=>.error e
 | .ok (up,S1)=>match (if 1<up.length then QW S1 ((vD S (qE x) L xs).length:Int) up up else .ok (up,S1)) with
  | .error e=>.error e
  | .ok (up',S2)=>match QH S2 (-1) S2.now root with
   |none=>.error 8
   |some t=>.ok (match up' with
    | []=>0
    |y :: _=>y.r.toNat,qw S2 t)
theorem Tryz.info_step:(Tryz.prog.info? 160).map (fun i=>(i.zero,i.size,i.bytes))=some (some (.agg #[.int .i64 0,.slice none 0 0,.int .i64 0]),3,40):=by kernel_rfl
abbrev Stp:=Nat×List It×Nat
def ZZ:List (Stp×Value)→List Value
 | []=>[]
 |p :: r=>.int .i64 (p.1.1:Int) :: p.2 :: .int .i64 (p.1.2.2:Int) :: ZZ r
theorem qdt (ps:List (Stp×Value)) (p:Stp×Value):ZZ (ps++[p])=ZZ ps++[.int .i64 (p.1.1:Int),p.2,.int .i64 (p.1.2.2:Int)]:=by
 induction ps with
 |nil=>rfl
 |cons a r ih=>simp[ZZ,ih]
theorem Yj (ps:List (Stp×Value)):∀ i (h:i<ps.length),(ZZ ps)[i*3]?=some (.int .i64 (ps[i].1.1:Int))∧(ZZ ps)[i*3+1]?=some ps[i].2∧(ZZ ps)[i*3+2]?=some (.int .i64 (ps[i].1.2.2:Int)):=by
 induction ps with
 |nil=>intro i h;simp at h
 |cons p r ih =>
  intro i h
  rcases i with _|i
  ·simp[ZZ]
  ·have:=ih i (by simpa using h)
   rw[show (i+1)*3=i*3+1+1+1 by omega]
   simpa [ZZ,Nat.add_assoc] using this
def OwnX (v:Value) (q:Nat):Prop:=v.ownBlock=some q
def OwnL (lo:Nat) (v:Value) (q:Nat):Prop:=v.ownBlock=some q∨q<lo
def Tv (X:Nat→Prop) (w:World) (v:Value) (ips:List (It×Value)):Prop:=(∃ A c,v=.slice A ips.length c∧ips.length≤c∧c≤maxLen∧∀ C,Qb X w C→Rd C C.heap.size 5 A ips.length (qQ ips)) ∧
 ∀ p∈ips,(∃ A c,p.2=.slice A p.1.val.length c)∧∀ C,Qb X w C→Bys C C.heap.size p.2 p.1.val
theorem Tv.its {X:Nat→Prop} {w:World} {v:Value} {ips:List (It×Value)} (h:Tv X w v ips) {C:World} (hC:Qb X w C):Its C C.heap.size v (ips.map (·.1)):=by
 obtain⟨⟨A,c,e,h1,h2,hr⟩,hp⟩:=h
 exact⟨ips,rfl,⟨A,c,by rw[List.length_map];exact e,by rw[List.length_map];exact h1,h2,by rw[List.length_map];exact hr C hC⟩,fun p hpm=>⟨(hp p hpm).1,(hp p hpm).2 C hC⟩⟩
theorem Tv.trans {X Y:Nat→Prop} {w W:World} {v:Value} {ips:List (It×Value)} (h:Tv X w v ips) (hk:Qb X w W) (hY:∀ k,k<w.heap.size→Y k→X k):Tv Y W v ips:=by
 obtain⟨⟨A,c,e,h1,h2,hr⟩,hp⟩:=h
 exact⟨⟨A,c,e,h1,h2,fun C hC=>hr C (hk.trans hC hY)⟩,fun p hpm=>⟨(hp p hpm).1,fun C hC=>(hp p hpm).2 C (hk.trans hC hY)⟩⟩
def jO (lo:Nat) (w:World) (v:Value) (l:List Stp):Prop:=∃ ps:List (Stp×Value),ps.map (·.1)=l∧w.ownsRow lo 160 3 v l.length (ZZ ps)∧∀ p∈ps,∃ ips,ips.map (·.1)=p.1.2.1∧Tv (OwnL lo v) w p.2 ips
def YW (lo:Nat) (w:World) (v:Value) (l:List Stp):Prop:=∃ ps:List (Stp×Value),ps.map (·.1)=l∧(∃ A c,v=.slice A l.length c∧l.length≤c∧c≤maxLen∧∀ C,Qb (fun q=>q<lo) w C→Rd C C.heap.size 3 A l.length (ZZ ps))∧∀ p∈ps,∃ ips,ips.map (·.1)=p.1.2.1∧Tv (fun q=>q<lo) w p.2 ips
def VA (B:Nat) (w:World) (v:Value) (l:List Stp):Prop:=∃ ps:List (Stp×Value),ps.map (·.1)=l∧(∃ A c,v=.slice A l.length c∧l.length≤c∧c≤maxLen∧Rd w B 3 A l.length (ZZ ps))∧∀ p∈ps,(∃ A c,p.2=.slice A p.1.2.1.length c)∧Its w B p.2 p.1.2.1
theorem Rd.keepFrom {X:Nat→Prop} {w C:World} {B size n lo:Nat} {A:Option Addr} {xs:List Value} (h:Rd w B size A n xs) (hs:0<size) (hf:∀ a,A=some a→lo≤a.block) (hk:Qb X w C) (hX:∀ q,lo≤q→¬X q):Rd C C.heap.size size A n xs:=⟨h.1,fun hn=>by
 obtain⟨b,off,e,hb,hc⟩:=h.2 hn
 have h1:lo≤b:=hf _ e
 have hl:0<xs.length:=by rw[h.1];exact Nat.mul_pos hn hs
 exact⟨b,off,e,World.block_lt_of_cell? C ⟨b,off+0,none⟩ (hk _ _ (hX b h1) (hc 0 _ (zL hl))),fun j u hu=>hk _ _ (hX b h1) (hc j u hu)⟩⟩
theorem jO.toE {lo:Nat} {w:World} {v:Value} {l:List Stp} (h:jO lo w v l):YW lo w v l:=by
 obtain⟨ps,e,ho,hp⟩:=h
 obtain⟨A,c,rfl,h1,h2⟩:=qv ho
 have hf:=Zm.of_own ho
 refine⟨ps,e,⟨A,c,rfl,h1,h2,fun C hC=>(Rd.of_own ho).keepFrom (by omega) (fun a ha=>hf a _ _ (by rw[ha])) hC fun q hq hx=>by omega⟩,fun p hpm=>?_⟩
 obtain⟨ips,e1,hi⟩:=hp p hpm
 exact⟨ips,e1,hi.trans (Qb.refl _ _) fun k _ hk=>.inr hk⟩
theorem YW.mono {lo lo':Nat} {w:World} {v:Value} {l:List Stp} (h:YW lo w v l) (hl:lo'≤lo):YW lo' w v l:=by
 obtain⟨ps,e,⟨A,c,rfl,h1,h2,hr⟩,hp⟩:=h
 have hm:∀ {C},Qb (fun q=>q<lo') w C→Qb (fun q=>q<lo) w C:=fun hC=>hC.mono fun q _ hq=>by omega
 refine⟨ps,e,⟨A,c,rfl,h1,h2,fun C hC=>hr C (hm hC)⟩,fun p hpm=>?_⟩
 obtain⟨ips,e1,⟨A',c',f1,f2,f3,f4⟩,f5⟩:=hp p hpm
 exact⟨ips,e1,⟨A',c',f1,f2,f3,fun C hC=>f4 C (hm hC)⟩,fun q hq=>⟨(f5 q hq).1,fun C hC=>(f5 q hq).2 C (hm hC)⟩⟩
theorem Tv.shape {X:Nat→Prop} {w:World} {v:Value} {ips:List (It×Value)} {xs:List It} (h:Tv X w v ips) (e:ips.map (·.1)=xs):∃ A c,v=.slice A xs.length c:=by
 obtain⟨⟨A,c,e1,_⟩,_⟩:=h
 exact⟨A,c,by rw[e1,←e,List.length_map]⟩
theorem YW.read {lo:Nat} {w C:World} {v:Value} {l:List Stp} (h:YW lo w v l) (hC:Qb (fun q=>q<lo) w C):VA C.heap.size C v l:=by
 obtain⟨ps,e,⟨A,c,rfl,h1,h2,hr⟩,hp⟩:=h
 refine⟨ps,e,⟨A,c,rfl,h1,h2,hr C hC⟩,fun p hpm=>?_⟩
 obtain⟨ips,e1,hi⟩:=hp p hpm
 exact⟨hi.shape e1,by rw[←e1];exact hi.its hC⟩
theorem VA.below {B:Nat} {w w':World} {v:Value} {l:List Stp} (h:VA B w v l) (hb:Below B w w'):VA B w' v l:=by
 obtain⟨ps,e,⟨A,c,e1,e2,e3,hr⟩,hp⟩:=h
 exact⟨ps,e,⟨A,c,e1,e2,e3,hr.below hb⟩,fun p h=>⟨(hp p h).1,(hp p h).2.below hb⟩⟩
theorem VA.more {B B':Nat} {w:World} {v:Value} {l:List Stp} (h:VA B w v l) (hb:B≤B'):VA B' w v l:=by
 obtain⟨ps,e,⟨A,c,e1,e2,e3,hr⟩,hp⟩:=h
 exact⟨ps,e,⟨A,c,e1,e2,e3,hr.more hb⟩,fun p h=>⟨(hp p h).1,(hp p h).2.more hb⟩⟩
theorem jO.nil (lo:Nat) (w:World):jO lo w (.slice none 0 0) []:=⟨[],rfl,World.ownsRow_nil _ _ _ _,fun p h=>by cases h⟩
theorem jO.ext {lo:Nat} {w w':World} {v:Value} {l:List Stp} (h:jO lo w v l) (hx:Ext w w'):jO lo w' v l:=by
 obtain⟨ps,e,ho,hp⟩:=h
 refine⟨ps,e,zO ho fun q hq=>Below.block hx q (QR ho q hq).2,fun p hpm=>?_⟩
 obtain⟨ips,e1,hi⟩:=hp p hpm
 exact⟨ips,e1,hi.trans (Qb.of_ext hx) fun _ _ h=>h⟩
theorem jO.push {lo:Nat} {w w':World} {v v':Value} {l:List Stp} {s:Stp} {u:Value} {ps:List (Stp×Value)} {ips:List (It×Value)} (hlo:lo≤w.heap.size) (e:ps.map (·.1)=l) (hp:∀ p∈ps,∃ ips,ips.map (·.1)=p.1.2.1∧Tv (OwnL lo v) w p.2 ips) (hu:ips.map (·.1)=s.2.1) (hs:Tv (OwnL lo v) w u ips)
  (ho:w'.ownsRow lo 160 3 v' (l.length+1) (ZZ ps++[.int .i64 (s.1:Int),u,.int .i64 (s.2.2:Int)])) (hg:w.grownBy w' v.ownBlock) (hat:v'.ownBlock=v.ownBlock∨∃ g,v'.ownBlock=some g∧w.heap.size≤g):jO lo w' v' (l++[s]):=by
 have hk:Qb (OwnL lo v) w w':=Qb.of_heap fun q hq hX=>hg.block q hq fun e=>hX (.inl e.symm)
 have hy:∀ q,q<w.heap.size→OwnL lo v' q→OwnL lo v q:=fun q hq hx=>by
  rcases hx with hx|hx
  ·rcases hat with e1|⟨g,e1,e2⟩
   ·left;rw[←e1];exact hx
   ·rw[e1] at hx;cases hx;omega
  ·exact .inr hx
 refine⟨ps++[(s,u)],by simp[e],?_,fun p hpm=>?_⟩
 ·rw[List.length_append,List.length_singleton,qdt]
  exact ho
 ·rcases List.mem_append.1 hpm with hpm|hpm
  ·obtain⟨ips',e1,hi⟩:=hp p hpm
   exact⟨ips',e1,hi.trans hk hy⟩
  ·obtain rfl:p=(s,u):=by simpa using hpm
   exact⟨ips,hu,hs.trans hk hy⟩
theorem Zw.toE {lo:Nat} {w:World} {v:Value} {xs:List It} (h:Zw lo w v xs) {X:Nat→Prop} (hX:∀ q,lo≤q→¬X q):∃ ips,ips.map (·.1)=xs∧Tv X w v ips:=by
 obtain⟨ps,e1,⟨A,c,e2,e3,e4,hr⟩,hp,hf,hg⟩:=h
 have el:xs.length=ps.length:=by rw[←e1,List.length_map]
 rw[el] at e2 e3 hr
 refine⟨ps,e1,⟨A,c,e2,e3,e4,fun C hC=>hr.keepFrom (by omega) (fun a ha=>hf a _ _ (by rw[e2,ha])) hC hX⟩,fun p hpm=>⟨(hp p hpm).1,fun C hC=>?_⟩⟩
 obtain⟨A',c',f1,f2,f3,f4⟩:=(hp p hpm).2
 exact⟨A',c',f1,f2,f3,f4.keepFrom (by omega) (fun a ha=>hg p hpm a _ _ (by rw[f1,ha])) hC hX⟩
theorem Zw.keepX {X:Nat→Prop} {w C:World} {lo:Nat} {v:Value} {xs:List It} (h:Zw lo w v xs) (hk:Qb X w C) (hX:∀ q,lo≤q→¬X q):Its C C.heap.size v xs:=by
 obtain⟨ips,rfl,hi⟩:=h.toE hX
 exact hi.its hk
def Ye (xs:List It) (k:K3):Nat:=if KR xs k=true then qL xs k else qL xs k-1
theorem qeT (S:Sto) (k:K3) (xs:List It):vD S k 0 xs=[(0,xs,qL xs k)]:=rfl
theorem qaq {S:Sto} {k:K3} {h:Nat} {xs zs:List It} {y:It} {l:Int} (hy:xs[Ye xs k]?=some y) (hn:qu S y.r.toNat=some (l,zs)):vD S k (h+1) xs=(h+1,xs,Ye xs k) :: vD S k h zs:=by
 show (h+1,xs,Ye xs k) :: (match xs[Ye xs k]? with
  |none=>[]
  |some y=>match qu S y.r.toNat with
   |none=>[]
   |some (_,ys)=>vD S k h ys)=_
 rw[hy]
 simp only
 rw[hn]
theorem Jz {xs:List It} {k:K3} (h:0<xs.length):Ye xs k<xs.length:=by
 unfold Ye
 have:=JR xs k
 split
 ·rename_i hi
  by_cases hl:qL xs k<xs.length
  ·exact hl
  ·rw[XH hl] at hi;cases hi
 ·omega
theorem qcp {h:Nat} {xs:List It} (hm:Qe (h:Int) xs=true) (h1:0<h):0<xs.length:=by
 rcases Nat.eq_zero_or_pos xs.length with h0|h0
 ·exfalso
  have hhd:jz (h:Int) xs.length=true:=by unfold Qe at hm;simp only[Bool.and_eq_true] at hm;exact hm.1
  unfold jz at hhd
  simp only[decide_eq_true_eq] at hhd
  exact hhd.2.2.2 (by omega) h0
 ·exact h0
theorem qcP {S:Sto} {k:K3}:∀ (h:Nat) {xs:List It},Qe (h:Int) xs=true→(Qd S h xs).isSome=true→(vD S k h xs).length=h+1
 |0,xs,_,_=>rfl
 |h+1,xs,hm,hs=>by
  have hx:=qcp hm (by omega)
  obtain⟨b,e1,-,-,zs,e4,e5⟩:=Jj (JV hs _ (List.getElem_mem (Jz (k:=k) hx)))
  rw[qaq (zL (Jz hx)) (by rw[e1,Int.toNat_natCast];exact e4),List.length_cons,qcP h (Qa e4).1 e5]
theorem qaO {P:Program} (w:World) (dT sT ty elem:TypeId) (g o dLen dCap:Nat) (a:Addr) (sLen sCap:Nat) (cur:Array Value) (t:TypeId) (cs:List Value) (k:Nat)
  (hu:P.underlying dT=some (.slice elem)) (hs:(P.info? elem).map (·.size)=some k) (hg:w.heap[g]?=some (.cells cur t (0,0))) (hn:cs.length=Nat.min sLen dLen*k)
  (hsrc:∀ j v,cs[j]?=some v→w.cell? (a.add j)=some v) (hfit:o+cs.length≤cur.size) (h1:∀ v∈cs,v.oneCell'=true) :
  (Builtin.copy_ #[dT,sT] ty #[.slice (some ⟨g,o,none⟩) dLen dCap,.slice (some a) sLen sCap]).run P w =
   .ok (.int .i64 (Nat.min sLen dLen:Nat)) (w.setRow g (cur.toList.take o++cs++cur.toList.drop (o+cs.length)).toArray):=by
 have hl:=run_loadCells_list (P:=P) w a cs hsrc
 have hst:=run_storeCells_at P g o t cs 0 cur w hg (by simpa using hfit) h1
 cases hq:P.info? elem with
 |none=>simp[hq] at hs
 |some i =>
  have hi:i.size=k:=by simpa [hq] using hs
  have hn':min sLen dLen*k=cs.length:=hn.symm
  simp[Builtin.copy_,run_underlying hu,Builtin.lenOf,Builtin.firstCells,sizeOf,typeInfo,hq,hi,hn',hl,hst]
  rfl
end Go.Proofs.YtpbniokljofedaaGreat
