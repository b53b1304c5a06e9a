/- Lemmas of the proof. -/
import Derived.Lib.Overlaps
import Derived.Test.YtmeadnlmepcmbaaGreatZJ11
set_option linter.all false
set_option maxHeartbeats 8000000
open Go.Proofs.Tryz
namespace Go.Proofs.YtmeadnlmepcmbaaGreat
open Go.RowKit
def vt (t:List UInt8) (a:Nat):Except Int (List UInt8):=if a=0 then .ok t else if qN t a=0 then .error 6 else if qN t a=255 then .error 70 else .ok (ZY t a 1)
def ZI:List Nat->List UInt8->Except Int (List UInt8)
 | [],t=>.ok t
 |a :: r,t=>match vt t a with
  | .error e=>.error e
  | .ok t'=>ZI r t'
theorem vP:∀ (l r:List Nat) (t:List UInt8),ZI (l++r) t=match ZI l t with
  | .error e=>.error e
  | .ok t'=>ZI r t'
 | [],_,_=>rfl
 |a :: l,r,t=>by
  simp only[List.cons_append,ZI];cases vt t a with
  |error e=>rfl
  |ok t'=>exact vP l r t'
theorem qcp (a:Nat) (t:List UInt8):ZI [a] t=vt t a:=by simp only[ZI];cases vt t a <;> rfl
def qz (its:List It):List Nat:=its.map fun x=>x.r.toNat
theorem Kh {its:List It} {k:Nat} (hk:k<its.length):qz (its.take (k+1))=qz (its.take k)++[(its[k].r).toNat]:=by unfold qz;rw[List.take_succ_eq_append_getElem hk,List.map_append];rfl
theorem qiA {its:List It} (k:Nat):qz its=qz (its.take k)++qz (its.drop k):=by unfold qz;rw[<-List.map_append,List.take_append_drop]
theorem qiI {its:List It} {k:Nat} (hk:k<its.length) {t t':List UInt8} {e:Int} (h:ZI (qz (its.take k)) t=.ok t') (h1:vt t' (its[k].r).toNat=.error e):ZI (qz its) t=.error e:=by rw[qiA (its:=its) (k+1),vP,Kh hk,vP,h];simp only[qcp,h1]
theorem qgZ {its:List It} {k:Nat} (hk:k<its.length) {t t' t'':List UInt8} (h:ZI (qz (its.take k)) t=.ok t') (h1:vt t' (its[k].r).toNat=.ok t''):ZI (qz (its.take (k+1))) t=.ok t'':=by rw[Kh hk,vP,h];simp only[qcp,h1]
def Zz (S:Sto) (lvl:Int) (its:List It):Except Int (Nat×Sto):=
 if Qf lvl its=true then
  match ZI (qz its) S.now with
  | .error e=>.error e
  | .ok t=>if Zh (qw S t)=[]\/S.ws.length=4096 then .error 9 else .ok (zp (qw S t),JV (qw S t) (zp (qw S t)) (Ze (Qu lvl its)))
 else .error 8
section
variable {D:Nat->Prop} {B lo b g:Nat} {k:Option Nat} {S:Sto} {w W:World}
theorem Bch.lens (h:Bch D B lo b g k S w):S.now.length=256/\S.last.length=256:=by obtain⟨A1,n1,c1,v2,c3,A4,c4,hr,ho,-,-,h4⟩:=h.ex;have:=ho.1;have h5:=h4.at_.1;exact⟨by simpa using this,h5.symm⟩
theorem Bch.cells (h:Bch D B lo b g k S w):∃ A1 n1 c1 v2 c3 A4 c4,(∀ i,w.cell? ⟨b,i,none⟩=#[.slice A1 n1 c1,v2,.slice (some ⟨g,0,none⟩) 256 c3,.slice A4 256 c4][i]?)/\(∀ a,a<256->w.cell? ⟨g,a,none⟩=some (.int .u8 (Zo S a:Int)))/\(∀ a,w.frozen? ⟨g,a,none⟩=false):=by obtain⟨A1,n1,c1,v2,c3,A4,c4,hr,ho,-,-,-⟩:=h.ex;obtain⟨h1,h2,-,-⟩:=ZB ho;exact⟨A1,n1,c1,v2,c3,A4,c4,qa hr,h1,h2⟩
end
theorem TF {R:Ending->World->Prop} {a:Act} {W:World} {v:Value} (h4:a.tmps[4]?.getD undef=v) (hd:a.defers=[]) (hR:R (.returned v) W):bodyPost prog Tryz.f170 R .ret a W:=by refine bodyPost_ret (v:=v) ?_ hd hR;simp[results,results170,go_sem,h4]
set_option maxRecDepth 100000 in
theorem qhB (D:Nat->Prop) (B lo b g:Nat) (k:Option Nat) (S:Sto) (a:Nat) (ha:a<256) (w:World) (h:Bch D B lo b g k S w):Calls prog 170 #[.pointer (some ⟨b,0,none⟩),.int .i64 (a:Int)] w fun e W=>Qg lo b g k w W /\
   ((qN S.now a=0/\e=.returned (.int .i64 6))\/(qN S.now a=255/\e=.returned (.int .i64 70))\/(qN S.now a≠0/\qN S.now a≠255/\e=.returned (.int .i64 0)/\Bch D B lo b g k (qw S (ZY S.now a 1)) W)):=by
 obtain⟨A1,n1,c1,v2,c3,A4,c4,kr,hk,hf⟩:=h.cells;have hka:=hk a ha;have hfa:=hf a;have hT:Hid (ZY S.now a 1=S.now.set a (UInt8.ofNat (qN S.now a+1))):=rfl;have dR:=zH (h.count ha (UInt8.ofNat (qN S.now a+1)));have fJ:Zo S a=qN S.now a:=rfl;have bG:=(S.now[a]?.getD 0).toNat_lt;have hc:qN S.now a=(S.now[a]?.getD 0).toNat:=rfl;rw[fJ] at hka;rw[<-hc] at bG;have hwv:=qeX (qN S.now a+1);generalize qN S.now a=nv at *;clear hk hf hc fJ h;by_cases h0:nv=0
 ·subst h0;clear dR hT hwv;go_enter func170,ntmps170;go_wp2_with fail;exact TF rfl rfl ⟨Qg.refl _ _ _ _ _,.inl ⟨by trivial,rfl⟩⟩
 ·have aV:((nv:Int) == 0)=false:=by rw[beq_eq_false_iff_ne];omega
  have aW:decide (nv=0)=false:=decide_eq_false zO;by_cases h1:nv=255
  ·subst h1;clear dR hT hwv;go_enter func170,ntmps170;go_wp2_with fail;exact TF rfl rfl ⟨Qg.refl _ _ _ _ _,.inr (.inl ⟨by trivial,rfl⟩)⟩
  ·have hz3:((nv:Int) == 255)=false:=by rw[beq_eq_false_iff_ne];omega
   have hz4:decide (nv=255)=false:=decide_eq_false zO;replace h0:=zH h0;replace h1:=zH h1;rw[show ((nv+1:Nat):Int)=(nv:Int)+1 from rfl] at hwv;go_enter func170,ntmps170;go_wp2_with fail;refine TF rfl rfl ⟨dR.out.2,.inr (.inr ⟨h0.out,h1.out,rfl,?_⟩)⟩;rw[hT.out];exact dR.out.1
set_option maxRecDepth 100000 in
theorem qac (D:Nat->Prop) (B lo b g:Nat) (k:Option Nat) (S:Sto) (a:Nat) (ha:a<256) (w:World) (h:Bch D B lo b g k S w):Calls prog 141 #[.pointer (some ⟨b,0,none⟩),.int .i64 (a:Int)] w fun e W=>Qg lo b g k w W /\
   ((qN S.now a=0/\e=.returned (.int .i64 6))\/(qN S.now a≠0/\e=.returned (.int .i64 0)/\Bch D B lo b g k (qw S (vd S.now a)) W)):=by
 obtain⟨A1,n1,c1,v2,c3,A4,c4,kr,hk,hf⟩:=h.cells;have hka:=hk a ha;have hfa:=hf a;have hT:Hid (vd S.now a=S.now.set a (UInt8.ofNat (qN S.now a-1))):=rfl;have dR:=zH (h.count ha (UInt8.ofNat (qN S.now a-1)));have fJ:Zo S a=qN S.now a:=rfl;have bG:=(S.now[a]?.getD 0).toNat_lt;have hc:qN S.now a=(S.now[a]?.getD 0).toNat:=rfl;rw[fJ] at hka;rw[<-hc] at bG;generalize qN S.now a=nv at *;clear hk hf hc fJ h;by_cases h0:nv=0
 ·subst h0;clear dR hT;go_enter func141,ntmps141;go_wp2_with fail;exact qbp rfl rfl ⟨Qg.refl _ _ _ _ _,.inl ⟨by trivial,rfl⟩⟩
 ·have aV:((nv:Int) == 0)=false:=by rw[beq_eq_false_iff_ne];omega
  have hwv:=qjW (n:=nv) zO bG;replace h0:=zH h0;go_enter func141,ntmps141;go_wp2_with fail;refine qbp rfl rfl ⟨dR.out.2,.inr ⟨h0.out,rfl,?_⟩⟩;rw[hT.out];exact dR.out.1
theorem qcV {P:Program} (w:World) (t ty:TypeId) (e:TypeId) (i:TypeInfo) (z:Value) (size bytes:Nat) (ht:P.underlying t=some (.slice e)) (hi:P.info? e=some i) (hz:i.zero=some z) (eF:i.size=size) (aS:i.bytes=bytes) (tZ:z.cells.size=size) (hsz:0<size) (B:Nat) (A n) (xs:List Value) (hr:Rd w B size A n xs) (cs:Array Value) (hl:cs.size=size) (h1:∀ u∈cs.toList,u.oneCell'=true) (hn:n<1073741824) (dW:bytes<=65536) : ∃ v' w',(Builtin.append_ #[t,t] ty #[.slice A n n,.slice (some ⟨w.heap.size,0,none⟩) 1 1]).run P (w.alloc (.cells cs e))=.ok v' w'/\w'.ownsRow (w.heap.size+1) e size v' (n+1) (xs++cs.toList)/\Ext w w'/\v'.ownBlock=some (w.heap.size+1):=by
 have hb:(n+1)*bytes<=140737488355328:=Nat.le_trans (Nat.mul_le_mul_left _ dW) zO;have hm:n+1<=maxLen:=zA6;have iw:((n+1:Nat):Int)<=9223372036854775807:=zO;rcases A with _|ad
 ·have hn0:n=0:=by
   rcases Nat.eq_zero_or_pos n with h0|h0
   ·exact h0
   ·obtain⟨b,off,h,_⟩:=hr.2 h0;cases h
  subst hn0;have hx:xs=[]:=List.eq_nil_of_length_eq_zero (by simpa using hr.1);subst hx;obtain⟨v',w',az,h2,h3,h4,h5⟩:=run_append_own_at (P:=P) (w.alloc (.cells cs e)) (w.heap.size+1) t ty e i z size bytes ht hi hz eF aS tZ hsz (.slice none 0 0) 0 [] (World.ownsRow_nil _ _ _ _) ⟨w.heap.size,0,none⟩ 1 1 cs.toList
   (by rw[Array.length_toList];omega) (YZ w cs e) h1 hm hb zA2
  refine⟨v',w',az,h2,Ext.trans (zN w (.cells cs e)) ((Below.refl _ _).grown h3 (zM _) (fun k hk=>by cases hk)),?_⟩;rcases h5 with h5|h5
  ·exfalso;rcases h2.2 with ⟨e0,_⟩|⟨g,cap,cur,e0,_⟩
   ·have:=(h4.1 e0).2;omega
   ·rw[e0] at h5;cases h5
  ·rw[h5];simp
 ·have dM:∀ j u,xs[j]?=some u->w.cell? (ad.add j)=some u:=by
   intro j u hu;rcases Nat.eq_zero_or_pos n with h0|h0
   ·subst h0;have hx:xs=[]:=List.eq_nil_of_length_eq_zero (by simpa using hr.1);subst hx;simp at hu
   ·obtain⟨b,off,h,_⟩:=hr.2 h0;injection h with h;subst h;exact hr.adds h0 j u hu
  subst eF;subst aS;have mZ:=run_append_grow (P:=P) (w.alloc (.cells cs e)) t ty e i z ht hi hz ad n n xs hr.1 (fun j u hu=>Ext.cell (zN w _) (dM j u hu)) ⟨w.heap.size,0,none⟩ 1 1 cs.toList (by rw[Array.length_toList];omega) (YZ w cs e) zO iw (growslice_fits zO hb);refine⟨_,_,mZ,?_,(zN w _).trans ((Ext.drew _).trans (zN _ _)),by simp[Value.ownBlock]⟩;have ig:=grownCap_ge (w.alloc (.cells cs e)) (n+1) n e;have fF:grownCap (w.alloc (.cells cs e)) (n+1) n e<=maxLen:=grownCap_le_maxLen _ (n+1) n e hm;have hlen:(xs++cs.toList).length=(n+1)*i.size:=by rw[List.length_append,hr.1,Array.length_toList,hl,Nat.add_mul,Nat.one_mul]
  refine⟨hlen,.inr ⟨_,_,_,rfl,zA2,heap_alloc_new (w.alloc (.cells cs e)).drew _,ig,fF,?_,?_⟩⟩
  ·simp only[Array.size_append,List.size_toArray,size_zeroCells,tZ,hr.1,hl];rw[<-Nat.succ_mul,<-Nat.add_mul];congr 1;omega
  ·simp only[Array.toList_append,List.append_assoc];rw[<-List.append_assoc,<-hlen];exact List.take_left
theorem WsB.push {D:Nat->Prop} {B lo b g:Nat} {k:Option Nat} {v:Value} {ws:List (Int×List UInt8)} {w:World} (h:WsB D B lo b g k v ws w) (aQ:lo<=w.heap.size) (hk:∀ q,k=some q->¬(q<B\/D q)) (yR:ws.length<1073741824) (at_:Int) (A0 c0) (l:List UInt8) (hd:∀ C,Ql (Tu B D) w C->Bys C C.heap.size (.slice A0 l.length c0) l) (ty:TypeId) : ∃ v' w' k',(Builtin.append_ #[23,23] ty #[v,.slice (some ⟨w.heap.size,0,none⟩) 1 1]).run prog (w.alloc (.cells #[.int .i64 at_,.slice A0 l.length c0] 142))=.ok v' w'/\WsB D B lo b g k' v' (ws++[(at_,l)]) w'/\Qg lo b g k w w'/\ZD w.heap.size k k' /\ (∀ q,q<w.heap.size->k≠some q->w'.heap[q]?=w.heap[q]?):=by
 obtain⟨i0,hi,ag,aV,aW⟩:=info_parts Tryz.info_write;obtain⟨ps,rfl,hw,hp⟩:=h;have h1:∀ u∈(#[.int .i64 at_,.slice A0 l.length c0]:Array Value).toList,u.oneCell'=true:=zA7;rw[List.length_map] at yR hw;have fin:∀ (v':Value) (w':World) (k':Option Nat),w'.ownsRow lo 142 2 v' (ps.length+1) (jd ps++[.int .i64 at_,.slice A0 l.length c0])->(∃ q,v'.ownBlock=some q/\k'=some q)->(∀ q,q<w.heap.size->k≠some q->w'.heap[q]?=w.heap[q]?)->WsB D B lo b g k' v' (ps.map (·.1)++[(at_,l)]) w':=fun v' w' k' ho ⟨q,xZ,nY⟩ hR=>by
  have hX:Ql (Tu B D) w w':=Tu.keep fun q hq h1=>hR q hq fun e=>hk q e h1;refine⟨ps++[((at_,l),.slice A0 l.length c0)],zA2,.inr ⟨q,nY,xZ,by rw[qfF];simpa using ho⟩,fun p af=>?_⟩;rcases List.mem_append.1 af with af|af
  ·exact⟨(hp p af).1,fun C hC=>(hp p af).2 C (hX.trans hC fun _ _ h=>h)⟩
  ·obtain rfl:p=((at_,l),.slice A0 l.length c0):=by simpa using af
   exact⟨⟨A0,c0,rfl⟩,fun C hC=>hd C (hX.trans hC fun _ _ h=>h)⟩
 rcases hw with ⟨rfl,hm,A,rfl,hr⟩|⟨q,rfl,hq,ho⟩
 ·obtain⟨v',w',az,h2,hx,hb⟩:=qcV (P:=prog) w 23 ty 142 i0 (.agg #[.int .i64 0,.slice none 0 0]) 2 32 underlying23 hi ag aV aW rfl zD B A ps.length (jd ps) hr #[.int .i64 at_,.slice A0 l.length c0] rfl h1 yR zD;have hN:ZD w.heap.size none (some (w.heap.size+1)):=fun q hq=>.inr (by cases hq;omega);have hB:Qg lo b g none w w':=Qg.of_ext hx aQ;exact⟨v',w',some (w.heap.size+1),az,fin v' w' _ (QJ h2 zO) ⟨_,hb,rfl⟩ (fun q hq _=>Below.block hx q hq),hB,hN,fun q hq _=>Below.block hx q hq⟩
 ·obtain⟨v',w',az,h2,h3,_,h5⟩:=run_append_own_at (P:=prog) (w.alloc (.cells #[.int .i64 at_,.slice A0 l.length c0] 142)) lo 23 ty 142 i0 (.agg #[.int .i64 0,.slice none 0 0]) 2 32 underlying23 hi ag aV aW rfl zD v ps.length (jd ps) (ho.alloc _) ⟨w.heap.size,0,none⟩ 1 1 [.int .i64 at_,.slice A0 l.length c0]
   rfl (YZ w #[.int .i64 at_,.slice A0 l.length c0] 142) h1 zA6 zO zA1
  have hlq:=(QP ho q hq).1;rw[hq] at h3 h5;have hB:Below lo w w':=Below.trans (Below.mono (zN w _) aQ) ((Below.refl lo _).grown h3 zA1 (fun k hk=>by cases hk;exact hlq));have aF:∀ q',q'<w.heap.size->(some q≠some q')->w'.heap[q']?=w.heap[q']?:=fun q' h1 aG=>(h3.block q' zA1 (fun e=>aG e.symm)).trans (zK w _ q' h1);have hK:Qg lo b g (some q) w w':=⟨hB,fun q' h1 hn=>aF q' h1 fun e=>hn (.inr (.inr e))⟩
  rcases h5 with h5|h5
  ·exact⟨v',w',some q,az,fin v' w' _ h2 ⟨q,h5,rfl⟩ aF,hK,ZD.refl _ _,aF⟩
  ·have hN:ZD w.heap.size (some q) (some (w.heap.size+1)):=fun q' lJ=>.inr (by cases lJ;omega);exact⟨v',w',some (w.heap.size+1),az,fin v' w' _ h2 ⟨_,by rw[h5];simp,rfl⟩ aF,hK,hN,aF⟩
theorem qfa {ops:Array Oper} {rest:List Oper} {o:Oper} {a:Act} {Q:Exit->Act->World->Prop} (fK:o.guard=none) (s x:Operand) (ho:o.op=.call { callee:=.builtin .append,args:=#[s,x],argTypes:=#[23,23] }) {D:Nat->Prop} {B lo b g:Nat} {k:Option Nat} {v:Value} {ws:List (Int×List UInt8)} {w:World} (hs:a.eval s=v) (hx:a.eval x=.slice (some ⟨w.heap.size,0,none⟩) 1 1) (h:WsB D B lo b g k v ws w) (aQ:lo<=w.heap.size) (hk:∀ q,k=some q->¬(q<B\/D q)) (yR:ws.length<1073741824) (at_:Int) (A0 n0 c0) (l:List UInt8) (hn0:n0=l.length) (hd:∀ C,Ql (Tu B D) w C->Bys C C.heap.size (.slice A0 n0 c0) l) (hK:∀ v' w' k',WsB D B lo b g k' v' (ws++[(at_,l)]) w'->Qg lo b g k w w'->ZD w.heap.size k k'->(∀ q,q<w.heap.size->k≠some q->w'.heap[q]?=w.heap[q]?)->wpList prog ops Q rest (a.put o.dst v') w'):wpList prog ops Q (o :: rest) a (w.alloc (.cells #[.int .i64 at_,.slice A0 n0 c0] 142)):=by
 subst hn0;refine wpList_plain fK fun K hKK=>?_;obtain⟨v',w',k',az,h1,h2,h3,h4⟩:=h.push aQ hk yR at_ A0 c0 l hd o.type;unfold Oper.wp execOp;simp only[ho,resolve,invoke,builtin,Sem.run_bind,Sem.run_pure,Result.andThen_ok,List.map_toArray,List.map_cons,List.map_nil,hs,hx,az];exact hKK _ _ (hK v' w' k' h1 h2 h3 h4)
theorem Bch.put {D:Nat->Prop} {B lo b g:Nat} {k k':Option Nat} {S:Sto} {w W:World} (h:Bch D B lo b g k S w) {A1:OA} {n1 c1 c3 c4:Nat} {A4:OA} {v2 v':Value} (hr:w.heap[b]?=some (.cells #[.slice A1 n1 c1,v2,.slice (some ⟨g,0,none⟩) 256 c3,.slice A4 256 c4] 223 (0,0))) (ho:w.ownsRow lo 5 1 (.slice (some ⟨g,0,none⟩) 256 c3) 256 (S.now.map bv)) (hb:Bls w B (.slice A1 n1 c1) S.bs) (hl:Bys w B (.slice A4 256 c4) S.last) {f:Nat} {l:List UInt8} (hf:f<256) (hw:WsB D B lo b g k' v' (S.ws++[((f:Int),l)]) W) (hB:Qg lo b g k w W) (hN:ZD w.heap.size k k') (hGE:∀ q,q<w.heap.size->k≠some q->W.heap[q]?=w.heap[q]?):Bch D B lo b g k' ⟨S.bs,S.ws++[((f:Int),l)],S.now.set f 1,S.last⟩ ((W.setCell ⟨b,1,none⟩ v').setCell ⟨g,f,none⟩ (.int .u8 1))/\Qg lo b g k w ((W.setCell ⟨b,1,none⟩ v').setCell ⟨g,f,none⟩ (.int .u8 1)):=by
 obtain⟨lV,hzb,xP,hzg,yG,rG,wG⟩:=h.size;have cZ:=h.blo;have hkd:=h.offk;have hzW:=hB.below.size;have hrb:=(hGE b hzb fun e=>(wG b e).2.2.1 rfl).trans hr;have hkq':∀ q,k'=some q->q≠b/\q≠g:=fun q hq=>(hN q hq).elim (fun e=>(wG q e).2.2) fun e=>zO;have st:∀ q,q≠b->q≠g->((W.setCell ⟨b,1,none⟩ v').setCell ⟨g,f,none⟩ (.int .u8 1)).heap[q]?=W.heap[q]?:=fun q h1 h2=>(zJ _ _ _ _ h2).trans (zJ _ _ _ _ h1);have uy:Below lo W ((W.setCell ⟨b,1,none⟩ v').setCell ⟨g,f,none⟩ (.int .u8 1)):=Below.setCell (Below.setCell (Below.refl _ _) (p:=⟨b,1,none⟩) lV _) (p:=⟨g,f,none⟩) xP _;have dI:Below lo w ((W.setCell ⟨b,1,none⟩ v').setCell ⟨g,f,none⟩ (.int .u8 1)):=hB.below.trans uy;have hX:Ql (Tu B D) W ((W.setCell ⟨b,1,none⟩ v').setCell ⟨g,f,none⟩ (.int .u8 1)):=Tu.keep fun q _ hq=>st q (fun e=>hkd b (.inl rfl) (e ▸ hq)) (fun e=>hkd g (.inr (.inl rfl)) (e ▸ hq));have ho1:=Zx ho (w':=W) fun q hq=>by cases hq;exact hGE g hzg fun e=>(wG g e).2.2.2 rfl
 have ho2:=qbf (qgE (k:=1) (v:=v') ho1 yG) (k:=f) hf 1;refine⟨⟨lV,cZ,fun q hq=>⟨(h.dB q hq).1,by have:=(h.dB q hq).2.1;simp;omega,fun hx=>?_⟩,A1,n1,c1,v',c3,A4,c4,(zJ _ _ _ _ fun e=>yG e.symm).trans (qi hrb 1 v'),ho2,?_,hb.below (Below.mono dI cZ),hl.below (Below.mono dI cZ)⟩,⟨dI,fun q hq hn=>(st q (fun e=>hn (.inl e)) (fun e=>hn (.inr (.inl e)))).trans (hB.rows q hq hn)⟩⟩
 ·exact(h.dB q hq).2.2 (B3.of_new hN q (h.dB q hq).2.1 hx)
 ·obtain⟨ps,e,hc,hp⟩:=hw;refine⟨ps,e,?_,fun p af=>⟨(hp p af).1,fun C hC=>(hp p af).2 C (hX.trans hC fun _ _ h=>h)⟩⟩;rcases hc with ⟨e1,hm,A,e2,pM⟩|⟨q,e1,e2,how⟩
  ·exact .inl ⟨e1,hm,A,e2,pM.below (Below.mono uy cZ)⟩
  ·exact .inr ⟨q,e1,e2,Zx how fun q' lJ=>by rw[e2] at lJ;cases lJ;exact st q (hkq' q e1).1 (hkq' q e1).2⟩
theorem or_none (a b:Nat) (ha:a<256) (hb:b<256):(bits .or .u8 (a:Int) (b:Int) != 0)=!(decide (a=0) && decide (b=0)):=by rw[<-qjA a b ha hb];rfl
theorem first_eq {S:Sto} {f:Nat} (hf:f<256) (h:ZZ S f=true) (nX:∀ k,8<=k->k<f->ZZ S k=false):Zh S≠[]/\zp S=f:=by
 have e:∃ l,Zh S=f :: l:=by
  unfold Zh;have h0:Js S f=[]:=by
   unfold Js;rw[List.filter_eq_nil_iff];intro k hk;have hkf:k<f:=by simpa using hk
   rcases Nat.lt_or_ge k 8 with h8|h8
   ·unfold ZZ;simp;omega
   ·rw[nX k h8 hkf];decide
  have h1:=Xe S f;rw[if_pos h,h0] at h1;obtain⟨t,ht⟩:=qbz S (show f+1<=256 by omega);exact⟨t,by rw[<-ht,h1];rfl⟩
 obtain⟨l,e⟩:=e;exact⟨by rw[e];simp,by unfold zp;rw[e];rfl⟩
theorem qkn {S:Sto} (h:∀ k,8<=k->k<256->ZZ S k=false):Zh S=[]:=by
 unfold Zh Js;rw[List.filter_eq_nil_iff];intro k hk;have hkf:k<256:=by simpa using hk
 rcases Nat.lt_or_ge k 8 with h8|h8
 ·unfold ZZ;simp;omega
 ·rw[h k h8 hkf];decide
theorem IsB.keepX {X:Nat->Prop} {lo n:Nat} {l:List UInt8} {v:Value} {w C:World} (h:IsB lo n l v w) (hk:Ql X w C) (hX:∀ q,lo<=q->q<w.heap.size->¬X q):Bys C C.heap.size v l:=by
 obtain⟨A,c,e,⟨A',c',e',hc,hm,hr⟩,hf⟩:=h;refine⟨A',c',e',hc,hm,hr.1,fun hn=>?_⟩;obtain⟨b,off,e2,hb,aC⟩:=hr.2 hn;subst e2;have aQ:=hf ⟨b,off,none⟩ _ _ e';have hl:0<(l.map bv).length:=by simpa using hn
 exact⟨b,off,rfl,World.block_lt_of_cell? C ⟨b,off+0,none⟩ (hk _ _ (hX b aQ hb) (aC 0 _ (zL hl))),fun j u hu=>hk _ _ (hX b aQ hb) (aC j u hu)⟩
theorem WsB.slice {D:Nat->Prop} {B lo b g:Nat} {k:Option Nat} {v:Value} {ws:List (Int×List UInt8)} {w:World} (h:WsB D B lo b g k v ws w):∃ A c,v=.slice A ws.length c:=by
 obtain⟨ps,e,hc,_⟩:=h;rcases hc with ⟨_,_,A,e2,_⟩|⟨q,_,_,how⟩
 ·exact⟨A,_,e2⟩
 ·obtain⟨A,c,e,_⟩:=qE how;exact⟨A,c,e⟩
def YY (D:Nat->Prop) (B lo b g:Nat) (k:Option Nat) (S:Sto) (lvl:Int) (its:List It) (w:World) (e:Ending) (W:World):Prop:=Qg lo b g k w W /\
 match Zz S lvl its with
 | .error er=>e=.returned (.tuple #[.int .i64 0,.int .i64 er])
 | .ok (f,S')=>e=.returned (.tuple #[.int .i64 (f:Int),.int .i64 0])/\∃ k' D',ZD w.heap.size k k'/\YO w.heap.size D D'/\Bch D' B lo b g k' S' W
theorem YY.bad {D:Nat->Prop} {B lo b g:Nat} {k:Option Nat} {S:Sto} {lvl:Int} {its:List It} {w W:World} {er:Int} (h:Zz S lvl its=.error er) (hB:Qg lo b g k w W):YY D B lo b g k S lvl its w (.returned (.tuple #[.int .i64 0,.int .i64 er])) W:=by refine⟨hB,?_⟩;rw[h]
theorem YY.good {D D':Nat->Prop} {B lo b g:Nat} {k k':Option Nat} {S S':Sto} {lvl:Int} {its:List It} {w W:World} {f:Nat} (h:Zz S lvl its=.ok (f,S')) (hB:Qg lo b g k w W) (hN:ZD w.heap.size k k') (hD:YO w.heap.size D D') (hb:Bch D' B lo b g k' S' W):YY D B lo b g k S lvl its w (.returned (.tuple #[.int .i64 (f:Int),.int .i64 0])) W:=by refine⟨hB,?_⟩;rw[h];exact⟨rfl,k',D',hN,hD,hb⟩
theorem VH {R:Ending->World->Prop} {a:Act} {W:World} {u v:Value} (h4:a.tmps[4]?.getD undef=u) (h5:a.tmps[5]?.getD undef=v) (hd:a.defers=[]) (hR:R (.returned (.tuple #[u,v])) W):bodyPost prog Tryz.f165 R .ret a W:=by refine bodyPost_ret (v:=.tuple #[u,v]) ?_ hd hR;simp[results,results165,go_sem,h4,h5]
set_option maxRecDepth 100000 in
theorem qdh (D:Nat->Prop) (B lo b g:Nat) (k:Option Nat) (S:Sto) (lvl:Int) (A n c) (its:List It) (fQ:∀ x∈its,zu x) (yR:S.ws.length<=4096) (w:World) (h:Bch D B lo b g k S w) (hx:kM (B3 b g k) w (.slice A n c) its):Calls prog 165 #[.pointer (some ⟨b,0,none⟩),jP lvl A n c] w (YY D B lo b g k S lvl its w):=by
 obtain⟨lV,hzb,xP,hzg,yG,rG,wG⟩:=h.size;have dJ:=h.b3;obtain⟨xR,-,-,hA⟩:=hx.now.at_;subst xR;cases hm:Qf lvl its
 case false =>
  have hE:=zH (show Zz S lvl its=.error 8 by unfold Zz;rw[hm];rfl);have hW:=zH (fun W (hw:Ext w W)=>qiu lvl A its.length c its W (hx.now.ext hw) hm);replace hx:=zH hx;replace h:=zH h;clear hA hm wG dJ;go_enter func165,ntmps165;go_wp2_with fail;generalize aA:World.alloc _ _=w1;have x1:Ext w w1:=by rw[<-aA];exact zN _ _
  clear aA;refine(hW.out w1 x1).mono ?_;rintro e w2 ⟨rfl,hB⟩;have x2:Ext w w2:=x1.trans hB;clear hB x1 hW;go_wp2_with fail;exact VH rfl rfl rfl (YY.bad hE.out (Qg.of_ext x2 rG))
 case true =>
  have hE:Hid (Zz S lvl its=match ZI (qz its) S.now with
   | .error e=>.error e
   | .ok t=>if Zh (qw S t)=[]\/S.ws.length=4096 then .error 9 else .ok (zp (qw S t),JV (qw S t) (zp (qw S t)) (Ze (Qu lvl its)))):=zH (by unfold Zz;rw[hm];rfl)
  obtain⟨oD,xO,hl5,hib⟩:=jF hm;have hW:=zH (fun W (hw:Ext w W)=>qbT lvl A its.length c its W (hx.now.ext hw) hm fQ);have hX:=zH hx;have hsl:=zH (vH (b:=Qu lvl its) (by have:=YG lvl its.length its.length fQ hl5;rw[YF] at this;omega));replace hA:=zH hA;replace hib:=zH hib;replace fQ:=zH fQ;replace h:=zH h;replace dJ:=zH dJ;replace wG:=zH wG;replace yR:=zH yR;clear hx hm oD xO;go_enter func165,ntmps165;go_wp2_with fail;generalize aA:World.alloc _ _=w1;have x1:Ext w w1:=by rw[<-aA];exact zN _ _
  have p1:w1.heap[w.heap.size]?=some (.cells #[.int .i64 lvl,.slice A its.length c] 113 (0,0)):=by rw[<-aA];exact zI _ _ _ rfl
  clear aA;refine(hW.out w1 x1).mono ?_;rintro e w2 ⟨u,rfl,⟨u,rfl,hu⟩,hB⟩;have hB:Ext w1 w2:=hB;have x2:Ext w w2:=x1.trans hB;have p2:=qb p1 hB;have kp:=qa p2;have z1:w.heap.size<w1.heap.size:=(zG.1 p1).1;obtain⟨A0,c0,rfl,hu1,hu2⟩:=hu;have hu:IsB w1.heap.size 128 (Ze (Qu lvl its)) (.slice A0 128 c0) w2:=⟨A0,c0,rfl,hu1,hu2⟩
  replace hu:=zH hu;clear hB x1 p1 hW hu1 hu2;go_wp2_with fail;go_loopw [21] (fun i wr=>∃ (j:Nat) (t:List UInt8),j<=its.length/\i=.int .i64 (j:Int)/\ZI (qz (its.take j)) S.now=.ok t/\Bch D B lo b g k (qw S t) wr/\Qg lo b g k w2 wr) (fun i _=>its.length-(intOf i).toNat)
  case atStart=>exact⟨0,S.now,Nat.zero_le _,rfl,rfl,h.out.ext x2,Qg.refl _ _ _ _ _⟩
  case round =>
   obtain⟨j,t,hj,rfl,dw,bg,lF⟩:=hrel;have nN:=hX.out.trans ((Ql.of_ext (X:=B3 b g k) x2).trans lF.keepX fun _ _ h=>h) (fun _ _ h=>h);by_cases hlt:j<its.length
   ·obtain⟨bi,off,rfl,hbi⟩:=hA.out zO;obtain⟨A',c',d0,d1,d2,d3,d4,-⟩:=nN.now.item j hlt;have oJ:=hib.out its[j] (List.getElem_mem hlt);have yO:its[j].r=0\/(8<=its[j].r/\its[j].r<256):=by unfold itB at oJ;simp at oJ;exact oJ.1
    have ai:=zH (fun e h1=>qiI hlt (e:=e) dw h1);have aZ:=zH (fun t' h1=>qgZ hlt (t'':=t') dw h1);generalize its[j]=x at *;have uJ:=zH (IntWalk.wrap64_in ((j:Int)+1) zO);replace dw:=zH dw;replace nN:=zH nN;clear hbi oJ;rcases yO with hr0|nK
    ·have hEO:=zH (aZ.out t (by rw[hr0];simp[vt]));rw[hr0] at d3;have ag:=bg.size.2.2.2.2.2.1;replace bg:=zH bg;replace lF:=zH lF;clear hr0 ai aZ kp;go_wp2_with fail;try rw[uJ.out]
     refine⟨⟨j+1,t,zO,rfl,hEO.out,bg.out.ext (zN _ _),lF.out.trans (Qg.of_ext (zN _ _) ag) (ZD.refl _ _)⟩,?_⟩;simp[intOf];omega
    ·obtain⟨a,hra⟩:∃ a:Nat,x.r=(a:Int):=⟨x.r.toNat,zO⟩
     have ha8:8<=a:=zO;have ha9:a<256:=zO;have hsa:(x.r).toNat=a:=zO;rw[hra] at d3;rw[hsa] at ai aZ;have xk:Hid (vt t a=if qN t a=0 then .error 6 else if qN t a=255 then .error 70 else .ok (ZY t a 1)):=zH (by unfold vt;rw[if_neg zO]);have hza:((a:Int) == 0)=false:=by rw[beq_eq_false_iff_ne];omega
     have ag:=bg.size.2.2.2.2.2.1;have HS:=zH (fun W (hW:Ext wr W)=>qhB D B lo b g k (qw S t) a ha9 W (bg.ext hW));replace bg:=zH bg;replace lF:=zH lF;clear kp nK hsa hra;go_wp2_with fail;generalize lM:World.alloc _ _=wa;have xa:Ext wr wa:=by rw[<-lM];exact zN _ _
     have ra:wa.heap[wr.heap.size]?=some (.cells #[.int .u8 x.k,.int .u32 x.i,.int .u32 x.o,.int .i64 (a:Int),.slice A' x.val.length c'] 51 (0,0)):=by rw[<-lM];exact zI _ _ _ rfl
     have ka:=qa ra;clear lM d0 d1 d2 d3 d4;go_wp2_with fail;refine(HS.out wa xa).mono ?_;rintro e wsh ⟨hk2,aP⟩;have nH:=lF.out.trans ((Qg.of_ext xa ag).trans hk2 (ZD.refl _ _)) (ZD.refl _ _);clear HS hk2 ka ra xa;rcases aP with ⟨dQ,rfl⟩|⟨dQ,rfl⟩|⟨dQ,dE,rfl,dJ⟩
     ·have hEE:=zH (show Zz S lvl its=.error 6 by rw[hE.out,ai.out 6 (by rw[xk.out,if_pos dQ])]);clear hE ai aZ xk dQ;go_wp2_with fail;exact VH rfl rfl rfl (YY.bad hEE.out ((Qg.of_ext x2 rG).trans nH (ZD.refl _ _)))
     ·have hEE:=zH (show Zz S lvl its=.error 70 by rw[hE.out,ai.out 70 (by rw[xk.out,if_neg zO,if_pos dQ])]);clear hE ai aZ xk dQ;go_wp2_with fail;exact VH rfl rfl rfl (YY.bad hEE.out ((Qg.of_ext x2 rG).trans nH (ZD.refl _ _)))
     ·have IR:∃ (j':Nat) (t':List UInt8),j'<=its.length/\Value.int .i64 ((j:Int)+1)=.int .i64 (j':Int)/\ZI (qz (its.take j')) S.now=.ok t'/\Bch D B lo b g k (qw S t') wsh/\Qg lo b g k w2 wsh:=
       ⟨j+1,ZY t a 1,zO,rfl,aZ.out _ (by rw[xk.out,if_neg dQ,if_neg dE]),dJ,nH⟩
      replace IR:=zH IR;clear hE ai aZ xk dQ dE dJ nH lF bg;go_wp2_with fail;try rw[uJ.out]
      refine⟨IR.out,?_⟩;simp[intOf];omega
   ·obtain rfl:j=its.length:=zO;rw[List.take_length] at dw;rw[dw] at hE;have hE:Hid (Zz S lvl its=if Zh (qw S t)=[]\/S.ws.length=4096 then .error 9 else .ok (zp (qw S t),JV (qw S t) (zp (qw S t)) (Ze (Qu lvl its)))):=hE;have yV:Hid ((qw S t).ws.length=S.ws.length):=rfl;rw[<-yV.out] at hE yR;generalize qw S t=S' at *;have wz:=(Qg.of_ext (b:=b) (g:=g) (k:=k) x2 rG).trans lF (ZD.refl _ _);obtain⟨D',hD'⟩:∃ D':Nat->Prop,D'=fun q=>D q\/(w1.heap.size<=q/\q<w2.heap.size):=⟨_,rfl⟩
    have dJ:=dJ.out;have hzw:=h.out.size.2.2.2.2.2.1;have hux:=zH (fun C (hC:Ql (Tu B D') wr C)=>hu.out.keepX (X:=fun q=>B3 b g k q\/Tu B D' q) ((lF.keepX.mono fun q _ h=>.inl h).trans hC fun _ _ h=>.inr h) (fun q h1 h2=>by
     rintro (hx|hx)
     ·have:=(dJ q hx).2;omega
     ·exact hx.2 (by rw[hD'];exact .inr ⟨h1,h2⟩)))
    have hDD:∀ q,D q->D' q:=fun q hq=>by rw[hD'];exact .inl hq
    have hDn:YO w.heap.size D D':=fun q hq=>by rw[hD'] at hq;exact hq.imp id fun h=>zO
    have hDb:∀ W,Ext wr W->∀ q,D' q->lo<=q/\q<W.heap.size/\¬B3 b g k q:=fun W hW q hq=>by
     have hz:=hW.size;have aW:=lF.below.size;rw[hD'] at hq;rcases hq with hq|⟨h1,h2⟩
     ·have:=bg.dB q hq;exact⟨this.1,zO,this.2.2⟩
     ·exact⟨zO,zO,fun hx=>by have:=(dJ q hx).2;omega⟩
    have hkD:∀ q,k=some q->¬(q<B\/D' q):=fun q hq hx=>hx.elim (fun h1=>h.out.off q h1 (.inr (.inr hq))) fun h1=>(hDb wr (Ext.refl _) q h1).2.2 (.inr (.inr hq));replace hDb:=zH hDb;replace hDn:=zH hDn;replace hDD:=zH hDD;replace hkD:=zH hkD;clear hD' dJ hzw;obtain⟨A1,n1,c1,v2,c3,A4,c4,hr,ho,hwb,bQ,oP⟩:=bg.ex;obtain⟨hlen,hAK⟩:=bg.lens;obtain⟨nU,sF,-,-⟩:=ZB ho;obtain⟨b4,o4,rfl,hb4lt,sJ⟩:∃ b4 o4,A4=some ⟨b4,o4,none⟩/\b4<B/\∀ a,a<256->wr.cell? ⟨b4,o4+a,none⟩=some (.int .u8 (KH S' a:Int)):=by obtain⟨A',c',e,_,_,pM⟩:=oP;simp only[Value.slice.injEq] at e;obtain⟨rfl,_,rfl⟩:=e;obtain⟨b4,o4,e,h1,h2⟩:=pM.2 zO;exact⟨b4,o4,e,h1,fun a ha=>h2 a _ (by rw[List.getElem?_map,zL zO];simp[KH,zL (show a<S'.last.length by omega)])⟩
    have nU:Hid (∀ a,a<256->wr.cell? ⟨g,a,none⟩=some (.int .u8 (Zo S' a:Int))):=zH nU;have sJ:=zH sJ;have hfr:Hid (∀ k,8<=k->(bits .or .u8 (Zo S' k:Int) (KH S' k:Int) != 0)=!ZZ S' k):=zH fun k h8=>by rw[or_none _ _ (qjw S' k) (qgj S' k)];unfold ZZ;rw[decide_eq_true h8,Bool.true_and]
    obtain⟨A2,c2,rfl⟩:=hwb.slice;have h5g:=h.out.size;have hDV:=bg.size.2.2.2.2.2.2;replace hDV:=zH hDV;have h0:=h;clear kp hu nN hX hA hib fQ h lF dw yV p2 wG h5g;replace bg:=zH bg;replace hwb:=zH hwb;replace ho:=zH ho;replace bQ:=zH bQ;replace oP:=zH oP;replace wz:=zH wz;replace sF:=zH sF;replace hlen:=zH hlen;replace hAK:=zH hAK;have hwx:=zH (Ext.refl wr);generalize hwm:wr=wm at *;clear hwm;go_wp2_with fail;go_loopw [4] (fun i wr=>∃ k:Nat,8<=k/\k<=256/\i=.int .i64 (k:Int)/\(∀ j,8<=j->j<k->ZZ S' j=false)/\Ext wm wr) (fun i _=>256-(intOf i).toNat)
    case atStart=>exact⟨8,zM _,zO,rfl,fun _ _ h=>zO,Ext.refl _⟩
    case round =>
     obtain⟨f,h8,hf,rfl,nX,fZ⟩:=hrel;replace nX:=zH nX;have r2:=qb hr fZ;by_cases hlt:f<256
     ·have g1:∀ W,qj.r wr W->∀ i,W.cell? ⟨b,i,none⟩=#[.slice A1 n1 c1,.slice A2 S'.ws.length c2,.slice (some ⟨g,0,none⟩) 256 c3,.slice (some ⟨b4,o4,none⟩) 256 c4][i]?:=fun W h=>qa (qb r2 h);have g2:∀ W,qj.r wr W->W.cell? ⟨g,f,none⟩=some (.int .u8 (Zo S' f:Int)):=fun W h=>Ext.cell (fZ.trans h) (nU.out f hlt);have g3:∀ W,qj.r wr W->W.cell? ⟨b4,o4+f,none⟩=some (.int .u8 (KH S' f:Int)):=fun W h=>Ext.cell (fZ.trans h) (sJ.out f hlt);have hbit:=hfr.out f h8;generalize Zo S' f=nw at *;generalize KH S' f=lw at *;have d1:decide ((f:Int)<256)=true:=decide_eq_true zO;have d2:decide (f<256)=true:=decide_eq_true hlt;have uJ:=zH (IntWalk.wrap64_in ((f:Int)+1) zO);have hAO:=zH (fun (h:ZZ S' f=false)=>(fun j hj (hlt:j<f+1)=>(Nat.lt_or_ge j f).elim (fun h1=>nX.out j hj h1) fun h1=>by rw[show j=f by omega];exact h:∀ j,8<=j->j<f+1->ZZ S' j=false));have oV:=zH (fun (h:ZZ S' f=true)=>first_eq hlt h nX.out);generalize ZZ S' f=fb at *;have e0:=zH fZ;clear fZ;go_upto_region 13 with fail;refine qp zQ ?_;refine qQ (w:=wr) qj (qH []) (List.replicate 22 true) 0 zQ zQ zQ zQ zQ zQ zQ ?st (Rel.drew _ _) ?walk
      case st=>exact qk (fun _ h=>by cases h)
      case walk =>
       intro K hK;dsimp only[qu,List.replicate];refine zB6 ?_;refine qd (.pointer (some ⟨g,f,none⟩)) zA0 zA0 (fun W hW _=>⟨W,?_,Rel.refl _ W⟩) ?_
       ·go_simp;intro ig;exfalso;omega
       refine zB6 ?_;refine qd (.pointer (some ⟨b4,o4+f,none⟩)) zA0 zA0 (fun W hW _=>⟨W,?_,Rel.refl _ W⟩) ?_
       ·go_simp;intro ig;exfalso;omega
       refine zB6 ?_;refine qv (hK _ _ fun W hW hF=>?_);clear hF hK g1 g2 g3;have hW:Ext wr W:=hW;have xE:Ext wm W:=e0.out.trans hW;clear e0 hW;refine zC3 ?_;cases fb
       ·have IR:∃ k':Nat,8<=k'/\k'<=256/\Value.int .i64 ((f:Int)+1)=.int .i64 (k':Int)/\(∀ j,8<=j->j<k'->ZZ S' j=false)/\Ext wm W:=⟨f+1,zO,zO,rfl,hAO.out rfl,xE⟩
        replace IR:=zH IR;clear xE nX hAO oV;go_wp2;refine Qr ?_;go_wp2_with fail;try rw[uJ.out]
        refine⟨IR.out,?_⟩;simp[intOf];omega
       ·have aG:=zH (oV.out rfl).1;have yF:=zH (oV.out rfl).2;clear nX hAO oV hbit nU sJ hfr d1 d2;have r3:=qb hr xE;have k3:=qa r3;have f3:=qe r3;have e1:((f:Int) == 256)=false:=by rw[beq_eq_false_iff_ne];omega
        by_cases hw4:S'.ws.length=4096
        ·have hEE:=zH (show Zz S lvl its=.error 9 by rw[hE.out,if_pos (.inr hw4)]);have oD:((S'.ws.length:Int) == 4096)=true:=by rw[beq_iff_eq];omega
         replace hw4:=zH hw4;replace xE:=zH xE;go_wp2;refine Qr ?_;go_wp2_with fail;exact VH rfl rfl rfl (YY.bad hEE.out (wz.out.trans (Qg.of_ext xE.out bg.out.size.2.2.2.2.2.1) (ZD.refl _ _)))
        ·have hEE:=zH (show Zz S lvl its=.ok (f,JV S' f (Ze (Qu lvl its))) by rw[hE.out,if_neg (fun h=>h.elim aG.out hw4),yF.out]);have oD:((S'.ws.length:Int) == 4096)=false:=by rw[beq_eq_false_iff_ne];omega
         replace hw4:=zH hw4;have xw:=zH xE;have zW:=xE.size;have zwm:=bg.out.size.2.2.2.2.2.1;have hbW:=zH ((bg.out.ext xE).mono hDD.out (hDb.out W (hwx.out.trans xE)));clear xE;go_wp2;refine Qr ?_;go_wp2_with (at_builtin;refine Qh ?_);have zBlo:=h0.out.blo;refine QF.go (qfa rfl (.tmp 78) (.tmp 82) rfl rfl rfl ((hwb.out.mono hDD.out).ext xw.out zO) zO hkD.out (by have:=yR.out;omega) (f:Int) A0 128 c0 (Ze (Qu lvl its)) hsl.out.symm (fun C hC=>hux.out C ((Ql.of_ext (hwx.out.trans xw.out)).trans hC fun _ _ h=>h)) ?_);intro v4 w4 k4 hW4 hK4 yC pO;obtain⟨A5,c5,rfl⟩:=hW4.slice;rw[List.length_append,List.length_singleton] at hW4;have r4:=(pO b (zG.1 r3).1 fun e=>(hDV.out b e).2.2.1 rfl).trans r3;have kr4:=qa r4;have fr4:=qe r4;have oW:=zm ho.out xw.out;have o4:=Zx oW (w':=w4) fun q hq=>by cases hq;exact pO g (QP oW g rfl).2 fun e=>(hDV.out g e).2.2.2 rfl
         have kg4:=(ZB o4).1 f hlt;have fg4:=(ZB o4).2.1 f;have P:=zH (Bch.put hbW.out r3 oW (bQ.out.below (Below.mono xw.out zO)) (oP.out.below (Below.mono xw.out zO)) hlt hW4 hK4 yC pO);have hAll:Hid (Qg lo b g k w _):=zH (wz.out.trans ((Qg.of_ext xw.out zwm).trans P.out.2 (ZD.refl _ _)) (ZD.refl _ _));replace yC:=zH yC;clear o4 oW pO hW4 r3 k3 f3 hK4;go_wp2_with fail;exact VH rfl rfl rfl (YY.good hEE.out hAll.out (yC.out.mono (by have:=wz.out.below.size;omega)) hDn.out P.out.1)
     ·have d1:decide ((f:Int)<256)=false:=decide_eq_false zO;have e1:((f:Int) == 256)=true:=by rw[beq_iff_eq];omega
      have hf6:f=256:=zO;have hEE:=zH (show Zz S lvl its=.error 9 by rw[hE.out,if_pos (.inl (qkn fun j h8 hj=>nX.out j h8 zO))]);have e0:=zH fZ;replace hf6:=zH hf6;clear fZ nU sJ hfr nX r2;go_upto_region 13 with fail;refine qp zQ ?_;refine qQ (w:=wr) qj (qH []) (List.replicate 22 true) 0 zQ zQ zQ zQ zQ zQ zQ ?st (Rel.drew _ _) ?walk
      case st=>exact qk (fun _ h=>by cases h)
      case walk =>intro K hK;dsimp only[qu,List.replicate];refine zB6 ?_;refine qv (hK _ _ fun W hW hF=>?_);clear hF hK;have hW:Ext wr W:=hW;have xE:Ext wm W:=e0.out.trans hW;clear e0 hW;refine zC3 ?_;replace xE:=zH xE;go_wp2;refine Qr ?_;go_wp2_with fail;exact VH rfl rfl rfl (YY.bad hEE.out (wz.out.trans (Qg.of_ext xE.out bg.out.size.2.2.2.2.2.1) (ZD.refl _ _)))
def Yn (xs:List It) (k:K3):Bool:=match xs[qA xs k]? with
 |none=>false
 |some x=>decide (qo x=k)
theorem Kd {xs:List It} {k:K3} (h:qA xs k<xs.length):Yn xs k=decide (qo xs[qA xs k]=k):=by unfold Yn;rw[zL h]
theorem XK {xs:List It} {k:K3} (h:¬qA xs k<xs.length):Yn xs k=false:=by unfold Yn;rw[List.getElem?_eq_none zO]
theorem key_if (x:It) (k i o:Int) (W:World):(if x.k=k then if x.i=i then if x.o=o then Result.ok (Next.value (Value.bool true)) W else Result.ok (Next.value (Value.bool false)) W else Result.ok (Next.value (Value.bool false)) W else Result.ok (Next.value (Value.bool false)) W)=Result.ok (Next.value (Value.bool (decide (qo x=(k,i,o))))) W:=by
 have e:(qo x=(k,i,o))↔(x.k=k/\x.i=i/\x.o=o):=by unfold qo;simp only[Prod.mk.injEq]
 by_cases h1:x.k=k
 ·by_cases h2:x.i=i
  ·by_cases h3:x.o=o
   ·rw[if_pos h1,if_pos h2,if_pos h3,decide_eq_true (e.2 ⟨h1,h2,h3⟩)]
   ·rw[if_pos h1,if_pos h2,if_neg h3,decide_eq_false (fun h=>h3 (e.1 h).2.2)]
  ·rw[if_pos h1,if_neg h2,decide_eq_false (fun h=>h2 (e.1 h).2.1)]
 ·rw[if_neg h1,decide_eq_false (fun h=>h1 (e.1 h).1)]
theorem qdN {R:Ending->World->Prop} {a:Act} {W:World} {u v:Value} (h2:a.tmps[4]?.getD undef=u) (h3:a.tmps[5]?.getD undef=v) (hd:a.defers=[]) (hR:R (.returned (.tuple #[u,v])) W):bodyPost prog Tryz.f146 R .ret a W:=by refine bodyPost_ret (v:=.tuple #[u,v]) ?_ hd hR;simp[results,results146,go_sem,h2,h3]
set_option maxRecDepth 100000 in
theorem qcb (lvl:Int) (A c) (xs:List It) (k i o:Int) (w:World) (hl:xs.length<=5) (h:Its w w.heap.size (.slice A xs.length c) xs):Calls prog 146 #[jP lvl A xs.length c,TP k i o] w (Ret (.tuple #[.int .i64 ((qA xs (k,i,o):Nat):Int),.bool (Yn xs (k,i,o))]) w):=by
 obtain⟨-,dE,bG,hA⟩:=h.at_;have HI:=zH h;clear h;go_enter func146,ntmps146;go_wp2_with fail;generalize aA:(World.alloc (World.alloc w _) _)=w1;have x1:Ext w w1:=by rw[<-aA];exact(zN _ _).trans (zN _ _)
 have rn:w1.heap[w.heap.size]?=some (.cells #[.int .i64 lvl,.slice A xs.length c] 113 (0,0)):=by rw[<-aA];exact(zK _ _ _ zA2).trans (zI _ _ _ rfl)
 have rk:w1.heap[w.heap.size+1]?=some (.cells #[.int .u8 k,.int .u32 i,.int .u32 o] 49 (0,0)):=by rw[<-aA];exact zI _ _ _ zA2
 clear aA;go_loopw [4,11] (fun p j wr=>∃ n:Nat,n<=xs.length/\j=.int .i64 (n:Int)/\p=.int .i64 ((qA (xs.take n) (k,i,o):Nat):Int)/\Ext w1 wr) (fun _ j _=>xs.length-(intOf j).toNat)
 case atStart=>exact⟨0,Nat.zero_le _,rfl,rfl,Ext.refl _⟩
 case round =>
  obtain⟨n,hn,rfl,rfl,xr⟩:=hrel;have xwr:=x1.trans xr;have kn:=qa (qb rn xr);have kk:=qa (qb rk xr);have zk:w.heap.size+1<wr.heap.size:=(zG.1 (qb rk xr)).1;by_cases hlt:n<xs.length
  ·obtain⟨b,off,rfl,hb⟩:=hA zO;obtain⟨A',c',d0,d1,d2,d3,d4,-⟩:=HI.out.item n hlt;replace d0:=Ext.cell xwr d0;replace d1:=Ext.cell xwr d1;replace d2:=Ext.cell xwr d2;replace d3:=Ext.cell xwr d3;replace d4:=Ext.cell xwr d4;have HP:=zH (qix (k:=(k,i,o)) hlt);have bM:=JB (xs.take n) (k,i,o);rw[List.length_take] at bM;generalize qA (xs.take n) (k,i,o)=pl at *;generalize xs[n]=x at *;go_wp2_with fail;generalize lM:(World.alloc wr _)=wa;have xa:Ext wr wa:=by rw[<-lM];exact zN _ _
   clear lM;refine(vY x.k x.i x.o k i o wa).mono ?_;rintro e wl ⟨rfl,hB⟩;have xl:Ext w1 wl:=xr.trans (xa.trans hB);clear kn kk d0 d1 d2 d3 d4;rcases hls:Jv x.k x.i x.o k i o with _|_
   ·have hz:qA (xs.take (n+1)) (k,i,o)=pl:=by rw[HP.out,if_neg (show ¬qP (qo x) (k,i,o)=true from (fun h=>by rw[show qP (qo x) (k,i,o)=false from hls] at h;cases h))];rfl
    replace hz:=zH hz;go_wp2_with fail;refine⟨⟨n+1,hlt,rfl,by rw[hz.out],xl⟩,?_⟩;simp[intOf];omega
   ·have hz:qA (xs.take (n+1)) (k,i,o)=pl+1:=by rw[HP.out,if_pos (show qP (qo x) (k,i,o)=true from hls)]
    replace hz:=zH hz;go_wp2_with fail;refine⟨⟨n+1,hlt,rfl,by rw[hz.out];rfl,xl⟩,?_⟩;simp[intOf];omega
  ·obtain rfl:n=xs.length:=zO;rw[List.take_length];have bM:=JB xs (k,i,o);go_wp2_with fail;by_cases hp:qA xs (k,i,o)<xs.length
   ·have hia:=Kd hp;obtain⟨b,off,rfl,hb⟩:=hA zO;obtain⟨A',c',d0,d1,d2,-,-,-⟩:=HI.out.item _ hp;replace d0:=Ext.cell xwr d0;replace d1:=Ext.cell xwr d1;replace d2:=Ext.cell xwr d2;generalize xs[qA xs (k,i,o)]=x at *;generalize qA xs (k,i,o)=pl at *;generalize mJ:Yn xs (k,i,o)=ie at *;have gN:∀ W,qj.r wr W->∀ i,W.cell? ⟨w.heap.size,i,none⟩=#[.int .i64 lvl,.slice (some ⟨b,off,none⟩) xs.length c][i]?:=fun W h=>qa (qb (qb rn xr) h);have gK:∀ W,qj.r wr W->∀ j,W.cell? ⟨w.heap.size+1,j,none⟩=#[.int .u8 k,.int .u32 i,.int .u32 o][j]?:=fun W h=>qa (qb (qb rk xr) h);have gD:∀ W,qj.r wr W->W.cell? ⟨b,off+pl*5,none⟩=some (.int .u8 x.k)/\W.cell? ⟨b,off+pl*5+1,none⟩=some (.int .u32 x.i)/\W.cell? ⟨b,off+pl*5+2,none⟩=some (.int .u32 x.o):=fun W h=>⟨Ext.cell h d0,Ext.cell h d1,Ext.cell h d2⟩
    have gD0:=fun W h=>(gD W h).1;have gD1:=fun W h=>(gD W h).2.1;have gD2:=fun W h=>(gD W h).2.2;replace hia:=zH hia;clear d0 d1 d2 gD;refine qp zQ ?_;refine qQ (w:=wr) qj (qH []) [true,true,true,true,true,true,true,true,true,true,true,true,true,true,true,true,true] 1 zQ zQ zQ zQ zQ zQ zQ ?st (Rel.drew _ _) ?walk
    case st=>exact qk (fun _ h=>by cases h)
    case walk =>
     intro K hK;dsimp only[qu];refine zB6 ?_;refine qd (.bool ie) zA0 zA0 (fun W hW _=>⟨W,?_,Rel.refl _ W⟩) ?_
     ·go_simp;rw[hia.out];exact key_if x k i o W
     refine zB6 ?_;refine qv (hK _ _ fun W hW hF=>?_);clear hF hK gN gK gD0 gD1 gD2;have au:Ext wr W:=hW;refine zB5 ?_;go_wp2;refine Qr ?_;go_wp2_with fail;exact qdN rfl rfl rfl ⟨rfl,xwr.trans au⟩
   ·have hia:=XK hp;have gN:∀ W,qj.r wr W->∀ i,W.cell? ⟨w.heap.size,i,none⟩=#[.int .i64 lvl,.slice A xs.length c][i]?:=fun W h=>qa (qb (qb rn xr) h);generalize qA xs (k,i,o)=pl at *;generalize mJ:Yn xs (k,i,o)=ie at *;replace hia:=zH hia;refine qp zQ ?_;refine qQ (w:=wr) qj (qH []) [true,true,true,true,true,true,true,true,true,true,true,true,true,true,true,true,true] 1 zQ zQ zQ zQ zQ zQ zQ ?st (Rel.drew _ _) ?walk
    case st=>exact qk (fun _ h=>by cases h)
    case walk =>intro K hK;dsimp only[qu];refine zB6 ?_;refine qv (hK _ _ fun W hW hF=>?_);clear hF hK gN;have au:Ext wr W:=hW;refine zB5 ?_;go_wp2;refine Qr ?_;go_wp2_with fail;exact qdN rfl rfl rfl ⟨by rw[hia.out];rfl,xwr.trans au⟩
theorem qdM (lvl:Int) (A c) (xs:List It) (k i o:Int) (lo:Nat) (w:World) (hl:xs.length<=5) (h:ZL lo w (.slice A xs.length c) xs):Calls prog 146 #[jP lvl A xs.length c,TP k i o] w (Ret (.tuple #[.int .i64 ((qA xs (k,i,o):Nat):Int),.bool (Yn xs (k,i,o))]) w):=qcb lvl A c xs k i o w hl h.its
def looseL:List Nat->List UInt8->Except Int (List UInt8)
 | [],t=>.ok t
 |a :: r,t=>if a=0 then looseL r t else if qN t a=0 then .error 6 else looseL r (vd t a)
theorem jr (r:List Nat) (t:List UInt8):looseL (0 :: r) t=looseL r t:=by simp[looseL]
theorem Jd {a:Nat} (ha:a≠0) {t:List UInt8} (h:qN t a=0) (r:List Nat):looseL (a :: r) t=.error 6:=by simp only[looseL];rw[if_neg ha,if_pos h]
theorem jq {a:Nat} (ha:a≠0) {t:List UInt8} (h:qN t a≠0) (r:List Nat):looseL (a :: r) t=looseL r (vd t a):=by simp only[looseL];rw[if_neg ha,if_neg h]
theorem Jw:∀ (l r:List Nat) (t:List UInt8),looseL (l++r) t=match looseL l t with
  | .error e=>.error e
  | .ok t'=>looseL r t'
 | [],_,_=>rfl
 |a :: l,r,t=>by
  by_cases ha:a=0
  ·subst ha;rw[List.cons_append,jr,jr];exact Jw l r t
  ·by_cases h:qN t a=0
   ·rw[List.cons_append,Jd ha h,Jd ha h]
   ·rw[List.cons_append,jq ha h,jq ha h];exact Jw l r _
def leaveF (S:Sto):Nat->Int->List UInt8->Nat->Option (List UInt8)
 |0,_,_,_=>none
 |h+1,lvl,t,a=>if qN t a=0 then none else if 1<qN t a then some (vd t a) else
  match qt S a with
  |none=>none
  |some (l,xs)=>if 0<=lvl/\l≠lvl then none else if 0<l then (qz xs).foldl (fun acc r=>acc.bind fun t=>leaveF S h (l-1) t r) (some (t.set a 0)) else
   match looseL (qz xs) (t.set a 0) with
   | .error _=>none
   | .ok t'=>some t'
theorem Jc (S:Sto) (h:Nat) (lvl:Int) (t:List UInt8) (a:Nat):leaveF S (h+1) lvl t a=if qN t a=0 then none else if 1<qN t a then some (vd t a) else
  match qt S a with
  |none=>none
  |some (l,xs)=>if 0<=lvl/\l≠lvl then none else if 0<l then (qz xs).foldl (fun acc r=>acc.bind fun t=>leaveF S h (l-1) t r) (some (t.set a 0)) else
   match looseL (qz xs) (t.set a 0) with
   | .error _=>none
   | .ok t'=>some t':=rfl
theorem qar (S:Sto):∀ (h:Nat) (lvl:Int) (t:List UInt8) (a:Nat),0<=lvl->lvl<h->leaveF S (h+1) lvl t a=leaveF S h lvl t a
 |0,lvl,t,a,h0,h1=>zO
 |h+1,lvl,t,a,h0,h1=>by
  rw[Jc,Jc];split
  ·rfl
  ·split
   ·rfl
   ·split
    ·rfl
    ·rename_i l xs _;split
     ·rfl
     ·rename_i hl;have e:l=lvl:=by
       by_cases h:l=lvl
       ·exact h
       ·exact absurd ⟨h0,h⟩ hl
      subst e;split
      ·rename_i hp;congr 1;funext acc r;congr 1;funext t;exact qar S h (l-1) t r zO zO
      ·rfl
theorem jw {S:Sto} {a:Nat} {lvl:Int} {xs:List It} (h:qt S a=some (lvl,xs)):0<=lvl/\lvl<6/\xs.length<=5:=by have:=jF (qM h).1;exact⟨this.1,this.2.1,this.2.2.1⟩
def QH (S:Sto) (lvl:Int) (t:List UInt8) (a:Nat):Option (List UInt8):=leaveF S 7 lvl t a
def JJ (S:Sto):List (Nat×Int)->List UInt8->Option (List UInt8)
 | [],t=>some t
 |x :: r,t=>match QH S x.2 t x.1 with
  |none=>none
  |some t'=>JJ S r t'
theorem Tj (S:Sto):∀ (l r:List (Nat×Int)) (t:List UInt8),JJ S (l++r) t=match JJ S l t with
  |none=>none
  |some t'=>JJ S r t'
 | [],_,_=>rfl
 |x :: l,r,t=>by
  simp only[List.cons_append,JJ];cases QH S x.2 t x.1 with
  |none=>rfl
  |some t'=>exact Tj S l r t'
theorem qas (S:Sto) (l:Int):∀ (rs:List Nat) (o:Option (List UInt8)),rs.foldl (fun acc r=>acc.bind fun t=>QH S l t r) o=o.bind fun t=>JJ S (rs.map fun r=>(r,l)) t
 | [],o=>by cases o <;> rfl
 |a :: r,o=>by
  rw[List.foldl_cons,qas S l r];cases o with
  |none=>rfl
  |some t =>
   simp only[Option.bind_some,List.map_cons,JJ];cases QH S l t a <;> rfl
theorem Xl (S:Sto) (lvl:Int) (t:List UInt8) (a:Nat):QH S lvl t a=if qN t a=0 then none else if 1<qN t a then some (vd t a) else
  match qt S a with
  |none=>none
  |some (l,xs)=>if 0<=lvl/\l≠lvl then none else if 0<l then JJ S ((qz xs).map fun r=>(r,l-1)) (t.set a 0) else
   match looseL (qz xs) (t.set a 0) with
   | .error _=>none
   | .ok t'=>some t':=by
 obtain⟨h,hh⟩:∃ h,h=6:=⟨_,rfl⟩
 have L1:∀ lvl t a,QH S lvl t a=leaveF S (h+1) lvl t a:=fun lvl t a=>by rw[hh];rfl
 rw[L1,Jc];have key:∀ l xs,qt S a=some (l,xs)->0<l->(qz xs).foldl (fun acc r=>acc.bind fun t=>leaveF S h (l-1) t r) (some (t.set a 0))=JJ S ((qz xs).map fun r=>(r,l-1)) (t.set a 0):=fun l xs hn h0=>by
  obtain⟨_,h6,_⟩:=jw hn;have e1:=qas S (l-1) (qz xs) (some (t.set a 0));rw[Option.bind_some] at e1;rw[<-e1];have e:(fun (acc:Option (List UInt8)) (r:Nat)=>acc.bind fun t=>leaveF S h (l-1) t r)=fun acc r=>acc.bind fun t=>QH S (l-1) t r:=by
   funext acc r;cases acc with
   |none=>rfl
   |some t =>
    simp only[Option.bind_some];rw[L1,qar S h (l-1) t r zO zO]
  rw[e]
 split
 ·rfl
 ·split
  ·rfl
  ·split
   ·rfl
   ·rename_i l xs hn;split
    ·rfl
    ·split
     ·rename_i h0;exact key l xs hn h0
     ·rfl
def GD (k:K3) (r:Nat):It:=⟨k.1,k.2.1,k.2.2,(r:Int),[]⟩
def VV (p:List It):K3:=match p with
 | []=>(0,0,0)
 |x :: _=>qo x
def makeL (lvl:Int):List (List It)->Sto->Except Int (List It×Sto)
 | [],S=>.ok ([],S)
 |p :: r,S=>match Zz S lvl p with
  | .error e=>.error e
  | .ok (f,S')=>match makeL lvl r S' with
   | .error e=>.error e
   | .ok (up,S'')=>.ok (GD (VV p) f :: up,S'')
def Zq (l:List It):List (List It):=if 5<l.length then [l.take 3,l.drop 3] else [l]
def QU (S:Sto) (lvl:Int) (l held:List It):Except Int (List It×Sto):=match makeL lvl (Zq l) S with
 | .error e=>.error e
 | .ok (up,S')=>match looseL (qz held) S'.now with
  | .error e=>.error e
  | .ok t=>.ok (up,qw S' t)
def Vt (xs:List It) (p many:Nat) (up:List It):List It:=xs.take p++up++xs.drop (p+many)
def kI (S:Sto) (k:K3):Nat->List It->List (Nat×List It×Nat)
 |0,xs=>[(0,xs,qA xs k)]
 |h+1,xs=>(h+1,xs,if Yn xs k=true then qA xs k else qA xs k-1) :: match xs[if Yn xs k=true then qA xs k else qA xs k-1]? with
  |none=>[]
  |some y=>match qt S y.r.toNat with
   |none=>[]
   |some (_,ys)=>kI S k h ys
def Jp (k:K3) (lvl:Nat) (xs:List It):Nat:=if lvl=0/\Yn xs k=false then 0 else 1
def jo (k:K3):List (Nat×List It×Nat)->List It->Sto->Except Int (List It×Sto)
 | [],up,S=>.ok (up,S)
 |(lvl,xs,p) :: r,up,S=>match QU S (lvl:Int) (Vt xs p (Jp k lvl xs) up) up with
  | .error e=>.error e
  | .ok (up',S')=>jo k r up' S'
def qaG (k:K3) (l:List (Nat×List It×Nat)):Bool:=decide (l.length=6) && (l.all fun s=>!decide (s.2.1.length<5)) && !(match l.getLast? with
 |none=>false
 |some s=>Yn s.2.1 k)
def putX (S:Sto) (L:Nat) (xs:List It) (root:Nat) (x:It):Except Int (Nat×Sto):=
 if qaG (qo x) (kI S (qo x) L xs)=true then .error 120 else
 match jo (qo x) (kI S (qo x) L xs).reverse [x] S with
 | .error e=>.error e
 | .ok (up,S1)=>match (if 1<up.length then QU S1 ((kI S (qo x) L xs).length:Int) up up else .ok (up,S1)) with
  | .error e=>.error e
  | .ok (up',S2)=>match QH S2 (-1) S2.now root with
   |none=>.error 8
   |some t=>.ok (match up' with
    | []=>0
    |y :: _=>y.r.toNat,qw S2 t)
theorem Tryz.info_step:(Tryz.prog.info? 187).map (fun i=>(i.zero,i.size,i.bytes))=some (some (.agg #[.int .i64 0,.slice none 0 0,.int .i64 0]),3,40):=zQ
abbrev Stp:=Nat×List It×Nat
def jJ:List (Stp×Value)->List Value
 | []=>[]
 |p :: r=>.int .i64 (p.1.1:Int) :: p.2 :: .int .i64 (p.1.2.2:Int) :: jJ r
theorem qfG (ps:List (Stp×Value)) (p:Stp×Value):jJ (ps++[p])=jJ ps++[.int .i64 (p.1.1:Int),p.2,.int .i64 (p.1.2.2:Int)]:=by
 induction ps with
 |nil=>rfl
 |cons a r ih=>simp[jJ,ih]
theorem XE (ps:List (Stp×Value)):∀ i (h:i<ps.length),(jJ ps)[i*3]?=some (.int .i64 (ps[i].1.1:Int))/\(jJ ps)[i*3+1]?=some ps[i].2/\(jJ ps)[i*3+2]?=some (.int .i64 (ps[i].1.2.2:Int)):=by
 induction ps with
 |nil=>intro i h;simp at h
 |cons p r ih =>
  intro i h;rcases i with _|i
  ·simp[jJ]
  ·have:=ih i (by simpa using h);rw[show (i+1)*3=i*3+1+1+1 by omega];simpa [jJ,Nat.add_assoc] using this
def OwnX (v:Value) (q:Nat):Prop:=v.ownBlock=some q
def OwnL (lo:Nat) (v:Value) (q:Nat):Prop:=v.ownBlock=some q\/q<lo
def Gn (X:Nat->Prop) (w:World) (v:Value) (ips:List (It×Value)):Prop:=(∃ A c,v=.slice A ips.length c/\ips.length<=c/\c<=maxLen/\∀ C,Ql X w C->Rd C C.heap.size 5 A ips.length (Qa ips)) /\
 ∀ p∈ips,(∃ A c,p.2=.slice A p.1.val.length c)/\∀ C,Ql X w C->Bys C C.heap.size p.2 p.1.val
theorem Gn.its {X:Nat->Prop} {w:World} {v:Value} {ips:List (It×Value)} (h:Gn X w v ips) {C:World} (hC:Ql X w C):Its C C.heap.size v (ips.map (·.1)):=by obtain⟨⟨A,c,e,h1,h2,hr⟩,hp⟩:=h;exact⟨ips,rfl,⟨A,c,by rw[List.length_map];exact e,by rw[List.length_map];exact h1,h2,by rw[List.length_map];exact hr C hC⟩,fun p af=>⟨(hp p af).1,(hp p af).2 C hC⟩⟩
theorem Gn.trans {X Y:Nat->Prop} {w W:World} {v:Value} {ips:List (It×Value)} (h:Gn X w v ips) (hk:Ql X w W) (hY:∀ k,k<w.heap.size->Y k->X k):Gn Y W v ips:=by obtain⟨⟨A,c,e,h1,h2,hr⟩,hp⟩:=h;exact⟨⟨A,c,e,h1,h2,fun C hC=>hr C (hk.trans hC hY)⟩,fun p af=>⟨(hp p af).1,fun C hC=>(hp p af).2 C (hk.trans hC hY)⟩⟩
def JG (ty:TypeId) (lo:Nat) (w:World) (v:Value) (l:List Stp):Prop:=∃ ps:List (Stp×Value),ps.map (·.1)=l/\w.ownsRow lo ty 3 v l.length (jJ ps)/\∀ p∈ps,∃ ips,ips.map (·.1)=p.1.2.1/\Gn (OwnL lo v) w p.2 ips
def Tx (lo:Nat) (w:World) (v:Value) (l:List Stp):Prop:=∃ ps:List (Stp×Value),ps.map (·.1)=l/\(∃ A c,v=.slice A l.length c/\l.length<=c/\c<=maxLen/\∀ C,Ql (fun q=>q<lo) w C->Rd C C.heap.size 3 A l.length (jJ ps))/\∀ p∈ps,∃ ips,ips.map (·.1)=p.1.2.1/\Gn (fun q=>q<lo) w p.2 ips
def Kl (B:Nat) (w:World) (v:Value) (l:List Stp):Prop:=∃ ps:List (Stp×Value),ps.map (·.1)=l/\(∃ A c,v=.slice A l.length c/\l.length<=c/\c<=maxLen/\Rd w B 3 A l.length (jJ ps))/\∀ p∈ps,(∃ A c,p.2=.slice A p.1.2.1.length c)/\Its w B p.2 p.1.2.1
theorem Rd.keepFrom {X:Nat->Prop} {w C:World} {B size n lo:Nat} {A:OA} {xs:List Value} (h:Rd w B size A n xs) (hs:0<size) (hf:∀ a,A=some a->lo<=a.block) (hk:Ql X w C) (hX:∀ q,lo<=q->¬X q):Rd C C.heap.size size A n xs:=⟨h.1,fun hn=>by
 obtain⟨b,off,e,hb,hc⟩:=h.2 hn;have h1:lo<=b:=hf _ e;have hl:0<xs.length:=by rw[h.1];exact Nat.mul_pos hn hs
 exact⟨b,off,e,World.block_lt_of_cell? C ⟨b,off+0,none⟩ (hk _ _ (hX b h1) (hc 0 _ (zL hl))),fun j u hu=>hk _ _ (hX b h1) (hc j u hu)⟩⟩
theorem JG.toE {ty:TypeId} {lo:Nat} {w:World} {v:Value} {l:List Stp} (h:JG ty lo w v l):Tx lo w v l:=by obtain⟨ps,e,ho,hp⟩:=h;obtain⟨A,c,rfl,h1,h2⟩:=qE ho;have hf:=Zu.of_own ho;refine⟨ps,e,⟨A,c,rfl,h1,h2,fun C hC=>(Rd.of_own ho).keepFrom zO (fun a ha=>hf a _ _ (by rw[ha])) hC fun q hq hx=>zO⟩,fun p af=>?_⟩;obtain⟨ips,e1,hi⟩:=hp p af;exact⟨ips,e1,hi.trans (Ql.refl _ _) fun k _ hk=>.inr hk⟩
theorem Tx.mono {lo lo':Nat} {w:World} {v:Value} {l:List Stp} (h:Tx lo w v l) (hl:lo'<=lo):Tx lo' w v l:=by obtain⟨ps,e,⟨A,c,rfl,h1,h2,hr⟩,hp⟩:=h;have hm:∀ {C},Ql (fun q=>q<lo') w C->Ql (fun q=>q<lo) w C:=fun hC=>hC.mono fun q _ hq=>zO;refine⟨ps,e,⟨A,c,rfl,h1,h2,fun C hC=>hr C (hm hC)⟩,fun p af=>?_⟩;obtain⟨ips,e1,⟨A',c',f1,f2,f3,f4⟩,f5⟩:=hp p af;exact⟨ips,e1,⟨A',c',f1,f2,f3,fun C hC=>f4 C (hm hC)⟩,fun q hq=>⟨(f5 q hq).1,fun C hC=>(f5 q hq).2 C (hm hC)⟩⟩
theorem Gn.shape {X:Nat->Prop} {w:World} {v:Value} {ips:List (It×Value)} {xs:List It} (h:Gn X w v ips) (e:ips.map (·.1)=xs):∃ A c,v=.slice A xs.length c:=by obtain⟨⟨A,c,e1,_⟩,_⟩:=h;exact⟨A,c,by rw[e1,<-e,List.length_map]⟩
theorem Tx.read {lo:Nat} {w C:World} {v:Value} {l:List Stp} (h:Tx lo w v l) (hC:Ql (fun q=>q<lo) w C):Kl C.heap.size C v l:=by obtain⟨ps,e,⟨A,c,rfl,h1,h2,hr⟩,hp⟩:=h;refine⟨ps,e,⟨A,c,rfl,h1,h2,hr C hC⟩,fun p af=>?_⟩;obtain⟨ips,e1,hi⟩:=hp p af;exact⟨hi.shape e1,by rw[<-e1];exact hi.its hC⟩
theorem Kl.below {B:Nat} {w w':World} {v:Value} {l:List Stp} (h:Kl B w v l) (hb:Below B w w'):Kl B w' v l:=by obtain⟨ps,e,⟨A,c,e1,e2,e3,hr⟩,hp⟩:=h;exact⟨ps,e,⟨A,c,e1,e2,e3,hr.below hb⟩,fun p h=>⟨(hp p h).1,(hp p h).2.below hb⟩⟩
theorem Kl.more {B B':Nat} {w:World} {v:Value} {l:List Stp} (h:Kl B w v l) (hb:B<=B'):Kl B' w v l:=by obtain⟨ps,e,⟨A,c,e1,e2,e3,hr⟩,hp⟩:=h;exact⟨ps,e,⟨A,c,e1,e2,e3,hr.more hb⟩,fun p h=>⟨(hp p h).1,(hp p h).2.more hb⟩⟩
theorem JG.nil (ty:TypeId) (lo:Nat) (w:World):JG ty lo w (.slice none 0 0) []:=⟨[],rfl,World.ownsRow_nil _ _ _ _,fun p h=>by cases h⟩
theorem JG.ext {ty:TypeId} {lo:Nat} {w w':World} {v:Value} {l:List Stp} (h:JG ty lo w v l) (hx:Ext w w'):JG ty lo w' v l:=by obtain⟨ps,e,ho,hp⟩:=h;refine⟨ps,e,Zx ho fun q hq=>Below.block hx q (QP ho q hq).2,fun p af=>?_⟩;obtain⟨ips,e1,hi⟩:=hp p af;exact⟨ips,e1,hi.trans (Ql.of_ext hx) fun _ _ h=>h⟩
theorem JG.push {ty:TypeId} {lo:Nat} {w w':World} {v v':Value} {l:List Stp} {s:Stp} {u:Value} {ps:List (Stp×Value)} {ips:List (It×Value)} (aQ:lo<=w.heap.size) (e:ps.map (·.1)=l) (hp:∀ p∈ps,∃ ips,ips.map (·.1)=p.1.2.1/\Gn (OwnL lo v) w p.2 ips) (hu:ips.map (·.1)=s.2.1) (hs:Gn (OwnL lo v) w u ips) (ho:w'.ownsRow lo ty 3 v' (l.length+1) (jJ ps++[.int .i64 (s.1:Int),u,.int .i64 (s.2.2:Int)])) (hg:w.grownBy w' v.ownBlock) (fE:v'.ownBlock=v.ownBlock\/∃ g,v'.ownBlock=some g/\w.heap.size<=g):JG ty lo w' v' (l++[s]):=by
 have hk:Ql (OwnL lo v) w w':=Ql.of_heap fun q hq hX=>hg.block q hq fun e=>hX (.inl e.symm);have hy:∀ q,q<w.heap.size->OwnL lo v' q->OwnL lo v q:=fun q hq hx=>by
  rcases hx with hx|hx
  ·rcases fE with e1|⟨g,e1,e2⟩
   ·left;rw[<-e1];exact hx
   ·rw[e1] at hx;cases hx;omega
  ·exact .inr hx
 refine⟨ps++[(s,u)],by simp[e],?_,fun p af=>?_⟩
 ·rw[List.length_append,List.length_singleton,qfG];exact ho
 ·rcases List.mem_append.1 af with af|af
  ·obtain⟨ips',e1,hi⟩:=hp p af;exact⟨ips',e1,hi.trans hk hy⟩
  ·obtain rfl:p=(s,u):=by simpa using af
   exact⟨ips,hu,hs.trans hk hy⟩
theorem ZL.toE {lo:Nat} {w:World} {v:Value} {xs:List It} (h:ZL lo w v xs) {X:Nat->Prop} (hX:∀ q,lo<=q->¬X q):∃ ips,ips.map (·.1)=xs/\Gn X w v ips:=by
 obtain⟨ps,e1,⟨A,c,e2,e3,e4,hr⟩,hp,hf,hg⟩:=h;have el:xs.length=ps.length:=by rw[<-e1,List.length_map]
 rw[el] at e2 e3 hr;refine⟨ps,e1,⟨A,c,e2,e3,e4,fun C hC=>hr.keepFrom zO (fun a ha=>hf a _ _ (by rw[e2,ha])) hC hX⟩,fun p af=>⟨(hp p af).1,fun C hC=>?_⟩⟩;obtain⟨A',c',f1,f2,f3,f4⟩:=(hp p af).2;exact⟨A',c',f1,f2,f3,f4.keepFrom zO (fun a ha=>hg p af a _ _ (by rw[f1,ha])) hC hX⟩
theorem ZL.keepX {X:Nat->Prop} {w C:World} {lo:Nat} {v:Value} {xs:List It} (h:ZL lo w v xs) (hk:Ql X w C) (hX:∀ q,lo<=q->¬X q):Its C C.heap.size v xs:=by obtain⟨ips,rfl,hi⟩:=h.toE hX;exact hi.its hk
def zZ (xs:List It) (k:K3):Nat:=if Yn xs k=true then qA xs k else qA xs k-1
theorem Gf (S:Sto) (k:K3) (xs:List It):kI S k 0 xs=[(0,xs,qA xs k)]:=rfl
theorem XB {S:Sto} {k:K3} {h:Nat} {xs zs:List It} {y:It} {l:Int} (hy:xs[zZ xs k]?=some y) (hn:qt S y.r.toNat=some (l,zs)):kI S k (h+1) xs=(h+1,xs,zZ xs k) :: kI S k h zs:=by
 show (h+1,xs,zZ xs k) :: (match xs[zZ xs k]? with
  |none=>[]
  |some y=>match qt S y.r.toNat with
   |none=>[]
   |some (_,ys)=>kI S k h ys)=_
 rw[hy];simp only;rw[hn]
theorem jH {xs:List It} {k:K3} (h:0<xs.length):zZ xs k<xs.length:=by
 unfold zZ;have:=JB xs k;split
 ·rename_i hi;by_cases hl:qA xs k<xs.length
  ·exact hl
  ·rw[XK hl] at hi;cases hi
 ·omega
theorem UF {h:Nat} {xs:List It} (hm:Qf (h:Int) xs=true) (h1:0<h):0<xs.length:=by
 rcases Nat.eq_zero_or_pos xs.length with h0|h0
 ·exfalso;have hhd:ja (h:Int) xs.length=true:=by unfold Qf at hm;simp only[Bool.and_eq_true] at hm;exact hm.1
  unfold ja at hhd;simp only[decide_eq_true_eq] at hhd;exact hhd.2.2.2 zO h0
 ·exact h0
theorem Ge {S:Sto} {k:K3}:∀ (h:Nat) {xs:List It},Qf (h:Int) xs=true->(qD S h xs).isSome=true->(kI S k h xs).length=h+1
 |0,xs,_,_=>rfl
 |h+1,xs,hm,hs=>by have hx:=UF hm zO;obtain⟨b,e1,-,-,zs,e4,e5⟩:=ZF (ZU hs _ (List.getElem_mem (jH (k:=k) hx)));rw[XB (zL (jH hx)) (by rw[e1,Int.toNat_natCast];exact e4),List.length_cons,Ge h (qM e4).1 e5]
theorem qcS {P:Program} (w:World) (dT sT ty elem:TypeId) (g o dLen dCap:Nat) (a:Addr) (sLen sCap:Nat) (cur:Array Value) (t:TypeId) (cs:List Value) (k:Nat) (hu:P.underlying dT=some (.slice elem)) (hs:(P.info? elem).map (·.size)=some k) (hg:w.heap[g]?=some (.cells cur t (0,0))) (hn:cs.length=Nat.min sLen dLen*k) (iW:∀ j v,cs[j]?=some v->w.cell? (a.add j)=some v) (iC:o+cs.length<=cur.size) (h1:∀ v∈cs,v.oneCell'=true) : (Builtin.copy_ #[dT,sT] ty #[.slice (some ⟨g,o,none⟩) dLen dCap,.slice (some a) sLen sCap]).run P w =
   .ok (.int .i64 (Nat.min sLen dLen:Nat)) (w.setRow g (cur.toList.take o++cs++cur.toList.drop (o+cs.length)).toArray):=by
 have hl:=run_loadCells_list (P:=P) w a cs iW;have aH:=run_storeCells_at P g o t cs 0 cur w hg (by simpa using iC) h1;cases hq:P.info? elem with
 |none=>simp[hq] at hs
 |some i =>
  have hi:i.size=k:=by simpa [hq] using hs
  have hn':min sLen dLen*k=cs.length:=hn.symm;simp[Builtin.copy_,run_underlying hu,Builtin.lenOf,Builtin.firstCells,sizeOf,typeInfo,hq,hi,hn',hl,aH];rfl
theorem take_mid {A V R:List Value} {a b:Nat} (h:A.length+V.length=a+b):(A++V++R).take (a+b)=A++V:=by rw[<-h,<-List.length_append];exact List.take_left
structure RowI (g cap n:Nat) (xs:List Value) (w:World):Prop where
 ex:∃ cur:Array Value,w.heap[g]?=some (.cells cur 51 (0,0))/\cur.size=cap*5/\cur.toList.take (n*5)=xs
theorem RowI.own {lo g cap n:Nat} {xs:List Value} {w:World} (h:RowI g cap n xs w) (hl:xs.length=n*5) (aQ:lo<=g) (hn:n<=cap) (hc:cap<=maxLen):w.ownsRow lo 51 5 (.slice (some ⟨g,0,none⟩) n cap) n xs:=by obtain⟨cur,h1,h2,h3⟩:=h.ex;exact⟨hl,.inr ⟨g,cap,cur,rfl,aQ,h1,hn,hc,h2,h3⟩⟩
def spl (cur:Array Value) (o:Nat) (cs:List Value):Array Value:=(cur.toList.take (o*5)++cs++cur.toList.drop (o*5+cs.length)).toArray
theorem zj {cur:Array Value} {o k:Nat} {cs:List Value} (hl:cs.length=k*5) (h:(o+k)*5<=cur.size):(spl cur o cs).size=cur.size:=by unfold spl;simp only[List.size_toArray,List.length_append,List.length_take,List.length_drop,Array.length_toList];omega
theorem Ju {P:Program} {W:World} {g o k:Nat} {cur:Array Value} {cs:List Value} {dT sT ty:TypeId} {dLen dCap:Nat} {a:Addr} {sLen sCap:Nat} (hg:W.heap[g]?=some (.cells cur 51 (0,0))) (hl:cs.length=k*5) (h:(o+k)*5<=cur.size) (hu:P.underlying dT=some (.slice 51)) (hs:(P.info? 51).map (·.size)=some 5) (hk:Nat.min sLen dLen=k) (iW:∀ j v,cs[j]?=some v->W.cell? (a.add j)=some v) (h1:∀ v∈cs,v.oneCell'=true) : (Builtin.copy_ #[dT,sT] ty #[.slice (some ⟨g,o*5,none⟩) dLen dCap,.slice (some a) sLen sCap]).run P W=.ok (.int .i64 (k:Nat)) (W.setRow g (spl cur o cs)):=by
 have:=qcS (P:=P) W dT sT ty 51 g (o*5) dLen dCap a sLen sCap cur 51 cs 5 hu hs hg (by rw[hk,hl]) iW zO h1;rw[hk] at this;exact this
theorem XU {cur:Array Value} {o k:Nat} {A cs:List Value} (hA:cur.toList.take (o*5)=A) (hl:cs.length=k*5) (h:(o+k)*5<=cur.size):(spl cur o cs).toList.take ((o+k)*5)=A++cs:=by
 unfold spl;rw[List.toList_toArray,hA,Nat.add_mul];have:A.length=o*5:=by rw[<-hA,List.length_take,Array.length_toList];omega
 exact take_mid zO
theorem qla {cur:Array Value} {n i m:Nat} {xs vs:List Value} (hc:cur.toList.take (n*5)=xs) (hx:xs.length=n*5) (hv:vs.length=m*5) (hi:i<=n) (h:(n+m)*5<=cur.size) : (spl (spl cur (i+m) (xs.drop (i*5))) i vs).toList.take ((n+m)*5)=xs.take (i*5)++vs++xs.drop (i*5):=by
 have hd:(xs.drop (i*5)).length=(n-i)*5:=by rw[List.length_drop];omega
 have e1:(spl cur (i+m) (xs.drop (i*5))).toList=cur.toList.take ((i+m)*5)++xs.drop (i*5)++cur.toList.drop ((i+m)*5+(xs.drop (i*5)).length):=by unfold spl;rw[List.toList_toArray]
 have oD:(cur.toList.take ((i+m)*5)).length=(i+m)*5:=by rw[List.length_take,Array.length_toList];omega
 have e2:(spl cur (i+m) (xs.drop (i*5))).toList.take (i*5)=xs.take (i*5):=by rw[e1,List.append_assoc,List.take_append_of_le_length zO,List.take_take,Nat.min_eq_left zO,<-hc,List.take_take,Nat.min_eq_left zO]
 have e3:(spl cur (i+m) (xs.drop (i*5))).toList.drop (i*5+vs.length)=xs.drop (i*5)++cur.toList.drop ((i+m)*5+(xs.drop (i*5)).length):=by rw[e1,List.append_assoc];have:i*5+vs.length=(cur.toList.take ((i+m)*5)).length:=zO;rw[this];exact List.drop_left
 generalize hY:spl cur (i+m) (xs.drop (i*5))=Y at *;unfold spl;rw[List.toList_toArray,e2,e3,<-List.append_assoc];have ht:(xs.take (i*5)).length=i*5:=by rw[List.length_take];omega
 have:(n+m)*5=(xs.take (i*5)++vs++xs.drop (i*5)).length:=by simp only[List.length_append];omega
 rw[this];exact List.take_left
set_option maxRecDepth 100000 in
theorem qgg (A n c) (us:List Value) (hn:n<1073741824) (h1:∀ u∈us,u.oneCell'=true) (w:World) (hr:Rd w w.heap.size 5 A n us):Calls prog 115 #[.slice A n c] w (Zg (fun u w'=>w'.ownsRow w.heap.size 51 5 u n us) w):=by
 obtain⟨i0,hi,ag,aV,aW⟩:=info_parts Tryz.info_item;have qn:∀ (w:World) (a:OA) (n c n' c':Nat),(binOp .eql 55 (.slice a n c) (.slice none n' c')).run prog w=.ok (.bool a.isNone) w:=fun w a n c n' c'=>Lib.run_eql_slice_nil w _ _ a n c n' c' underlying55;rcases A with _|⟨b,off,p⟩
 ·have h0:n=0:=by
   rcases Nat.eq_zero_or_pos n with h|h
   ·exact h
   ·obtain⟨b,off,h,_⟩:=hr.2 h;cases h
  subst h0;obtain rfl:us=[]:=List.eq_nil_of_length_eq_zero (by simpa using hr.1);go_enter func115,ntmps115;go_wp2;go_ret;exact⟨_,rfl,World.ownsRow_nil _ _ _ _,Below.refl _ _⟩
 ·go_enter func115,ntmps115;go_wp2_with (at_builtin;refine Qh ?_);refine QF.go (Qz _ rfl (.tmp 5) (.tmp 6) 55 rfl w.heap.size 51 i0 _ 5 48 underlying55 hi ag aV aW rfl zD _ 0 [] rfl ?_ w.heap.size _ n c us zE ?_ h1 zO zD zA2 ?_)
  ·exact World.ownsRow_lit w #[] 0 (zM _) (by simp[maxLen]) rfl
  ·exact hr.keep fun p hp=>World.cell?_alloc_lt w _ p hp
  ·intro v' w' aB _ hb _;simp only[Nat.zero_add,List.nil_append] at aB;go_wp2;go_ret;exact⟨_,rfl,aB,Below.trans ((Below.refl _ _).alloc (zM _) _) hb⟩
def YX (lo:Nat) (s:Value) (k:Nat) (ys:List Value) (w:World) (e:Ending) (W:World):Prop:=∃ v',e=.returned v'/\W.ownsRow lo 51 5 v' k ys/\Below lo w W/\∀ q,q<w.heap.size->s.ownBlock≠some q->W.heap[q]?=w.heap[q]?
theorem Zi {lo g:Nat} {w W:World} (h:Below lo w W) (aQ:lo<=w.heap.size) (hg:lo<=g) (cur:Array Value):Below lo w (W.setRow g cur):=
 h.grown (UZ W g cur) (by have:=h.size;omega) (fun k hk=>by cases hk;exact hg)
theorem qfp {w:World} {lo m c g:Nat} {e:TypeId} {vs:List Value} (h:w.ownsRow lo e 5 (.slice (some ⟨g,0,none⟩) m c) m vs):∀ j u,vs[j]?=some u->w.cell? ((⟨g,0,none⟩:Addr).add j)=some u:=fun j u hu=>by
 rcases h.2 with ⟨h0,_⟩|⟨g',cap,cur,hv,hb,hg,gZ,_,hsz,nM⟩
 ·cases h0
 ·cases hv;rw[Addr.add_lit,Nat.zero_add,qa hg,<-Array.getElem?_toList];rw[<-nM,List.getElem?_take] at hu;split at hu
  ·exact hu
  ·cases hu
end Go.Proofs.YtmeadnlmepcmbaaGreat
