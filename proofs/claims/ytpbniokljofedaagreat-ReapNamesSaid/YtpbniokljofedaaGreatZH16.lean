/- Texts PushR, BMake2, Order, Place, joined. -/
import Derived.Test.YtpbniokljofedaaGreatZH15
set_option linter.unusedSimpArgs false
set_option linter.unusedVariables false
set_option maxHeartbeats 8000000
open Go.Proofs.Tryz
namespace Go.Proofs.YtpbniokljofedaaGreat
open Go.RowKit
theorem qaw {P:Program} (w:World) (t ty:TypeId) (e:TypeId) (i:TypeInfo) (z:Value) (size bytes:Nat) (ht:P.underlying t=some (.slice e)) (hi:P.info? e=some i) (hz:i.zero=some z) (dm:i.size=size) (ai:i.bytes=bytes) (hzs:z.cells.size=size) (hsz:0<size) (B:Nat) (A:Option Addr) (n:Nat) (xs:List Value) (hr:Rd w B size A n xs) (cs:Array Value) (hl:cs.size=size) (h1:∀ u∈cs.toList,u.oneCell'=true) (hn:n<1073741824) (dX:bytes<=65536) : ∃ v' w',(Builtin.append_ #[t,t] ty #[.slice A n n,.slice (some ⟨w.heap.size,0,none⟩) 1 1]).run P (w.alloc (.cells cs e))=.ok v' w'/\w'.ownsRow (w.heap.size+1) e size v' (n+1) (xs++cs.toList)/\Ext w w'/\v'.ownBlock=some (w.heap.size+1):=by
 have hb:(n+1)*bytes<=140737488355328:=Nat.le_trans (Nat.mul_le_mul_left _ dX) zO;have hm:n+1<=maxLen:=zA7;have iP:((n+1:Nat):Int)<=9223372036854775807:=zO;rcases A with _|ad
 ·have hn0:n=0:=by
   rcases Nat.eq_zero_or_pos n with h0|h0
   ·exact h0
   ·obtain⟨b,off,h,_⟩:=hr.2 h0;cases h
  subst hn0;have hx:xs=[]:=List.eq_nil_of_length_eq_zero (by simpa using hr.1);subst hx;obtain⟨v',w',aj,h2,h3,h4,h5⟩:=run_append_own_at (P:=P) (w.alloc (.cells cs e)) (w.heap.size+1) t ty e i z size bytes ht hi hz dm ai hzs hsz (.slice none 0 0) 0 [] (World.ownsRow_nil _ _ _ _) ⟨w.heap.size,0,none⟩ 1 1 cs.toList
   (by rw[Array.length_toList];omega) (Kp w cs e) h1 hm hb zA3
  refine⟨v',w',aj,h2,Ext.trans (zN w (.cells cs e)) ((Below.refl _ _).grown h3 (zM _) (fun k hk=>by cases hk)),?_⟩;rcases h5 with h5|h5
  ·exfalso;rcases h2.2 with ⟨e0,_⟩|⟨g,cap,cur,e0,_⟩
   ·have:=(h4.1 e0).2;omega
   ·rw[e0] at h5;cases h5
  ·rw[h5];simp
 ·have dL:∀ j u,xs[j]?=some u->w.cell? (ad.add j)=some u:=by
   intro j u hu;rcases Nat.eq_zero_or_pos n with h0|h0
   ·subst h0;have hx:xs=[]:=List.eq_nil_of_length_eq_zero (by simpa using hr.1);subst hx;simp at hu
   ·obtain⟨b,off,h,_⟩:=hr.2 h0;injection h with h;subst h;exact hr.adds h0 j u hu
  subst dm;subst ai;have lK:=run_append_grow (P:=P) (w.alloc (.cells cs e)) t ty e i z ht hi hz ad n n xs hr.1 (fun j u hu=>Ext.cell (zN w _) (dL j u hu)) ⟨w.heap.size,0,none⟩ 1 1 cs.toList (by rw[Array.length_toList];omega) (Kp w cs e) zO iP (growslice_fits zO hb);refine⟨_,_,lK,?_,(zN w _).trans ((Ext.drew _).trans (zN _ _)),by simp[Value.ownBlock]⟩;have mQ:=grownCap_ge (w.alloc (.cells cs e)) (n+1) n e;have dw:grownCap (w.alloc (.cells cs e)) (n+1) n e<=maxLen:=grownCap_le_maxLen _ (n+1) n e hm;have hlen:(xs++cs.toList).length=(n+1)*i.size:=by rw[List.length_append,hr.1,Array.length_toList,hl,Nat.add_mul,Nat.one_mul]
  refine⟨hlen,.inr ⟨_,_,_,rfl,zA3,heap_alloc_new (w.alloc (.cells cs e)).drew _,mQ,dw,?_,?_⟩⟩
  ·simp only[Array.size_append,List.size_toArray,size_zeroCells,hzs,hr.1,hl];rw[<-Nat.succ_mul,<-Nat.add_mul];congr 1;omega
  ·simp only[Array.toList_append,List.append_assoc];rw[<-List.append_assoc,<-hlen];exact List.take_left
theorem WsB.push {D:Nat->Prop} {B lo b g:Nat} {k:Option Nat} {v:Value} {ws:List (Int×List UInt8)} {w:World} (h:WsB D B lo b g k v ws w) (aO:lo<=w.heap.size) (hk:∀ q,k=some q->¬(q<B\/D q)) (wQ:ws.length<1073741824) (at_:Int) (A0:Option Addr) (c0:Nat) (l:List UInt8) (hd:∀ C,qZ (YI B D) w C->Bys C C.heap.size (.slice A0 l.length c0) l) (ty:TypeId) : ∃ v' w' k',(Builtin.append_ #[23,23] ty #[v,.slice (some ⟨w.heap.size,0,none⟩) 1 1]).run prog (w.alloc (.cells #[.int .i64 at_,.slice A0 l.length c0] 130))=.ok v' w'/\WsB D B lo b g k' v' (ws++[(at_,l)]) w'/\qV lo b g k w w'/\Zc w.heap.size k k' /\ (∀ q,q<w.heap.size->k≠some q->w'.heap[q]?=w.heap[q]?):=by
 obtain⟨i0,hi,aX,aU,aV⟩:=info_parts Tryz.info_write;obtain⟨ps,rfl,hw,hp⟩:=h;have h1:∀ u∈(#[.int .i64 at_,.slice A0 l.length c0]:Array Value).toList,u.oneCell'=true:=zA8;rw[List.length_map] at wQ hw;have fin:∀ (v':Value) (w':World) (k':Option Nat),w'.ownsRow lo 130 2 v' (ps.length+1) (ZX ps++[.int .i64 at_,.slice A0 l.length c0])->(∃ q,v'.ownBlock=some q/\k'=some q)->(∀ q,q<w.heap.size->k≠some q->w'.heap[q]?=w.heap[q]?)->WsB D B lo b g k' v' (ps.map (·.1)++[(at_,l)]) w':=fun v' w' k' ho ⟨q,xk,mX⟩ hR=>by
  have hX:qZ (YI B D) w w':=YI.keep fun q hq h1=>hR q hq fun e=>hk q e h1;refine⟨ps++[((at_,l),.slice A0 l.length c0)],zA3,.inr ⟨q,mX,xk,by rw[qcM];simpa using ho⟩,fun p af=>?_⟩;rcases List.mem_append.1 af with af|af
  ·exact⟨(hp p af).1,fun C hC=>(hp p af).2 C (hX.trans hC fun _ _ h=>h)⟩
  ·obtain rfl:p=((at_,l),.slice A0 l.length c0):=by simpa using af
   exact⟨⟨A0,c0,rfl⟩,fun C hC=>hd C (hX.trans hC fun _ _ h=>h)⟩
 rcases hw with ⟨rfl,hm,A,rfl,hr⟩|⟨q,rfl,hq,ho⟩
 ·obtain⟨v',w',aj,h2,hx,hb⟩:=qaw (P:=prog) w 23 ty 130 i0 (.agg #[.int .i64 0,.slice none 0 0]) 2 32 underlying23 hi aX aU aV rfl zA1 B A ps.length (ZX ps) hr #[.int .i64 at_,.slice A0 l.length c0] rfl h1 wQ zA1;have hN:Zc w.heap.size none (some (w.heap.size+1)):=fun q hq=>.inr (by cases hq;omega);have hB:qV lo b g none w w':=qV.of_ext hx aO;exact⟨v',w',some (w.heap.size+1),aj,fin v' w' _ (Qw h2 zO) ⟨_,hb,rfl⟩ (fun q hq _=>Below.block hx q hq),hB,hN,fun q hq _=>Below.block hx q hq⟩
 ·obtain⟨v',w',aj,h2,h3,_,h5⟩:=run_append_own_at (P:=prog) (w.alloc (.cells #[.int .i64 at_,.slice A0 l.length c0] 130)) lo 23 ty 130 i0 (.agg #[.int .i64 0,.slice none 0 0]) 2 32 underlying23 hi aX aU aV rfl zA1 v ps.length (ZX ps) (ho.alloc _) ⟨w.heap.size,0,none⟩ 1 1 [.int .i64 at_,.slice A0 l.length c0]
   rfl (Kp w #[.int .i64 at_,.slice A0 l.length c0] 130) h1 zA7 zO zA2
  have hlq:=(Ql ho q hq).1;rw[hq] at h3 h5;have hB:Below lo w w':=Below.trans (Below.mono (zN w _) aO) ((Below.refl lo _).grown h3 zA2 (fun k hk=>by cases hk;exact hlq));have aC:∀ q',q'<w.heap.size->(some q≠some q')->w'.heap[q']?=w.heap[q']?:=fun q' h1 aN=>(h3.block q' zA2 (fun e=>aN e.symm)).trans (zK w _ q' h1);have hK:qV lo b g (some q) w w':=⟨hB,fun q' h1 hn=>aC q' h1 fun e=>hn (.inr (.inr e))⟩
  rcases h5 with h5|h5
  ·exact⟨v',w',some q,aj,fin v' w' _ h2 ⟨q,h5,rfl⟩ aC,hK,Zc.refl _ _,aC⟩
  ·have hN:Zc w.heap.size (some q) (some (w.heap.size+1)):=fun q' oH=>.inr (by cases oH;omega);exact⟨v',w',some (w.heap.size+1),aj,fin v' w' _ h2 ⟨_,by rw[h5];simp,rfl⟩ aC,hK,hN,aC⟩
theorem qck {ops:Array Oper} {rest:List Oper} {o:Oper} {a:Act} {Q:Exit->Act->World->Prop} (fE:o.guard=none) (s x:Operand) (ho:o.op=.call { callee:=.builtin .append,args:=#[s,x],argTypes:=#[23,23] }) {D:Nat->Prop} {B lo b g:Nat} {k:Option Nat} {v:Value} {ws:List (Int×List UInt8)} {w:World} (hs:a.eval s=v) (hx:a.eval x=.slice (some ⟨w.heap.size,0,none⟩) 1 1) (h:WsB D B lo b g k v ws w) (aO:lo<=w.heap.size) (hk:∀ q,k=some q->¬(q<B\/D q)) (wQ:ws.length<1073741824) (at_:Int) (A0:Option Addr) (n0 c0:Nat) (l:List UInt8) (hn0:n0=l.length) (hd:∀ C,qZ (YI B D) w C->Bys C C.heap.size (.slice A0 n0 c0) l) (hK:∀ v' w' k',WsB D B lo b g k' v' (ws++[(at_,l)]) w'->qV lo b g k w w'->Zc w.heap.size k k'->(∀ q,q<w.heap.size->k≠some q->w'.heap[q]?=w.heap[q]?)->wpList prog ops Q rest (a.put o.dst v') w'):wpList prog ops Q (o :: rest) a (w.alloc (.cells #[.int .i64 at_,.slice A0 n0 c0] 130)):=by
 subst hn0;refine wpList_plain fE fun K hKK=>?_;obtain⟨v',w',k',aj,h1,h2,h3,h4⟩:=h.push aO hk wQ at_ A0 c0 l hd o.type;unfold Oper.wp execOp;simp only[ho,resolve,invoke,builtin,Sem.run_bind,Sem.run_pure,Result.andThen_ok,List.map_toArray,List.map_cons,List.map_nil,hs,hx,aj];exact hKK _ _ (hK v' w' k' h1 h2 h3 h4)
theorem Bch.put {D:Nat->Prop} {B lo b g:Nat} {k k':Option Nat} {S:Sto} {w W:World} (h:Bch D B lo b g k S w) {A1:Option Addr} {n1 c1 c3 c4:Nat} {A4:Option Addr} {v2 v':Value} (hr:w.heap[b]?=some (.cells #[.slice A1 n1 c1,v2,.slice (some ⟨g,0,none⟩) 256 c3,.slice A4 256 c4] 191 (0,0))) (ho:w.ownsRow lo 5 1 (.slice (some ⟨g,0,none⟩) 256 c3) 256 (S.now.map bv)) (hb:Bls w B (.slice A1 n1 c1) S.bs) (hl:Bys w B (.slice A4 256 c4) S.last) {f:Nat} {l:List UInt8} (hf:f<256) (hw:WsB D B lo b g k' v' (S.ws++[((f:Int),l)]) W) (hB:qV lo b g k w W) (hN:Zc w.heap.size k k') (hGX:∀ q,q<w.heap.size->k≠some q->W.heap[q]?=w.heap[q]?):Bch D B lo b g k' ⟨S.bs,S.ws++[((f:Int),l)],S.now.set f 1,S.last⟩ ((W.setCell ⟨b,1,none⟩ v').setCell ⟨g,f,none⟩ (.int .u8 1))/\qV lo b g k w ((W.setCell ⟨b,1,none⟩ v').setCell ⟨g,f,none⟩ (.int .u8 1)):=by
 obtain⟨lJ,hzb,uV,hzg,rE,xX,wG⟩:=h.size;have dO:=h.blo;have hkd:=h.offk;have hzW:=hB.below.size;have wO:=(hGX b hzb fun e=>(wG b e).2.2.1 rfl).trans hr;have hkq':∀ q,k'=some q->q≠b/\q≠g:=fun q hq=>(hN q hq).elim (fun e=>(wG q e).2.2) fun e=>zO;have st:∀ q,q≠b->q≠g->((W.setCell ⟨b,1,none⟩ v').setCell ⟨g,f,none⟩ (.int .u8 1)).heap[q]?=W.heap[q]?:=fun q h1 h2=>(zJ _ _ _ _ h2).trans (zJ _ _ _ _ h1);have uz:Below lo W ((W.setCell ⟨b,1,none⟩ v').setCell ⟨g,f,none⟩ (.int .u8 1)):=Below.setCell (Below.setCell (Below.refl _ _) (p:=⟨b,1,none⟩) lJ _) (p:=⟨g,f,none⟩) uV _;have iV:Below lo w ((W.setCell ⟨b,1,none⟩ v').setCell ⟨g,f,none⟩ (.int .u8 1)):=hB.below.trans uz;have hX:qZ (YI B D) W ((W.setCell ⟨b,1,none⟩ v').setCell ⟨g,f,none⟩ (.int .u8 1)):=YI.keep fun q _ hq=>st q (fun e=>hkd b (.inl rfl) (e ▸ hq)) (fun e=>hkd g (.inr (.inl rfl)) (e ▸ hq));have ho1:=QA ho (w':=W) fun q hq=>by cases hq;exact hGX g hzg fun e=>(wG g e).2.2.2 rfl
 have ho2:=UA (qdE (k:=1) (v:=v') ho1 rE) (k:=f) hf 1;refine⟨⟨lJ,dO,fun q hq=>⟨(h.dB q hq).1,by have:=(h.dB q hq).2.1;simp;omega,fun hx=>?_⟩,A1,n1,c1,v',c3,A4,c4,(zJ _ _ _ _ fun e=>rE e.symm).trans (qi wO 1 v'),ho2,?_,hb.below (Below.mono iV dO),hl.below (Below.mono iV dO)⟩,⟨iV,fun q hq hn=>(st q (fun e=>hn (.inl e)) (fun e=>hn (.inr (.inl e)))).trans (hB.rows q hq hn)⟩⟩
 ·exact(h.dB q hq).2.2 (B3.of_new hN q (h.dB q hq).2.1 hx)
 ·obtain⟨ps,e,hc,hp⟩:=hw;refine⟨ps,e,?_,fun p af=>⟨(hp p af).1,fun C hC=>(hp p af).2 C (hX.trans hC fun _ _ h=>h)⟩⟩;rcases hc with ⟨e1,hm,A,e2,oI⟩|⟨q,e1,e2,how⟩
  ·exact .inl ⟨e1,hm,A,e2,oI.below (Below.mono uz dO)⟩
  ·exact .inr ⟨q,e1,e2,QA how fun q' oH=>by rw[e2] at oH;cases oH;exact st q (hkq' q e1).1 (hkq' q e1).2⟩
theorem or_none (a b:Nat) (ha:a<256) (hb:b<256):(bits .or .u8 (a:Int) (b:Int) != 0)=!(decide (a=0) && decide (b=0)):=by rw[<-qgd a b ha hb];rfl
theorem first_eq {S:Sto} {f:Nat} (hf:f<256) (h:ZJ S f=true) (nM:∀ k,8<=k->k<f->ZJ S k=false):Zi S≠[]/\QO S=f:=by
 have e:∃ l,Zi S=f :: l:=by
  unfold Zi;have h0:jy S f=[]:=by
   unfold jy;rw[List.filter_eq_nil_iff];intro k hk;have hkf:k<f:=by simpa using hk
   rcases Nat.lt_or_ge k 8 with h8|h8
   ·unfold ZJ;simp;omega
   ·rw[nM k h8 hkf];decide
  have h1:=Ks S f;rw[if_pos h,h0] at h1;obtain⟨t,ht⟩:=UV S (show f+1<=256 by omega);exact⟨t,by rw[<-ht,h1];rfl⟩
 obtain⟨l,e⟩:=e;exact⟨by rw[e];simp,by unfold QO;rw[e];rfl⟩
theorem qgK {S:Sto} (h:∀ k,8<=k->k<256->ZJ S k=false):Zi S=[]:=by
 unfold Zi jy;rw[List.filter_eq_nil_iff];intro k hk;have hkf:k<256:=by simpa using hk
 rcases Nat.lt_or_ge k 8 with h8|h8
 ·unfold ZJ;simp;omega
 ·rw[h k h8 hkf];decide
theorem IsB.keepX {X:Nat->Prop} {lo n:Nat} {l:List UInt8} {v:Value} {w C:World} (h:IsB lo n l v w) (hk:qZ X w C) (hX:∀ q,lo<=q->q<w.heap.size->¬X q):Bys C C.heap.size v l:=by
 obtain⟨A,c,e,⟨A',c',e',hc,hm,hr⟩,hf⟩:=h;refine⟨A',c',e',hc,hm,hr.1,fun hn=>?_⟩;obtain⟨b,off,e2,hb,aF⟩:=hr.2 hn;subst e2;have aO:=hf ⟨b,off,none⟩ _ _ e';have hl:0<(l.map bv).length:=by simpa using hn
 exact⟨b,off,rfl,World.block_lt_of_cell? C ⟨b,off+0,none⟩ (hk _ _ (hX b aO hb) (aF 0 _ (zL hl))),fun j u hu=>hk _ _ (hX b aO hb) (aF j u hu)⟩
theorem WsB.slice {D:Nat->Prop} {B lo b g:Nat} {k:Option Nat} {v:Value} {ws:List (Int×List UInt8)} {w:World} (h:WsB D B lo b g k v ws w):∃ A c,v=.slice A ws.length c:=by
 obtain⟨ps,e,hc,_⟩:=h;rcases hc with ⟨_,_,A,e2,_⟩|⟨q,_,_,how⟩
 ·exact⟨A,_,e2⟩
 ·obtain⟨A,c,e,_⟩:=qy how;exact⟨A,c,e⟩
def VC (D:Nat->Prop) (B lo b g:Nat) (k:Option Nat) (S:Sto) (lvl:Int) (its:List It) (w:World) (e:Ending) (W:World):Prop:=qV lo b g k w W /\
 match zh S lvl its with
 | .error er=>e=.returned (.tuple #[.int .i64 0,.int .i64 er])
 | .ok (f,S')=>e=.returned (.tuple #[.int .i64 (f:Int),.int .i64 0])/\∃ k' D',Zc w.heap.size k k'/\Kg w.heap.size D D'/\Bch D' B lo b g k' S' W
theorem VC.bad {D:Nat->Prop} {B lo b g:Nat} {k:Option Nat} {S:Sto} {lvl:Int} {its:List It} {w W:World} {er:Int} (h:zh S lvl its=.error er) (hB:qV lo b g k w W):VC D B lo b g k S lvl its w (.returned (.tuple #[.int .i64 0,.int .i64 er])) W:=by refine⟨hB,?_⟩;rw[h]
theorem VC.good {D D':Nat->Prop} {B lo b g:Nat} {k k':Option Nat} {S S':Sto} {lvl:Int} {its:List It} {w W:World} {f:Nat} (h:zh S lvl its=.ok (f,S')) (hB:qV lo b g k w W) (hN:Zc w.heap.size k k') (hD:Kg w.heap.size D D') (hb:Bch D' B lo b g k' S' W):VC D B lo b g k S lvl its w (.returned (.tuple #[.int .i64 (f:Int),.int .i64 0])) W:=by refine⟨hB,?_⟩;rw[h];exact⟨rfl,k',D',hN,hD,hb⟩
theorem vp {R:Ending->World->Prop} {a:Act} {W:World} {u v:Value} (h4:a.tmps[4]?.getD undef=u) (h5:a.tmps[5]?.getD undef=v) (hd:a.defers=[]) (hR:R (.returned (.tuple #[u,v])) W):bodyPost prog Tryz.f142 R .ret a W:=by refine bodyPost_ret (v:=.tuple #[u,v]) ?_ hd hR;simp[results,results142,go_sem,h4,h5]
set_option maxRecDepth 100000 in
theorem Td (D:Nat->Prop) (B lo b g:Nat) (k:Option Nat) (S:Sto) (lvl:Int) (A:Option Addr) (n c:Nat) (its:List It) (lV:∀ x∈its,jq x) (wQ:S.ws.length<=4096) (w:World) (h:Bch D B lo b g k S w) (hx:JV (B3 b g k) w (.slice A n c) its):Calls prog 142 #[.pointer (some ⟨b,0,none⟩),jd lvl A n c] w (VC D B lo b g k S lvl its w):=by
 obtain⟨lJ,hzb,uV,hzg,rE,xX,wG⟩:=h.size;have dF:=h.b3;obtain⟨nN,-,-,hA⟩:=hx.now.at_;subst nN;cases hm:Qc lvl its
 case false =>
  have hE:=zH (show zh S lvl its=.error 8 by unfold zh;rw[hm];rfl);have hW:=zH (fun W (hw:Ext w W)=>qff lvl A its.length c its W (hx.now.ext hw) hm);replace hx:=zH hx;replace h:=zH h;clear hA hm wG dF;go_enter func142,ntmps142;go_wp2_with fail;generalize aA:World.alloc _ _=w1;have x1:Ext w w1:=by rw[<-aA];exact zN _ _
  clear aA;refine(hW.out w1 x1).mono ?_;rintro e w2 ⟨rfl,hB⟩;have x2:Ext w w2:=x1.trans hB;clear hB x1 hW;go_wp2_with fail;exact vp rfl rfl rfl (VC.bad hE.out (qV.of_ext x2 xX))
 case true =>
  have hE:Hid (zh S lvl its=match ZE (qU its) S.now with
   | .error e=>.error e
   | .ok t=>if Zi (qt S t)=[]\/S.ws.length=4096 then .error 9 else .ok (QO (qt S t),KI (qt S t) (QO (qt S t)) (je (zy lvl its)))):=zH (by unfold zh;rw[hm];rfl)
  obtain⟨nz,uU,hl5,hib⟩:=jE hm;have hW:=zH (fun W (hw:Ext w W)=>Gs lvl A its.length c its W (hx.now.ext hw) hm lV);have hX:=zH hx;have hsl:=zH (vz (b:=zy lvl its) (by have:=kR lvl its.length its.length lV hl5;rw[kQ] at this;omega));replace hA:=zH hA;replace hib:=zH hib;replace lV:=zH lV;replace h:=zH h;replace dF:=zH dF;replace wG:=zH wG;replace wQ:=zH wQ;clear hx hm nz uU;go_enter func142,ntmps142;go_wp2_with fail;generalize aA:World.alloc _ _=w1;have x1:Ext w w1:=by rw[<-aA];exact zN _ _
  have p1:w1.heap[w.heap.size]?=some (.cells #[.int .i64 lvl,.slice A its.length c] 49 (0,0)):=by rw[<-aA];exact zI _ _ _ rfl
  clear aA;refine(hW.out w1 x1).mono ?_;rintro e w2 ⟨u,rfl,⟨u,rfl,hu⟩,hB⟩;have hB:Ext w1 w2:=hB;have x2:Ext w w2:=x1.trans hB;have p2:=qb p1 hB;have kp:=qa p2;have z1:w.heap.size<w1.heap.size:=(zG.1 p1).1;obtain⟨A0,c0,rfl,hu1,hu2⟩:=hu;have hu:IsB w1.heap.size 128 (je (zy lvl its)) (.slice A0 128 c0) w2:=⟨A0,c0,rfl,hu1,hu2⟩
  replace hu:=zH hu;clear hB x1 p1 hW hu1 hu2;go_wp2_with fail;go_loopw [21] (fun i wr=>∃ (j:Nat) (t:List UInt8),j<=its.length/\i=.int .i64 (j:Int)/\ZE (qU (its.take j)) S.now=.ok t/\Bch D B lo b g k (qt S t) wr/\qV lo b g k w2 wr) (fun i _=>its.length-(intOf i).toNat)
  case atStart=>exact⟨0,S.now,Nat.zero_le _,rfl,rfl,h.out.ext x2,qV.refl _ _ _ _ _⟩
  case round =>
   obtain⟨j,t,hj,rfl,iT,bg,iZ⟩:=hrel;have oM:=hX.out.trans ((qZ.of_ext (X:=B3 b g k) x2).trans iZ.keepX fun _ _ h=>h) (fun _ _ h=>h);by_cases hlt:j<its.length
   ·obtain⟨bi,off,rfl,hbi⟩:=hA.out zO;obtain⟨A',c',d0,d1,d2,d3,d4,-⟩:=oM.now.item j hlt;have sU:=hib.out its[j] (List.getElem_mem hlt);have yH:its[j].r=0\/(8<=its[j].r/\its[j].r<256):=by unfold itB at sU;simp at sU;exact sU.1
    have az:=zH (fun e h1=>qfx hlt (e:=e) iT h1);have aY:=zH (fun t' h1=>qdU hlt (t'':=t') iT h1);generalize its[j]=x at *;have uB:=zH (IntWalk.wrap64_in ((j:Int)+1) zO);replace iT:=zH iT;replace oM:=zH oM;clear hbi sU;rcases yH with hr0|lm
    ·have hsh2:=zH (aY.out t (by rw[hr0];simp[Jq]));rw[hr0] at d3;have aX:=bg.size.2.2.2.2.2.1;replace bg:=zH bg;replace iZ:=zH iZ;clear hr0 az aY kp;go_wp2_with fail;try rw[uB.out]
     refine⟨⟨j+1,t,zO,rfl,hsh2.out,bg.out.ext (zN _ _),iZ.out.trans (qV.of_ext (zN _ _) aX) (Zc.refl _ _)⟩,?_⟩;simp[intOf];omega
    ·obtain⟨a,hra⟩:∃ a:Nat,x.r=(a:Int):=⟨x.r.toNat,zO⟩
     have ha8:8<=a:=zO;have ha9:a<256:=zO;have hsa:(x.r).toNat=a:=zO;rw[hra] at d3;rw[hsa] at az aY;have wP:Hid (Jq t a=if Qd t a=0 then .error 6 else if Qd t a=255 then .error 70 else .ok (KQ t a 1)):=zH (by unfold Jq;rw[if_neg zO]);have hza:((a:Int) == 0)=false:=by rw[beq_eq_false_iff_ne];omega
     have aX:=bg.size.2.2.2.2.2.1;have HS:=zH (fun W (hW:Ext wr W)=>qex D B lo b g k (qt S t) a ha9 W (bg.ext hW));replace bg:=zH bg;replace iZ:=zH iZ;clear kp lm hsa hra;go_wp2_with fail;generalize gm:World.alloc _ _=wa;have xa:Ext wr wa:=by rw[<-gm];exact zN _ _
     have ra:wa.heap[wr.heap.size]?=some (.cells #[.int .u8 x.k,.int .u32 x.i,.int .u32 x.o,.int .i64 (a:Int),.slice A' x.val.length c'] 68 (0,0)):=by rw[<-gm];exact zI _ _ _ rfl
     have ka:=qa ra;clear gm d0 d1 d2 d3 d4;go_wp2_with fail;refine(HS.out wa xa).mono ?_;rintro e wsh ⟨yx,aP⟩;have iO:=iZ.out.trans ((qV.of_ext xa aX).trans yx (Zc.refl _ _)) (Zc.refl _ _);clear HS yx ka ra xa;rcases aP with ⟨dC,rfl⟩|⟨dC,rfl⟩|⟨dC,dS,rfl,dF⟩
     ·have hEE:=zH (show zh S lvl its=.error 6 by rw[hE.out,az.out 6 (by rw[wP.out,if_pos dC])]);clear hE az aY wP dC;go_wp2_with fail;exact vp rfl rfl rfl (VC.bad hEE.out ((qV.of_ext x2 xX).trans iO (Zc.refl _ _)))
     ·have hEE:=zH (show zh S lvl its=.error 70 by rw[hE.out,az.out 70 (by rw[wP.out,if_neg zO,if_pos dC])]);clear hE az aY wP dC;go_wp2_with fail;exact vp rfl rfl rfl (VC.bad hEE.out ((qV.of_ext x2 xX).trans iO (Zc.refl _ _)))
     ·have IR:∃ (j':Nat) (t':List UInt8),j'<=its.length/\Value.int .i64 ((j:Int)+1)=.int .i64 (j':Int)/\ZE (qU (its.take j')) S.now=.ok t'/\Bch D B lo b g k (qt S t') wsh/\qV lo b g k w2 wsh:=
       ⟨j+1,KQ t a 1,zO,rfl,aY.out _ (by rw[wP.out,if_neg dC,if_neg dS]),dF,iO⟩
      replace IR:=zH IR;clear hE az aY wP dC dS dF iO iZ bg;go_wp2_with fail;try rw[uB.out]
      refine⟨IR.out,?_⟩;simp[intOf];omega
   ·obtain rfl:j=its.length:=zO;rw[List.take_length] at iT;rw[iT] at hE;have hE:Hid (zh S lvl its=if Zi (qt S t)=[]\/S.ws.length=4096 then .error 9 else .ok (QO (qt S t),KI (qt S t) (QO (qt S t)) (je (zy lvl its)))):=hE;have hEw:Hid ((qt S t).ws.length=S.ws.length):=rfl;rw[<-hEw.out] at hE wQ;generalize qt S t=S' at *;have xG:=(qV.of_ext (b:=b) (g:=g) (k:=k) x2 xX).trans iZ (Zc.refl _ _);obtain⟨D',hD'⟩:∃ D':Nat->Prop,D'=fun q=>D q\/(w1.heap.size<=q/\q<w2.heap.size):=⟨_,rfl⟩
    have dF:=dF.out;have hzw:=h.out.size.2.2.2.2.2.1;have hux:=zH (fun C (hC:qZ (YI B D') wr C)=>hu.out.keepX (X:=fun q=>B3 b g k q\/YI B D' q) ((iZ.keepX.mono fun q _ h=>.inl h).trans hC fun _ _ h=>.inr h) (fun q h1 h2=>by
     rintro (hx|hx)
     ·have:=(dF q hx).2;omega
     ·exact hx.2 (by rw[hD'];exact .inr ⟨h1,h2⟩)))
    have hDD:∀ q,D q->D' q:=fun q hq=>by rw[hD'];exact .inl hq
    have hDn:Kg w.heap.size D D':=fun q hq=>by rw[hD'] at hq;exact hq.imp id fun h=>zO
    have hDb:∀ W,Ext wr W->∀ q,D' q->lo<=q/\q<W.heap.size/\¬B3 b g k q:=fun W hW q hq=>by
     have hz:=hW.size;have aV:=iZ.below.size;rw[hD'] at hq;rcases hq with hq|⟨h1,h2⟩
     ·have:=bg.dB q hq;exact⟨this.1,zO,this.2.2⟩
     ·exact⟨zO,zO,fun hx=>by have:=(dF q hx).2;omega⟩
    have hkD:∀ q,k=some q->¬(q<B\/D' q):=fun q hq hx=>hx.elim (fun h1=>h.out.off q h1 (.inr (.inr hq))) fun h1=>(hDb wr (Ext.refl _) q h1).2.2 (.inr (.inr hq));replace hDb:=zH hDb;replace hDn:=zH hDn;replace hDD:=zH hDD;replace hkD:=zH hkD;clear hD' dF hzw;obtain⟨A1,n1,c1,v2,c3,A4,c4,hr,ho,hwb,bG,gu⟩:=bg.ex;obtain⟨hlen,hAE⟩:=bg.lens;obtain⟨nJ,uQ,-,-⟩:=zm ho;obtain⟨b4,o4,rfl,hb4lt,sF⟩:∃ b4 o4,A4=some ⟨b4,o4,none⟩/\b4<B/\∀ a,a<256->wr.cell? ⟨b4,o4+a,none⟩=some (.int .u8 (VF S' a:Int)):=by obtain⟨A',c',e,_,_,oI⟩:=gu;simp only[Value.slice.injEq] at e;obtain⟨rfl,_,rfl⟩:=e;obtain⟨b4,o4,e,h1,h2⟩:=oI.2 zO;exact⟨b4,o4,e,h1,fun a ha=>h2 a _ (by rw[List.getElem?_map,zL zO];simp[VF,zL (show a<S'.last.length by omega)])⟩
    have nJ:Hid (∀ a,a<256->wr.cell? ⟨g,a,none⟩=some (.int .u8 (ZD S' a:Int))):=zH nJ;have sF:=zH sF;have hfr:Hid (∀ k,8<=k->(bits .or .u8 (ZD S' k:Int) (VF S' k:Int) != 0)=!ZJ S' k):=zH fun k h8=>by rw[or_none _ _ (qga S' k) (qdm S' k)];unfold ZJ;rw[decide_eq_true h8,Bool.true_and]
    obtain⟨A2,c2,rfl⟩:=hwb.slice;have h5g:=h.out.size;have hDU:=bg.size.2.2.2.2.2.2;replace hDU:=zH hDU;have h0:=h;clear kp hu oM hX hA hib lV h iZ iT hEw p2 wG h5g;replace bg:=zH bg;replace hwb:=zH hwb;replace ho:=zH ho;replace bG:=zH bG;replace gu:=zH gu;replace xG:=zH xG;replace uQ:=zH uQ;replace hlen:=zH hlen;replace hAE:=zH hAE;have hwx:=zH (Ext.refl wr);generalize hwm:wr=wm at *;clear hwm;go_wp2_with fail;go_loopw [4] (fun i wr=>∃ k:Nat,8<=k/\k<=256/\i=.int .i64 (k:Int)/\(∀ j,8<=j->j<k->ZJ S' j=false)/\Ext wm wr) (fun i _=>256-(intOf i).toNat)
    case atStart=>exact⟨8,zM _,zO,rfl,fun _ _ h=>zO,Ext.refl _⟩
    case round =>
     obtain⟨f,h8,hf,rfl,nM,nY⟩:=hrel;replace nM:=zH nM;have r2:=qb hr nY;by_cases hlt:f<256
     ·have g1:∀ W,qk.r wr W->∀ i,W.cell? ⟨b,i,none⟩=#[.slice A1 n1 c1,.slice A2 S'.ws.length c2,.slice (some ⟨g,0,none⟩) 256 c3,.slice (some ⟨b4,o4,none⟩) 256 c4][i]?:=fun W h=>qa (qb r2 h);have g2:∀ W,qk.r wr W->W.cell? ⟨g,f,none⟩=some (.int .u8 (ZD S' f:Int)):=fun W h=>Ext.cell (nY.trans h) (nJ.out f hlt);have g3:∀ W,qk.r wr W->W.cell? ⟨b4,o4+f,none⟩=some (.int .u8 (VF S' f:Int)):=fun W h=>Ext.cell (nY.trans h) (sF.out f hlt);have hbit:=hfr.out f h8;generalize ZD S' f=nw at *;generalize VF S' f=lw at *;have d1:decide ((f:Int)<256)=true:=decide_eq_true zO;have d2:decide (f<256)=true:=decide_eq_true hlt;have uB:=zH (IntWalk.wrap64_in ((f:Int)+1) zO);have hAI:=zH (fun (h:ZJ S' f=false)=>(fun j hj (hlt:j<f+1)=>(Nat.lt_or_ge j f).elim (fun h1=>nM.out j hj h1) fun h1=>by rw[show j=f by omega];exact h:∀ j,8<=j->j<f+1->ZJ S' j=false));have oh:=zH (fun (h:ZJ S' f=true)=>first_eq hlt h nM.out);generalize ZJ S' f=fb at *;have e0:=zH nY;clear nY;go_upto_region 13 with fail;refine qo zQ ?_;refine qP (w:=wr) qk (qD []) (List.replicate 22 true) 0 zQ zQ zQ zQ zQ zQ zQ ?st (Rel.drew _ _) ?walk
      case st=>exact qj (fun _ h=>by cases h)
      case walk =>
       intro K hK;dsimp only[qp,List.replicate];repeat ((first|(refine qd ?_ zA0 zA0 (fun W hW _=>⟨W,?_,Rel.refl _ W⟩) ?_;rotate_left;(go_simp<;>with_reducible rfl))|(refine qh zA0 ?_));try simp only[Act.put,ql,qf,qc,qg,zA,zB,zC])
       refine qd (.pointer (some ⟨g,f,none⟩)) zA0 zA0 (fun W hW _=>⟨W,?_,Rel.refl _ W⟩) ?_
       ·go_simp;intro mQ;exfalso;omega
       simp only[Act.put,qf,qc,qg,zA,zB,zC];repeat ((first|(refine qd ?_ zA0 zA0 (fun W hW _=>⟨W,?_,Rel.refl _ W⟩) ?_;rotate_left;(go_simp<;>with_reducible rfl))|(refine qh zA0 ?_));try simp only[Act.put,ql,qf,qc,qg,zA,zB,zC])
       refine qd (.pointer (some ⟨b4,o4+f,none⟩)) zA0 zA0 (fun W hW _=>⟨W,?_,Rel.refl _ W⟩) ?_
       ·go_simp;intro mQ;exfalso;omega
       simp only[Act.put,qf,qc,qg,zA,zB,zC];repeat ((first|(refine qd ?_ zA0 zA0 (fun W hW _=>⟨W,?_,Rel.refl _ W⟩) ?_;rotate_left;(go_simp<;>with_reducible rfl))|(refine qh zA0 ?_));try simp only[Act.put,ql,qf,qc,qg,zA,zB,zC])
       refine qu (hK _ _ fun W hW hF=>?_);clear hF hK g1 g2 g3;have hW:Ext wr W:=hW;have xE:Ext wm W:=e0.out.trans hW;clear e0 hW;refine zC3 ?_;cases fb
       ·have IR:∃ k':Nat,8<=k'/\k'<=256/\Value.int .i64 ((f:Int)+1)=.int .i64 (k':Int)/\(∀ j,8<=j->j<k'->ZJ S' j=false)/\Ext wm W:=⟨f+1,zO,zO,rfl,hAI.out rfl,xE⟩
        replace IR:=zH IR;clear xE nM hAI oh;go_wp2;refine Qo ?_;go_wp2_with fail;try rw[uB.out]
        refine⟨IR.out,?_⟩;simp[intOf];omega
       ·have aN:=zH (oh.out rfl).1;have hfs:=zH (oh.out rfl).2;clear nM hAI oh hbit nJ sF hfr d1 d2;have r3:=qb hr xE;have k3:=qa r3;have f3:=qe r3;have e1:((f:Int) == 256)=false:=by rw[beq_eq_false_iff_ne];omega
        by_cases hw4:S'.ws.length=4096
        ·have hEE:=zH (show zh S lvl its=.error 9 by rw[hE.out,if_pos (.inr hw4)]);have nz:((S'.ws.length:Int) == 4096)=true:=by rw[beq_iff_eq];omega
         replace hw4:=zH hw4;replace xE:=zH xE;go_wp2;refine Qo ?_;go_wp2_with fail;exact vp rfl rfl rfl (VC.bad hEE.out (xG.out.trans (qV.of_ext xE.out bg.out.size.2.2.2.2.2.1) (Zc.refl _ _)))
        ·have hEE:=zH (show zh S lvl its=.ok (f,KI S' f (je (zy lvl its))) by rw[hE.out,if_neg (fun h=>h.elim aN.out hw4),hfs.out]);have nz:((S'.ws.length:Int) == 4096)=false:=by rw[beq_eq_false_iff_ne];omega
         replace hw4:=zH hw4;have xw:=zH xE;have zW:=xE.size;have zwm:=bg.out.size.2.2.2.2.2.1;have hbW:=zH ((bg.out.ext xE).mono hDD.out (hDb.out W (hwx.out.trans xE)));clear xE;go_wp2;refine Qo ?_;go_wp2_with (at_builtin;refine qI ?_);have zBlo:=h0.out.blo;refine Qh.go (qck rfl (.tmp 78) (.tmp 82) rfl rfl rfl ((hwb.out.mono hDD.out).ext xw.out zO) zO hkD.out (by have:=wQ.out;omega) (f:Int) A0 128 c0 (je (zy lvl its)) hsl.out.symm (fun C hC=>hux.out C ((qZ.of_ext (hwx.out.trans xw.out)).trans hC fun _ _ h=>h)) ?_);intro v4 w4 k4 hW4 hK4 hN4 pM;obtain⟨A5,c5,rfl⟩:=hW4.slice;rw[List.length_append,List.length_singleton] at hW4;have r4:=(pM b (zG.1 r3).1 fun e=>(hDU.out b e).2.2.1 rfl).trans r3;have kr4:=qa r4;have fr4:=qe r4;have oW:=QM ho.out xw.out;have o4:=QA oW (w':=w4) fun q hq=>by cases hq;exact pM g (Ql oW g rfl).2 fun e=>(hDU.out g e).2.2.2 rfl
         have kg4:=(zm o4).1 f hlt;have fg4:=(zm o4).2.1 f;have P:=zH (Bch.put hbW.out r3 oW (bG.out.below (Below.mono xw.out zO)) (gu.out.below (Below.mono xw.out zO)) hlt hW4 hK4 hN4 pM);have hAll:Hid (qV lo b g k w _):=zH (xG.out.trans ((qV.of_ext xw.out zwm).trans P.out.2 (Zc.refl _ _)) (Zc.refl _ _));replace hN4:=zH hN4;clear o4 oW pM hW4 r3 k3 f3 hK4;go_wp2_with fail;exact vp rfl rfl rfl (VC.good hEE.out hAll.out (hN4.out.mono (by have:=xG.out.below.size;omega)) hDn.out P.out.1)
     ·have d1:decide ((f:Int)<256)=false:=decide_eq_false zO;have e1:((f:Int) == 256)=true:=by rw[beq_iff_eq];omega
      have hf6:f=256:=zO;have hEE:=zH (show zh S lvl its=.error 9 by rw[hE.out,if_pos (.inl (qgK fun j h8 hj=>nM.out j h8 zO))]);have e0:=zH nY;replace hf6:=zH hf6;clear nY nJ sF hfr nM r2;go_upto_region 13 with fail;refine qo zQ ?_;refine qP (w:=wr) qk (qD []) (List.replicate 22 true) 0 zQ zQ zQ zQ zQ zQ zQ ?st (Rel.drew _ _) ?walk
      case st=>exact qj (fun _ h=>by cases h)
      case walk =>
       intro K hK;dsimp only[qp,List.replicate];repeat ((first|(refine qd ?_ zA0 zA0 (fun W hW _=>⟨W,?_,Rel.refl _ W⟩) ?_;rotate_left;(go_simp<;>with_reducible rfl))|(refine qh zA0 ?_));try simp only[Act.put,ql,qf,qc,qg,zA,zB,zC])
       refine qu (hK _ _ fun W hW hF=>?_);clear hF hK;have hW:Ext wr W:=hW;have xE:Ext wm W:=e0.out.trans hW;clear e0 hW;refine zC3 ?_;replace xE:=zH xE;go_wp2;refine Qo ?_;go_wp2_with fail;exact vp rfl rfl rfl (VC.bad hEE.out (xG.out.trans (qV.of_ext xE.out bg.out.size.2.2.2.2.2.1) (Zc.refl _ _)))
theorem Ya (a b:K3):QH a b=true↔(a.1<b.1\/(a.1=b.1/\(a.2.1<b.2.1\/(a.2.1=b.2.1/\a.2.2<b.2.2)))):=by simp[QH,VI]
theorem VJ (a b:K3):QH a b=false↔¬(a.1<b.1\/(a.1=b.1/\(a.2.1<b.2.1\/(a.2.1=b.2.1/\a.2.2<b.2.2)))):=by rw[<-Bool.not_eq_true,Ya]
def leK (a b:K3):Prop:=QH b a=false
theorem Gd (a:K3):leK a a:=by unfold leK;rw[VJ];omega
theorem qbJ {a b c:K3} (h:leK a b) (h':QH b c=true):QH a c=true:=by unfold leK at h;rw[VJ] at h;rw[Ya] at *;omega
theorem Gj {a b c:K3} (h:QH a b=true) (h':leK b c):QH a c=true:=by unfold leK at h';rw[VJ] at h';rw[Ya] at *;omega
theorem VG {a b:K3} (h:QH a b=true):leK a b:=by unfold leK;rw[VJ];rw[Ya] at h;omega
theorem lt_trans {a b c:K3} (h:QH a b=true) (h':QH b c=true):QH a c=true:=Gj h (VG h')
theorem YX (a:K3):QH a a=false:=Gd a
theorem leK_eq {a b:K3} (h:leK a b) (h':leK b a):a=b:=by obtain⟨a1,a2,a3⟩:=a;obtain⟨b1,b2,b3⟩:=b;unfold leK at *;rw[VJ] at *;simp only[Prod.mk.injEq] at *;omega
structure Srt (f l:K3) (ys:List It):Prop where
 ord:ys.Pairwise fun a b=>QH (qC a) (qC b)=true
 low:∀ x∈ys,leK f (qC x)
 high:∀ x∈ys,leK (qC x) l
 le:leK f l
theorem Srt.append {f l f' l':K3} {ys zs:List It} (h:Srt f l ys) (h':Srt f' l' zs) (hl:QH l f'=true):Srt f l' (ys++zs):=
 ⟨List.pairwise_append.2 ⟨h.ord,h'.ord,fun a ha b hb=>qbJ (h.high a ha) (Gj hl (h'.low b hb))⟩,
  fun x hx=>(List.mem_append.1 hx).elim (h.low x) fun hx=>VG (qbJ h.le (Gj hl (h'.low x hx))),
  fun x hx=>(List.mem_append.1 hx).elim (fun hx=>VG (qbJ (h.high x hx) (Gj hl h'.le))) (h'.high x),
  VG (qbJ h.le (Gj hl h'.le))⟩
theorem Srt.one (x:It) {l:K3} (h:leK (qC x) l):Srt (qC x) l [x]:=
 ⟨List.pairwise_singleton _ _,fun y hy=>by rw[List.mem_singleton.1 hy];exact Gd _,fun y hy=>by rw[List.mem_singleton.1 hy];exact h,h⟩
theorem qbF {S:Sto}:∀ (h:Nat) (xs ys:List It),Qr S h (xs++ys)=Qr S h xs++Qr S h ys
 |0,_,_=>rfl
 |h+1,xs,ys=>by rw[ZK,ZK,ZK,List.flatMap_append]
theorem YC (S:Sto) (h:Nat) (H1:∀ y f l,Vt S h y=some (f,l)->Srt f l (Qr S h [y])) (xs:List It):∀ (k:Nat) (_:k<=xs.length) (p:K3×K3),Qg S h (xs.take k)=some (some p)->Srt p.1 p.2 (Qr S h (xs.take k))/\Srt p.1 p.2 (xs.take k):=by
 intro k;induction k with
 |zero=>intro _ p e;rw[List.take_zero] at e;cases e
 |succ k ih =>
  intro hk p e;have hlt:k<xs.length:=hk;rw[vM hlt] at e;unfold KP at e;rw[List.take_succ_eq_append_getElem hlt,qbF];rcases hO:Vt S h xs[k] with _|⟨f,l⟩
  ·rw[hO] at e;rcases hA:Qg S h (xs.take k) with _|a
   ·rw[hA] at e;cases e
   ·rw[hA] at e;cases e
  ·have h1:=H1 _ _ _ hO;rw[hO] at e;rcases hA:Qg S h (xs.take k) with _|_|q
   ·rw[hA] at e;cases e
   ·obtain rfl:k=0:=by
     rcases Nat.eq_zero_or_pos k with h0|h0
     ·exact h0
     ·exact absurd hA (Zw h0 zO)
    rw[hA] at e;simp only at e;split at e
    ·rename_i hf;cases e;subst hf;rw[List.take_zero,Th];exact⟨h1,Srt.one _ h1.le⟩
    ·cases e
   ·obtain⟨i1,i2⟩:=ih zO q hA;rw[hA] at e;simp only at e;split at e
    ·rename_i hf;split at e
     ·rename_i hl;cases e;subst hf;exact⟨i1.append h1 hl,i2.append (Srt.one _ h1.le) hl⟩
     ·cases e
    ·cases e
theorem qgc (S:Sto):∀ (h:Nat) (y:It) (f l:K3),Vt S h y=some (f,l)->Srt f l (Qr S h [y])
 |0,y,f,l,e=>by
  unfold Vt at e;split at e
  ·cases e;exact Srt.one y (Gd _)
  ·cases e
 |h+1,y,f,l,e=>by
  rw[Yf] at e;unfold Vq at e;split at e
  ·rcases hn:qv S y.r.toNat with _|⟨lvl,xs⟩
   ·rw[hn] at e;cases e
   ·rw[hn] at e;simp only at e;split at e
    ·rcases hs:Qg S h xs with _|_|q
     ·rw[hs] at e;cases e
     ·rw[hs] at e;cases e
     ·rw[hs] at e;cases e;have:=(YC S h (qgc S h) xs xs.length (zM _) _ (by rw[List.take_length];exact hs)).1;rw[List.take_length] at this;rw[ZK];simp only[List.flatMap_cons,List.flatMap_nil,List.append_nil,hn];exact this
    ·cases e
  ·cases e
theorem qdW {S:Sto} {h:Nat} {xs:List It} {p:K3×K3} (hs:Qg S h xs=some (some p)):Srt p.1 p.2 (Qr S h xs)/\Srt p.1 p.2 xs:=by
 have:=YC S h (qgc S h) xs xs.length (zM _) p (by rw[List.take_length];exact hs)
 rwa [List.take_length] at this
theorem span_ord {S:Sto} {h:Nat} {xs:List It} (hs:(Qg S h xs).isSome=true):(Qr S h xs).Pairwise (fun a b=>QH (qC a) (qC b)=true)/\xs.Pairwise (fun a b=>QH (qC a) (qC b)=true):=by
 rcases hq:Qg S h xs with _|_|p
 ·rw[hq] at hs;cases hs
 ·rcases Nat.eq_zero_or_pos xs.length with h0|h0
  ·obtain rfl:=List.eq_nil_of_length_eq_zero h0;rw[Th];exact⟨List.Pairwise.nil,List.Pairwise.nil⟩
  ·exact absurd (by rw[List.take_length];exact hq) (Zw (S:=S) (h:=h) h0 (zM xs.length))
 ·exact⟨(qdW hq).1.ord,(qdW hq).2.ord⟩
theorem Gv {xs:List It} (h:xs.Pairwise fun a b=>QH (qC a) (qC b)=true) {i j:Nat} (hij:i<j) (hj:j<xs.length):QH (qC (xs[i]'(by omega))) (qC xs[j])=true:=List.pairwise_iff_getElem.1 h i j _ hj hij
theorem GO {S:Sto} {h:Nat} {xs:List It} (hs:(Qg S h xs).isSome=true) (k:Nat):(Qg S h (xs.take k)).isSome=true:=by
 rcases hq:Qg S h (xs.take k) with _|q
 ·rw[qbf hq] at hs;cases hs
 ·rfl
def qG (xs:List It) (k:K3):Nat:=(xs.filter fun x=>QH (qC x) k).length
theorem JI (xs:List It) (k:K3):qG xs k<=xs.length:=List.length_filter_le _ _
theorem qfi {xs:List It} {k:K3} {i:Nat} (h:i<xs.length):qG (xs.take (i+1)) k=qG (xs.take i) k+(if QH (qC xs[i]) k=true then 1 else 0):=by
 unfold qG;rw[List.take_succ_eq_append_getElem h,List.filter_append,List.length_append];congr 1;by_cases hl:QH (qC xs[i]) k=true
 ·rw[if_pos hl];simp[hl]
 ·rw[if_neg hl];simp[hl]
theorem JH:∀ {xs:List It} {k:K3},xs.Pairwise (fun a b=>QH (qC a) (qC b)=true)->∀ i (h:i<xs.length),(QH (qC xs[i]) k=true↔i<qG xs k)
 | [],_,_,i,h=>absurd h (Nat.not_lt_zero _)
 |x :: r,k,ho,i,h=>by
  rw[List.pairwise_cons] at ho;by_cases hx:QH (qC x) k=true
  ·have e:qG (x :: r) k=qG r k+1:=by simp[qG,hx]
   cases i with
   |zero=>simp[hx,e]
   |succ i=>rw[e];have:=JH (k:=k) ho.2 i (by simpa using h);simpa using this
  ·have ay:∀ y∈r,QH (qC y) k=false:=fun y hy=>by
    rcases hz:QH (qC y) k with _|_
    ·rfl
    ·exact absurd (lt_trans (ho.1 y hy) hz) hx
   have e:qG (x :: r) k=0:=by
    unfold qG;have:r.filter (fun x=>QH (qC x) k)=[]:=by rw[List.filter_eq_nil_iff];intro y hy;simp[ay y hy]
    simp[hx,this]
   rw[e];cases i with
   |zero=>simp[hx]
   |succ i =>
    have hi:i<r.length:=by simpa using h
    simp[ay r[i] (List.getElem_mem hi)]
theorem GE {p:It->Bool} {xs:List It} {i:Nat} (h:i<xs.length) (hp:p xs[i]=true) (hn:∀ j (hj:j<xs.length),i<j->p xs[j]=false):xs.reverse.find? p=some xs[i]:=by
 have e:xs=xs.take i++xs[i] :: xs.drop (i+1):=by rw[<-List.drop_eq_getElem_cons h,List.take_append_drop]
 have e2:xs.reverse=(xs.drop (i+1)).reverse++xs[i] :: (xs.take i).reverse:=by
  conv=>lhs;rw[e]
  simp
 rw[e2,List.find?_append];have e3:(xs.drop (i+1)).reverse.find? p=none:=by rw[List.find?_eq_none];intro y hy;rw[List.mem_reverse] at hy;obtain⟨j,hj,rfl⟩:=List.mem_iff_getElem.1 hy;rw[List.length_drop] at hj;rw[List.getElem_drop];simp[hn (i+1+j) zO zO]
 rw[e3,List.find?_cons_of_pos hp];rfl
theorem qdN {p:It->Bool} {xs:List It} (hn:∀ j (hj:j<xs.length),p xs[j]=false):xs.reverse.find? p=none:=by rw[List.find?_eq_none];intro y hy;rw[List.mem_reverse] at hy;obtain⟨j,hj,rfl⟩:=List.mem_iff_getElem.1 hy;simp[hn j hj]
def Xp (xs:List It) (k:K3):Option It:=xs.reverse.find? fun x=>!QH k (qC x)
def leafS (xs:List It) (k:K3):Option It:=xs.reverse.find? fun x=>decide (qC x=k)
def XF (S:Sto) (k:K3):Nat->List It->Option It
 |0,xs=>leafS xs k
 |h+1,xs=>match Xp xs k with
  |none=>none
  |some y=>match qv S y.r.toNat with
   |none=>none
   |some (_,ys)=>XF S k h ys
theorem qdB (S:Sto) (k:K3) (xs:List It):XF S k 0 xs=leafS xs k:=rfl
theorem one_down {S:Sto} {k:K3} {h:Nat} {xs ys:List It} {y:It} {lvl:Int} (hd:Xp xs k=some y) (hn:qv S y.r.toNat=some (lvl,ys)):XF S k (h+1) xs=XF S k h ys:=by show (match Xp xs k with|none=>none|some y=>match qv S y.r.toNat with|none=>none|some (_,ys)=>XF S k h ys)=_;rw[hd];simp only;rw[hn]
theorem one_none {S:Sto} {k:K3} {h:Nat} {xs:List It} (hd:Xp xs k=none):XF S k (h+1) xs=none:=by show (match Xp xs k with|none=>none|some y=>match qv S y.r.toNat with|none=>none|some (_,ys)=>XF S k h ys)=_;rw[hd]
section
variable {xs:List It} {k:K3} (ho:xs.Pairwise fun a b=>QH (qC a) (qC b)=true)
include ho
theorem leaf_is (hp:qG xs k<xs.length) (he:qC (xs[qG xs k]'hp)=k):leafS xs k=some xs[qG xs k]:=by refine GE hp (by simp[he]) fun j hj hlt=>?_;have:=Gv ho hlt hj;rw[he] at this;rw[decide_eq_false_iff_not];intro h;rw[h,YX] at this;cases this
theorem leaf_no (hn:∀ hp:qG xs k<xs.length,qC (xs[qG xs k]'hp)≠k):leafS xs k=none:=by
 refine qdN fun j hj=>?_;rw[decide_eq_false_iff_not];intro h;have h1:¬j<qG xs k:=fun hl=>by have:=(JH (k:=k) ho j hj).2 hl;rw[h,YX] at this;cases this
 have h2:¬qG xs k<j:=fun hl=>by have h3:=Gv ho hl hj;rw[h] at h3;exact absurd ((JH (k:=k) ho _ zO).1 h3) (Nat.lt_irrefl _)
 have h4:qG xs k=j:=zO;subst h4;exact hn hj h
theorem down_is (hp:qG xs k<xs.length) (he:qC (xs[qG xs k]'hp)=k):Xp xs k=some xs[qG xs k]:=by refine GE hp (by simp[he,YX]) fun j hj hlt=>?_;have:=Gv ho hlt hj;rw[he] at this;simp[this]
theorem down_no (h0:qG xs k=0) (hn:∀ hp:qG xs k<xs.length,qC (xs[qG xs k]'hp)≠k):Xp xs k=none:=by
 refine qdN fun j hj=>?_;have h1:QH (qC xs[j]) k=false:=by
  rcases hz:QH (qC xs[j]) k with _|_
  ·rfl
  ·have:=(JH ho j hj).1 hz;omega
 rcases hz:QH k (qC xs[j]) with _|_
 ·have he:qC xs[j]=k:=leK_eq hz h1;rcases Nat.eq_zero_or_pos j with hj0|hj0
  ·subst hj0;exact absurd (by simpa [h0] using he) (hn zO)
  ·have h3:=Gv ho (i:=0) hj0 hj;rw[he] at h3;have:=(JH ho 0 zO).1 h3;omega
 ·simp
theorem qcY (h0:0<qG xs k) (hn:∀ hp:qG xs k<xs.length,qC (xs[qG xs k]'hp)≠k):Xp xs k=some (xs[qG xs k-1]'(by have:=JI xs k;omega)):=by
 have hle:=JI xs k;refine GE zO ?_ fun j hj hlt=>?_
 ·have:=(JH (k:=k) ho (qG xs k-1) zO).2 zO;have h2:QH k (qC (xs[qG xs k-1]'(by omega)))=false:=VG this;simp[h2]
 ·have h1:QH (qC xs[j]) k=false:=by
   rcases hz:QH (qC xs[j]) k with _|_
   ·rfl
   ·have:=(JH ho j hj).1 hz;omega
  rcases hz:QH k (qC xs[j]) with _|_
  ·have he:qC xs[j]=k:=leK_eq hz h1;by_cases hjp:qG xs k=j
   ·subst hjp;exact absurd he (hn hj)
   ·have h3:=Gv ho (show qG xs k<j by omega) hj;rw[he] at h3;have:=(JH ho _ zO).1 h3;omega
  ·simp
end
def Kj (xs:List It) (k:K3):Bool:=match xs[qG xs k]? with
 |none=>false
 |some x=>decide (qC x=k)
theorem Uv {xs:List It} {k:K3} (h:qG xs k<xs.length):Kj xs k=decide (qC xs[qG xs k]=k):=by unfold Kj;rw[zL h]
theorem Xq {xs:List It} {k:K3} (h:¬qG xs k<xs.length):Kj xs k=false:=by unfold Kj;rw[List.getElem?_eq_none zO]
theorem key_if (x:It) (k i o:Int) (W:World):(if x.k=k then if x.i=i then if x.o=o then Result.ok (Next.value (Value.bool true)) W else Result.ok (Next.value (Value.bool false)) W else Result.ok (Next.value (Value.bool false)) W else Result.ok (Next.value (Value.bool false)) W)=Result.ok (Next.value (Value.bool (decide (qC x=(k,i,o))))) W:=by
 have e:(qC x=(k,i,o))↔(x.k=k/\x.i=i/\x.o=o):=by unfold qC;simp only[Prod.mk.injEq]
 by_cases h1:x.k=k
 ·by_cases h2:x.i=i
  ·by_cases h3:x.o=o
   ·rw[if_pos h1,if_pos h2,if_pos h3,decide_eq_true (e.2 ⟨h1,h2,h3⟩)]
   ·rw[if_pos h1,if_pos h2,if_neg h3,decide_eq_false (fun h=>h3 (e.1 h).2.2)]
  ·rw[if_pos h1,if_neg h2,decide_eq_false (fun h=>h2 (e.1 h).2.1)]
 ·rw[if_neg h1,decide_eq_false (fun h=>h1 (e.1 h).1)]
theorem qbb {R:Ending->World->Prop} {a:Act} {W:World} {u v:Value} (h2:a.tmps[4]?.getD undef=u) (h3:a.tmps[5]?.getD undef=v) (hd:a.defers=[]) (hR:R (.returned (.tuple #[u,v])) W):bodyPost prog Tryz.f143 R .ret a W:=by refine bodyPost_ret (v:=.tuple #[u,v]) ?_ hd hR;simp[results,results143,go_sem,h2,h3]
set_option maxRecDepth 100000 in
theorem GA (lvl:Int) (A:Option Addr) (c:Nat) (xs:List It) (k i o:Int) (w:World) (hl:xs.length<=5) (h:Its w w.heap.size (.slice A xs.length c) xs):Calls prog 143 #[jd lvl A xs.length c,keyV k i o] w (Ret (.tuple #[.int .i64 ((qG xs (k,i,o):Nat):Int),.bool (Kj xs (k,i,o))]) w):=by
 obtain⟨-,dS,bJ,hA⟩:=h.at_;have HI:=zH h;clear h;go_enter func143,ntmps143;go_wp2_with fail;generalize aA:(World.alloc (World.alloc w _) _)=w1;have x1:Ext w w1:=by rw[<-aA];exact(zN _ _).trans (zN _ _)
 have rn:w1.heap[w.heap.size]?=some (.cells #[.int .i64 lvl,.slice A xs.length c] 49 (0,0)):=by rw[<-aA];exact(zK _ _ _ zA3).trans (zI _ _ _ rfl)
 have rk:w1.heap[w.heap.size+1]?=some (.cells #[.int .u8 k,.int .u32 i,.int .u32 o] 66 (0,0)):=by rw[<-aA];exact zI _ _ _ zA3
 clear aA;go_loopw [4,11] (fun p j wr=>∃ n:Nat,n<=xs.length/\j=.int .i64 (n:Int)/\p=.int .i64 ((qG (xs.take n) (k,i,o):Nat):Int)/\Ext w1 wr) (fun _ j _=>xs.length-(intOf j).toNat)
 case atStart=>exact⟨0,Nat.zero_le _,rfl,rfl,Ext.refl _⟩
 case round =>
  obtain⟨n,hn,rfl,rfl,xr⟩:=hrel;have mr:=x1.trans xr;have kn:=qa (qb rn xr);have kk:=qa (qb rk xr);have zk:w.heap.size+1<wr.heap.size:=(zG.1 (qb rk xr)).1;by_cases hlt:n<xs.length
  ·obtain⟨b,off,rfl,hb⟩:=hA zO;obtain⟨A',c',d0,d1,d2,d3,d4,-⟩:=HI.out.item n hlt;replace d0:=Ext.cell mr d0;replace d1:=Ext.cell mr d1;replace d2:=Ext.cell mr d2;replace d3:=Ext.cell mr d3;replace d4:=Ext.cell mr d4;have HP:=zH (qfi (k:=(k,i,o)) hlt);have bT:=JI (xs.take n) (k,i,o);rw[List.length_take] at bT;generalize qG (xs.take n) (k,i,o)=pl at *;generalize xs[n]=x at *;go_wp2_with fail;generalize gm:(World.alloc wr _)=wa;have xa:Ext wr wa:=by rw[<-gm];exact zN _ _
   clear gm;refine(Kx x.k x.i x.o k i o wa).mono ?_;rintro e wl ⟨rfl,hB⟩;have xl:Ext w1 wl:=xr.trans (xa.trans hB);clear kn kk d0 d1 d2 d3 d4;rcases hls:VI x.k x.i x.o k i o with _|_
   ·have hz:qG (xs.take (n+1)) (k,i,o)=pl:=by rw[HP.out,if_neg (show ¬QH (qC x) (k,i,o)=true from (fun h=>by rw[show QH (qC x) (k,i,o)=false from hls] at h;cases h))];rfl
    replace hz:=zH hz;go_wp2_with fail;refine⟨⟨n+1,hlt,rfl,by rw[hz.out],xl⟩,?_⟩;simp[intOf];omega
   ·have hz:qG (xs.take (n+1)) (k,i,o)=pl+1:=by rw[HP.out,if_pos (show QH (qC x) (k,i,o)=true from hls)]
    replace hz:=zH hz;go_wp2_with fail;refine⟨⟨n+1,hlt,rfl,by rw[hz.out];rfl,xl⟩,?_⟩;simp[intOf];omega
  ·obtain rfl:n=xs.length:=zO;rw[List.take_length];have bT:=JI xs (k,i,o);go_wp2_with fail;by_cases hp:qG xs (k,i,o)<xs.length
   ·have hia:=Uv hp;obtain⟨b,off,rfl,hb⟩:=hA zO;obtain⟨A',c',d0,d1,d2,-,-,-⟩:=HI.out.item _ hp;replace d0:=Ext.cell mr d0;replace d1:=Ext.cell mr d1;replace d2:=Ext.cell mr d2;generalize xs[qG xs (k,i,o)]=x at *;generalize qG xs (k,i,o)=pl at *;generalize iM:Kj xs (k,i,o)=ie at *;have gN:∀ W,qk.r wr W->∀ i,W.cell? ⟨w.heap.size,i,none⟩=#[.int .i64 lvl,.slice (some ⟨b,off,none⟩) xs.length c][i]?:=fun W h=>qa (qb (qb rn xr) h);have gK:∀ W,qk.r wr W->∀ j,W.cell? ⟨w.heap.size+1,j,none⟩=#[.int .u8 k,.int .u32 i,.int .u32 o][j]?:=fun W h=>qa (qb (qb rk xr) h);have gD:∀ W,qk.r wr W->W.cell? ⟨b,off+pl*5,none⟩=some (.int .u8 x.k)/\W.cell? ⟨b,off+pl*5+1,none⟩=some (.int .u32 x.i)/\W.cell? ⟨b,off+pl*5+2,none⟩=some (.int .u32 x.o):=fun W h=>⟨Ext.cell h d0,Ext.cell h d1,Ext.cell h d2⟩
    have gD0:=fun W h=>(gD W h).1;have gD1:=fun W h=>(gD W h).2.1;have gD2:=fun W h=>(gD W h).2.2;replace hia:=zH hia;clear d0 d1 d2 gD;refine qo zQ ?_;refine qP (w:=wr) qk (qD []) [true,true,true,true,true,true,true,true,true,true,true,true,true,true,true,true,true] 1 zQ zQ zQ zQ zQ zQ zQ ?st (Rel.drew _ _) ?walk
    case st=>exact qj (fun _ h=>by cases h)
    case walk =>
     intro K hK;dsimp only[qp];repeat ((first|(refine qd ?_ zA0 zA0 (fun W hW _=>⟨W,?_,Rel.refl _ W⟩) ?_;rotate_left;(go_simp<;>with_reducible rfl))|(refine qh zA0 ?_));try simp only[Act.put,ql,qf,qc,qg,zA,zB,zC])
     refine qd (.bool ie) zA0 zA0 (fun W hW _=>⟨W,?_,Rel.refl _ W⟩) ?_
     ·go_simp;rw[hia.out];exact key_if x k i o W
     simp only[Act.put,qf,qc,qg,zA,zB,zC];repeat ((first|(refine qd ?_ zA0 zA0 (fun W hW _=>⟨W,?_,Rel.refl _ W⟩) ?_;rotate_left;(go_simp<;>with_reducible rfl))|(refine qh zA0 ?_));try simp only[Act.put,ql,qf,qc,qg,zA,zB,zC])
     refine qu (hK _ _ fun W hW hF=>?_);clear hF hK gN gK gD0 gD1 gD2;have ax:Ext wr W:=hW;refine zB5 ?_;go_wp2;refine Qo ?_;go_wp2_with fail;exact qbb rfl rfl rfl ⟨rfl,mr.trans ax⟩
   ·have hia:=Xq hp;have gN:∀ W,qk.r wr W->∀ i,W.cell? ⟨w.heap.size,i,none⟩=#[.int .i64 lvl,.slice A xs.length c][i]?:=fun W h=>qa (qb (qb rn xr) h);generalize qG xs (k,i,o)=pl at *;generalize iM:Kj xs (k,i,o)=ie at *;replace hia:=zH hia;refine qo zQ ?_;refine qP (w:=wr) qk (qD []) [true,true,true,true,true,true,true,true,true,true,true,true,true,true,true,true,true] 1 zQ zQ zQ zQ zQ zQ zQ ?st (Rel.drew _ _) ?walk
    case st=>exact qj (fun _ h=>by cases h)
    case walk =>
     intro K hK;dsimp only[qp];repeat ((first|(refine qd ?_ zA0 zA0 (fun W hW _=>⟨W,?_,Rel.refl _ W⟩) ?_;rotate_left;(go_simp<;>with_reducible rfl))|(refine qh zA0 ?_));try simp only[Act.put,ql,qf,qc,qg,zA,zB,zC])
     refine qu (hK _ _ fun W hW hF=>?_);clear hF hK gN;have ax:Ext wr W:=hW;refine zB5 ?_;go_wp2;refine Qo ?_;go_wp2_with fail;exact qbb rfl rfl rfl ⟨by rw[hia.out];rfl,mr.trans ax⟩
theorem Tm (lvl:Int) (A:Option Addr) (c:Nat) (xs:List It) (k i o:Int) (lo:Nat) (w:World) (hl:xs.length<=5) (h:Zt lo w (.slice A xs.length c) xs):Calls prog 143 #[jd lvl A xs.length c,keyV k i o] w (Ret (.tuple #[.int .i64 ((qG xs (k,i,o):Nat):Int),.bool (Kj xs (k,i,o))]) w):=GA lvl A c xs k i o w hl h.its
end Go.Proofs.YtpbniokljofedaaGreat
