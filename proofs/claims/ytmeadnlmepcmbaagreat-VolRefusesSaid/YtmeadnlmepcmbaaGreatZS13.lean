/- Lemmas of the proof. -/
import Derived.Lib.Overlaps
import Derived.Test.YtmeadnlmepcmbaaGreatZS12
set_option linter.all false
set_option maxHeartbeats 8000000
open Go.Proofs.Tryz
open Go.Value renaming slice→E,int→J
open Option renaming some→F,none→M
open Go renaming Value→I,World→Jx
open Go.IntKind renaming i64→O
open Bool renaming true→U,false→Ob
open Go.Obj renaming cells→Z
open Go.Ending renaming returned→Oa
namespace Go.Proofs.YtmeadnlmepcmbaaGreat
open Go.RowKit
variable {P:Program}{D X D' Y:Nat->Prop}{k k':Option Nat}{v v2 v' u:Value}{ws:List (Int×List UInt8)}{w W C w':World}{ops:Array Oper}{rest:List Oper}{Q:Exit->Act->World->Prop}{S S':Sto}{A1 A4 A:OA}{f lo n a lo' B B' h g o dLen dCap sLen sCap m q j:Nat}{l:List UInt8}{lvl er e root next:Int}{R:Ending->World->Prop}{xs zs up:List It}{ips:List (It×Value)}{ty:TypeId}{y:It}{cur:Array Value}{vs:List Value}{fr:Nat×Nat}{ps:List (List It)}{dead:List Int}{vs':List Vol}
theorem qek(w:Jx)(t ty:TypeId)(e:TypeId)(i:TypeInfo)(z:I)(size bytes:Nat)(ht:P.underlying t=F (.slice e))(hi:P.info? e=i)(hz:i.zero=z)(hHJ:i.size=size)(hby:i.bytes=bytes)(hzs:z.cells.size=size)(hsz:0<size)(B:Nat)(A n)(xs:List I)(hr:Rd w B size A n xs)(cs:Array I)(hl:cs.size=size)(h1:∀u∈cs.toList,u.oneCell'=U)(hn:n<1073741824)(hGV:bytes<=65536):∃v' w',(Builtin.append_ #[t,t] ty #[E A n n,E w 1 1]).run P (w.alloc (Z cs e))=.ok v' w'/\w'.ownsRow (↑w+1) e size v' (n+1) (xs++cs.toList)/\Ext w w'/\v'.ownBlock=F (w.heap.size+1):=by
 have hb:(n+1)*bytes<=140737488355328:=Nat.le_trans (Nat.mul_le_mul_left _ hGV) zO;have hm:n+1<=maxLen:=zA7;have hm2:((n+1:Nat):Int)<=9223372036854775807:=zO;rcases A with _|ad
 have hn0:n=0:=by
  rcases Nat.eq_zero_or_pos n with h0|h0
  exact h0;obtain⟨b,off,h,_⟩:=hr.2 h0;cases h
 subst hn0;have hx:xs=[]:=List.eq_nil_of_length_eq_zero (by simpa using hr.1);subst hx;obtain⟨v',w',hCQ,h2,h3,h4,h5⟩:=run_append_own_at (P:=P) (w.alloc (Z cs e)) (w.heap.size+1) t ty e i z size bytes ht hi hz hHJ hby hzs hsz (E M 0 0) 0 [] (World.ownsRow_nil _ _ _ _) ⟨w.heap.size,0,M⟩ 1 1 cs.toList
  (by rw[Array.length_toList];omega) (XY w cs e) h1 hm hb zA3
 refine⟨v',w',hCQ,h2,Ext.trans (zN w (Z cs e)) ((Below.refl _ _).grown h3 (zM _) (λk hk=>by cases hk)),?_⟩;rcases h5 with h5|h5
 exfalso;rcases h2.2 with⟨e0,_⟩|⟨g,cap,cur,e0,_⟩
 have:=(h4.1 e0).2;omega;rw[e0]at h5;cases h5;rw[h5];simp;have hFZ:∀j u,xs[j]?=F u->w.cell? (ad.add j)=F u:=by
  intro j u hu;rcases Nat.eq_zero_or_pos n with h0|h0
  subst h0;have hx:xs=[]:=List.eq_nil_of_length_eq_zero (by simpa using hr.1);subst hx;simp at hu;obtain⟨b,off,h,_⟩:=hr.2 h0;injection h with h;subst h;exact hr.adds h0 j u hu
 subst hHJ;subst hby;have hr':=run_append_grow (P:=P) (w.alloc (Z cs e)) t ty e i z ht hi hz ad n n xs hr.1 (λj u hu=>Ext.cell (zN w _) (hFZ j u hu)) ⟨w.heap.size,0,M⟩ 1 1 cs.toList (by rw[Array.length_toList];omega) (XY w cs e) zO hm2 (growslice_fits zO hb);refine⟨_,_,hr',?_,(zN w _).trans ((Ext.drew _).trans (zN _ _)),by simp[Value.ownBlock]⟩;have hge:=grownCap_ge (w.alloc (Z cs e)) (n+1) n e;have hcm:grownCap (w.alloc (Z cs e)) (n+1) n e<=maxLen:=grownCap_le_maxLen _ (n+1) n e hm;have hlen:(xs++cs.toList).length=(n+1)*i.size:=by rw[List.length_append,hr.1,Array.length_toList,hl,Nat.add_mul,Nat.one_mul]
 refine⟨hlen,.inr ⟨_,_,_,rfl,zA3,heap_alloc_new (w.alloc (Z cs e)).drew _,hge,hcm,?_,?_⟩⟩;simp only[Array.size_append,List.size_toArray,size_zeroCells,hzs,hr.1,hl];rw[<-Nat.succ_mul,<-Nat.add_mul];congr 1;omega;simp only[Array.toList_append,List.append_assoc];rw[<-List.append_assoc,<-hlen];exact List.take_left
theorem WsB.push{B lo b g:Nat}(h:WsB D B lo b g k v ws w)(hlo:lo<=w.heap.size)(hk:∀q,k=F q->¬(q<B\/D q))(hws:ws.length<1073741824)(at_:Int)(A0 c0)(l:List UInt8)(hd:∀C,qY (UJ B D) w C->Bys C C.heap.size (E A0 l.length c0) l)(ty:TypeId):∃v' w' k',(Builtin.append_ #[23,23] ty #[v,E w 1 1]).run prog (w.alloc (Z #[J O at_,E A0 l.length c0] 142))=.ok v' w'/\WsB D B lo b g k' v' (ws++[(at_,l)]) w'/\Ql lo b g k w w'/\Zq w k k'/\(∀q,q<w.heap.size->k≠F q->w'.heap[q]?=w.heap[q]?):=by
 obtain⟨i0,hi,hz0,hz1,hz2⟩:=info_parts Tryz.info_write;obtain⟨ps,rfl,hw,hp⟩:=h;have h1:∀u∈(#[J O at_,E A0 l.length c0]:Array I).toList,u.oneCell'=U:=zA8;rw[List.length_map]at hws hw;have fin:∀(v':I)(w':Jx)(k':Option Nat),w'.ownsRow lo 142 2 v' (ps.length+1) (jN ps++[J O at_,E A0 l.length c0])->(∃q,v'.ownBlock=F q/\k'=F q)->(∀q,q<w.heap.size->k≠F q->w'.heap[q]?=w.heap[q]?)->WsB D B lo b g k' v' (ps.map (·.1)++[(at_,l)]) w':=λv' w' k' ho ⟨q,hq1,hq2⟩ hR=>by
  have hX:qY (UJ B D) w w':=UJ.keep λq hq h1=>hR q hq λe=>hk q e h1;refine⟨ps++[((at_,l),E A0 l.length c0)],zA3,.inr ⟨q,hq2,hq1,by rw[qhj];simpa using ho⟩,λp hpm=>?_⟩;rcases List.mem_append.1 hpm with hpm|hpm
  exact⟨(hp p hpm).1,λC hC=>(hp p hpm).2 C (hX.trans hC λ_ _ h=>h)⟩;obtain rfl:p=((at_,l),E A0 l.length c0):=by simpa using hpm
  exact⟨⟨A0,c0,rfl⟩,λC hC=>hd C (hX.trans hC λ_ _ h=>h)⟩
 rcases hw with⟨rfl,hm,A,rfl,hr⟩|⟨q,rfl,hq,ho⟩
 obtain⟨v',w',hCQ,h2,hx,hb⟩:=qek (P:=prog) w 23 ty 142 i0 (.agg #[J O 0,E M 0 0]) 2 32 underlying23 hi hz0 hz1 hz2 rfl zA1 B A ps.length (jN ps) hr #[J O at_,E A0 l.length c0] rfl h1 hws zA1;have hN:Zq w M (F (w.heap.size+1)):=λq hq=>.inr (by cases hq;omega);have hB:Ql lo b g M w w':=Ql.of_ext hx hlo;exact⟨v',w',F (w.heap.size+1),hCQ,fin v' w' _ (QM h2 zO) ⟨_,hb,rfl⟩ (λq hq _=>Below.block hx q hq),hB,hN,λq hq _=>Below.block hx q hq⟩;obtain⟨v',w',hCQ,h2,h3,_,h5⟩:=run_append_own_at (P:=prog) (w.alloc (Z #[J O at_,E A0 l.length c0] 142)) lo 23 ty 142 i0 (.agg #[J O 0,E M 0 0]) 2 32 underlying23 hi hz0 hz1 hz2 rfl zA1 v ps.length (jN ps) (ho.alloc _) ⟨w.heap.size,0,M⟩ 1 1 [J O at_,E A0 l.length c0]
  rfl (XY w #[J O at_,E A0 l.length c0] 142) h1 zA7 zO zA2
 have hlq:=(zl ho q hq).1;rw[hq]at h3 h5;have hB:Below lo w w':=Below.trans (Below.mono (zN w _) hlo) ((Below.refl lo _).grown h3 zA2 (λk hk=>by cases hk;exact hlq));have hAH:∀q',q'<w.heap.size->(F q≠F q')->w'.heap[q']?=w.heap[q']?:=λq' h1 hne=>(h3.block q' zA2 (λe=>hne e.symm)).trans (zK w _ q' h1);have hK:Ql lo b g (F q) w w':=⟨hB,λq' h1 hn=>hAH q' h1 λe=>hn (.inr (.inr e))⟩
 rcases h5 with h5|h5
 exact⟨v',w',F q,hCQ,fin v' w' _ h2 ⟨q,h5,rfl⟩ hAH,hK,Zq.refl _ _,hAH⟩;have hN:Zq w (F q) (F (w.heap.size+1)):=λq' hq'=>.inr (by cases hq';omega);exact⟨v',w',F (w.heap.size+1),hCQ,fin v' w' _ h2 ⟨_,by rw[h5];simp,rfl⟩ hAH,hK,hN,hAH⟩
theorem qgI{o:Oper}{a:Act}(hgd:o.guard=M)(s x:Operand)(ho:o.op=.call {callee:=.builtin .append,args:=#[s,x],argTypes:=#[23,23]}){B lo b g:Nat}(hs:a.eval s=v)(hx:a.eval x=E w 1 1)(h:WsB D B lo b g k v ws w)(hlo:lo<=w)(hk:∀q,k=F q->¬(q<B\/D q))(hws:ws.length<1073741824)(at_:Int)(A0 n0 c0)(l:List UInt8)(hn0:n0=l.length)(hd:∀C,qY (UJ B D) w C->Bys C C.heap.size (E A0 n0 c0) l)(hK:∀v' w' k',WsB D B lo b g k' v' (ws++[(at_,l)]) w'->Ql lo b g k w w'->Zq w k k'->(∀q,q<w.heap.size->k≠F q->w'.heap[q]?=w.heap[q]?)->wpList prog ops Q rest (a.put o.dst v') w'):wpList prog ops Q (o::rest) a (w.alloc (Z #[at_,E A0 n0 c0] 142)):=by subst hn0;refine wpList_plain hgd λK hKK=>?_;obtain⟨v',w',k',hCQ,h1,h2,h3,h4⟩:=h.push hlo hk hws at_ A0 c0 l hd o.type;unfold Oper.wp execOp;simp only[ho,resolve,invoke,builtin,Sem.run_bind,Sem.run_pure,Result.andThen_ok,List.map_toArray,List.map_cons,List.map_nil,hs,hx,hCQ];exact hKK _ _ (hK v' w' k' h1 h2 h3 h4)
theorem Bch.put{B lo b g:Nat}(h:Bch D B lo b g k S w){n1 c1 c3 c4:Nat}(hr:w.heap[b]?=F (Z #[E A1 n1 c1,v2,E g 256 c3,E A4 256 c4] 223))(ho:w.ownsRow lo 5 1 (E g 256 c3) 256 (S.now.map bv))(hb:Bls w B (E A1 n1 c1) S.bs)(hl:Bys w B (E A4 256 c4) S.last)(hf:f<256)(hw:WsB D B lo b g k' v' (S.ws++[((f:Int),l)]) W)(hB:Ql lo b g k w W)(hN:Zq w k k')(wEG:∀q,q<w.heap.size->k≠F q->W.heap[q]?=w.heap[q]?):Bch D B lo b g k' ⟨S.bs,S.ws++[((f:Int),l)],S.now.set f 1,S.last⟩ ((W.setCell (b,1) v').setCell (g,f) (J .u8 1))/\Ql lo b g k w ((W.setCell (b,1) v').setCell (g,f) (J .u8 1)):=by
 obtain⟨hlb,hzb,hlg,hzg,hgb,hlw,hkq⟩:=h.size;have hbl:=h.blo;have hkd:=h.offk;have hzW:=hB.below.size;have hrb:=(wEG b hzb λe=>(hkq b e).2.2.1 rfl).trans hr;have hkq':∀q,k'=F q->q≠b/\q≠g:=λq hq=>(hN q hq).elim (λe=>(hkq q e).2.2) λe=>zO;have st:∀q,q≠b->q≠g->((W.setCell (b,1) v').setCell (g,f) (J .u8 1)).heap[q]?=W.heap[q]?:=λq h1 h2=>(zJ _ _ _ _ h2).trans (zJ _ _ _ _ h1);have hB1:Below lo W ((W.setCell (b,1) v').setCell (g,f) (J .u8 1)):=Below.setCell (Below.setCell (Below.refl _ _) (p:=⟨b,1,M⟩) hlb _) (p:=⟨g,f,M⟩) hlg _;have hB2:Below lo w ((W.setCell (b,1) v').setCell (g,f) (J .u8 1)):=hB.below.trans hB1;have hX:qY (UJ B D) W ((W.setCell (b,1) v').setCell (g,f) (J .u8 1)):=UJ.keep λq _ hq=>st q (λe=>hkd b (.inl rfl) (e▸hq)) (λe=>hkd g (.inr (.inl rfl)) (e▸hq));have ho1:=Zh ho (w':=W) λq hq=>by cases hq;exact wEG g hzg λe=>(hkq g e).2.2.2 rfl
 have ho2:=qcb (qiq (k:=1) (v:=v') ho1 hgb) (k:=f) hf 1;refine⟨⟨hlb,hbl,λq hq=>⟨(h.dB q hq).1,by have:=(h.dB q hq).2.1;simp;omega,λhx=>?_⟩,A1,n1,c1,v',c3,A4,c4,(zJ _ _ _ _ λe=>hgb e.symm).trans (qj hrb 1 v'),ho2,?_,hb.below (Below.mono hB2 hbl),hl.below (Below.mono hB2 hbl)⟩,⟨hB2,λq hq hn=>(st q (λe=>hn (.inl e)) (λe=>hn (.inr (.inl e)))).trans (hB.rows q hq hn)⟩⟩;exact(h.dB q hq).2.2 (B3.of_new hN q (h.dB q hq).2.1 hx);obtain⟨ps,e,hc,hp⟩:=hw;refine⟨ps,e,?_,λp hpm=>⟨(hp p hpm).1,λC hC=>(hp p hpm).2 C (hX.trans hC λ_ _ h=>h)⟩⟩;rcases hc with⟨e1,hm,A,e2,hrd⟩|⟨q,e1,e2,how⟩
 exact .inl ⟨e1,hm,A,e2,hrd.below (Below.mono hB1 hbl)⟩;exact .inr ⟨q,e1,e2,Zh how λq' hq'=>by rw[e2]at hq';cases hq';exact st q (hkq' q e1).1 (hkq' q e1).2⟩
theorem or_none(a b:Nat)(ha:a<256)(hb:b<256):(bits .or .u8 (a:Int) (b:Int)!=0)=!(decide (a=0)&&decide (b=0)):=by rw[<-qlg a b ha hb];rfl
theorem first_eq(hf:f<256)(h:jD S f=U)(hOK:∀k,8<=k->k<f->jD S k=Ob):ZK S≠[]/\zZ S=f:=by
 have e:∃l,ZK S=f::l:=by
  unfold ZK;have h0:JV S f=[]:=by
   unfold JV;rw[List.filter_eq_nil_iff];intro k hk;have hkf:k<f:=by simpa using hk
   rcases Nat.lt_or_ge k 8 with h8|h8
   unfold jD;simp;omega;rw[hOK k h8 hkf];decide
  have h1:=Th S f;rw[if_pos h,h0]at h1;obtain⟨t,ht⟩:=qcy S (show f+1<=256 by omega);exact⟨t,by rw[<-ht,h1];rfl⟩
 obtain⟨l,e⟩:=e;exact⟨by rw[e];simp,by unfold zZ;rw[e];rfl⟩
theorem qlW(h:∀k,8<=k->k<256->jD S k=Ob):ZK S=[]:=by
 unfold ZK JV;rw[List.filter_eq_nil_iff];intro k hk;have hkf:k<256:=by simpa using hk
 rcases Nat.lt_or_ge k 8 with h8|h8
 unfold jD;simp;omega;rw[h k h8 hkf];decide
theorem IsB.keepX(h:IsB lo n l v w)(hk:qY X w C)(hX:∀q,lo<=q->q<w.heap.size->¬X q):Bys C C v l:=by
 obtain⟨A,c,e,⟨A',c',e',hc,hm,hr⟩,hf⟩:=h;refine⟨A',c',e',hc,hm,hr.1,λhn=>?_⟩;obtain⟨b,off,e2,hb,hAG⟩:=hr.2 hn;subst e2;have hlo:=hf ⟨b,off,M⟩ _ _ e';have hl:0<(l.map bv).length:=by simpa using hn
 exact⟨b,off,rfl,World.block_lt_of_cell? C ⟨b,off+0,M⟩ (hk _ _ (hX b hlo hb) (hAG 0 _ (zL hl))),λj u hu=>hk _ _ (hX b hlo hb) (hAG j u hu)⟩
theorem WsB.slice{B lo b g:Nat}(h:WsB D B lo b g k v ws w):∃A c,v=E A ws.length c:=by
 obtain⟨ps,e,hc,_⟩:=h;rcases hc with⟨_,_,A,e2,_⟩|⟨q,_,_,how⟩
 exact⟨A,_,e2⟩;obtain⟨A,c,e,_⟩:=qM how;exact⟨A,c,e⟩
def XW(D:Nat->Prop)(B lo b g:Nat)(k:Option Nat)(S:Sto)(lvl:Int)(its:List It)(w:Jx)(e:Ending)(W:Jx):Prop:=Ql lo b g k w W /\
 match Zb S lvl its with
 |.error er=>e=Oa (.tuple #[J O 0,er])
 |.ok (f,S')=>e=Oa (.tuple #[(f:Int),J O 0])/\∃k' D',Zq w k k'/\Yj w D D'/\Bch D' B lo b g k' S' W
theorem XW.bad{B lo b g:Nat}{its:List It}(h:Zb S lvl its=.error er)(hB:Ql lo b g k w W):XW D B lo b g k S lvl its w (Oa (.tuple #[J O 0,er])) W:=by refine⟨hB,?_⟩;rw[h]
theorem XW.good{B lo b g:Nat}{its:List It}(h:Zb S lvl its=.ok (f,S'))(hB:Ql lo b g k w W)(hN:Zq w k k')(hD:Yj w D D')(hb:Bch D' B lo b g k' S' W):XW D B lo b g k S lvl its w (Oa (.tuple #[(f:Int),J O 0])) W:=by refine⟨hB,?_⟩;rw[h];exact⟨rfl,k',D',hN,hD,hb⟩
theorem Kc{a:Act}(h4:a.tmps[4]?.getD undef=u)(h5:a.tmps[5]?.getD undef=v)(hd:a.defers=[])(hR:R (Oa (.tuple #[u,v])) W):bodyPost prog Tryz.f165 R .ret a W:=by refine bodyPost_ret (v:=.tuple #[u,v]) ?_ hd hR;simp[results,results165,go_sem,h4,h5]
set_option maxRecDepth 100000 in
theorem qar (D:Nat->Prop) (B lo b g:Nat) (k:Option Nat) (S:Sto) (lvl:Int) (A n c) (its:List It) (hio:∀ x∈its,QW x) (hws:S.ws.length<=4096) (w:World) (h:Bch D B lo b g k S w) (hx:Kk (B3 b g k) w (.slice A n c) its):Calls prog 165 #[.pointer (some ⟨b,0,none⟩),Jc lvl A n c] w (XW D B lo b g k S lvl its w):=by
 obtain⟨hlb,hzb,hlg,hzg,hgb,hlw,hkq⟩:=h.size;have hb3:=h.b3;obtain⟨hnn,-,-,hA⟩:=hx.now.at_;subst hnn;cases hm:Qq lvl its
 case false =>
  have hE:=zH (show Zb S lvl its=.error 8 by unfold Zb;rw[hm];rfl);have hW:=zH (fun W (hw:Ext w W)=>qkd lvl A its.length c its W (hx.now.ext hw) hm);replace hx:=zH hx;replace h:=zH h;clear hA hm hkq hb3;go_enter func165,ntmps165;go_wp2_with fail;generalize hw1:World.alloc _ _=w1;have x1:Ext w w1:=by rw[<-hw1];exact zN _ _
  clear hw1;refine(hW.out w1 x1).mono ?_;rintro e w2 ⟨rfl,hB⟩;have x2:Ext w w2:=x1.trans hB;clear hB x1 hW;go_wp2_with fail;exact Kc rfl rfl rfl (XW.bad hE.out (Ql.of_ext x2 hlw))
 case true =>
  have hE:Hid (Zb S lvl its=match ZI (qB its) S.now with
   | .error e=>.error e
   | .ok t=>if ZK (qu S t)=[]\/S.ws.length=4096 then .error 9 else .ok (zZ (qu S t),vI (qu S t) (zZ (qu S t)) (Zm (QF lvl its)))):=zH (by unfold Zb;rw[hm];rfl)
  obtain⟨hl1,hl2,hl5,hib⟩:=Jh hm;have hW:=zH (fun W (hw:Ext w W)=>qdd lvl A its.length c its W (hx.now.ext hw) hm hio);have hX:=zH hx;have hsl:=zH (Vx (b:=QF lvl its) (by have:=XE lvl its.length its.length hio hl5;rw[XC] at this;omega));replace hA:=zH hA;replace hib:=zH hib;replace hio:=zH hio;replace h:=zH h;replace hb3:=zH hb3;replace hkq:=zH hkq;replace hws:=zH hws;clear hx hm hl1 hl2;go_enter func165,ntmps165;go_wp2_with fail;generalize hw1:World.alloc _ _=w1;have x1:Ext w w1:=by rw[<-hw1];exact zN _ _
  have p1:w1.heap[w.heap.size]?=some (.cells #[.int .i64 lvl,.slice A its.length c] 113 (0,0)):=by rw[<-hw1];exact zI _ _ _ rfl
  clear hw1;refine(hW.out w1 x1).mono ?_;rintro e w2 ⟨u,rfl,⟨u,rfl,hu⟩,hB⟩;have hB:Ext w1 w2:=hB;have x2:Ext w w2:=x1.trans hB;have p2:=qb p1 hB;have kp:=qa p2;have z1:w.heap.size<w1.heap.size:=(zG.1 p1).1;obtain⟨A0,c0,rfl,hu1,hu2⟩:=hu;have hu:IsB w1.heap.size 128 (Zm (QF lvl its)) (.slice A0 128 c0) w2:=⟨A0,c0,rfl,hu1,hu2⟩
  replace hu:=zH hu;clear hB x1 p1 hW hu1 hu2;go_wp2_with fail;go_loopw [21] (fun i wr=>∃ (j:Nat) (t:List UInt8),j<=its.length/\i=.int .i64 (j:Int)/\ZI (qB (its.take j)) S.now=.ok t/\Bch D B lo b g k (qu S t) wr/\Ql lo b g k w2 wr) (fun i _=>its.length-(intOf i).toNat)
  case atStart=>exact⟨0,S.now,Nat.zero_le _,rfl,rfl,h.out.ext x2,Ql.refl _ _ _ _ _⟩
  case round =>
   obtain⟨j,t,hj,rfl,hsh,hbc,hbk⟩:=hrel;have hxr:=hX.out.trans ((qY.of_ext (X:=B3 b g k) x2).trans hbk.keepX fun _ _ h=>h) (fun _ _ h=>h);by_cases hlt:j<its.length
   ·obtain⟨bi,off,rfl,hbi⟩:=hA.out zO;obtain⟨A',c',d0,d1,d2,d3,d4,-⟩:=hxr.now.item j hlt;have hr8:=hib.out its[j] (List.getElem_mem hlt);have hrr:its[j].r=0\/(8<=its[j].r/\its[j].r<256):=by unfold itB at hr8;simp at hr8;exact hr8.1
    have hEN:=zH (fun e h1=>qkp hlt (e:=e) hsh h1);have hCP:=zH (fun t' h1=>qiJ hlt (t'':=t') hsh h1);generalize its[j]=x at *;have hwk:=zH (IntWalk.wrap64_in ((j:Int)+1) zO);replace hsh:=zH hsh;replace hxr:=zH hxr;clear hbi hr8;rcases hrr with hr0|hr1
    ·have wCV:=zH (hCP.out t (by rw[hr0];simp[Zz]));rw[hr0] at d3;have hz0:=hbc.size.2.2.2.2.2.1;replace hbc:=zH hbc;replace hbk:=zH hbk;clear hr0 hEN hCP kp;go_wp2_with fail;try rw[hwk.out]
     refine⟨⟨j+1,t,zO,rfl,wCV.out,hbc.out.ext (zN _ _),hbk.out.trans (Ql.of_ext (zN _ _) hz0) (Zq.refl _ _)⟩,?_⟩;simp[intOf];omega
    ·obtain⟨a,hra⟩:∃ a:Nat,x.r=(a:Int):=⟨x.r.toNat,zO⟩
     have ha8:8<=a:=zO;have ha9:a<256:=zO;have hsa:(x.r).toNat=a:=zO;rw[hra] at d3;rw[hsa] at hEN hCP;have hs1:Hid (Zz t a=if qO t a=0 then .error 6 else if qO t a=255 then .error 70 else .ok (QB t a 1)):=zH (by unfold Zz;rw[if_neg zO]);have hza:((a:Int) == 0)=false:=by rw[beq_eq_false_iff_ne];omega
     have hz0:=hbc.size.2.2.2.2.2.1;have HS:=zH (fun W (hW:Ext wr W)=>qcp D B lo b g k (qu S t) a ha9 W (hbc.ext hW));replace hbc:=zH hbc;replace hbk:=zH hbk;clear kp hr1 hsa hra;go_wp2_with fail;generalize hwa:World.alloc _ _=wa;have xa:Ext wr wa:=by rw[<-hwa];exact zN _ _
     have ra:wa.heap[wr.heap.size]?=some (.cells #[.int .u8 x.k,.int .u32 x.i,.int .u32 x.o,.int .i64 (a:Int),.slice A' x.val.length c'] 51 (0,0)):=by rw[<-hwa];exact zI _ _ _ rfl
     have ka:=qa ra;clear hwa d0 d1 d2 d3 d4;go_wp2_with fail;refine(HS.out wa xa).mono ?_;rintro e wsh ⟨hk2,hAP⟩;have hk3:=hbk.out.trans ((Ql.of_ext xa hz0).trans hk2 (Zq.refl _ _)) (Zq.refl _ _);clear HS hk2 ka ra xa;rcases hAP with ⟨hc0,rfl⟩|⟨hc0,rfl⟩|⟨hc0,hc1,rfl,hb3⟩
     ·have hEE:=zH (show Zb S lvl its=.error 6 by rw[hE.out,hEN.out 6 (by rw[hs1.out,if_pos hc0])]);clear hE hEN hCP hs1 hc0;go_wp2_with fail;exact Kc rfl rfl rfl (XW.bad hEE.out ((Ql.of_ext x2 hlw).trans hk3 (Zq.refl _ _)))
     ·have hEE:=zH (show Zb S lvl its=.error 70 by rw[hE.out,hEN.out 70 (by rw[hs1.out,if_neg zO,if_pos hc0])]);clear hE hEN hCP hs1 hc0;go_wp2_with fail;exact Kc rfl rfl rfl (XW.bad hEE.out ((Ql.of_ext x2 hlw).trans hk3 (Zq.refl _ _)))
     ·have IR:∃ (j':Nat) (t':List UInt8),j'<=its.length/\Value.int .i64 ((j:Int)+1)=.int .i64 (j':Int)/\ZI (qB (its.take j')) S.now=.ok t'/\Bch D B lo b g k (qu S t') wsh/\Ql lo b g k w2 wsh:=
       ⟨j+1,QB t a 1,zO,rfl,hCP.out _ (by rw[hs1.out,if_neg hc0,if_neg hc1]),hb3,hk3⟩
      replace IR:=zH IR;clear hE hEN hCP hs1 hc0 hc1 hb3 hk3 hbk hbc;go_wp2_with fail;try rw[hwk.out]
      refine⟨IR.out,?_⟩;simp[intOf];omega
   ·obtain rfl:j=its.length:=zO;rw[List.take_length] at hsh;rw[hsh] at hE;have hE:Hid (Zb S lvl its=if ZK (qu S t)=[]\/S.ws.length=4096 then .error 9 else .ok (zZ (qu S t),vI (qu S t) (zZ (qu S t)) (Zm (QF lvl its)))):=hE;have hEw:Hid ((qu S t).ws.length=S.ws.length):=rfl;rw[<-hEw.out] at hE hws;generalize qu S t=S' at *;have hVW:=(Ql.of_ext (b:=b) (g:=g) (k:=k) x2 hlw).trans hbk (Zq.refl _ _);obtain⟨D',hD'⟩:∃ D':Nat->Prop,D'=fun q=>D q\/(w1.heap.size<=q/\q<w2.heap.size):=⟨_,rfl⟩
    have hb3:=hb3.out;have hzw:=h.out.size.2.2.2.2.2.1;have hux:=zH (fun C (hC:qY (UJ B D') wr C)=>hu.out.keepX (X:=fun q=>B3 b g k q\/UJ B D' q) ((hbk.keepX.mono fun q _ h=>.inl h).trans hC fun _ _ h=>.inr h) (fun q h1 h2=>by
     rintro (hx|hx)
     ·have:=(hb3 q hx).2;omega
     ·exact hx.2 (by rw[hD'];exact .inr ⟨h1,h2⟩)))
    have hDD:∀ q,D q->D' q:=fun q hq=>by rw[hD'];exact .inl hq
    have hDn:Yj w.heap.size D D':=fun q hq=>by rw[hD'] at hq;exact hq.imp id fun h=>zO
    have hDb:∀ W,Ext wr W->∀ q,D' q->lo<=q/\q<W.heap.size/\¬B3 b g k q:=fun W hW q hq=>by
     have hz:=hW.size;have hz2:=hbk.below.size;rw[hD'] at hq;rcases hq with hq|⟨h1,h2⟩
     ·have:=hbc.dB q hq;exact⟨this.1,zO,this.2.2⟩
     ·exact⟨zO,zO,fun hx=>by have:=(hb3 q hx).2;omega⟩
    have hkD:∀ q,k=some q->¬(q<B\/D' q):=fun q hq hx=>hx.elim (fun h1=>h.out.off q h1 (.inr (.inr hq))) fun h1=>(hDb wr (Ext.refl _) q h1).2.2 (.inr (.inr hq));replace hDb:=zH hDb;replace hDn:=zH hDn;replace hDD:=zH hDD;replace hkD:=zH hkD;clear hD' hb3 hzw;obtain⟨A1,n1,c1,v2,c3,A4,c4,hr,ho,hwb,hb1,hb4⟩:=hbc.ex;obtain⟨hlen,hYT⟩:=hbc.lens;obtain⟨hkn,hfn,-,-⟩:=ZT ho;obtain⟨b4,o4,rfl,hb4lt,hk4⟩:∃ b4 o4,A4=some ⟨b4,o4,none⟩/\b4<B/\∀ a,a<256->wr.cell? ⟨b4,o4+a,none⟩=some (.int .u8 (YB S' a:Int)):=by obtain⟨A',c',e,_,_,hrd⟩:=hb4;simp only[Value.slice.injEq] at e;obtain⟨rfl,_,rfl⟩:=e;obtain⟨b4,o4,e,h1,h2⟩:=hrd.2 zO;exact⟨b4,o4,e,h1,fun a ha=>h2 a _ (by rw[List.getElem?_map,zL zO];simp[YB,zL (show a<S'.last.length by omega)])⟩
    have hkn:Hid (∀ a,a<256->wr.cell? ⟨g,a,none⟩=some (.int .u8 (Zy S' a:Int))):=zH hkn;have hk4:=zH hk4;have hfr:Hid (∀ k,8<=k->(bits .or .u8 (Zy S' k:Int) (YB S' k:Int) != 0)=!jD S' k):=zH fun k h8=>by rw[or_none _ _ (qld S' k) (qhQ S' k)];unfold jD;rw[decide_eq_true h8,Bool.true_and]
    obtain⟨A2,c2,rfl⟩:=hwb.slice;have h5g:=h.out.size;have wBZ:=hbc.size.2.2.2.2.2.2;replace wBZ:=zH wBZ;have h0:=h;clear kp hu hxr hX hA hib hio h hbk hsh hEw p2 hkq h5g;replace hbc:=zH hbc;replace hwb:=zH hwb;replace ho:=zH ho;replace hb1:=zH hb1;replace hb4:=zH hb4;replace hVW:=zH hVW;replace hfn:=zH hfn;replace hlen:=zH hlen;replace hYT:=zH hYT;have hwx:=zH (Ext.refl wr);generalize hwm:wr=wm at *;clear hwm;go_wp2_with fail;go_loopw [4] (fun i wr=>∃ k:Nat,8<=k/\k<=256/\i=.int .i64 (k:Int)/\(∀ j,8<=j->j<k->jD S' j=false)/\Ext wm wr) (fun i _=>256-(intOf i).toNat)
    case atStart=>exact⟨8,zM _,zO,rfl,fun _ _ h=>zO,Ext.refl _⟩
    case round =>
     obtain⟨f,h8,hf,rfl,hOK,hE2⟩:=hrel;replace hOK:=zH hOK;have r2:=qb hr hE2;by_cases hlt:f<256
     ·have g1:∀ W,qp.r wr W->∀ i,W.cell? ⟨b,i,none⟩=#[.slice A1 n1 c1,.slice A2 S'.ws.length c2,.slice (some ⟨g,0,none⟩) 256 c3,.slice (some ⟨b4,o4,none⟩) 256 c4][i]?:=fun W h=>qa (qb r2 h);have g2:∀ W,qp.r wr W->W.cell? ⟨g,f,none⟩=some (.int .u8 (Zy S' f:Int)):=fun W h=>Ext.cell (hE2.trans h) (hkn.out f hlt);have g3:∀ W,qp.r wr W->W.cell? ⟨b4,o4+f,none⟩=some (.int .u8 (YB S' f:Int)):=fun W h=>Ext.cell (hE2.trans h) (hk4.out f hlt);have hbit:=hfr.out f h8;generalize Zy S' f=nw at *;generalize YB S' f=lw at *;have d1:decide ((f:Int)<256)=true:=decide_eq_true zO;have d2:decide (f<256)=true:=decide_eq_true hlt;have hwk:=zH (IntWalk.wrap64_in ((f:Int)+1) zO);have hYY:=zH (fun (h:jD S' f=false)=>(fun j hj (hlt:j<f+1)=>(Nat.lt_or_ge j f).elim (fun h1=>hOK.out j hj h1) fun h1=>by rw[show j=f by omega];exact h:∀ j,8<=j->j<f+1->jD S' j=false));have hPU:=zH (fun (h:jD S' f=true)=>first_eq hlt h hOK.out);generalize jD S' f=fb at *;have e0:=zH hE2;clear hE2;go_upto_region 13 with fail;refine qw zQ ?_;refine Qb (w:=wr) qp (qV []) (List.replicate 22 true) 0 zQ zQ zQ zQ zQ zQ zQ ?st (Rel.drew _ _) ?walk
      case st=>exact ql (fun _ h=>by cases h)
      case walk =>
       intro K hK;dsimp only[qA,List.replicate];refine zB6 ?_;refine qe (.pointer (some ⟨g,f,none⟩)) zA0 zA0 (fun W hW _=>⟨W,?_,Rel.refl _ W⟩) ?_
       ·go_simp;intro hge;exfalso;omega
       refine zB6 ?_;refine qe (.pointer (some ⟨b4,o4+f,none⟩)) zA0 zA0 (fun W hW _=>⟨W,?_,Rel.refl _ W⟩) ?_
       ·go_simp;intro hge;exfalso;omega
       refine zB6 ?_;refine qF (hK _ _ fun W hW hF=>?_);clear hF hK g1 g2 g3;have hW:Ext wr W:=hW;have xE:Ext wm W:=e0.out.trans hW;clear e0 hW;refine zB8 ?_;cases fb
       ·have IR:∃ k':Nat,8<=k'/\k'<=256/\Value.int .i64 ((f:Int)+1)=.int .i64 (k':Int)/\(∀ j,8<=j->j<k'->jD S' j=false)/\Ext wm W:=⟨f+1,zO,zO,rfl,hYY.out rfl,xE⟩
        replace IR:=zH IR;clear xE hOK hYY hPU;go_wp2;refine Qt ?_;go_wp2_with fail;try rw[hwk.out]
        refine⟨IR.out,?_⟩;simp[intOf];omega
       ·have hne:=zH (hPU.out rfl).1;have hfs:=zH (hPU.out rfl).2;clear hOK hYY hPU hbit hkn hk4 hfr d1 d2;have r3:=qb hr xE;have k3:=qa r3;have f3:=qd r3;have e1:((f:Int) == 256)=false:=by rw[beq_eq_false_iff_ne];omega
        by_cases hw4:S'.ws.length=4096
        ·have hEE:=zH (show Zb S lvl its=.error 9 by rw[hE.out,if_pos (.inr hw4)]);have hl1:((S'.ws.length:Int) == 4096)=true:=by rw[beq_iff_eq];omega
         replace hw4:=zH hw4;replace xE:=zH xE;go_wp2;refine Qt ?_;go_wp2_with fail;exact Kc rfl rfl rfl (XW.bad hEE.out (hVW.out.trans (Ql.of_ext xE.out hbc.out.size.2.2.2.2.2.1) (Zq.refl _ _)))
        ·have hEE:=zH (show Zb S lvl its=.ok (f,vI S' f (Zm (QF lvl its))) by rw[hE.out,if_neg (fun h=>h.elim hne.out hw4),hfs.out]);have hl1:((S'.ws.length:Int) == 4096)=false:=by rw[beq_eq_false_iff_ne];omega
         replace hw4:=zH hw4;have xw:=zH xE;have zW:=xE.size;have zwm:=hbc.out.size.2.2.2.2.2.1;have hbW:=zH ((hbc.out.ext xE).mono hDD.out (hDb.out W (hwx.out.trans xE)));clear xE;go_wp2;refine Qt ?_;go_wp2_with (at_builtin;refine Qa ?_);have zBlo:=h0.out.blo;refine Qs.go (qgI rfl (.tmp 78) (.tmp 82) rfl rfl rfl ((hwb.out.mono hDD.out).ext xw.out zO) zO hkD.out (by have:=hws.out;omega) (f:Int) A0 128 c0 (Zm (QF lvl its)) hsl.out.symm (fun C hC=>hux.out C ((qY.of_ext (hwx.out.trans xw.out)).trans hC fun _ _ h=>h)) ?_);intro v4 w4 k4 hW4 hK4 hN4 hQM;obtain⟨A5,c5,rfl⟩:=hW4.slice;rw[List.length_append,List.length_singleton] at hW4;have r4:=(hQM b (zG.1 r3).1 fun e=>(wBZ.out b e).2.2.1 rfl).trans r3;have kr4:=qa r4;have fr4:=qd r4;have oW:=zX ho.out xw.out;have o4:=Zh oW (w':=w4) fun q hq=>by cases hq;exact hQM g (zl oW g rfl).2 fun e=>(wBZ.out g e).2.2.2 rfl
         have kg4:=(ZT o4).1 f hlt;have fg4:=(ZT o4).2.1 f;have P:=zH (Bch.put hbW.out r3 oW (hb1.out.below (Below.mono xw.out zO)) (hb4.out.below (Below.mono xw.out zO)) hlt hW4 hK4 hN4 hQM);have hAll:Hid (Ql lo b g k w _):=zH (hVW.out.trans ((Ql.of_ext xw.out zwm).trans P.out.2 (Zq.refl _ _)) (Zq.refl _ _));replace hN4:=zH hN4;clear o4 oW hQM hW4 r3 k3 f3 hK4;go_wp2_with fail;exact Kc rfl rfl rfl (XW.good hEE.out hAll.out (hN4.out.mono (by have:=hVW.out.below.size;omega)) hDn.out P.out.1)
     ·have d1:decide ((f:Int)<256)=false:=decide_eq_false zO;have e1:((f:Int) == 256)=true:=by rw[beq_iff_eq];omega
      have hf6:f=256:=zO;have hEE:=zH (show Zb S lvl its=.error 9 by rw[hE.out,if_pos (.inl (qlW fun j h8 hj=>hOK.out j h8 zO))]);have e0:=zH hE2;replace hf6:=zH hf6;clear hE2 hkn hk4 hfr hOK r2;go_upto_region 13 with fail;refine qw zQ ?_;refine Qb (w:=wr) qp (qV []) (List.replicate 22 true) 0 zQ zQ zQ zQ zQ zQ zQ ?st (Rel.drew _ _) ?walk
      case st=>exact ql (fun _ h=>by cases h)
      case walk =>intro K hK;dsimp only[qA,List.replicate];refine zB6 ?_;refine qF (hK _ _ fun W hW hF=>?_);clear hF hK;have hW:Ext wr W:=hW;have xE:Ext wm W:=e0.out.trans hW;clear e0 hW;refine zB8 ?_;replace xE:=zH xE;go_wp2;refine Qt ?_;go_wp2_with fail;exact Kc rfl rfl rfl (XW.bad hEE.out (hVW.out.trans (Ql.of_ext xE.out hbc.out.size.2.2.2.2.2.1) (Zq.refl _ _)))
def looseL:List Nat->List UInt8->Except Int (List UInt8)
 |[],t=>.ok t
 |a::r,t=>if a=0 then looseL r t else if qO t a=0 then .error 6 else looseL r (Vi t a)
theorem ZQ(r:List Nat)(t:List UInt8):looseL (0::r) t=looseL r t:=by simp[looseL]
theorem js(ha:a≠0){t:List UInt8}(h:qO t a=0)(r:List Nat):looseL (a::r) t=.error 6:=by simp only[looseL];rw[if_neg ha,if_pos h]
theorem ZP(ha:a≠0){t:List UInt8}(h:qO t a≠0)(r:List Nat):looseL (a::r) t=looseL r (Vi t a):=by simp only[looseL];rw[if_neg ha,if_neg h]
theorem vc:∀(l r:List Nat)(t:List UInt8),looseL (l++r) t=match looseL l t with
  |.error e=>.error e
  |.ok t'=>looseL r t'
 |[],_,_=>rfl
 |a::l,r,t=>by by_cases ha:a=0;subst ha;rw[List.cons_append,ZQ,ZQ];exact vc l r t;by_cases h:qO t a=0;rw[List.cons_append,js ha h,js ha h];rw[List.cons_append,ZP ha h,ZP ha h];exact vc l r _
def leaveF(S:Sto):Nat->Int->List UInt8->Nat->Option (List UInt8)
 |0,_,_,_=>M
 |h+1,lvl,t,a=>if qO t a=0 then M else if 1<qO t a then F (Vi t a) else
  match qm S a with
  |none=>M
  |some (l,xs)=>if 0<=lvl/\l≠lvl then M else if 0<l then(qB xs).foldl (λacc r=>acc.bind λt=>leaveF S h (l-1) t r) (F (t.set a 0)) else
   match looseL (qB xs) (t.set a 0) with
   |.error _=>M
   |.ok t'=>F t'
theorem vE(S:Sto)(h:Nat)(lvl:Int)(t:List UInt8)(a:Nat):leaveF S (h+1) lvl t a=if qO t a=0 then M else if 1<qO t a then F (Vi t a) else
  match qm S a with
  |none=>M
  |some (l,xs)=>if 0<=lvl/\l≠lvl then M else if 0<l then(qB xs).foldl (λacc r=>acc.bind λt=>leaveF S h (l-1) t r) (F (t.set a 0)) else
   match looseL (qB xs) (t.set a 0) with
   |.error _=>M
   |.ok t'=>F t':=rfl
theorem qbn(S:Sto):∀(h:Nat)(lvl:Int)(t:List UInt8)(a:Nat),0<=lvl->lvl<h->leaveF S (h+1) lvl t a=leaveF S h lvl t a
 |0,lvl,t,a,h0,h1=>zO
 |h+1,lvl,t,a,h0,h1=>by
  rw[vE,vE];split;rfl;split;rfl;split;rfl;rename_i l xs _;split;rfl;rename_i hl;have e:l=lvl:=by by_cases h:l=lvl;exact h;exact absurd ⟨h0,h⟩ hl
  subst e;split;rename_i hp;congr 1;funext acc r;congr 1;funext t;exact qbn S h (l-1) t r zO zO;rfl
theorem Zc(h:qm S a=F (lvl,xs)):0<=lvl/\lvl<6/\xs.length<=5:=by have:=Jh (qJ h).1;exact⟨this.1,this.2.1,this.2.2.1⟩
def QD(S:Sto)(lvl:Int)(t:List UInt8)(a:Nat):Option (List UInt8):=leaveF S 7 lvl t a
def JW(S:Sto):List (Nat×Int)->List UInt8->Option (List UInt8)
 |[],t=>F t
 |x::r,t=>match QD S x.2 t x.1 with
  |none=>M
  |some t'=>JW S r t'
theorem Uw(S:Sto):∀(l r:List (Nat×Int))(t:List UInt8),JW S (l++r) t=match JW S l t with
  |none=>M
  |some t'=>JW S r t'
 |[],_,_=>rfl
 |x::l,r,t=>by
  simp only[List.cons_append,JW];cases QD S x.2 t x.1 with
  |none=>rfl
  |some t'=>exact Uw S l r t'
theorem qbo(S:Sto)(l:Int):∀(rs:List Nat)(o:Option (List UInt8)),rs.foldl (λacc r=>acc.bind λt=>QD S l t r) o=o.bind λt=>JW S (rs.map λr=>(r,l)) t
 |[],o=>by cases o<;>rfl
 |a::r,o=>by
  rw[List.foldl_cons,qbo S l r];cases o with
  |none=>rfl
  |some t=>
   simp only[Option.bind_some,List.map_cons,JW];cases QD S l t a<;>rfl
theorem VP(S:Sto)(lvl:Int)(t:List UInt8)(a:Nat):QD S lvl t a=if qO t a=0 then M else if 1<qO t a then F (Vi t a) else
  match qm S a with
  |none=>M
  |some (l,xs)=>if 0<=lvl/\l≠lvl then M else if 0<l then JW S ((qB xs).map λr=>(r,l-1)) (t.set a 0) else
   match looseL (qB xs) (t.set a 0) with
   |.error _=>M
   |.ok t'=>F t':=by
 obtain⟨h,hh⟩:∃h,h=6:=⟨_,rfl⟩
 have L1:∀lvl t a,QD S lvl t a=leaveF S (h+1) lvl t a:=λlvl t a=>by rw[hh];rfl
 rw[L1,vE];have key:∀l xs,qm S a=F (l,xs)->0<l->(qB xs).foldl (λacc r=>acc.bind λt=>leaveF S h (l-1) t r) (F (t.set a 0))=JW S ((qB xs).map λr=>(r,l-1)) (t.set a 0):=λl xs hn h0=>by
  obtain⟨_,h6,_⟩:=Zc hn;have e1:=qbo S (l-1) (qB xs) (F (t.set a 0));rw[Option.bind_some]at e1;rw[<-e1];have e:(λ(acc:Option (List UInt8))(r:Nat)=>acc.bind λt=>leaveF S h (l-1) t r)=λacc r=>acc.bind λt=>QD S (l-1) t r:=by
   funext acc r;cases acc with
   |none=>rfl
   |some t=>
    simp only[Option.bind_some];rw[L1,qbn S h (l-1) t r zO zO]
  rw[e]
 split;rfl;split;rfl;split;rfl;rename_i l xs hn;split;rfl;split;rename_i h0;exact key l xs hn h0;rfl
def jG(k:K3)(r:Nat):It:=⟨k.1,k.2.1,k.2.2,(r:Int),[]⟩
def jF(p:List It):K3:=match p with
 |[]=>(0,0,0)
 |x::_=>qz x
def makeL(lvl:Int):List (List It)->Sto->Except Int (List It×Sto)
 |[],S=>.ok ([],S)
 |p::r,S=>match Zb S lvl p with
  |.error e=>.error e
  |.ok (f,S')=>match makeL lvl r S' with
   |.error e=>.error e
   |.ok (up,S'')=>.ok (jG (jF p) f::up,S'')
def Zi(l:List It):List (List It):=if 5<l.length then [l.take 3,l.drop 3]else [l]
def Qr(S:Sto)(lvl:Int)(l held:List It):Except Int (List It×Sto):=match makeL lvl (Zi l) S with
 |.error e=>.error e
 |.ok (up,S')=>match looseL (qB held) S'.now with
  |.error e=>.error e
  |.ok t=>.ok (up,qu S' t)
def Ze(xs:List It)(p many:Nat)(up:List It):List It:=xs.take p++up++xs.drop (p+many)
def jA(S:Sto)(k:K3):Nat->List It->List (Nat×List It×Nat)
 |0,xs=>[(0,xs,qD xs k)]
 |h+1,xs=>(h+1,xs,if kD xs k=U then qD xs k else qD xs k-1)::match xs[if kD xs k=U then qD xs k else qD xs k-1]? with
  |none=>[]
  |some y=>match qm S y.r.toNat with
   |none=>[]
   |some (_,ys)=>jA S k h ys
def JS(k:K3)(lvl:Nat)(xs:List It):Nat:=if lvl=0/\kD xs k=Ob then 0 else 1
def jE(k:K3):List (Nat×List It×Nat)->List It->Sto->Except Int (List It×Sto)
 |[],up,S=>.ok (up,S)
 |(lvl,xs,p)::r,up,S=>match Qr S (lvl:Int) (Ze xs p (JS k lvl xs) up) up with
  |.error e=>.error e
  |.ok (up',S')=>jE k r up' S'
def qbD(k:K3)(l:List (Nat×List It×Nat)):Bool:=decide (l.length=6)&&(l.all λs=>!decide (s.2.1.length<5))&&!(match l.getLast? with
 |none=>Ob
 |some s=>kD s.2.1 k)
def putX(S:Sto)(L:Nat)(xs:List It)(root:Nat)(x:It):Except Int (Nat×Sto):=
 if qbD (qz x) (jA S (qz x) L xs)=U then .error 120 else
 match jE (qz x) (jA S (qz x) L xs).reverse [x] S with
 |.error e=>.error e
 |.ok (up,S1)=>match(if 1<up.length then Qr S1 ((jA S (qz x) L xs).length:Int) up up else .ok (up,S1)) with
  |.error e=>.error e
  |.ok (up',S2)=>match QD S2 (-1) S2.now root with
   |none=>.error 8
   |some t=>.ok (match up' with
    |[]=>0
    |y::_=>y.r.toNat,qu S2 t)
theorem Tryz.info_step:(Tryz.prog.info? 187).map (λi=>(i.zero,i.size,i.bytes))=F (F (.agg #[J O 0,E M 0 0,J O 0]),3,40):=zQ
theorem Tryz.info_dstep:(Tryz.prog.info? 163).map (λi=>(i.zero,i.size,i.bytes))=F (F (.agg #[J O 0,E M 0 0,J O 0]),3,40):=zQ
abbrev Stp:=Nat×List It×Nat
def ZW:List (Stp×I)->List I
 |[]=>[]
 |p::r=>J O (p.1.1:Int)::p.2::J O (p.1.2.2:Int)::ZW r
theorem qhk(ps:List (Stp×I))(p:Stp×I):ZW (ps++[p])=ZW ps++[J O (p.1.1:Int),p.2,J O (p.1.2.2:Int)]:=by
 induction ps with
 |nil=>rfl
 |cons a r ih=>simp[ZW,ih]
theorem Kd(ps:List (Stp×I)):∀i (h:i<ps.length),(ZW ps)[i*3]?=F (J O (ps[i].1.1:Int))/\(ZW ps)[i*3+1]?=F ps[i].2/\(ZW ps)[i*3+2]?=F (J O (ps[i].1.2.2:Int)):=by
 induction ps with
 |nil=>intro i h;simp at h
 |cons p r ih=>
  intro i h;rcases i with _|i
  simp[ZW];have:=ih i (by simpa using h);rw[show(i+1)*3=i*3+1+1+1 by omega];simpa [ZW,Nat.add_assoc]using this
def OwnX(v:I)(q:Nat):Prop:=v.ownBlock=q
def OwnL(lo:Nat)(v:I)(q:Nat):Prop:=v.ownBlock=q\/q<lo
def jK(X:Nat->Prop)(w:Jx)(v:I)(ips:List (It×I)):Prop:=(∃A c,v=E A ips.length c/\ips.length<=c/\c<=maxLen/\∀C,qY X w C->Rd C C.heap.size 5 A ips.length (qG ips)) /\
 ∀p∈ips,(∃A c,p.2=E A p.1.val.length c)/\∀C,qY X w C->Bys C C.heap.size p.2 p.1.val
theorem jK.its(h:jK X w v ips)(hC:qY X w C):Its C C v (ips.map (·.1)):=by obtain⟨⟨A,c,e,h1,h2,hr⟩,hp⟩:=h;exact⟨ips,rfl,⟨A,c,by rw[List.length_map];exact e,by rw[List.length_map];exact h1,h2,by rw[List.length_map];exact hr C hC⟩,λp hpm=>⟨(hp p hpm).1,(hp p hpm).2 C hC⟩⟩
theorem jK.trans(h:jK X w v ips)(hk:qY X w W)(hY:∀k,k<w.heap.size->Y k->X k):jK Y W v ips:=by obtain⟨⟨A,c,e,h1,h2,hr⟩,hp⟩:=h;exact⟨⟨A,c,e,h1,h2,λC hC=>hr C (hk.trans hC hY)⟩,λp hpm=>⟨(hp p hpm).1,λC hC=>(hp p hpm).2 C (hk.trans hC hY)⟩⟩
def jL(ty:TypeId)(lo:Nat)(w:Jx)(v:I)(l:List Stp):Prop:=∃ps:List (Stp×I),ps.map (·.1)=l/\w.ownsRow lo ty 3 v l.length (ZW ps)/\∀p∈ps,∃ips,ips.map (·.1)=p.1.2.1/\jK (OwnL lo v) w p.2 ips
def XX(lo:Nat)(w:Jx)(v:I)(l:List Stp):Prop:=∃ps:List (Stp×I),ps.map (·.1)=l/\(∃A c,v=E A l.length c/\l.length<=c/\c<=maxLen/\∀C,qY (λq=>q<lo) w C->Rd C C.heap.size 3 A l.length (ZW ps))/\∀p∈ps,∃ips,ips.map (·.1)=p.1.2.1/\jK (λq=>q<lo) w p.2 ips
def Yl(B:Nat)(w:Jx)(v:I)(l:List Stp):Prop:=∃ps:List (Stp×I),ps.map (·.1)=l/\(∃A c,v=E A l.length c/\l.length<=c/\c<=maxLen/\Rd w B 3 A l.length (ZW ps))/\∀p∈ps,(∃A c,p.2=E A p.1.2.1.length c)/\Its w B p.2 p.1.2.1
theorem Rd.keepFrom{B size n lo:Nat}{xs:List I}(h:Rd w B size A n xs)(hs:0<size)(hf:∀a,A=F a->lo<=a.block)(hk:qY X w C)(hX:∀q,lo<=q->¬X q):Rd C C size A n xs:=⟨h.1,λhn=>by
 obtain⟨b,off,e,hb,hc⟩:=h.2 hn;have h1:lo<=b:=hf _ e;have hl:0<xs.length:=by rw[h.1];exact Nat.mul_pos hn hs
 exact⟨b,off,e,World.block_lt_of_cell? C ⟨b,off+0,M⟩ (hk _ _ (hX b h1) (hc 0 _ (zL hl))),λj u hu=>hk _ _ (hX b h1) (hc j u hu)⟩⟩
theorem jL.toE{l:List Stp}(h:jL ty lo w v l):XX lo w v l:=by obtain⟨ps,e,ho,hp⟩:=h;obtain⟨A,c,rfl,h1,h2⟩:=qM ho;have hf:=ZV.of_own ho;refine⟨ps,e,⟨A,c,rfl,h1,h2,λC hC=>(Rd.of_own ho).keepFrom zO (λa ha=>hf a _ _ (by rw[ha])) hC λq hq hx=>zO⟩,λp hpm=>?_⟩;obtain⟨ips,e1,hi⟩:=hp p hpm;exact⟨ips,e1,hi.trans (qY.refl _ _) λk _ hk=>.inr hk⟩
theorem XX.mono{l:List Stp}(h:XX lo w v l)(hl:lo'<=lo):XX lo' w v l:=by obtain⟨ps,e,⟨A,c,rfl,h1,h2,hr⟩,hp⟩:=h;have hm:∀{C},qY (λq=>q<lo') w C->qY (λq=>q<lo) w C:=λhC=>hC.mono λq _ hq=>zO;refine⟨ps,e,⟨A,c,rfl,h1,h2,λC hC=>hr C (hm hC)⟩,λp hpm=>?_⟩;obtain⟨ips,e1,⟨A',c',f1,f2,f3,f4⟩,f5⟩:=hp p hpm;exact⟨ips,e1,⟨A',c',f1,f2,f3,λC hC=>f4 C (hm hC)⟩,λq hq=>⟨(f5 q hq).1,λC hC=>(f5 q hq).2 C (hm hC)⟩⟩
theorem jK.shape(h:jK X w v ips)(e:ips.map (·.1)=xs):∃A c,v=E A xs.length c:=by obtain⟨⟨A,c,e1,_⟩,_⟩:=h;exact⟨A,c,by rw[e1,<-e,List.length_map]⟩
theorem XX.read{l:List Stp}(h:XX lo w v l)(hC:qY (λq=>q<lo) w C):Yl C C v l:=by obtain⟨ps,e,⟨A,c,rfl,h1,h2,hr⟩,hp⟩:=h;refine⟨ps,e,⟨A,c,rfl,h1,h2,hr C hC⟩,λp hpm=>?_⟩;obtain⟨ips,e1,hi⟩:=hp p hpm;exact⟨hi.shape e1,by rw[<-e1];exact hi.its hC⟩
theorem Yl.below{l:List Stp}(h:Yl B w v l)(hb:Below B w w'):Yl B w' v l:=by obtain⟨ps,e,⟨A,c,e1,e2,e3,hr⟩,hp⟩:=h;exact⟨ps,e,⟨A,c,e1,e2,e3,hr.below hb⟩,λp h=>⟨(hp p h).1,(hp p h).2.below hb⟩⟩
theorem Yl.more{l:List Stp}(h:Yl B w v l)(hb:B<=B'):Yl B' w v l:=by obtain⟨ps,e,⟨A,c,e1,e2,e3,hr⟩,hp⟩:=h;exact⟨ps,e,⟨A,c,e1,e2,e3,hr.more hb⟩,λp h=>⟨(hp p h).1,(hp p h).2.more hb⟩⟩
theorem jL.nil(ty:TypeId)(lo:Nat)(w:Jx):jL ty lo w (E M 0 0) []:=⟨[],rfl,World.ownsRow_nil _ _ _ _,λp h=>by cases h⟩
theorem jL.ext{l:List Stp}(h:jL ty lo w v l)(hx:Ext w w'):jL ty lo w' v l:=by obtain⟨ps,e,ho,hp⟩:=h;refine⟨ps,e,Zh ho λq hq=>Below.block hx q (zl ho q hq).2,λp hpm=>?_⟩;obtain⟨ips,e1,hi⟩:=hp p hpm;exact⟨ips,e1,hi.trans (qY.of_ext hx) λ_ _ h=>h⟩
theorem jL.push{l:List Stp}{s:Stp}{ps:List (Stp×I)}(hlo:lo<=w.heap.size)(e:ps.map (·.1)=l)(hp:∀p∈ps,∃ips,ips.map (·.1)=p.1.2.1/\jK (OwnL lo v) w p.2 ips)(hu:ips.map (·.1)=s.2.1)(hs:jK (OwnL lo v) w u ips)(ho:w'.ownsRow lo ty 3 v' (l.length+1) (ZW ps++[J O (s.1:Int),u,J O (s.2.2:Int)]))(hg:w.grownBy w' v.ownBlock)(hat:v'.ownBlock=v.ownBlock\/∃g,v'.ownBlock=F g/\w.heap.size<=g):jL ty lo w' v' (l++[s]):=by
 have hk:qY (OwnL lo v) w w':=qY.of_heap λq hq hX=>hg.block q hq λe=>hX (.inl e.symm);have hy:∀q,q<w.heap.size->OwnL lo v' q->OwnL lo v q:=λq hq hx=>by
  rcases hx with hx|hx
  rcases hat with e1|⟨g,e1,e2⟩
  left;rw[<-e1];exact hx;rw[e1]at hx;cases hx;omega;exact .inr hx
 refine⟨ps++[(s,u)],by simp[e],?_,λp hpm=>?_⟩;rw[List.length_append,List.length_singleton,qhk];exact ho;rcases List.mem_append.1 hpm with hpm|hpm
 obtain⟨ips',e1,hi⟩:=hp p hpm;exact⟨ips',e1,hi.trans hk hy⟩;obtain rfl:p=(s,u):=by simpa using hpm
 exact⟨ips,hu,hs.trans hk hy⟩
theorem jr.toE(h:jr lo w v xs)(hX:∀q,lo<=q->¬X q):∃ips,ips.map (·.1)=xs/\jK X w v ips:=by
 obtain⟨ps,e1,⟨A,c,e2,e3,e4,hr⟩,hp,hf,hg⟩:=h;have el:xs.length=ps.length:=by rw[<-e1,List.length_map]
 rw[el]at e2 e3 hr;refine⟨ps,e1,⟨A,c,e2,e3,e4,λC hC=>hr.keepFrom zO (λa ha=>hf a _ _ (by rw[e2,ha])) hC hX⟩,λp hpm=>⟨(hp p hpm).1,λC hC=>?_⟩⟩;obtain⟨A',c',f1,f2,f3,f4⟩:=(hp p hpm).2;exact⟨A',c',f1,f2,f3,f4.keepFrom zO (λa ha=>hg p hpm a _ _ (by rw[f1,ha])) hC hX⟩
theorem jr.keepX(h:jr lo w v xs)(hk:qY X w C)(hX:∀q,lo<=q->¬X q):Its C C v xs:=by obtain⟨ips,rfl,hi⟩:=h.toE hX;exact hi.its hk
def QE(xs:List It)(k:K3):Nat:=if kD xs k=U then qD xs k else qD xs k-1
theorem kj(S:Sto)(k:K3)(xs:List It):jA S k 0 xs=[(0,xs,qD xs k)]:=rfl
theorem JL{k:K3}{l:Int}(hy:xs[QE xs k]?=y)(hn:qm S y.r.toNat=F (l,zs)):jA S k (h+1) xs=(h+1,xs,QE xs k)::jA S k h zs:=by
 show(h+1,xs,QE xs k)::(match xs[QE xs k]? with
  |none=>[]
  |some y=>match qm S y.r.toNat with
   |none=>[]
   |some (_,ys)=>jA S k h ys)=_
 rw[hy];simp only;rw[hn]
theorem za{k:K3}(h:0<xs.length):QE xs k<xs.length:=by unfold QE;have:=JI xs k;split;rename_i hi;by_cases hl:qD xs k<xs.length;exact hl;rw[kO hl]at hi;cases hi;omega
theorem vW(hm:Qq (h:Int) xs=U)(h1:0<h):0<xs.length:=by
 rcases Nat.eq_zero_or_pos xs.length with h0|h0
 exfalso;have hhd:Jy (h:Int) xs.length=U:=by unfold Qq at hm;simp only[Bool.and_eq_true]at hm;exact hm.1
 unfold Jy at hhd;simp only[decide_eq_true_eq]at hhd;exact hhd.2.2.2 zO h0;exact h0
theorem VH{k:K3}:∀(h:Nat){xs:List It},Qq (h:Int) xs=U->(qC S h xs).isSome=U->(jA S k h xs).length=h+1
 |0,xs,_,_=>rfl
 |h+1,xs,hm,hs=>by have hx:=vW hm zO;obtain⟨b,e1,-,-,zs,e4,e5⟩:=QH (QC hs _ (List.getElem_mem (za (k:=k) hx)));rw[JL (zL (za hx)) (by rw[e1,Int.toNat_natCast];exact e4),List.length_cons,VH h (qJ e4).1 e5]
theorem qeh(w:Jx)(dT sT ty elem:TypeId)(g o dLen dCap:Nat)(a:Addr)(sLen sCap:Nat)(cur:Array I)(t:TypeId)(cs:List I)(k:Nat)(hu:P.underlying dT=F (.slice elem))(hs:(P.info? elem).map (·.size)=k)(hg:w.heap[g]?=F (Z cur t))(hn:cs.length=Nat.min sLen dLen*k)(hGP:∀j v,cs[j]?=F v->w.cell? (a.add j)=F v)(hJZ:o+cs.length<=cur.size)(h1:∀v∈cs,v.oneCell'=U):(Builtin.copy_ #[dT,sT] ty #[E (g,o) dLen dCap,E (F a) sLen sCap]).run P w =
   .ok (J O (Nat.min sLen dLen:Nat)) (w.setRow g (cur.toList.take o++cs++cur.toList.drop (o+cs.length)).toArray):=by
 have hl:=run_loadCells_list (P:=P) w a cs hGP;have hst:=run_storeCells_at P g o t cs 0 cur w hg (by simpa using hJZ) h1;cases hq:P.info? elem with
 |none=>simp[hq]at hs
 |some i=>
  have hi:i.size=k:=by simpa [hq]using hs
  have hn':min sLen dLen*k=cs.length:=hn.symm;simp[Builtin.copy_,run_underlying hu,Builtin.lenOf,Builtin.firstCells,sizeOf,typeInfo,hq,hi,hn',hl,hst];rfl
theorem take_mid{A V R:List I}{a b:Nat}(h:A.length+V.length=a+b):(A++V++R).take (a+b)=A++V:=by rw[<-h,<-List.length_append];exact List.take_left
structure RowI(g cap n:Nat)(xs:List I)(w:Jx):Prop where
 ex:∃cur:Array I,w.heap[g]?=F (Z cur 51)/\cur.size=cap*5/\cur.toList.take (n*5)=xs
theorem RowI.own{cap:Nat}{xs:List I}(h:RowI g cap n xs w)(hl:xs.length=n*5)(hlo:lo<=g)(hn:n<=cap)(hc:cap<=maxLen):w.ownsRow lo 51 5 (E g n cap) n xs:=by obtain⟨cur,h1,h2,h3⟩:=h.ex;exact⟨hl,.inr ⟨g,cap,cur,rfl,hlo,h1,hn,hc,h2,h3⟩⟩
def spl(cur:Array I)(o:Nat)(cs:List I):Array I:=(cur.toList.take (o*5)++cs++cur.toList.drop (o*5+cs.length)).toArray
theorem QK{k:Nat}{cs:List I}(hl:cs.length=k*5)(h:(o+k)*5<=cur.size):(spl cur o cs).size=cur.size:=by unfold spl;simp only[List.size_toArray,List.length_append,List.length_take,List.length_drop,Array.length_toList];omega
theorem Jb{k:Nat}{cs:List I}{dT sT:TypeId}{a:Addr}(hg:W.heap[g]?=F (Z cur 51))(hl:cs.length=k*5)(h:(o+k)*5<=cur.size)(hu:P.underlying dT=F (.slice 51))(hs:(P.info? 51).map (·.size)=F 5)(hk:Nat.min sLen dLen=k)(hGP:∀j v,cs[j]?=F v->W.cell? (a.add j)=F v)(h1:∀v∈cs,v.oneCell'=U):(Builtin.copy_ #[dT,sT] ty #[E (g,o*5) dLen dCap,E (F a) sLen sCap]).run P W=.ok (J O (k:Nat)) (W.setRow g (spl cur o cs)):=by have:=qeh (P:=P) W dT sT ty 51 g (o*5) dLen dCap a sLen sCap cur 51 cs 5 hu hs hg (by rw[hk,hl]) hGP zO h1;rw[hk]at this;exact this
theorem Yi{k:Nat}{A cs:List I}(hA:cur.toList.take (o*5)=A)(hl:cs.length=k*5)(h:(o+k)*5<=cur.size):(spl cur o cs).toList.take ((o+k)*5)=A++cs:=by
 unfold spl;rw[List.toList_toArray,hA,Nat.add_mul];have:A.length=o*5:=by rw[<-hA,List.length_take,Array.length_toList];omega
 exact take_mid zO
theorem qmL{i:Nat}{xs:List I}(hc:cur.toList.take (n*5)=xs)(hx:xs.length=n*5)(hv:vs.length=m*5)(hi:i<=n)(h:(n+m)*5<=cur.size):(spl (spl cur (i+m) (xs.drop (i*5))) i vs).toList.take ((n+m)*5)=xs.take (i*5)++vs++xs.drop (i*5):=by
 have hd:(xs.drop (i*5)).length=(n-i)*5:=by rw[List.length_drop];omega
 have e1:(spl cur (i+m) (xs.drop (i*5))).toList=cur.toList.take ((i+m)*5)++xs.drop (i*5)++cur.toList.drop ((i+m)*5+(xs.drop (i*5)).length):=by unfold spl;rw[List.toList_toArray]
 have hl1:(cur.toList.take ((i+m)*5)).length=(i+m)*5:=by rw[List.length_take,Array.length_toList];omega
 have e2:(spl cur (i+m) (xs.drop (i*5))).toList.take (i*5)=xs.take (i*5):=by rw[e1,List.append_assoc,List.take_append_of_le_length zO,List.take_take,Nat.min_eq_left zO,<-hc,List.take_take,Nat.min_eq_left zO]
 have e3:(spl cur (i+m) (xs.drop (i*5))).toList.drop (i*5+vs.length)=xs.drop (i*5)++cur.toList.drop ((i+m)*5+(xs.drop (i*5)).length):=by rw[e1,List.append_assoc];have:i*5+vs.length=(cur.toList.take ((i+m)*5)).length:=zO;rw[this];exact List.drop_left
 generalize hY:spl cur (i+m) (xs.drop (i*5))=Y at*;unfold spl;rw[List.toList_toArray,e2,e3,<-List.append_assoc];have ht:(xs.take (i*5)).length=i*5:=by rw[List.length_take];omega
 have:(n+m)*5=(xs.take (i*5)++vs++xs.drop (i*5)).length:=by simp only[List.length_append];omega
 rw[this];exact List.take_left
set_option maxRecDepth 100000 in
theorem Yb(A n c)(us:List I)(hn:n<1073741824)(h1:∀u∈us,u.oneCell'=U)(w:Jx)(hr:Rd w w 5 A n us):Calls prog 115 #[E A n c] w (zv (λu w'=>w'.ownsRow w 51 5 u n us) w):=by
 obtain⟨i0,hi,hz0,hz1,hz2⟩:=info_parts Tryz.info_item;have qn:∀(w:Jx)(a:OA)(n c n' c':Nat),(binOp .eql 55 (E a n c) (E M n' c')).run prog w=.ok (.bool a.isNone) w:=λw a n c n' c'=>Lib.run_eql_slice_nil w _ _ a n c n' c' underlying55;rcases A with _|⟨b,off,p⟩
 ·have h0:n=0:=by
   rcases Nat.eq_zero_or_pos n with h|h
   exact h;obtain⟨b,off,h,_⟩:=hr.2 h;cases h
  subst h0;obtain rfl:us=[]:=List.eq_nil_of_length_eq_zero (by simpa using hr.1);go_enter func115,ntmps115;go_wp2;go_ret;exact⟨_,rfl,World.ownsRow_nil _ _ _ _,Below.refl _ _⟩
 go_enter func115,ntmps115;go_wp2_with (at_builtin;refine Qa ?_);refine Qs.go (QG _ rfl (.tmp 5) (.tmp 6) 55 rfl w.heap.size 51 i0 _ 5 48 underlying55 hi hz0 hz1 hz2 rfl zA1 _ 0 [] rfl ?_ w.heap.size _ n c us zE ?_ h1 zO zA1 zA3 ?_);exact World.ownsRow_lit w #[] 0 (zM _) (by simp[maxLen]) rfl;exact hr.keep λp hp=>World.cell?_alloc_lt w _ p hp;intro v' w' hAD _ hb _;simp only[Nat.zero_add,List.nil_append]at hAD;go_wp2;go_ret;exact⟨_,rfl,hAD,Below.trans ((Below.refl _ _).alloc (zM _) _) hb⟩
def Vh(lo:Nat)(s:I)(k:Nat)(ys:List I)(w:Jx)(e:Ending)(W:Jx):Prop:=∃v',e=Oa v'/\W.ownsRow lo 51 5 v' k ys/\Below lo w W/\∀q,q<w.heap.size->s.ownBlock≠F q->W.heap[q]?=w.heap[q]?
theorem Qv(h:Below lo w W)(hlo:lo<=w)(hg:lo<=g)(cur:Array I):Below lo w (W.setRow g cur):=
 h.grown (qae W g cur) (by have:=h.size;omega) (λk hk=>by cases hk;exact hg)
theorem Gn{c:Nat}{e:TypeId}(h:w.ownsRow lo e 5 (E g m c) m vs):∀j u,vs[j]?=F u->w.cell? ((g:Addr).add j)=F u:=λj u hu=>by
 rcases h.2 with⟨h0,_⟩|⟨g',cap,cur,hv,hb,hg,hnc,_,hsz,htk⟩
 cases h0;cases hv;rw[Addr.add_lit,Nat.zero_add,qa hg,<-Array.getElem?_toList];rw[<-htk,List.getElem?_take]at hu;split at hu;exact hu;cases hu
theorem VK(ps:List (It×I)):∀k,qG (ps.drop k)=(qG ps).drop (k*5):=by
 induction ps with
 |nil=>intro k;simp[qG]
 |cons p r ih=>
  intro k;rcases k with _|k
  simp[qG];rw[List.drop_succ_cons,show(k+1)*5=k*5+1+1+1+1+1 by omega];simp only[qG,List.drop_succ_cons,ih k]
theorem Kq(ps:List (It×I))(h:∀p∈ps,p.2.oneCell'=U):∀u∈qG ps,u.oneCell'=U:=by
 induction ps with
 |nil=>intro u hu;cases hu
 |cons p r ih=>
  intro u hu;simp only[qG,List.mem_cons]at hu;rcases hu with rfl|rfl|rfl|rfl|rfl|hu
  rfl;rfl;rfl;rfl;exact h p List.mem_cons_self;exact ih (λq hq=>h q (List.mem_cons_of_mem _ hq)) u hu
theorem Its.take{B b off n c:Nat}(h:Its w B (E (b,off) n c) xs){k:Nat}(hk:k<=xs.length):Its w B (E (b,off) k c) (xs.take k):=by
 obtain⟨ps,rfl,⟨A,c',e,h1,h2,hr⟩,hp⟩:=h;cases e;have hk':k<=ps.length:=by simpa using hk
 refine⟨ps.take k,by rw[List.map_take],⟨_,c,by rw[List.length_take,Nat.min_eq_left hk],by rw[List.length_take];omega,h2,?_⟩,λp hpm=>hp p (List.mem_of_mem_take hpm)⟩;rw[List.length_take,Nat.min_eq_left hk];rw[<-VL];refine⟨by rw[List.length_take,hr.1,List.length_map];omega,λhn=>?_⟩;obtain⟨b',off',e,hb,hc⟩:=hr.2 zO;exact⟨b',off',e,hb,λj u hu=>hc j u (by rw[List.getElem?_take]at hu;split at hu;exact hu;cases hu)⟩
theorem Its.drop{B b off n c:Nat}(h:Its w B (E (b,off) n c) xs){k:Nat}(hk:k<xs.length):Its w B (E (b,off+k*5) (n-k) (c-k)) (xs.drop k):=by
 obtain⟨ps,rfl,⟨A,c',e,h1,h2,hr⟩,hp⟩:=h;cases e;have hk':k<ps.length:=by simpa using hk
 refine⟨ps.drop k,by rw[List.map_drop],⟨_,c-k,by rw[List.length_drop],by rw[List.length_drop];omega,zO,?_⟩,λp hpm=>hp p (List.mem_of_mem_drop hpm)⟩;rw[List.length_drop,VK];refine⟨by rw[List.length_drop,hr.1,List.length_map];omega,λhn=>?_⟩;obtain⟨b',off',e,hb,hc⟩:=hr.2 zO;cases e;exact⟨b,off+k*5,rfl,hb,λj u hu=>by rw[List.getElem?_drop]at hu;rw[Nat.add_assoc];exact hc _ _ hu⟩
theorem Kk.take{b off n c:Nat}(h:Kk X w (E (b,off) n c) xs){k:Nat}(hk:k<=xs.length):Kk X w (E (b,off) k c) (xs.take k):=λC hC=>(h C hC).take hk
theorem Kk.drop{b off n c:Nat}(h:Kk X w (E (b,off) n c) xs){k:Nat}(hk:k<xs.length):Kk X w (E (b,off+k*5) (n-k) (c-k)) (xs.drop k):=λC hC=>(h C hC).drop hk
theorem Bch.notB3{B lo b g:Nat}(h:Bch D B lo b g k S w){cs:Array I}(hr:w.heap[q]?=F (Z cs ty fr))(h1:ty≠223)(h2:ty≠5)(h3:ty≠142):¬B3 b g k q:=λhx=>by
 obtain⟨A1,n1,c1,v2,c3,A4,c4,hro,ho,⟨ps,_,hw,_⟩,_,_⟩:=h.ex;rcases hx with e|e|e
 subst e;rw[hr]at hro;simp only[Option.some.injEq,Obj.cells.injEq]at hro;exact h1 hro.2.1;subst e;obtain⟨cur,hg⟩:=ZH ho (q:=q) rfl;rw[hr]at hg;simp only[Option.some.injEq,Obj.cells.injEq]at hg;exact h2 hg.2.1;rcases hw with⟨e1,_⟩|⟨q',e1,e2,how⟩
 rw[e1]at e;cases e;rw[e1]at e;cases e;obtain⟨cur,hg⟩:=ZH how e2;rw[hr]at hg;simp only[Option.some.injEq,Obj.cells.injEq]at hg;exact h3 hg.2.1
def upV(ups:List It):List (It×I):=ups.map λx=>(x,E M 0 0)
theorem upV_item(ups:List It)(x:It):qG (upV (ups++[x]))=qG (upV ups)++[J .u8 x.k,J .u32 x.i,J .u32 x.o,J O x.r,E M 0 0]:=by unfold upV;rw[List.map_append,Zr];rfl
theorem qdw{t:List UInt8}(h:Zz t a=.error e):e≠0:=by unfold Zz at h;split at h;cases h;split at h;cases h;decide;split at h;cases h;decide;cases h
theorem qdx:∀{l:List Nat}{t:List UInt8}{e:Int},ZI l t=.error e->e≠0
 |[],t,e,h=>by cases h
 |a::l,t,e,h=>by simp only[ZI]at h;split at h;rename_i e' h';cases h;exact qdw h';exact qdx h
theorem YG{its:List It}(h:Zb S lvl its=.error e):e≠0:=by unfold Zb at h;split at h;split at h;rename_i e' h';cases h;exact qdx h';split at h;cases h;decide;cases h;cases h;decide
theorem Xn(lvl:Int):∀(ps qs:List (List It))(S:Sto),makeL lvl (ps++qs) S=match makeL lvl ps S with
  |.error e=>.error e
  |.ok (up,S')=>match makeL lvl qs S' with
   |.error e=>.error e
   |.ok (up',S'')=>.ok (up++up',S'')
 |[],qs,S=>by simp only[List.nil_append,makeL];rcases makeL lvl qs S with e|⟨up,S'⟩<;>rfl
 |p::ps,qs,S=>by
  simp only[List.cons_append,makeL];rcases Zb S lvl p with e|⟨f,S'⟩
  rfl;simp only;rw[Xn lvl ps qs S'];rcases makeL lvl ps S' with e|⟨up,S''⟩
  rfl;simp only;rcases makeL lvl qs S'' with e|⟨up',S3⟩<;>rfl
theorem qml(lvl:Int)(p:List It)(S:Sto):makeL lvl [p] S=match Zb S lvl p with
  |.error e=>.error e
  |.ok (f,S')=>.ok ([jG (jF p) f],S'):=by
 simp only[makeL]<;>(rcases Zb S lvl p with e|⟨f,S'⟩<;>rfl)
theorem qmk(hj:j<ps.length)(h:makeL lvl (ps.take j) S=.ok (up,S'))(h1:Zb S' lvl ps[j]=.error e):makeL lvl ps S=.error e:=by
 have:ps=ps.take j++(ps[j]::ps.drop (j+1)):=by rw[<-List.drop_eq_getElem_cons hj,List.take_append_drop]
 rw[this,Xn,h];simp only[makeL];rw[h1]
theorem qjW(hj:j<ps.length){S'':Sto}(h:makeL lvl (ps.take j) S=.ok (up,S'))(h1:Zb S' lvl ps[j]=.ok (f,S'')):makeL lvl (ps.take (j+1)) S=.ok (up++[jG (jF ps[j]) f],S''):=by rw[List.take_succ_eq_append_getElem hj,Xn,h];simp only;rw[qml,h1]
theorem qjV{its:List It}(k:Nat):qB its=qB (its.take k)++qB (its.drop k):=by unfold qB;rw[<-List.map_append,List.take_append_drop]
theorem qcP{its:List It}{k:Nat}(hk:k<its.length){t t':List UInt8}(h:looseL (qB (its.take k)) t=.ok t')(h0:its[k].r.toNat≠0)(h1:qO t' its[k].r.toNat=0):looseL (qB its) t=.error 6:=by rw[qjV (its:=its) k,vc,h];simp only;rw[List.drop_eq_getElem_cons hk];exact js h0 h1 _
theorem qbp{its:List It}{k:Nat}(hk:k<its.length){t t':List UInt8}(h:looseL (qB (its.take k)) t=.ok t')(h0:its[k].r.toNat≠0)(h1:qO t' its[k].r.toNat≠0):looseL (qB (its.take (k+1))) t=.ok (Vi t' its[k].r.toNat):=by rw[Yg hk,vc,h];simp only;rw[ZP h0 h1];rfl
theorem qbq{its:List It}{k:Nat}(hk:k<its.length){t t':List UInt8}(h:looseL (qB (its.take k)) t=.ok t')(h0:its[k].r.toNat=0):looseL (qB (its.take (k+1))) t=.ok t':=by rw[Yg hk,vc,h];simp only;rw[h0,ZQ];rfl
structure SM(S S':Sto):Prop where
 node:∀r nd,qm S r=F nd->qm S' r=F nd
 pos:∀r:Nat,0<(S.now[r]?.getD 0).toNat->0<(S'.now[r]?.getD 0).toNat
theorem UW{one one':It->Option (K3×K3)}(h:∀y p,one y=F p->one' y=F p):∀(xs:List It)(a:Option (Option (K3×K3)))(q:Option (K3×K3)),xs.foldl (Jf one) a=F q->xs.foldl (Jf one') a=F q
 |[],_,_,e=>e
 |x::r,a,q,e=>by
  simp only[List.foldl_cons]at e⊢;have hs:=(qay one r (Jf one a x) (by rw[e];rfl)).1;have e2:Jf one' a x=Jf one a x:=by
   unfold Jf at hs⊢;rcases a with _|a
   rfl;rcases hx:one x with _|p
   rw[hx]at hs;cases hs;rw[h x p hx]
  rw[e2];exact UW h r _ q e
section
variable {S S':Sto}
theorem SM.one(hm:SM S S'):∀(h:Nat)(y:It)(p:K3×K3),ju S h y=F p->ju S' h y=F p
 |0,y,p,e=>by unfold ju at e⊢;split at e;rename_i hc;rw[if_pos (hc.imp id (hm.pos _))];exact e;cases e
 |h+1,y,p,e=>by
  rw[Ji]at e⊢;unfold vT at e⊢;split at e;rename_i hr;rw[if_pos hr];rcases hn:qm S y.r.toNat with _|⟨lvl,xs⟩
  rw[hn]at e;cases e;rw[hn]at e;rw[hm.node _ _ hn];simp only at e⊢;split at e;rename_i hl;rw[if_pos hl];rcases hs:qC S h xs with _|q
  rw[hs]at e;cases e;rw[hs]at e;have h2:qC S' h xs=F q:=UW (SM.one hm h) xs _ q hs;rw[h2];exact e;cases e;cases e
theorem SM.span(hm:SM S S'){h:Nat}{xs:List It}{q:Option (K3×K3)}(e:qC S h xs=F q):qC S' h xs=F q:=UW (hm.one h) xs _ q e
theorem SM.spanOk(hm:SM S S'){h:Nat}{xs:List It}(e:(qC S h xs).isSome=U):(qC S' h xs).isSome=U:=by obtain⟨q,hq⟩:=Option.isSome_iff_exists.1 e;rw[hm.span hq];rfl
theorem SM.okL(hm:SM S S'){L r:Int}(e:okL S L r=U):okL S' L r=U:=by
 unfold Go.Proofs.YtmeadnlmepcmbaaGreat.okL at e⊢;split at e;rename_i hr;rw[if_pos hr];rcases hn:qm S r.toNat with _|⟨lvl,xs⟩
 rw[hn]at e;cases e;rw[hn]at e;rw[hm.node _ _ hn];simp only[Bool.and_eq_true]at e⊢;exact⟨hm.spanOk e.1,e.2⟩;cases e
theorem SM.items(hm:SM S S'):∀(h:Nat)(xs:List It),(qC S h xs).isSome=U->qy S' h xs=qy S h xs
 |0,_,_=>rfl
 |h+1,xs,e=>by unfold qy;rw[List.flatMap_def,List.flatMap_def];congr 1;refine List.map_congr_left λy hy=>?_;obtain⟨b,hb,_,_,ys,hn,hs⟩:=QH (QC e y hy);rw[hb,Int.toNat_natCast,hm.node _ _ hn,hn];exact SM.items hm h ys hs
theorem Qy.trees{root next:Int}{dead:List Int}{vs:List Vol}(h:Qy S root next dead vs):∀a,a∈Qo root dead vs->Zp S a:=λa ha=>by obtain⟨r,hr,rfl⟩:=List.mem_map.1 ha;obtain⟨n,rfl,hn⟩:=JE (h.ok r hr);exact hn
end
theorem ints_at(l:List Nat){k:Nat}(hk:k<l.length):(JR l)[k]?=F (J O (l[k]:Int)):=by unfold JR;rw[List.getElem?_map,zL hk];rfl
def IxP(l:List Nat)(x:Nat)(u:I):Prop:=(x∈l/\∃j:Nat,j<l.length/\u=J O (j:Int))\/(x∉l/\u=J O (-1))
theorem ix_ret{a:Act}(h4:a.tmps[4]?.getD undef=u)(hd:a.defers=[])(hR:R u W):bodyPost prog Tryz.f184 R .ret a W:=by refine bodyPost_ret (v:=u) ?_ hd hR;simp[results,results184,go_sem,h4]
set_option maxRecDepth 100000 in
theorem qmb(A c)(l:List Nat)(hl:l.length<=1000000)(x:Nat)(w:Jx)(h:Rd w w 1 A l.length (JR l)):Calls prog 184 #[E A l.length c,(x:Int)] w (λe W=>∃u,e=Oa u/\IxP l x u/\W=w):=by
 replace h:=zH h;go_enter func184,ntmps184;go_wp2_with fail;go_loopw [8] (λi wr=>∃k:Nat,k<=l.length/\i=J O (k:Int)/\wr=w/\∀j (hj:j<l.length),j<k->l[j]≠x) (λi _=>l.length-(intOf i).toNat)
 case atStart=>exact⟨0,Nat.zero_le _,rfl,rfl,λj _ hj=>absurd hj (Nat.not_lt_zero _)⟩
 case round=>
  obtain⟨k,hk,rfl,rfl,hno⟩:=hrel;replace hno:=zH hno;by_cases hlt:k<l.length
  ·obtain⟨b,o,rfl,hb,hAG⟩:=h.out.2 zO;have hc:=hAG k _ (ints_at l hlt);have HNO:=zH (λ(he:l[k]≠x) j (hj:j<l.length) (hjk:j<k+1)=>by
    rcases Nat.lt_or_ge j k with h1|h1
    exact hno.out j hj h1
    ·obtain rfl:j=k:=zO;exact he)
   have HY:=zH (λ(he:l[k]=x)=>(⟨he▸List.getElem_mem hlt,k,hlt,rfl⟩:x∈l/\∃j:Nat,j<l.length/\(Value.int O (k:Int))=J O (j:Int)));have hw:=zH (IntWalk.wrap64_in ((k:Int)+1) zO);generalize l[k]=y at*;clear hAG;by_cases he:y=x
   ·have z1:((x:Int)==(y:Int))=U:=by rw[beq_iff_eq];omega
    have hQ:=zH (HY.out he);clear HNO HY;replace he:=zH he;go_wp2_with fail;exact ix_ret rfl rfl ⟨_,rfl,.inl hQ.out,rfl⟩
   have z1:((x:Int)==(y:Int))=Ob:=by rw[beq_eq_false_iff_ne];omega
   have hQ:=zH (HNO.out he);clear HNO HY;replace he:=zH he;have hw':=hw.out;go_wp2_with fail;refine⟨⟨k+1,hlt,rfl,trivial,λj hj hjk=>hQ.out j hj hjk⟩,?_⟩;simp[intOf];omega
  obtain rfl:k=l.length:=zO;have hQ:x∉l:=λhx=>by obtain⟨j,hj,e⟩:=List.mem_iff_getElem.1 hx;exact hno.out j hj hj e
  replace hQ:=zH hQ;go_wp2_with fail;exact ix_ret rfl rfl ⟨_,rfl,.inr ⟨hQ.out,rfl⟩,rfl⟩
set_option maxRecDepth 100000 in
theorem has_any(A c)(l:List Nat)(hl:l.length<=1000000)(x:Nat)(w:Jx)(h:Rd w w 1 A l.length (JR l)):Calls prog 143 #[E A l.length c,(x:Int)] w (λe W=>e=Oa (.bool (decide (x∈l)))/\W=w):=by
 have HI:=zH (qmb A c l hl x w h);clear h;go_enter func143,ntmps143;go_wp2_with fail;refine HI.out.mono ?_;clear HI;rintro e W ⟨u,rfl,hu,rfl⟩;rcases hu with⟨h1,j,hj,rfl⟩|⟨h1,rfl⟩
 ·have z1:decide ((j:Int)≥0)=U:=decide_eq_true zO;replace h1:=zH h1;go_wp2_with fail;go_ret;exact⟨by rw[decide_eq_true h1.out];rfl,rfl⟩
 replace h1:=zH h1;go_wp2_with fail;go_ret;exact⟨by rw[decide_eq_false h1.out];rfl,rfl⟩
def qfR(S:Sto)(refs:Nat->Nat):Bool:=(List.range 256).all λa=>decide (refs a<=(S.now[a]?.getD 0).toNat)
theorem qhE(S:Sto)(refs:Nat->Nat):qfR S refs=U↔QQ S refs:=by unfold qfR QQ;rw[List.all_eq_true];exact⟨λh a ha=>of_decide_eq_true (h a (List.mem_range.2 ha)),λh a ha=>decide_eq_true (h a (List.mem_range.1 ha))⟩
theorem Qy.same{vs:List Vol}(h:Qy S root next dead vs)(h':Qy S root next dead vs'):vs=vs':=by have:=h.vols;rw[h'.vols]at this;cases this;rfl
end Go.Proofs.YtmeadnlmepcmbaaGreat
