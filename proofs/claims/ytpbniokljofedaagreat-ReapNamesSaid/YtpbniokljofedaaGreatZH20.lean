/- Texts MayE, Build, Leave0, PAsk, PutW, BackS, PutI, PutD, joined. -/
import Derived.Test.YtpbniokljofedaaGreatZH19
set_option linter.unusedSimpArgs false
set_option linter.unusedVariables false
set_option maxHeartbeats 8000000
open Go.Proofs.Tryz
namespace Go.Proofs.YtpbniokljofedaaGreat
open Go.RowKit
theorem qah {S:Sto} (h:¬Zi S=[]):QO S<256:=by
 have hJJ:QO S∈jy S 256:=by
  show QO S∈Zi S;unfold QO;rcases hf:Zi S with _|⟨x,r⟩
  ·exact absurd hf h
  ·simp
 simpa using (List.mem_filter.1 hJJ).1
theorem GQ {t:List UInt8} (h:QB t=true):t.length=256:=by unfold QB at h;simp only[Bool.and_eq_true,decide_eq_true_eq] at h;exact h.1
theorem qdX {t:List UInt8} (h:QB t=true):Qd t 0=0:=by
 have hl:=GQ h;unfold QB at h;simp only[Bool.and_eq_true] at h;rcases t with _|⟨x,r⟩
 ·simp at hl
 ·have:=h.2;simp[VX] at this;simp[Qd,this.1]
theorem qfv {t t':List UInt8} {a:Nat} (ha:a=0\/8<=a) (h:QB t=true) (e:Jq t a=.ok t'):QB t'=true:=by
 unfold Jq at e;split at e
 ·cases e;exact h
 ·split at e
  ·cases e
  ·split at e
   ·cases e
   ·cases e;exact ZN h zO _
theorem GM:∀ {l:List Nat} {t t':List UInt8},(∀ a∈l,a=0\/8<=a)->QB t=true->ZE l t=.ok t'->QB t'=true
 | [],t,t',_,h,e=>by cases e;exact h
 |a :: l,t,t',hl,h,e=>by
  simp only[ZE] at e;split at e
  ·cases e
  ·rename_i t1 e1;exact GM (fun b hb=>hl b (List.mem_cons_of_mem _ hb)) (qfv (hl a List.mem_cons_self) h e1) e
theorem Jp:∀ {l:List Nat} {t t':List UInt8},(∀ a∈l,a=0\/8<=a)->QB t=true->QG l t=.ok t'->QB t'=true
 | [],t,t',_,h,e=>by cases e;exact h
 |a :: l,t,t',hl,h,e=>by
  by_cases ha:a=0
  ·subst ha;rw[jT] at e;exact Jp (fun b hb=>hl b (List.mem_cons_of_mem _ hb)) h e
  ·by_cases h0:Qd t a=0
   ·rw[Jo ha h0] at e;cases e
   ·rw[jS ha h0] at e;exact Jp (fun b hb=>hl b (List.mem_cons_of_mem _ hb)) (ZN h (by have:=hl a List.mem_cons_self;omega) _) e
theorem qgh {its:List It} (h:∀ x∈its,itB x.r x.val.length=true):∀ a∈qU its,(a=0\/8<=a)/\a<256:=fun a ha=>by obtain⟨x,hx,rfl⟩:=List.mem_map.1 ha;have:=h x hx;unfold itB at this;simp only[decide_eq_true_eq] at this;omega
theorem Ye {S:Sto} {a:Nat} {lvl:Int} {xs:List It} (h:qv S a=some (lvl,xs)):∀ r∈qU xs,(r=0\/8<=r)/\r<256:=qgh fun x hx=>((Qb h).2.1 x hx).2
theorem qdq {S S':Sto} {lvl:Int} {its:List It} {f:Nat} (hS:qm S=true) (h:zh S lvl its=.ok (f,S')):∃ t,Qc lvl its=true/\ZE (qU its) S.now=.ok t/\S.ws.length≠4096/\8<=f/\f<256/\ZJ (qt S t) f=true/\S'=KI (qt S t) f (je (zy lvl its))/\QB t=true:=by
 unfold zh at h;split at h
 ·rename_i hm;split at h
  ·cases h
  ·rename_i t ht;split at h
   ·cases h
   ·rename_i hn;cases h;have h1:Zi (qt S t)≠[]:=fun e=>hn (.inl e);have hJJ:QO (qt S t)∈Zi (qt S t):=by
     unfold QO;cases e:Zi (qt S t) with
     |nil=>exact absurd e h1
     |cons a l=>exact List.mem_cons_self
    have hfb:ZJ (qt S t) (QO (qt S t))=true:=by have:=List.mem_filter.1 (show QO (qt S t)∈(List.range 256).filter (ZJ (qt S t)) from hJJ);exact this.2
    have h8:8<=QO (qt S t):=by unfold ZJ at hfb;simp only[Bool.and_eq_true,decide_eq_true_eq] at hfb;exact hfb.1
    exact⟨t,hm,ht,fun e=>hn (.inr e),h8,qah h1,hfb,rfl,GM (fun a ha=>(qgh (jE hm).2.2.2 a ha).1) (qY.1 hS).2.1 ht⟩
 ·cases h
theorem vx {S S':Sto} {lvl:Int} {its:List It} {f:Nat} (lV:∀ x∈its,jq x) (hS:qm S=true) (h:zh S lvl its=.ok (f,S')):qm S'=true/\8<=f/\f<256/\S'.ws.length<=4096:=by obtain⟨t,hm,ht,hw,h8,hf,hfb,rfl,htm⟩:=qdq hS h;have hl:(je (zy lvl its)).length=128:=vz (by have:=kR lvl its.length its.length lV (jE hm).2.2.1;rw[kQ] at this;omega);have h1:=may_put (S:=qt S t) (qY.2 ⟨(qY.1 hS).1,htm,(qY.1 hS).2.2⟩) h8 hf hl hw;exact⟨h1,h8,hf,(qR h1).2.1⟩
theorem Yd {S:Sto} (hS:qm S=true) {t:List UInt8} (ht:QB t=true):qm (qt S t)=true:=qY.2 ⟨(qY.1 hS).1,ht,(qY.1 hS).2.2⟩
theorem Gf {S:Sto}:∀ (h:Nat) {lvl:Int} {t t':List UInt8} {a:Nat},(8<=a\/Qd t a=0)->QB t=true->vF S h lvl t a=some t'->QB t'=true
 |0,lvl,t,t',a,_,_,e=>by cases e
 |h+1,lvl,t,t',a,ha,ht,e=>by
  rw[Vc] at e;split at e
  ·cases e
  ·rename_i h0;have ha8:8<=a:=zO;split at e
   ·cases e;exact ZN ht ha8 _
   ·split at e
    ·cases e
    ·rename_i l xs hn;have hr:=Ye hn;have ht0:=ZN ht ha8 0;split at e
     ·cases e
     ·split at e
      ·have key:∀ (rs:List Nat),(∀ r∈rs,(r=0\/8<=r)/\r<256)->∀ (o:Option (List UInt8)),(∀ u,o=some u->QB u=true)->rs.foldl (fun acc r=>acc.bind fun t=>vF S h (l-1) t r) o=some t'->QB t'=true:=by
        intro rs;induction rs with
        |nil=>intro _ o ho e;exact ho _ e
        |cons r rs ih =>
         intro hrs o ho e;rw[List.foldl_cons] at e;refine ih (fun q hq=>hrs q (List.mem_cons_of_mem _ hq)) _ (fun u hu=>?_) e;cases o with
         |none=>cases hu
         |some t1 =>
          have h1:=ho t1 rfl;refine Gf h (a:=r) ?_ h1 hu;rcases(hrs r List.mem_cons_self).1 with rfl|h8
          ·right;exact qdX h1
          ·exact .inl h8
       exact key _ hr _ (fun u hu=>by cases hu;exact ht0) e
      ·split at e
       ·cases e
       ·rename_i t1 e1;cases e;exact Jp (fun a ha=>(hr a ha).1) ht0 e1
theorem kD {S:Sto} {lvl:Int} {t t':List UInt8} {a:Nat} (ha:8<=a) (ht:QB t=true) (e:Qz S lvl t a=some t'):QB t'=true:=Gf 7 (.inl ha) ht e
theorem qaS {lvl:Int}:∀ {ps:List (List It)} {S S':Sto} {up:List It},(∀ p∈ps,∀ x∈p,jq x)->qm S=true->jw lvl ps S=.ok (up,S')->qm S'=true/\up.length=ps.length/\∀ y∈up,(∃ f:Nat,y.r=(f:Int)/\8<=f/\f<256)/\y.val=[]/\∃ p∈ps,qC y=Ti p
 | [],S,S',up,_,hS,e=>by cases e;exact⟨hS,rfl,fun y hy=>by cases hy⟩
 |p :: ps,S,S',up,hp,hS,e=>by
  simp only[jw] at e;split at e
  ·cases e
  ·rename_i f S1 e1;obtain⟨h1,h8,hf,_⟩:=vx (hp p List.mem_cons_self) hS e1;split at e
   ·cases e
   ·rename_i up1 S2 e2;cases e;obtain⟨g1,g2,g3⟩:=qaS (fun q hq=>hp q (List.mem_cons_of_mem _ hq)) h1 e2;refine⟨g1,by simp[g2],fun y hy=>?_⟩;rcases List.mem_cons.1 hy with rfl|hy
    ·exact⟨⟨f,rfl,h8,hf⟩,rfl,p,List.mem_cons_self,rfl⟩
    ·obtain⟨k1,k2,q,hq,k3⟩:=g3 y hy;exact⟨k1,k2,q,List.mem_cons_of_mem _ hq,k3⟩
theorem qdF {l:List It} (h:∀ x∈l,jq x):∀ p∈Vf l,∀ x∈p,jq x:=fun p hp x hx=>by
 unfold Vf at hp;split at hp
 ·simp only[List.mem_cons,List.not_mem_nil,or_false] at hp;rcases hp with rfl|rfl
  ·exact h x (List.mem_of_mem_take hx)
  ·exact h x (List.mem_of_mem_drop hx)
 ·simp only[List.mem_cons,List.not_mem_nil,or_false] at hp;subst hp;exact h x hx
theorem key0_ok {p:List It} (h:∀ x∈p,jq x):(0<=(Ti p).1/\(Ti p).1<256)/\(0<=(Ti p).2.1/\(Ti p).2.1<4294967296)/\(0<=(Ti p).2.2/\(Ti p).2.2<4294967296):=by
 cases p with
 |nil=>exact⟨⟨zA1,zA1⟩,⟨zA1,zA1⟩,zA1,zA1⟩
 |cons x r =>
  obtain⟨h1,h2,h3,_⟩:=h x List.mem_cons_self;exact⟨h1,h2,h3⟩
def Km (D:Nat->Prop) (B lo b g:Nat) (k:Option Nat) (S:Sto) (lvl:Int) (l held:List It) (w:World) (e:Ending) (W:World):Prop:=qV lo b g k w W /\
 match QZ S lvl l held with
 | .error er=>e=.returned (.tuple #[.slice none 0 0,.int .i64 er])
 | .ok (up,S')=>∃ k' D' A c,e=.returned (.tuple #[.slice A up.length c,.int .i64 0])/\Zc w.heap.size k k'/\Kg w.heap.size D D'/\Bch D' B lo b g k' S' W/\qm S'=true/\W.ownsRow w.heap.size 68 5 (.slice A up.length c) up.length (qO (upV up))/\∀ q,(Value.slice A up.length c).ownBlock=some q->¬D' q
theorem Km.bad {D:Nat->Prop} {B lo b g:Nat} {k:Option Nat} {S:Sto} {lvl:Int} {l held:List It} {w W:World} {er:Int} (h:QZ S lvl l held=.error er) (hB:qV lo b g k w W):Km D B lo b g k S lvl l held w (.returned (.tuple #[.slice none 0 0,.int .i64 er])) W:=by refine⟨hB,?_⟩;rw[h]
structure BdI (D:Nat->Prop) (B lo b g:Nat) (k:Option Nat) (S:Sto) (lvl:Int) (ps:List (List It)) (P:Nat) (pv:List Value) (w:World) (v i:Value) (wr:World):Prop where
 ex:∃ (j:Nat) (ups:List It) (S':Sto) (k':Option Nat) (D':Nat->Prop) (Av:Option Addr) (cv:Nat),j<=ps.length/\i=.int .i64 (j:Int)/\v=.slice Av j cv/\ups.length=j/\jw lvl (ps.take j) S=.ok (ups,S')/\qm S'=true/\Zc w.heap.size k k'/\Kg w.heap.size D D'/\Bch D' B lo b g k' S' wr/\qV lo b g k w wr /\
  wr.ownsRow w.heap.size 68 5 (.slice Av j cv) j (qO (upV ups))/\(∀ q,(Value.slice Av j cv).ownBlock=some q->¬D' q/\P<q)/\wr.heap[P]?=some (.cells pv.toArray 47 (0,0))/\P<wr.heap.size
structure HdI (D:Nat->Prop) (B lo b g:Nat) (k:Option Nat) (S:Sto) (held:List It) (vu:Value) (wm:World) (v i:Value) (wr:World):Prop where
 ex:∃ (j:Nat) (t:List UInt8),v=vu/\j<=held.length/\i=.int .i64 (j:Int)/\QG (qU (held.take j)) S.now=.ok t/\Bch D B lo b g k (qt S t) wr/\qV lo b g k wm wr
theorem Te {R:Ending->World->Prop} {a:Act} {W:World} {u v:Value} (h8:a.tmps[8]?.getD undef=u) (h9:a.tmps[9]?.getD undef=v) (hd:a.defers=[]) (hR:R (.returned (.tuple #[u,v])) W):bodyPost prog Tryz.f103 R .ret a W:=by refine bodyPost_ret (v:=.tuple #[u,v]) ?_ hd hR;simp[results,results103,go_sem,h8,h9]
set_option maxRecDepth 100000 in
theorem qaG (D:Nat->Prop) (B lo b g:Nat) (k:Option Nat) (S:Sto) (hS:qm S=true) (lvl:Int) (A:Option Addr) (n c:Nat) (its:List It) (lV:∀ x∈its,jq x) (hn0:0<its.length) (rH:its.length<=100) (loh:Nat) (vh:Value) (cO:List (It×Value)) (held:List It) (rG:cO.map (·.1)=held) (hh1:∀ p∈cO,∃ A c,p.2=.slice A p.1.val.length c) (hhr:∀ x∈held,(x.r=0\/8<=x.r)/\x.r<256) (hhl:held.length<=100) (w:World) (h:Bch D B lo b g k S w) (hx:JV (B3 b g k) w (.slice A n c) its) (hho:w.ownsRow loh 68 5 vh held.length (qO cO)):Calls prog 103 #[.pointer (some ⟨b,0,none⟩),.int .i64 lvl,.slice A n c,vh] w (Km D B lo b g k S lvl its held w):=by
 obtain⟨lJ,hzb,uV,hzg,rE,xX,wG⟩:=h.size;obtain⟨nN,fO,dw,hA⟩:=hx.now.at_;subst nN;obtain⟨bi,off,rfl,hbi⟩:=hA zO;obtain⟨Ah,ch,rfl,hcc1,hcc2⟩:=qy hho;clear hA wG;replace h:=zH h;replace hx:=zH hx;replace lV:=zH lV;replace dw:=zH dw;replace hcc2:=zH hcc2;replace hho:=zH hho;rcases Nat.lt_or_ge 5 its.length with h5|h5
 case' inl =>
  have hpo:=zH (show Vf its=[its.take 3,its.drop 3] by unfold Vf;exact if_pos h5);have e5:decide ((5:Int)<(its.length:Int))=true:=decide_eq_true zO;go_enter func103,ntmps103;go_upto_region 3 with fail;generalize hw0:World.alloc _ _=w0;have x0:Ext w w0:=by rw[<-hw0];exact zN _ _
  have z0:w.heap.size<w0.heap.size:=by rw[<-hw0];simp
  clear hw0;refine qo zQ ?_;refine qP (w:=w0) qk (qD []) (List.replicate 4 true) 2 zQ zQ zQ zQ zQ zQ zQ ?st (Rel.drew _ _) ?walk
  case' st=>exact qj (fun _ h=>by cases h)
  case' walk =>
   intro K hK;dsimp only[qp,List.replicate];repeat ((first|(refine qd ?_ zA0 zA0 (fun W hW _=>⟨W,?_,Rel.refl _ W⟩) ?_;rotate_left;(go_simp<;>with_reducible rfl))|(refine qh zA0 ?_));try simp only[Act.put,ql,qf,qc,qg,qc,qN,zA,zB,zC])
   refine qd (.slice (some ⟨bi,off,none⟩) 3 c) zA0 zA0 (fun W hW _=>⟨W,?_,Rel.refl _ W⟩) ?_
   ·go_simp;intro rY;exfalso;omega
   simp only[Act.put,qf,qc,qg,qc,qN,zA,zB,zC];repeat ((first|(refine qd ?_ zA0 zA0 (fun W hW _=>⟨W,?_,Rel.refl _ W⟩) ?_;rotate_left;(go_simp<;>with_reducible rfl))|(refine qh zA0 ?_));try simp only[Act.put,ql,qf,qc,qg,qc,qN,zA,zB,zC])
   refine qd (.slice (some ⟨bi,off+3*5,none⟩) (its.length-3) (c-3)) zA0 zA0 (fun W hW _=>⟨W,?_,Rel.refl _ W⟩) ?_
   ·go_simp;rw[if_pos zO,if_neg zO]
   simp only[Act.put,qf,qc,qg,qc,qN,zA,zB,zC];repeat ((first|(refine qd ?_ zA0 zA0 (fun W hW _=>⟨W,?_,Rel.refl _ W⟩) ?_;rotate_left;(go_simp<;>with_reducible rfl))|(refine qh zA0 ?_));try simp only[Act.put,ql,qf,qc,qg,qc,qN,zA,zB,zC])
   refine qu (hK _ _ fun W hW hF=>?_);clear hF hK;have hW:Ext w0 W:=hW;refine zC3 ?_;go_wp2;refine Qo ?_;go_wp2_with fail;have x1:Ext w (W.alloc (.cells #[.slice (some ⟨bi,off,none⟩) 3 c,.slice (some ⟨bi,off+15,none⟩) (its.length-3) (c-3)] 47)):=(x0.trans hW).trans (zN _ _);have zP0:w.heap.size<=W.heap.size:=(x0.trans hW).size;obtain⟨ps,wJ⟩:∃ ps,ps=[its.take 3,its.drop 3]:=⟨_,rfl⟩
   obtain⟨pv,sQ⟩:∃ pv:List Value,pv=[.slice (some ⟨bi,off,none⟩) 3 c,.slice (some ⟨bi,off+15,none⟩) (its.length-3) (c-3)]:=⟨_,rfl⟩
   have bT:ps.length=2:=by rw[wJ];rfl
   have hel:Hid (∀ j (hj:j<ps.length),∃ bj oj cj,pv[j]?=some (.slice (some ⟨bj,oj,none⟩) ps[j].length cj)/\JV (B3 b g k) w (.slice (some ⟨bj,oj,none⟩) ps[j].length cj) ps[j]/\0<ps[j].length/\∀ x∈ps[j],jq x):=zH fun j hj=>by
    have e3:(its.take 3).length=3:=by rw[List.length_take];omega
    rcases j with _|_|j
    ·subst wJ sQ;refine⟨bi,off,c,?_,?_,?_,fun x hxm=>lV.out x (List.mem_of_mem_take hxm)⟩
     ·simp only[List.getElem_cons_zero,e3];rfl
     ·simp only[List.getElem_cons_zero,e3];exact hx.out.take zO
     ·simp only[List.getElem_cons_zero,e3];omega
    ·subst wJ sQ;refine⟨bi,off+15,c-3,?_,?_,?_,fun x hxm=>lV.out x (List.mem_of_mem_drop hxm)⟩
     ·simp only[List.getElem_cons_succ,List.getElem_cons_zero,List.length_drop];rfl
     ·simp only[List.getElem_cons_succ,List.getElem_cons_zero,List.length_drop];exact hx.out.drop (k:=3) zO
     ·simp only[List.getElem_cons_succ,List.getElem_cons_zero,List.length_drop];omega
    ·omega
   have hPr:(W.alloc (.cells #[.slice (some ⟨bi,off,none⟩) 3 c,.slice (some ⟨bi,off+15,none⟩) (its.length-3) (c-3)] 47)).heap[W.heap.size]?=some (.cells pv.toArray 47 (0,0)):=by rw[sQ];exact zI _ _ _ rfl
   have hJV:=zH (hpo.out.trans wJ.symm);clear wJ sQ hpo h5 e5 x0 z0 hW;generalize World.alloc W _=w1 at *;generalize W.heap.size=P at *;generalize Value.slice (some ⟨bi,off+15,none⟩) (its.length-3) (c-3)=v26;generalize Value.slice (some ⟨bi,off,none⟩) 3 c=v24;generalize Value.slice (some ⟨w.heap.size,0,none⟩) 1 1=v19
 case' inr =>
  have hpo:=zH (show Vf its=[its] by unfold Vf;exact if_neg zO);have e5:decide ((5:Int)<(its.length:Int))=false:=decide_eq_false zO;go_enter func103,ntmps103;go_wp2_with fail;have x1:Ext w (w.alloc (.cells #[.slice (some ⟨bi,off,none⟩) its.length c] 47)):=zN _ _;obtain⟨ps,wJ⟩:∃ ps,ps=[its]:=⟨_,rfl⟩
  obtain⟨pv,sQ⟩:∃ pv:List Value,pv=[.slice (some ⟨bi,off,none⟩) its.length c]:=⟨_,rfl⟩
  have bT:ps.length=1:=by rw[wJ];rfl
  have hel:Hid (∀ j (hj:j<ps.length),∃ bj oj cj,pv[j]?=some (.slice (some ⟨bj,oj,none⟩) ps[j].length cj)/\JV (B3 b g k) w (.slice (some ⟨bj,oj,none⟩) ps[j].length cj) ps[j]/\0<ps[j].length/\∀ x∈ps[j],jq x):=zH fun j hj=>by
   rcases j with _|j
   ·subst wJ sQ;exact⟨bi,off,c,rfl,hx.out,hn0,lV.out⟩
   ·omega
  have hPr:(w.alloc (.cells #[.slice (some ⟨bi,off,none⟩) its.length c] 47)).heap[w.heap.size]?=some (.cells pv.toArray 47 (0,0)):=by rw[sQ];exact zI _ _ _ rfl
  have hJV:=zH (hpo.out.trans wJ.symm);obtain⟨P,hPP⟩:∃ P,P=w.heap.size:=⟨_,rfl⟩
  rw[<-hPP] at hPr;clear wJ sQ hpo h5 e5;generalize World.alloc w _=w1 at *;have zP0:w.heap.size<=P:=zO;simp only[<-hPP];clear hPP
 all_goals
  clear hx lV hbi fO dw;go_loopw [8,30] (fun v i wr=>BdI D B lo b g k S lvl ps P pv w v i wr) (fun _ i _=>ps.length-(intOf i).toNat)
  case atStart=>exact⟨0,[],S,k,D,none,0,Nat.zero_le _,rfl,rfl,rfl,rfl,hS,Zc.refl _ _,Kg.refl _ _,h.out.ext x1,qV.of_ext x1 xX,World.ownsRow_nil _ _ _ _,(fun q hq=>by cases hq),hPr,(zG.1 hPr).1⟩
  case round =>
   obtain⟨j,ups,S',k',D',Av,cv,hj,rfl,rfl,lL,uX,rD,yD,hND,bg,iZ,aB,hoD,hPw,hPz⟩:=hrel.ex;clear hrel hPr;have wQ:=(qR rD).2.1;by_cases hlt:j<ps.length
   ·obtain⟨bj,oj,cj,hpvj,hxj,fA,hIY⟩:=hel.out j hlt;have kP:wr.cell? ⟨P,j,none⟩=some (.slice (some ⟨bj,oj,none⟩) ps[j].length cj):=by rw[qa hPw];simpa using hpvj
    have oM:=hxj.trans iZ.keepX (B3.of_new yD);have HM:=zH (Td D' B lo b g k' S' lvl (some ⟨bj,oj,none⟩) ps[j].length cj ps[j] hIY wQ wr bg oM);have az:=zH (fun e h1=>qgU hlt (e:=e) uX h1);have aY:=zH (fun f S'' h1=>qeY hlt (f:=f) (S'':=S'') uX h1);have hmay:=zH (fun f S'' (h1:zh S' lvl ps[j]=.ok (f,S''))=>(vx hIY rD h1).1);have oM:=zH oM;have d1:∀ M:Int,M=(ps.length:Int)->decide ((j:Int)<M)=true:=fun M hM=>decide_eq_true zO;have d3:∀ M:Nat,M=ps.length->j<M:=fun M hM=>zO
    first
     |(have d2:=d1 2 (by rw[bT];rfl);have hjn:=d3 2 bT.symm)
     |(have d2:=d1 1 (by rw[bT];rfl);have hjn:=d3 1 bT.symm)
    have hj1:=zH (IntWalk.wrap64_in ((j:Int)+1) zO);replace bT:=zH bT;generalize ps[j]=p at *;generalize hnj:p.length=nj at *;replace hnj:=zH hnj;clear hpvj hIY hxj d1 d3 uX rD wQ;go_wp2_with fail;refine HM.out.mono ?_;clear HM;rintro e wM ⟨hkM,aP⟩;have zwr:=iZ.below.size;have zM:=hkM.below.size;have nB:∀ {q cs ty fr},wr.heap[q]?=some (.cells cs ty fr)->ty≠191->ty≠5->ty≠130->¬B3 b g k' q:=fun hr h1 h2 h3=>bg.notB3 hr h1 h2 h3;have wI:=hkM.own aB (fun q hq=>by obtain⟨cur,hc⟩:=Zj aB hq;exact nB hc zA1 zA1 zA1);have hPM:=hkM.row hPw (nB hPw zA1 zA1 zA1);have ny:=iZ.trans hkM yD;rcases hmx:zh S' lvl p with er|⟨f,S''⟩
    ·rw[hmx] at aP;have hq:=zH (show QZ S lvl its held=.error er by unfold QZ;rw[hJV.out,az.out er hmx]);have aN:(er != 0)=true:=by rw[bne_iff_ne];exact Yc hmx
     have aP:e=.returned (.tuple #[.int .i64 0,.int .i64 er]):=aP;subst aP;clear aY hmay az hmx wI hPM aB hPw hoD nB bg hkM hel kP;replace ny:=zH ny;go_wp2_with fail;exact Te rfl rfl rfl (Km.bad hq.out ny.out)
    ·rw[hmx] at aP;obtain⟨rfl,k'',D'',wz,hD2,bI⟩:e=.returned (.tuple #[.int .i64 (f:Int),.int .i64 0])/\∃ k'' D'',Zc wr.heap.size k' k''/\Kg wr.heap.size D' D''/\Bch D'' B lo b g k'' S'' wM:=aP;have hml2:=aY.out f S'' hmx;have hS2:=hmay.out f S'' hmx;obtain⟨A',c',g0,g1,g2,-,-,-⟩:=((oM.out.trans hkM.keepX (B3.of_new wz)).now).item 0 (by rw[hnj.out];exact fA);have oq:Ti p=((p[0]'(by rw[hnj.out];exact fA)).k,(p[0]'(by rw[hnj.out];exact fA)).i,(p[0]'(by rw[hnj.out];exact fA)).o):=by
      have h0:0<p.length:=by rw[hnj.out];exact fA
      rcases p with _|⟨y,r⟩
      ·simp at h0
      ·rfl
     generalize p[0]'(by rw[hnj.out];exact fA)=y at *;simp only[Nat.zero_mul,Nat.add_zero] at g0 g1 g2;have hN':Zc w.heap.size k k'':=yD.trans wz zO;have hDn':Kg w.heap.size D D'':=hND.trans hD2 zO;have hoq:∀ q,(Value.slice Av j cv).ownBlock=some q->w.heap.size<=q/\q<wr.heap.size:=fun q hq=>Ql aB q hq;have aI:∀ (v':Value) (W:World),W.ownsRow w.heap.size 68 5 v' (j+1) (qO (upV ups)++[.int .u8 y.k,.int .u32 y.i,.int .u32 y.o,.int .i64 (f:Int),.slice none 0 0])->wM.grownBy W (Value.slice Av j cv).ownBlock->Below w.heap.size wM W->(v'.ownBlock=(Value.slice Av j cv).ownBlock\/∃ g,v'.ownBlock=some g/\wM.heap.size<=g) ->
       BdI D B lo b g k S lvl ps P pv w v' (.int .i64 ((j:Int)+1)) W:=fun v' W aT hg hB dW=>by
      obtain⟨A7,c7,rfl,-,-⟩:=qy aT;have aC:∀ q,q<wM.heap.size->¬OwnX (.slice Av j cv) q->W.heap[q]?=wM.heap[q]?:=fun q hq hX=>hg.block q hq fun e=>hX e.symm;have dO:=bI.blo;have hzW:=hg.size;have hDq:∀ q,(Value.slice Av j cv).ownBlock=some q->¬D'' q:=fun q hq hd=>(hD2 q hd).elim (fun h1=>(hoD q hq).1 h1) fun h1=>by have:=(hoq q hq).2;omega
      refine⟨j+1,ups++[mkIt (Ti p) f],S'',k'',D'',A7,c7,zO,rfl,rfl,by simp[lL],hml2,hS2,hN',hDn',?_,?_,?_,?_,?_,zO⟩
      ·refine bI.keepX (X:=OwnX (.slice Av j cv)) (Below.mono hB zO) aC (fun q hq hX=>?_);rcases hq with hq|hq
       ·obtain⟨cur,hc⟩:=Zj wI (show _=some q from hX);exact bI.notB3 hc zA1 zA1 zA1 hq
       ·exact hDq q hX hq
      ·refine⟨ny.below.trans (Below.mono hB xX),fun q hq hn=>(aC q zO fun hX=>?_).trans (ny.rows q hq hn)⟩;have:=(hoq q hX).1;omega
      ·rw[upV_item];have:mkIt (Ti p) f=⟨y.k,y.i,y.o,(f:Int),[]⟩:=by rw[oq];rfl
       rw[this];exact aT
      ·intro q hq;rcases dW with e1|⟨g',e1,e2⟩
       ·rw[e1] at hq;exact⟨hDq q hq,(hoD q hq).2⟩
       ·rw[e1] at hq;obtain rfl:g'=q:=by simpa using hq
        exact⟨fun hd=>by have:=(bI.dB g' hd).2.1;omega,zO⟩
      ·refine(aC P zO fun hX=>?_).trans hPM;have:=(hoD P hX).2;omega
     replace aI:=zH aI;obtain⟨i0,hi,aX,aU,aV⟩:=info_parts Tryz.info_item;have hzz:w.heap.size<=wM.heap.size:=zO;clear aY hmay az hmx hPM aB hPw hoD nB bg hkM hel kP hoq bI wz hD2 hml2 hS2 ny hN' hDn' oq;go_wp2_with (at_builtin;refine qI ?_);refine Qh.go (zZ wM rfl (.tmp 45) (.tmp 52) 47 rfl w.heap.size 68 i0 _ 5 48 underlying47 hi aX aU aV rfl zA1 (.slice Av j cv) j (qO (upV ups)) zE wI #[.int .u8 y.k,.int .u32 y.i,.int .u32 y.o,.int .i64 (f:Int),.slice none 0 0] zE rfl zA8 zO zA1 hzz ?_);intro v' W aT hg hB dW;have hF:=zH (aI.out v' W aT hg hB dW);clear aI aT hg hB dW wI hi;go_wp2_with fail;try rw[hj1.out]
     refine⟨hF.out,?_⟩;simp[intOf];omega
   ·obtain rfl:j=ps.length:=zO;rw[List.take_length] at uX;have d1:∀ M:Int,M=(ps.length:Int)->decide (((ps.length:Nat):Int)<M)=false:=fun M hM=>decide_eq_false zO
    first
     |have d2:=d1 2 (by rw[bT];rfl)
     |have d2:=d1 1 (by rw[bT];rfl)
    replace bT:=zH bT;have hbX:Hid (QZ S lvl its held=match QG (qU held) S'.now with
     | .error e=>.error e
     | .ok t=>.ok (ups,qt S' t)):=zH (by unfold QZ;simp only[hJV.out,uX] <;> rfl)
    have hhm':=hho.out;have hDN:=iZ.own hho.out (fun q hq=>by obtain⟨cur,hc⟩:=Zj hho.out hq;exact h.out.notB3 hc zA1 zA1 zA1);clear hPw hPz hel uX d1 hhm';replace iZ:=zH iZ;replace aB:=zH aB;replace hoD:=zH hoD;replace bg:=zH bg;generalize hwm:wr=wm at *;clear hwm;go_wp2_with fail;go_loopw [8,57] (fun v i wr=>HdI D' B lo b g k' S' held (.slice Av ps.length cv) wm v i wr) (fun _ i _=>held.length-(intOf i).toNat)
    case atStart=>exact⟨0,S'.now,rfl,Nat.zero_le _,rfl,rfl,bg.out,qV.refl _ _ _ _ _⟩
    case round =>
     obtain⟨j,t,rfl,hj,rfl,aO,og,lH⟩:=hrel.ex;clear hrel;have hkA:=zH (iZ.out.trans lH yD);by_cases hlt:j<held.length
     ·have hlp:j<cO.length:=by rw[<-rG,List.length_map] at hlt;exact hlt
      have hor:=lH.own hDN (fun q hq=>by obtain⟨cur,hc⟩:=Zj hDN hq;exact bg.out.notB3 hc zA1 zA1 zA1);obtain⟨bh,offh,rfl,hbh,hch⟩:=(Rd.of_own hor).2 zO;obtain⟨g0,g1,g2,g3,g4⟩:=vt cO j hlp;replace g0:=hch _ _ g0;replace g1:=hch _ _ g1;replace g2:=hch _ _ g2;replace g3:=hch _ _ g3;replace g4:=hch _ _ g4;rw[<-Nat.add_assoc] at g1 g2 g3 g4;obtain⟨Ax,cx,hx2⟩:=hh1 cO[j] (List.getElem_mem hlp);have hxe:cO[j].1=held[j]:=by simp only[<-rG,List.getElem_map]
      rw[hx2] at g4;rw[hxe] at g0 g1 g2 g3 g4;have yH:=hhr held[j] (List.getElem_mem hlt);have az:=zH (fun h0 h1=>Gi hlt aO h0 h1);have aY:=zH (fun h0 h1=>TT hlt aO h0 h1);have ed:=zH (fun h0=>TU hlt aO h0);generalize held[j]=x at *;have hj1:=zH (IntWalk.wrap64_in ((j:Int)+1) zO);obtain⟨a,hra⟩:∃ a:Nat,x.r=(a:Int):=⟨x.r.toNat,zO⟩
      have ha9:a<256:=zO;have hsa:(x.r).toNat=a:=zO;rw[hra] at g3;rw[hsa] at az aY ed;have hz:=og.size.2.2.2.2.2.1;have HL:=zH (fun W (hW:Ext wr W)=>Tz D' B lo b g k' (qt S' t) a ha9 W (og.ext hW));replace og:=zH og;replace lH:=zH lH;clear hch hx2 hxe hor hra hsa yH aO hDN hlp;rcases Nat.eq_zero_or_pos a with xC|xC
      ·subst xC;have hF:HdI D' B lo b g k' S' held (.slice Av ps.length cv) wm (.slice Av ps.length cv) (.int .i64 ((j:Int)+1)) (wr.alloc (.cells #[.int .u8 x.k,.int .u32 x.i,.int .u32 x.o,.int .i64 0,.slice Ax x.val.length cx] 68)):=⟨j+1,t,rfl,zO,rfl,ed.out rfl,og.out.ext (zN _ _),lH.out.trans (qV.of_ext (zN _ _) hz) (Zc.refl _ _)⟩
       replace hF:=zH hF;clear az aY ed HL;go_wp2_with fail;try rw[hj1.out]
       refine⟨hF.out,?_⟩;simp[intOf];omega
      ·have hza:((a:Int) == 0)=false:=by rw[beq_eq_false_iff_ne];omega
       replace xC:=zH xC;go_wp2_with fail;generalize gm:World.alloc _ _=wa;have xa:Ext wr wa:=by rw[<-gm];exact zN _ _
       clear gm g0 g1 g2 g3 g4;refine(HL.out wa xa).mono ?_;clear HL;rintro e wl ⟨hkl,aP⟩;have pF:=lH.out.trans ((qV.of_ext xa hz).trans hkl (Zc.refl _ _)) (Zc.refl _ _);rcases aP with ⟨dC,rfl⟩|⟨dC,rfl,dO⟩
       ·have hq:=zH (show QZ S lvl its held=.error 6 by rw[hbX.out,az.out (by have:=xC.out;omega) dC]);have xR:=zH (iZ.out.trans pF yD);clear hbX az aY ed hkl pF dC hkA;go_wp2_with fail;exact Te rfl rfl rfl (Km.bad hq.out xR.out)
       ·have hF:HdI D' B lo b g k' S' held (.slice Av ps.length cv) wm (.slice Av ps.length cv) (.int .i64 ((j:Int)+1)) wl:=⟨j+1,_,rfl,zO,rfl,aY.out (by have:=xC.out;omega) dC,dO,pF⟩
        replace hF:=zH hF;clear hbX az aY ed hkl pF dC dO hkA;go_wp2_with fail;try rw[hj1.out]
        refine⟨hF.out,?_⟩;simp[intOf];omega
     ·obtain rfl:j=held.length:=zO;rw[List.take_length] at aO;have hq:QZ S lvl its held=.ok (ups,qt S' t):=by rw[hbX.out,aO]
      have oG:=Yd rD (Jp (fun a ha=>by obtain⟨x,hxm,rfl⟩:=List.mem_map.1 ha;have:=hhr x hxm;omega) (qY.1 rD).2.1 aO);have hor:=lH.own aB.out (fun q hq=>by obtain⟨cur,hc⟩:=Zj aB.out hq;exact bg.out.notB3 hc zA1 zA1 zA1);have hR:Km D B lo b g k S lvl its held w (.returned (.tuple #[.slice Av ps.length cv,.int .i64 0])) wr:=by
       refine⟨hkA.out,?_⟩;rw[hq];refine⟨k',D',Av,cv,by rw[lL],yD,hND,og,oG,?_,?_⟩
       ·rw[lL];exact hor
       ·rw[lL];exact fun q hq=>(hoD.out q hq).1
      replace hR:=zH hR;clear hor oG hq og lH aO hbX hkA hDN;go_wp2_with fail;exact Te rfl rfl rfl hR.out
def jx (D:Nat->Prop) (B lo b g:Nat) (k:Option Nat) (S:Sto) (a:Nat) (w:World) (e:Ending) (W:World):Prop:=qV lo b g k w W /\
 match Qz S (-1) S.now a with
 |none=>e=.returned (.int .i64 8)
 |some t=>e=.returned (.int .i64 0)/\Bch D B lo b g k (qt S t) W
theorem jx.bad {D:Nat->Prop} {B lo b g:Nat} {k:Option Nat} {S:Sto} {a:Nat} {w W:World} (h:Qz S (-1) S.now a=none) (hB:qV lo b g k w W):jx D B lo b g k S a w (.returned (.int .i64 8)) W:=by refine⟨hB,?_⟩;rw[h]
theorem jx.good {D:Nat->Prop} {B lo b g:Nat} {k:Option Nat} {S:Sto} {a:Nat} {t:List UInt8} {w W:World} (h:Qz S (-1) S.now a=some t) (hB:qV lo b g k w W) (hb:Bch D B lo b g k (qt S t) W):jx D B lo b g k S a w (.returned (.int .i64 0)) W:=by refine⟨hB,?_⟩;rw[h];exact⟨rfl,hb⟩
structure L0I (D:Nat->Prop) (B lo b g:Nat) (k:Option Nat) (S:Sto) (t0:List UInt8) (xs:List It) (wB:World) (v i:Value) (wr:World):Prop where
 ex:∃ (j:Nat) (t:List UInt8),v=.int .i64 0/\j<=xs.length/\i=.int .i64 (j:Int)/\QG (qU (xs.take j)) t0=.ok t/\Bch D B lo b g k (qt S t) wr/\qV lo b g k wB wr
theorem Bch.fresh {D:Nat->Prop} {B lo b g:Nat} {k:Option Nat} {S:Sto} {w0 w W:World} (h0:Bch D B lo b g k S w0) {S':Sto} (h:Bch D B lo b g k S' w) (hx:Below w0.heap.size w W):Bch D B lo b g k S' W:=by have h6:=h0.size.2.2.2.2.2.1;have h1:=h0.blo;exact h.keep (Below.mono hx zO) fun q hq=>hx.block q (hq.elim (fun h2=>(h0.b3 q h2).2) fun h2=>(h0.dB q h2).2.1)
def Tc (S:Sto) (x:It):Int:=if itB x.r x.val.length=true then (if x.r≠0/\ZD S x.r.toNat=0 then 6 else 0) else 8
abbrev itV (x:It) (A:Option Addr) (c:Nat):Value:=.agg #[.int .u8 x.k,.int .u32 x.i,.int .u32 x.o,.int .i64 x.r,.slice A x.val.length c]
set_option maxRecDepth 100000 in
theorem qfh (A1:Option Addr) (n1 c1:Nat) (A2:Option Addr) (n2 c2:Nat) (A3:Option Addr) (n3 c3:Nat) (A4:Option Addr) (n4 c4:Nat) (S:Sto) (hS:qm S=true) (a lvl:Nat) (xs:List It) (ha:8<=a) (bK:a<256) (hn:qv S a=some ((lvl:Int),xs)) (aW:(Qg S lvl xs).isSome=true) (x:It) (Ax:Option Addr) (cx:Nat) (w:World) (aH:qX w w.heap.size (.slice A1 n1 c1) (.slice A2 n2 c2) (.slice A3 n3 c3) (.slice A4 n4 c4) S):Calls prog 97 #[Qe A1 n1 c1 A2 n2 c2 A3 n3 c3 A4 n4 c4,.int .i64 (a:Int),itV x Ax cx] w (Ret (.int .i64 (Tc S x)) w):=by
 have HCK:=zH (fun W (hx:Ext w W)=>YU A1 n1 c1 A2 n2 c2 A3 n3 c3 A4 n4 c4 S hS a ⟨ha,bK,lvl,xs,hn,aW⟩ W (aH.ext hx));have HIC:=zH (fun W=>Jm x.k x.i x.o x.r Ax x.val.length cx W);have hJR:=Gp hS aH.now;obtain⟨b3,o3,cc3,e3,dF,iO⟩:=hJR;simp only[Value.slice.injEq] at e3;obtain⟨rfl,rfl,rfl⟩:=e3;have iO:=zH iO;obtain⟨q,hq⟩:∃ q,Tc S x=q:=⟨_,rfl⟩
 rw[hq];replace hq:=zH hq;clear aH hn aW ha bK;go_enter func97,ntmps97;go_wp2_with fail;generalize aA:(World.alloc (World.alloc w _) _)=w1;have x1:Ext w w1:=by rw[<-aA];exact(zN _ _).trans (zN _ _)
 have uH:w1.heap[w.heap.size]?=some (.cells #[.slice A1 n1 c1,.slice A2 n2 c2,.slice (some ⟨b3,o3,none⟩) 256 c3,.slice A4 n4 c4] 28 (0,0)):=by rw[<-aA];exact(zK _ _ _ zA3).trans (zI _ _ _ rfl)
 have ri1:w1.heap[w.heap.size+1]?=some (.cells #[.int .u8 x.k,.int .u32 x.i,.int .u32 x.o,.int .i64 x.r,.slice Ax x.val.length cx] 68 (0,0)):=by rw[<-aA];exact zI _ _ _ zA3
 clear aA;refine(HCK.out w1 x1).mono ?_;clear HCK;rintro e w2 ⟨u,rfl,⟨m,rfl⟩,hB⟩;have x2:Ext w w2:=Ext.trans x1 hB;have rs2:=qb uH hB;have ri2:=qb ri1 hB;have ki2:=qa ri2;clear uH ri1 hB x1;go_wp2_with fail;refine(HIC.out w2).mono ?_;clear HIC;rintro e w3 ⟨rfl,hB⟩;have x3:Ext w w3:=Ext.trans x2 hB;have rs3:=qb rs2 hB;have ri3:=qb ri2 hB;have ki3:=qa ri3;have ks3:=qa rs3;clear rs2 ri2 hB x2 ki2;cases hit:itB x.r x.val.length
 ·have hqq:q=8:=by rw[<-hq.out];unfold Tc;rw[hit];rfl
  subst hqq;rw[jW rfl];go_wp2_with fail;go_ret;exact⟨rfl,x3⟩
 ·have yH:x.r=0\/(8<=x.r/\x.r<256):=by unfold itB at hit;simp at hit;exact hit.1
  have hqq:Hid (q=if x.r≠0/\ZD S x.r.toNat=0 then 6 else 0):=zH (by rw[<-hq.out];unfold Tc;rw[if_pos hit]);rw[show Jg true=0 from rfl];replace hit:=zH hit;clear hq;rcases yH with hr0|lm
  ·have hq0:=zH (show q=0 by rw[hqq.out,if_neg (fun h=>h.1 hr0)]);rw[hr0] at ki3;clear hqq rs3 ri3;go_wp2_with fail;go_ret;exact⟨by rw[hq0.out];rfl,x3⟩
  ·obtain⟨r,hra⟩:∃ r:Nat,x.r=(r:Int):=⟨x.r.toNat,zO⟩
   have wK:r<256:=zO;have sU:8<=r:=zO;have hkr:=Ext.cell x3 (iO.out r wK);rw[hra] at ki3;rw[hra,Int.toNat_natCast] at hqq;have aV:((r:Int) != 0)=true:=by rw[bne_iff_ne];omega
   generalize ZD S r=nv at *;clear hra lm rs3 ri3;by_cases h0:nv=0
   ·have hq0:=zH (show q=6 by rw[hqq.out,if_pos ⟨zO,h0⟩]);subst h0;clear hqq;go_wp2_with fail;go_ret;exact⟨by rw[hq0.out];rfl,x3⟩
   ·have hq0:=zH (show q=0 by rw[hqq.out,if_neg (fun h=>h0 h.2)]);have hy1:((nv:Int) == 0)=false:=by rw[beq_eq_false_iff_ne];omega
    replace h0:=zH h0;clear hqq;go_wp2_with fail;go_ret;exact⟨by rw[hq0.out];rfl,x3⟩
theorem ky (k:K3):∀ (ps qs:List Stp) (up:List It) (S:Sto),ju k (ps++qs) up S=match ju k ps up S with
  | .error e=>.error e
  | .ok (up',S')=>ju k qs up' S'
 | [],qs,up,S=>rfl
 |(lvl,xs,p) :: ps,qs,up,S=>by
  simp only[List.cons_append,ju];rcases QZ S (lvl:Int) (Kb xs p (VL k lvl xs) up) up with e|⟨up',S'⟩
  ·rfl
  ·exact ky k ps qs up' S'
theorem qgO (k:K3) (s:Stp) (up:List It) (S:Sto):ju k [s] up S=QZ S (s.1:Int) (Kb s.2.1 s.2.2 (VL k s.1 s.2.1) up) up:=by obtain⟨lvl,xs,p⟩:=s;simp only[ju];rcases QZ S (lvl:Int) (Kb xs p (VL k lvl xs) up) up with e|⟨up',S'⟩ <;> rfl
theorem YY:∀ {l:List Nat} {t:List UInt8} {e:Int},QG l t=.error e->e≠0
 | [],t,e,h=>by cases h
 |a :: l,t,e,h=>by
  by_cases ha:a=0
  ·subst ha;rw[jT] at h;exact YY h
  ·by_cases h0:Qd t a=0
   ·rw[Jo ha h0] at h;cases h;decide
   ·rw[jS ha h0] at h;exact YY h
theorem qaR {lvl:Int}:∀ {ps:List (List It)} {S:Sto} {e:Int},jw lvl ps S=.error e->e≠0
 | [],S,e,h=>by cases h
 |p :: ps,S,e,h=>by
  simp only[jw] at h;split at h
  ·rename_i e' h';cases h;exact Yc h'
  ·split at h
   ·rename_i e' h';cases h;exact qaR h'
   ·cases h
theorem VY {S:Sto} {lvl:Int} {l held:List It} {e:Int} (h:QZ S lvl l held=.error e):e≠0:=by
 unfold QZ at h;split at h
 ·rename_i e' h';cases h;exact qaR h'
 ·split at h
  ·rename_i e' h';cases h;exact YY h'
  ·cases h
structure qct (k:K3) (s:Stp):Prop where
 may:Qc (s.1:Int) s.2.1=true
 its:∀ x∈s.2.1,jq x/\itB x.r x.val.length=true
 len:s.2.1.length<=5
 le:s.2.2<=s.2.1.length
 lt:0<s.1->s.2.2<s.2.1.length
 zero:s.1=0->s.2.2=qG s.2.1 k
theorem qfF {S:Sto} {k:K3}:∀ (h:Nat) {a:Nat} {xs:List It},qv S a=some ((h:Int),xs)->(Qg S h xs).isSome=true->∀ s∈Vy S k h xs,qct k s
 |0,a,xs,hn,hs,s,hm=>by
  rw[qeh] at hm;obtain rfl:s=(0,xs,qG xs k):=by simpa using hm
  obtain⟨m1,m2,_⟩:=Qb hn;exact⟨m1,m2,(zt hn).2.2,JI xs k,fun h=>absurd h (Nat.lt_irrefl 0),fun _=>rfl⟩
 |h+1,a,xs,hn,hs,s,hm=>by
  obtain⟨m1,m2,_⟩:=Qb hn;have hx:=qbM m1 zO;obtain⟨b,e1,-,-,zs,e4,e5⟩:=Ja (JK hs _ (List.getElem_mem (Jr (k:=k) hx)));rw[GU (zL (Jr hx)) (by rw[e1,Int.toNat_natCast];exact e4)] at hm;rcases List.mem_cons.1 hm with rfl|hm
  ·exact⟨m1,m2,(zt hn).2.2,Nat.le_of_lt (Jr hx),fun _=>Jr hx,fun h=>by cases h⟩
  ·exact qfF h e4 e5 s hm
theorem many_ok {k:K3} {s:Stp} (h:qct k s):(VL k s.1 s.2.1=0\/VL k s.1 s.2.1=1)/\s.2.2+VL k s.1 s.2.1<=s.2.1.length:=by
 have hle:=h.le;unfold VL;split
 ·exact⟨.inl rfl,zO⟩
 ·rename_i hc;refine⟨.inr rfl,?_⟩;rcases Nat.eq_zero_or_pos s.1 with h0|h0
  ·rw[h.zero h0] at hle ⊢;by_cases hl:qG s.2.1 k<s.2.1.length
   ·omega
   ·exact absurd ⟨h0,Xq hl⟩ hc
  ·have:=h.lt h0;omega
theorem Bch.of_on {B lo b:Nat} {A1:Option Addr} {n1 c1:Nat} {A2:Option Addr} {n2 c2:Nat} {A3:Option Addr} {n3 c3:Nat} {A4:Option Addr} {n4 c4:Nat} {A3':Option Addr} {c3':Nat} {S:Sto} {W:World} (hB:B<=lo) (hS:qm S=true) (aH:qX W B (.slice A1 n1 c1) (.slice A2 n2 c2) (.slice A3 n3 c3) (.slice A4 n4 c4) S) (aO:lo<=b) (hr:W.heap[b]?=some (.cells #[.slice A1 n1 c1,.slice A2 n2 n2,.slice A3' n3 c3',.slice A4 n4 c4] 191 (0,0))) (ho:W.ownsRow lo 5 1 (.slice A3' n3 c3') n3 (S.now.map bv)):∃ g,Bch (fun _=>False) B lo b g none S W:=by
 obtain⟨nz,uU,mW,hl4⟩:=qR hS;have e3:=aH.now.at_.1;have e4:=aH.last.at_.1;obtain rfl:n3=256:=zO;obtain rfl:n4=256:=zO;obtain⟨g,rfl⟩:∃ g,A3'=some ⟨g,0,none⟩:=by
  rcases ho.2 with ⟨_,h0⟩|⟨g,_,_,e,_⟩
  ·cases h0
  ·cases e;exact⟨g,rfl⟩
 refine⟨g,aO,hB,fun q h=>h.elim,A1,n1,c1,.slice A2 n2 n2,c3',A4,c4,hr,ho,?_,aH.bs,aH.last⟩;obtain⟨ps,e,⟨A,c,e2,h1,h2,oI⟩,hp⟩:=aH.ws;simp only[Value.slice.injEq] at e2;obtain⟨rfl,rfl,rfl⟩:=e2;refine⟨ps,e,.inl ⟨rfl,zO,A2,rfl,oI⟩,fun p af=>⟨(hp p af).1,fun C hC=>(hp p af).2.keepX hC fun q hq hx=>by have:=hx.1;omega⟩⟩
def Tn (S:Sto) (L:Nat) (xs:List It) (x:It):Except Int (List It×Sto):=
 if Ue (qC x) (Vy S (qC x) L xs)=true then .error 120 else
 match ju (qC x) (Vy S (qC x) L xs).reverse [x] S with
 | .error e=>.error e
 | .ok (up,S1)=>if 1<up.length then QZ S1 ((Vy S (qC x) L xs).length:Int) up up else .ok (up,S1)
def kM (up:List It):Nat:=match up with
 | []=>0
 |y :: _=>y.r.toNat
theorem qca (S:Sto) (L:Nat) (xs:List It) (root:Nat) (x:It):putX S L xs root x=match Tn S L xs x with
  | .error e=>.error e
  | .ok (up,S2)=>match Qz S2 (-1) S2.now root with
   |none=>.error 8
   |some t=>.ok (kM up,qt S2 t):=by
 unfold putX Tn;by_cases ht:Ue (qC x) (Vy S (qC x) L xs)=true
 ·rw[if_pos ht,if_pos ht]
 ·rw[if_neg ht,if_neg ht];rcases ju (qC x) (Vy S (qC x) L xs).reverse [x] S with e|⟨up,S1⟩
  ·rfl
  ·simp only;generalize (if 1<up.length then QZ S1 ((Vy S (qC x) L xs).length:Int) up up else Except.ok (up,S1))=r;rcases r with e|⟨up',S2⟩
   ·rfl
   ·simp only;rcases Qz S2 (-1) S2.now root with _|t <;> rfl
def To (S:Sto) (L:Nat) (xs:List It) (root:Nat) (x:It):Except Int (Nat×Sto):=if Tc S x=0 then putX S L xs root x else .error (Tc S x)
def PutQ (lo:Nat) (q:Except Int (Nat×Sto)) (u:Value) (W:World):Prop:=match q with
 | .error e=>u=.tuple #[Qe none 0 0 none 0 0 none 0 0 none 0 0,.int .i64 0,.int .i64 e]
 | .ok (r,S')=>∃ v,u=.tuple #[v,.int .i64 (r:Int),.int .i64 0]/\QF lo S' v W
end Go.Proofs.YtpbniokljofedaaGreat
namespace Go.Proofs.YtpbniokljofedaaGreat
open Go.RowKit Go.Shelf
attribute [local go_sem] Oper.semAt_some
abbrev Us:Type:=Stp×Sl
abbrev usz:Us:=((0,[],0),(none,0,0))
set_option maxRecDepth 100000 in
theorem backs_in (n:Nat) (hn:1<=n) (l Bs b off len cap:Nat) (us:List Us) (ag:len<1099511627776) (J Jx:List Nat->World->Prop) (hY:∀ pre (x:Nat) W,J pre W->pre.length<len->YieldAt Fence.wide (n-1) prog l #[.int .i64 (x:Int),.agg #[.int .i64 ((us[x]?.getD usz).1.1:Int),sv (us[x]?.getD usz).2,.int .i64 ((us[x]?.getD usz).1.2.2:Int)]] W fun e W' =>
   (e=.returned (.bool true)/\J (pre++[x]) W'/\Qi Bs b W W')\/(e=.returned (.bool false)/\Jx (pre++[x]) W'))
  (W:World) (fM:W.cell? ⟨Bs,0,none⟩=some (.slice (some ⟨b,off,none⟩) len cap)) (hc:∀ i,i<len->W.cell? ⟨b,off+i*3,none⟩=some (.int .i64 ((us[i]?.getD usz).1.1:Int))/\W.cell? ⟨b,off+i*3+1,none⟩=some (sv (us[i]?.getD usz).2)/\W.cell? ⟨b,off+i*3+2,none⟩=some (.int .i64 ((us[i]?.getD usz).1.2.2:Int))) (h0:J [] W) :
  CallsIn Fence.wide n prog 146 #[.func (.yield l) #[] #[],.pointer (some ⟨Bs,0,none⟩)] W fun e W'=>(∃ v,e=.returned v) /\
   ((∃ ys,ys=Zl (fun j=>len-1-j) len/\J ys W')\/(∃ pre,(∃ k,k<=len/\pre=Zl (fun j=>len-1-j) k)/\Jx pre W')):=by
 refine callsIn_of_wp func146 rfl trivial ?_ rfl;simp only[ntmps146,List.size_toArray,List.length_cons,List.length_nil,Nat.reduceAdd,Nat.reduceSub,Array.replicate_succ,Array.replicate_zero,List.push_toArray,List.append_toArray,List.nil_append,List.cons_append]
 gi_wp2
 gi_loopw [3] (fun i wr=>∃ k:Nat,k<=len/\i=.int .i64 ((len:Int)-1-k)/\J (Zl (fun j=>len-1-j) k) wr/\Qi Bs b W wr)
  (fun i _=>(intOf i+1).toNat)
 case atStart=>exact⟨0,Nat.zero_le _,zA3,h0,Qi.refl _ _ _⟩
 case round =>
  obtain⟨k,hk,rfl,eu,dP⟩:=hrel;have hBr:wr.cell? ⟨Bs,0,none⟩=some (.slice (some ⟨b,off,none⟩) len cap):=(World.cell?_of_block (w:=W) dP.1).trans fM;by_cases hlt:k<len
  ·obtain⟨fn,tmps,assign,body,hy,hR⟩:=hY _ (len-1-k) wr eu (by rw[zj];exact hlt);have dC:=(World.cell?_of_block (w:=W) (a:=⟨b,off+(len-1-k)*3,none⟩) dP.2).trans (hc (len-1-k) zO).1;have dS:=(World.cell?_of_block (w:=W) (a:=⟨b,off+(len-1-k)*3+1,none⟩) dP.2).trans (hc (len-1-k) zO).2.1;have bJ:=(World.cell?_of_block (w:=W) (a:=⟨b,off+(len-1-k)*3+2,none⟩) dP.2).trans (hc (len-1-k) zO).2.2;try dsimp only at hy
   obtain⟨i,hi⟩:∃ i:Nat,len-1-k=i:=⟨_,rfl⟩
   have dD:(len:Int)-1-k=(i:Int):=zO;have hil:i<len:=zO;have hik:k+i+1<=len/\len<=k+i+1:=zO;have HU:=zH (Jt (fun j=>len-1-j) k);obtain⟨u,hu⟩:∃ u,us[i]?.getD usz=u:=⟨_,rfl⟩
   rw[hi] at dC dS bJ hy hR;rw[hu] at dC dS bJ hy;rw[dD];clear dD;clear hu;have HI:=zH hi;clear hi
   gi_wp2
   refine hR.mono ?_;rintro e W3 (⟨rfl,wu,iO⟩|⟨rfl,gp⟩)
   ·gi_wp2
    go_roundw
    case rel=>exact⟨k+1,zO,by go_num,by rw[HU.out,HI.out];exact wu,dP.t iO⟩
    case measure=>simp[intOf]
   ·gi_wp2
    refine bodyPost_ret (results_none rfl _ _ _) rfl ?_;exact⟨⟨_,rfl⟩,.inr ⟨_,⟨k+1,zO,by rw[HU.out,HI.out]⟩,gp⟩⟩
  ·obtain rfl:k=len:=zO
   gi_wp2
   go_end0;exact⟨⟨_,rfl⟩,.inl ⟨_,rfl,eu⟩⟩
set_option maxRecDepth 100000 in
theorem qbv (n l Bs c:Nat) (A:Option Addr) (J:List Nat->World->Prop) (W:World) (fM:W.cell? ⟨Bs,0,none⟩=some (.slice A 0 c)) (h0:J [] W):CallsIn Fence.wide n prog 146 #[.func (.yield l) #[] #[],.pointer (some ⟨Bs,0,none⟩)] W fun e W'=>(∃ v,e=.returned v)/\J [] W':=by
 refine callsIn_of_wp func146 rfl trivial ?_ rfl;simp only[ntmps146,List.size_toArray,List.length_cons,List.length_nil,Nat.reduceAdd,Nat.reduceSub,Array.replicate_succ,Array.replicate_zero,List.push_toArray,List.append_toArray,List.nil_append,List.cons_append]
 gi_wp2
 gi_loopw [3] (fun i wr=>i=.int .i64 (-1)/\J [] wr) (fun _ _=>0)
 case atStart=>exact⟨rfl,h0⟩
 case round =>
  obtain⟨rfl,eu⟩:=hrel
  gi_wp2
  go_end0;exact⟨⟨_,rfl⟩,eu⟩
def SWs (W:World) (Bs b:Nat) (v:Value) (us:List Us):Prop:=
 W.cell? ⟨Bs,0,none⟩=some v/\((us=[]/\∃ A c,v=.slice A 0 c)\/∃ off cap,v=.slice (some ⟨b,off,none⟩) us.length cap/\∀ i,i<us.length->W.cell? ⟨b,off+i*3,none⟩=some (.int .i64 ((us[i]?.getD usz).1.1:Int))/\W.cell? ⟨b,off+i*3+1,none⟩=some (sv (us[i]?.getD usz).2)/\W.cell? ⟨b,off+i*3+2,none⟩=some (.int .i64 ((us[i]?.getD usz).1.2.2:Int)))
theorem SWs.keep {W W':World} {Bs b:Nat} {v:Value} {us:List Us} (h:SWs W Bs b v us) (hk:Qi Bs b W W'):SWs W' Bs b v us:=by
 refine⟨(World.cell?_of_block (w:=W) hk.1).trans h.1,?_⟩;rcases h.2 with h|⟨off,cap,e,hc⟩
 ·exact .inl h
 ·exact .inr ⟨off,cap,e,fun i hi=>⟨(World.cell?_of_block (w:=W) hk.2).trans (hc i hi).1,(World.cell?_of_block (w:=W) hk.2).trans (hc i hi).2.1,(World.cell?_of_block (w:=W) hk.2).trans (hc i hi).2.2⟩⟩
theorem qcH (n:Nat) (hn:1<=n) (Bs b:Nat) (v:Value) (us:List Us) (ag:us.length<1099511627776) (w:World) (fM:Bs<w.heap.size) (hb:b<w.heap.size) (hS:SWs w Bs b v us):SeqStopsK Fence.wide n prog 146 #[.pointer (some ⟨Bs,0,none⟩)] (fun x:Nat=>#[.int .i64 (x:Int),.agg #[.int .i64 ((us[x]?.getD usz).1.1:Int),sv (us[x]?.getD usz).2,.int .i64 ((us[x]?.getD usz).1.2.2:Int)]]) (Qi Bs b) (fun ys=>ys=Zl (fun j=>us.length-1-j) us.length)
   (fun pre=>∃ k,k<=us.length/\pre=Zl (fun j=>us.length-1-j) k) us.length w:=fun l J Jx W hW _ _ hY h0=>by
 obtain⟨hc,h⟩:=hS.keep (Qi.below hW fM hb);rcases h with ⟨rfl,A,c,rfl⟩|⟨off,cap,rfl,bU⟩
 ·exact(qbv n l Bs c A J W hc h0).mono fun e W' ⟨he,hj⟩=>⟨he,.inl ⟨_,rfl,hj⟩⟩
 ·exact backs_in n hn l Bs b off us.length cap us ag J Jx hY W hc bU h0
theorem qad (A:Option Addr) (m c:Nat) (w:World):Calls prog 100 #[.slice A m c] w (fun e w'=>e=.returned (.func (.func 146) #[] #[.pointer (some ⟨w.heap.size,0,none⟩)])/\w'=w.alloc (.cells #[.slice A m c] 153)):=by
 go_enter func100,ntmps100;go_wp2;go_ret;exact⟨rfl,rfl⟩
end Go.Proofs.YtpbniokljofedaaGreat
namespace Go.Proofs.YtpbniokljofedaaGreat
open Go.RowKit
section
variable {w W:World}
theorem Rd.ck {B size n:Nat} {A:Option Addr} {xs:List Value} (h:Rd w B size A n xs) (hk:Qf w W):Rd W B size A n xs:=⟨h.1,fun hn=>by obtain⟨b,off,e,hb,hc⟩:=h.2 hn;exact⟨b,off,e,hb,fun j u hu=>hk.cell (hc j u hu)⟩⟩
theorem Bys.ck {B:Nat} {v:Value} {l:List UInt8} (h:Bys w B v l) (hk:Qf w W):Bys W B v l:=by obtain⟨A,c,e,hc,hm,hr⟩:=h;exact⟨A,c,e,hc,hm,hr.ck hk⟩
theorem Bls.ck {B:Nat} {v:Value} {bs:List (List UInt8)} (h:Bls w B v bs) (hk:Qf w W):Bls W B v bs:=by obtain⟨vs,A,c,e,h1,h2,h3,h4⟩:=h;exact⟨vs,A,c,e,h1,h2,h3.ck hk,fun i u l hu hl=>(h4 i u l hu hl).ck hk⟩
theorem qZ.of_ck (X:Nat->Prop) (hk:Qf w W):qZ X w W:=fun _ _ _ hv=>hk.cell hv
theorem Bch.ck {D:Nat->Prop} {B lo b g:Nat} {k:Option Nat} {S:Sto} (h:Bch D B lo b g k S w) (hk:Qf w W):Bch D B lo b g k S W:=by
 obtain⟨A1,n1,c1,v2,c3,A4,c4,lq,ho,⟨ps,e,hw,hp⟩,h1,h4⟩:=h.ex;refine⟨h.lob,h.blo,fun q hq=>⟨(h.dB q hq).1,by have:=(h.dB q hq).2.1;have:=hk.size;omega,(h.dB q hq).2.2⟩,A1,n1,c1,v2,c3,A4,c4,hk.row lq,Vv ho hk,⟨ps,e,?_,fun p af=>⟨(hp p af).1,fun C hC=>(hp p af).2 C ((qZ.of_ck _ hk).trans hC fun _ _ h=>h)⟩⟩,h1.ck hk,h4.ck hk⟩;rcases hw with ⟨e,hm,A,e2,hr⟩|⟨q,e,e2,how⟩
 ·exact .inl ⟨e,hm,A,e2,hr.ck hk⟩
 ·exact .inr ⟨q,e,e2,Vv how hk⟩
end
theorem JV.of_own {X:Nat->Prop} {w:World} {lo n:Nat} {v:Value} {ps:List (It×Value)} (ho:w.ownsRow lo 68 5 v n (qO ps)) (hl:ps.length=n) (hX:∀ q,v.ownBlock=some q->¬X q) (hp:∀ p∈ps,(∃ A c,p.2=.slice A p.1.val.length c)/\∀ C,qZ X w C->Bys C C.heap.size p.2 p.1.val):JV X w v (ps.map (·.1)):=fun C hC=>by
 have oI:∀ A c,v=.slice A n c->Rd C C.heap.size 5 A n (qO ps):=fun A c e=>by
  refine⟨ho.1,fun hn=>?_⟩;rcases ho.2 with ⟨_,h0⟩|⟨g,cap,cur,hv,hb,hg,fO,_,hsz,mZ⟩
  ·omega
  ·have aN:¬X g:=hX g (by rw[hv];rfl);rw[hv] at e;cases e;have hc:∀ j u,(qO ps)[j]?=some u->w.cell? ⟨g,0+j,none⟩=some u:=fun j u hu=>by
    rw[Nat.zero_add,qa hg,<-Array.getElem?_toList];rw[<-mZ,List.getElem?_take] at hu;split at hu
    ·exact hu
    ·cases hu
   have hl0:0<(qO ps).length:=by rw[ho.1];omega
   exact⟨g,0,rfl,World.block_lt_of_cell? C ⟨g,0+0,none⟩ (hC _ _ aN (hc 0 _ (zL hl0))),fun j u hu=>hC _ _ aN (hc j u hu)⟩
 obtain⟨A,c,rfl,h1,h2⟩:=qy ho;subst hl;exact⟨ps,rfl,⟨A,c,by rw[List.length_map],by rw[List.length_map];exact h1,h2,by rw[List.length_map];exact oI A c rfl⟩,fun p af=>⟨(hp p af).1,(hp p af).2 C hC⟩⟩
theorem Bch.others {D:Nat->Prop} {B lo b g:Nat} {k:Option Nat} {S:Sto} {w W:World} (h:Bch D B lo b g k S w) (hk:qV lo b g k w W):KeepsOthers w W:=⟨hk.below.size,fun q o hq ho=>by
 refine hk.row hq fun hx=>?_;obtain⟨A1,n1,c1,v2,c3,A4,c4,lq,bQ,⟨ps,_,hw,_⟩,_,_⟩:=h.ex;have key:∀ cs ty fr,w.heap[q]?=some (.cells cs ty fr)->False:=fun cs ty fr hc=>by rw[hc] at hq;cases hq;cases ho
 rcases hx with rfl|rfl|e
 ·exact key _ _ _ lq
 ·obtain⟨cur,hg⟩:=Zj bQ rfl;exact key _ _ _ hg
 ·rcases hw with ⟨e1,_⟩|⟨q',e1,e2,how⟩
  ·rw[e1] at e;cases e
  ·rw[e1] at e;cases e;obtain⟨cur,hg⟩:=Zj how e2;exact key _ _ _ hg⟩
def sAt (l:List Stp) (x:Nat):Stp:=l[x]?.getD (0,[],0)
theorem sAt_ok {k:K3} {l:List Stp} (h:∀ s∈l,qct k s) (x:Nat):qct k (sAt l x):=by
 unfold sAt;rcases hx:l[x]? with _|s
 ·exact⟨zA1,(fun y hy=>by cases hy),Nat.zero_le _,zM _,fun h=>absurd h (Nat.lt_irrefl 0),fun _=>rfl⟩
 ·exact h s (List.mem_of_getElem? hx)
theorem qdQ (l:List Stp) (k:Nat) (hk:k<=l.length):(Zl (fun j=>l.length-1-j) k).map (sAt l)=l.reverse.take k:=by
 apply List.ext_getElem?;intro i;unfold Zl;rw[List.getElem?_map,List.getElem?_map,List.getElem?_take];by_cases hi:i<k
 ·rw[List.getElem?_range hi,if_pos hi,List.getElem?_reverse zO];simp only[Option.map_some,sAt];rw[zL zO];simp
 ·rw[List.getElem?_eq_none zA2,if_neg hi];rfl
structure PutI (K:K3) (l:List Stp) (S:Sto) (x:It) (B0 lo b g UB TB SB w2:Nat) (w3:World) (xv sv_:Value) (pre:List Nat) (W:World):Prop where
 ex:∃ (ups:List It) (S':Sto) (k':Option Nat) (D':Nat->Prop) (Au:Option Addr) (cu:Nat) (cO:List (It×Value)),ju K (pre.map (sAt l)) [x] S=.ok (ups,S')/\qm S'=true/\0<ups.length/\ups.length<=2/\cO.map (·.1)=ups /\
  (∀ y∈ups,jq y/\(y.r=0\/8<=y.r)/\y.r<256)/\(∀ p∈cO,(∃ A c,p.2=.slice A p.1.val.length c)/\Bys W B0 p.2 p.1.val)/\W.heap[UB]?=some (.cells #[.slice Au ups.length cu] 47 (0,0))/\W.ownsRow 0 68 5 (.slice Au ups.length cu) ups.length (qO cO)/\Bch D' B0 lo b g k' S' W
 rx:W.heap[B0+1]?=some (.cells #[.int .u8 x.k,.int .u32 x.i,.int .u32 x.o,.int .i64 x.r,xv] 68 (0,0))
 r2:W.heap[B0+2]?=some (.cells #[.slice none 0 0,.slice none 0 0,.slice none 0 0,.slice none 0 0] 28 (0,0))
 r3:W.heap[B0+3]?=some (.cells #[.int .i64 0] 3 (0,0))
 r4:W.heap[B0+4]?=some (.cells #[.int .i64 0] 36 (0,0))
 rT:W.heap[TB]?=some (.cells #[.pointer (some ⟨b,0,none⟩)] 80 (0,0))
 rS:W.heap[SB]?=some (.cells #[sv_] 153 (0,0))
 kx:qZ (fun q=>q<w2) w3 W
theorem PutI.ck {K:K3} {l:List Stp} {S:Sto} {x:It} {B0 lo b g UB TB SB w2:Nat} {w3:World} {xv sv_:Value} {pre:List Nat} {w W:World} (h:PutI K l S x B0 lo b g UB TB SB w2 w3 xv sv_ pre w) (hk:Qf w W):PutI K l S x B0 lo b g UB TB SB w2 w3 xv sv_ pre W:=by obtain⟨ups,S',k',D',Au,cu,cO,h1,h2,h3,h4,h5,h6,h7,h8,h9,h10⟩:=h.ex;exact⟨⟨ups,S',k',D',Au,cu,cO,h1,h2,h3,h4,h5,h6,fun p hp=>⟨(h7 p hp).1,(h7 p hp).2.ck hk⟩,hk.row h8,Vv h9 hk,h10.ck hk⟩,hk.row h.rx,hk.row h.r2,hk.row h.r3,hk.row h.r4,hk.row h.rT,hk.row h.rS,h.kx.trans (qZ.of_ck _ hk) fun _ _ h=>h⟩
theorem VZ {S S':Sto} {lvl:Int} {l held up:List It} (hl:∀ x∈l,jq x) (hh:∀ x∈held,(x.r=0\/8<=x.r)/\x.r<256) (hS:qm S=true) (e:QZ S lvl l held=.ok (up,S')):qm S'=true/\(0<up.length/\up.length<=2)/\∀ y∈up,jq y/\(8<=y.r/\y.r<256)/\y.val=[]:=by
 unfold QZ at e;split at e
 ·cases e
 ·rename_i up1 S1 e1;split at e
  ·cases e
  ·rename_i t e2;cases e;obtain⟨h1,h2,h3⟩:=qaS (qdF hl) hS e1;refine⟨Yd h1 (Jp (fun a ha=>by obtain⟨x,hx,rfl⟩:=List.mem_map.1 ha;have:=hh x hx;omega) (qY.1 h1).2.1 e2),?_,fun y hy=>?_⟩
   ·rw[h2];unfold Vf;split <;> simp
   ·obtain⟨⟨f,k1,k8,k9⟩,k2,p,hp,k3⟩:=h3 y hy;have:=key0_ok (qdF hl p hp);rw[<-k3] at this;obtain⟨a1,a2,a3⟩:=this;exact⟨⟨a1,a2,a3,by rw[k1];omega,by rw[k2];simp⟩,zO,k2⟩
theorem qeL {k:K3} {ps:List Stp} {j:Nat} {up:List It} {S:Sto} {e:Int} (h:ju k (ps.take j) up S=.error e):ju k ps up S=.error e:=by have:ps=ps.take j++ps.drop j:=(List.take_append_drop _ _).symm;rw[this,ky,h]
theorem Vj {W C:World} {U E:Nat} {u v u0 v0:Value} {wW mi:TypeId} (hU:W.heap[U]?=some (.cells #[u0] wW (0,0))) (hE:W.heap[E]?=some (.cells #[v0] mi (0,0))) (aN:U≠E) (hC:C=(W.setCell ⟨U,0,none⟩ u).setCell ⟨E,0,none⟩ v):C.heap[U]?=some (.cells #[u] wW (0,0))/\C.heap[E]?=some (.cells #[v] mi (0,0))/\(∀ k,k≠U->k≠E->C.heap[k]?=W.heap[k]?)/\C.heap.size=W.heap.size/\KeepsOthers W C/\∀ {B:Nat} {w0:World},B<=U->B<=E->Below B w0 W->Below B w0 C:=by
 subst hC;have hs:=fun (A:World) (b j:Nat) (v:Value) (k:Nat) (hk:k≠b)=>zJ A ⟨b,j,none⟩ v k hk;refine⟨?_,?_,fun k h1 h2=>?_,zA3,(KeepsOthers.setCell _ _ _).trans (KeepsOthers.setCell _ _ _),fun h1 h2 h=>Below.setCell (Below.setCell h (p:=⟨U,0,none⟩) h1 _) (p:=⟨E,0,none⟩) h2 _⟩
 ·rw[hs _ _ _ _ _ aN];exact qi hU 0 u
 ·refine qi (t:=mi) (cs:=#[v0]) ?_ 0 v;rw[hs _ _ _ _ _ (fun e=>aN e.symm)];exact hE
 ·rw[hs _ _ _ _ _ h2,hs _ _ _ _ _ h1]
def qaX (lo:Nat) (S:Sto):qS:=⟨(Nat×Nat)×(Option Addr×Nat)×(Option Addr×Nat),fun p=>Qe (some ⟨p.1.1,0,none⟩) S.bs.length S.bs.length (some ⟨p.1.2,0,none⟩) S.ws.length (S.ws.length+1) p.2.1.1 S.now.length p.2.1.2 p.2.2.1 S.last.length p.2.2.2,fun p W=>QF lo S (Qe (some ⟨p.1.1,0,none⟩) S.bs.length S.bs.length (some ⟨p.1.2,0,none⟩) S.ws.length (S.ws.length+1) p.2.1.1 S.now.length p.2.1.2 p.2.2.1 S.last.length p.2.2.2) W⟩
theorem Qm (lo:Nat) (S:Sto) (b c:Nat) (A3:Option Addr) (c3:Nat) (A4:Option Addr) (c4:Nat):(qaX lo S).f ((b,c),(A3,c3),(A4,c4))=Qe (some ⟨b,0,none⟩) S.bs.length S.bs.length (some ⟨c,0,none⟩) S.ws.length (S.ws.length+1) A3 S.now.length c3 A4 S.last.length c4:=rfl
structure PutD (q:Except Int (List It×Sto)) (B0 lo b g UB TB D:Nat) (w W:World):Prop where
 ex:∃ (ups:List It) (S':Sto) (k':Option Nat) (D':Nat->Prop) (Au:Option Addr) (cu:Nat) (cO:List (It×Value)),q=.ok (ups,S')/\qm S'=true/\0<ups.length/\cO.map (·.1)=ups /\
  W.heap[UB]?=some (.cells #[.slice Au ups.length cu] 47 (0,0))/\W.ownsRow 0 68 5 (.slice Au ups.length cu) ups.length (qO cO)/\Bch D' B0 lo b g k' S' W/\∀ y∈ups,(y.r=0\/8<=y.r)/\y.r<256
 r2:W.heap[B0+2]?=some (.cells #[.slice none 0 0,.slice none 0 0,.slice none 0 0,.slice none 0 0] 28 (0,0))
 r3:W.heap[B0+3]?=some (.cells #[.int .i64 0] 3 (0,0))
 r4:W.heap[B0+4]?=some (.cells #[.int .i64 0] 36 (0,0))
 rT:W.heap[TB]?=some (.cells #[.pointer (some ⟨b,0,none⟩)] 80 (0,0))
 hK:W.heap[D]?=some (.deferred (some []))
 below:Below B0 w W
theorem Bch.kept {D:Nat->Prop} {B lo b g:Nat} {k:Option Nat} {S:Sto} {w W:World} (h:Bch D B lo b g k S w) (hB:Below B w W) (hr:∀ q,lo<=q->q<w.heap.size->W.heap[q]?=w.heap[q]?):Bch D B lo b g k S W:=
 h.keep hB fun q hq=>hq.elim (fun h2=>hr q (h.b3 q h2).1 (h.b3 q h2).2) fun h2=>hr q (h.dB q h2).1 (h.dB q h2).2.1
end Go.Proofs.YtpbniokljofedaaGreat
