/- Texts PutS, MayE, Build, Leave0, PAsk, PutW, BackS, joined. -/
import Derived.Test.YtpbniokljofedaaGreatZI21
set_option linter.unusedSimpArgs false
set_option linter.unusedVariables false
set_option maxHeartbeats 8000000
open Go.Proofs.Tryz
namespace Go.Proofs.YtpbniokljofedaaGreat
open Go.RowKit
theorem ZP {t:List UInt8} {a:Nat} (h:QB t=true) (ha:8<=a) (v:UInt8):QB (t.set a v)=true:=by unfold QB at *;simp only[Bool.and_eq_true,decide_eq_true_eq] at *;refine⟨by rw[List.length_set];exact h.1,?_⟩;rw[List.take_set_of_le ha];exact h.2
theorem qZ {S:Sto}:qo S=true↔jd S.bs S.ws=true/\QB S.now=true/\QB S.last=true:=by unfold qo;simp[Bool.and_eq_true]
theorem may_now {S:Sto} (h:qo S=true) {a:Nat} (ha:8<=a) (v:UInt8):qo (qu S (S.now.set a v))=true:=by obtain⟨h1,h2,h3⟩:=qZ.1 h;exact qZ.2 ⟨h1,ZP h2 ha v,h3⟩
theorem may_put {S:Sto} (h:qo S=true) {a:Nat} (ha:8<=a) (bK:a<256) {l:List UInt8} (hl:l.length=128) (hw:S.ws.length≠4096):qo (KX S a l)=true:=by obtain⟨h1,h2,h3⟩:=qZ.1 h;refine qZ.2 ⟨?_,ZP h2 ha 1,h3⟩;unfold jd headD at *;simp only[Bool.and_eq_true,decide_eq_true_eq,KX,List.length_append,List.length_singleton,List.all_append,List.all_cons,List.all_nil,Bool.and_true] at *;obtain⟨⟨g1,g2⟩,g3,g4⟩:=h1;refine⟨⟨g1,zO⟩,g3,g4,?_⟩;unfold wrOk;exact decide_eq_true ⟨zA3,zA2,hl⟩
theorem qau {S:Sto} (h:¬Zj S=[]):QO S<256:=by
 have hKG:QO S∈jA S 256:=by
  show QO S∈Zj S;unfold QO;rcases hf:Zj S with _|⟨x,r⟩
  ·exact absurd hf h
  ·simp
 simpa using (List.mem_filter.1 hKG).1
theorem qac {t:List UInt8} (h:QB t=true):t.length=256:=by unfold QB at h;simp only[Bool.and_eq_true,decide_eq_true_eq] at h;exact h.1
theorem qep {t:List UInt8} (h:QB t=true):qT t 0=0:=by
 have hl:=qac h;unfold QB at h;simp only[Bool.and_eq_true] at h;rcases t with _|⟨x,r⟩
 ·simp at hl
 ·have:=h.2;simp[kz] at this;simp[qT,this.1]
theorem qfL {t t':List UInt8} {a:Nat} (ha:a=0\/8<=a) (h:QB t=true) (e:Jr t a=.ok t'):QB t'=true:=by
 unfold Jr at e;split at e
 ·cases e;exact h
 ·split at e
  ·cases e
  ·split at e
   ·cases e
   ·cases e;exact ZP h zO _
theorem GX:∀ {l:List Nat} {t t':List UInt8},(∀ a∈l,a=0\/8<=a)->QB t=true->ZF l t=.ok t'->QB t'=true
 | [],t,t',_,h,e=>by cases e;exact h
 |a :: l,t,t',hl,h,e=>by
  simp only[ZF] at e;split at e
  ·cases e
  ·rename_i t1 e1;exact GX (fun b hb=>hl b (List.mem_cons_of_mem _ hb)) (qfL (hl a List.mem_cons_self) h e1) e
theorem Jp:∀ {l:List Nat} {t t':List UInt8},(∀ a∈l,a=0\/8<=a)->QB t=true->QG l t=.ok t'->QB t'=true
 | [],t,t',_,h,e=>by cases e;exact h
 |a :: l,t,t',hl,h,e=>by
  by_cases ha:a=0
  ·subst ha;rw[jV] at e;exact Jp (fun b hb=>hl b (List.mem_cons_of_mem _ hb)) h e
  ·by_cases h0:qT t a=0
   ·rw[Jo ha h0] at e;cases e
   ·rw[jU ha h0] at e;exact Jp (fun b hb=>hl b (List.mem_cons_of_mem _ hb)) (ZP h (by have:=hl a List.mem_cons_self;omega) _) e
theorem qgw {its:List It} (h:∀ x∈its,itB x.r x.val.length=true):∀ a∈qX its,(a=0\/8<=a)/\a<256:=fun a ha=>by obtain⟨x,hx,rfl⟩:=List.mem_map.1 ha;have:=h x hx;unfold itB at this;simp only[decide_eq_true_eq] at this;omega
theorem Yp {S:Sto} {a:Nat} {lvl:Int} {xs:List It} (h:qv S a=some (lvl,xs)):∀ r∈qX xs,(r=0\/8<=r)/\r<256:=qgw fun x hx=>((Qc h).2.1 x hx).2
theorem qdI {S S':Sto} {lvl:Int} {its:List It} {f:Nat} (hS:qo S=true) (h:zh S lvl its=.ok (f,S')):∃ t,Qe lvl its=true/\ZF (qX its) S.now=.ok t/\S.ws.length≠4096/\8<=f/\f<256/\ZK (qu S t) f=true/\S'=KX (qu S t) f (jf (zX lvl its))/\QB t=true:=by
 unfold zh at h;split at h
 ·rename_i hm;split at h
  ·cases h
  ·rename_i t ht;split at h
   ·cases h
   ·rename_i hn;cases h;have h1:Zj (qu S t)≠[]:=fun e=>hn (.inl e);have hKG:QO (qu S t)∈Zj (qu S t):=by
     unfold QO;cases e:Zj (qu S t) with
     |nil=>exact absurd e h1
     |cons a l=>exact List.mem_cons_self
    have hfb:ZK (qu S t) (QO (qu S t))=true:=by have:=List.mem_filter.1 (show QO (qu S t)∈(List.range 256).filter (ZK (qu S t)) from hKG);exact this.2
    have h8:8<=QO (qu S t):=by unfold ZK at hfb;simp only[Bool.and_eq_true,decide_eq_true_eq] at hfb;exact hfb.1
    exact⟨t,hm,ht,fun e=>hn (.inr e),h8,qau h1,hfb,rfl,GX (fun a ha=>(qgw (jG hm).2.2.2 a ha).1) (qZ.1 hS).2.1 ht⟩
 ·cases h
theorem vB {S S':Sto} {lvl:Int} {its:List It} {f:Nat} (mJ:∀ x∈its,jq x) (hS:qo S=true) (h:zh S lvl its=.ok (f,S')):qo S'=true/\8<=f/\f<256/\S'.ws.length<=4096:=by obtain⟨t,hm,ht,hw,h8,hf,hfb,rfl,htm⟩:=qdI hS h;have hl:(jf (zX lvl its)).length=128:=vD (by have:=Ki lvl its.length its.length mJ (jG hm).2.2.1;rw[Kh] at this;omega);have h1:=may_put (S:=qu S t) (qZ.2 ⟨(qZ.1 hS).1,htm,(qZ.1 hS).2.2⟩) h8 hf hl hw;exact⟨h1,h8,hf,(qQ h1).2.1⟩
theorem Yo {S:Sto} (hS:qo S=true) {t:List UInt8} (ht:QB t=true):qo (qu S t)=true:=qZ.2 ⟨(qZ.1 hS).1,ht,(qZ.1 hS).2.2⟩
theorem Gq {S:Sto}:∀ (h:Nat) {lvl:Int} {t t':List UInt8} {a:Nat},(8<=a\/qT t a=0)->QB t=true->vJ S h lvl t a=some t'->QB t'=true
 |0,lvl,t,t',a,_,_,e=>by cases e
 |h+1,lvl,t,t',a,ha,ht,e=>by
  rw[Vf] at e;split at e
  ·cases e
  ·rename_i h0;have ha8:8<=a:=zO;split at e
   ·cases e;exact ZP ht ha8 _
   ·split at e
    ·cases e
    ·rename_i l xs hn;have hr:=Yp hn;have ht0:=ZP ht ha8 0;split at e
     ·cases e
     ·split at e
      ·have key:∀ (rs:List Nat),(∀ r∈rs,(r=0\/8<=r)/\r<256)->∀ (o:Option (List UInt8)),(∀ u,o=some u->QB u=true)->rs.foldl (fun acc r=>acc.bind fun t=>vJ S h (l-1) t r) o=some t'->QB t'=true:=by
        intro rs;induction rs with
        |nil=>intro _ o ho e;exact ho _ e
        |cons r rs ih =>
         intro hrs o ho e;rw[List.foldl_cons] at e;refine ih (fun q hq=>hrs q (List.mem_cons_of_mem _ hq)) _ (fun u hu=>?_) e;cases o with
         |none=>cases hu
         |some t1 =>
          have h1:=ho t1 rfl;refine Gq h (a:=r) ?_ h1 hu;rcases(hrs r List.mem_cons_self).1 with rfl|h8
          ·right;exact qep h1
          ·exact .inl h8
       exact key _ hr _ (fun u hu=>by cases hu;exact ht0) e
      ·split at e
       ·cases e
       ·rename_i t1 e1;cases e;exact Jp (fun a ha=>(hr a ha).1) ht0 e1
theorem kO {S:Sto} {lvl:Int} {t t':List UInt8} {a:Nat} (ha:8<=a) (ht:QB t=true) (e:Qz S lvl t a=some t'):QB t'=true:=Gq 7 (.inl ha) ht e
theorem qbf {lvl:Int}:∀ {ps:List (List It)} {S S':Sto} {up:List It},(∀ p∈ps,∀ x∈p,jq x)->qo S=true->jw lvl ps S=.ok (up,S')->qo S'=true/\up.length=ps.length/\∀ y∈up,(∃ f:Nat,y.r=(f:Int)/\8<=f/\f<256)/\y.val=[]/\∃ p∈ps,qE y=Tw p
 | [],S,S',up,_,hS,e=>by cases e;exact⟨hS,rfl,fun y hy=>by cases hy⟩
 |p :: ps,S,S',up,hp,hS,e=>by
  simp only[jw] at e;split at e
  ·cases e
  ·rename_i f S1 e1;obtain⟨h1,h8,hf,_⟩:=vB (hp p List.mem_cons_self) hS e1;split at e
   ·cases e
   ·rename_i up1 S2 e2;cases e;obtain⟨g1,g2,g3⟩:=qbf (fun q hq=>hp q (List.mem_cons_of_mem _ hq)) h1 e2;refine⟨g1,by simp[g2],fun y hy=>?_⟩;rcases List.mem_cons.1 hy with rfl|hy
    ·exact⟨⟨f,rfl,h8,hf⟩,rfl,p,List.mem_cons_self,rfl⟩
    ·obtain⟨k1,k2,q,hq,k3⟩:=g3 y hy;exact⟨k1,k2,q,List.mem_cons_of_mem _ hq,k3⟩
theorem qdX {l:List It} (h:∀ x∈l,jq x):∀ p∈Vi l,∀ x∈p,jq x:=fun p hp x hx=>by
 unfold Vi at hp;split at hp
 ·simp only[List.mem_cons,List.not_mem_nil,or_false] at hp;rcases hp with rfl|rfl
  ·exact h x (List.mem_of_mem_take hx)
  ·exact h x (List.mem_of_mem_drop hx)
 ·simp only[List.mem_cons,List.not_mem_nil,or_false] at hp;subst hp;exact h x hx
theorem key0_ok {p:List It} (h:∀ x∈p,jq x):(0<=(Tw p).1/\(Tw p).1<256)/\(0<=(Tw p).2.1/\(Tw p).2.1<4294967296)/\(0<=(Tw p).2.2/\(Tw p).2.2<4294967296):=by
 cases p with
 |nil=>exact⟨⟨zA1,zA1⟩,⟨zA1,zA1⟩,zA1,zA1⟩
 |cons x r =>
  obtain⟨h1,h2,h3,_⟩:=h x List.mem_cons_self;exact⟨h1,h2,h3⟩
def Ky (D:Nat->Prop) (B lo b g:Nat) (k:Option Nat) (S:Sto) (lvl:Int) (l held:List It) (w:World) (e:Ending) (W:World):Prop:=qY lo b g k w W /\
 match QZ S lvl l held with
 | .error er=>e=.returned (.tuple #[.slice none 0 0,.int .i64 er])
 | .ok (up,S')=>∃ k' D' A c,e=.returned (.tuple #[.slice A up.length c,.int .i64 0])/\Zf w.heap.size k k'/\Ks w.heap.size D D'/\Bch D' B lo b g k' S' W/\qo S'=true/\W.ownsRow w.heap.size 68 5 (.slice A up.length c) up.length (qP (upV up))/\∀ q,(Value.slice A up.length c).ownBlock=some q->¬D' q
theorem Ky.bad {D:Nat->Prop} {B lo b g:Nat} {k:Option Nat} {S:Sto} {lvl:Int} {l held:List It} {w W:World} {er:Int} (h:QZ S lvl l held=.error er) (hB:qY lo b g k w W):Ky D B lo b g k S lvl l held w (.returned (.tuple #[.slice none 0 0,.int .i64 er])) W:=by refine⟨hB,?_⟩;rw[h]
structure BdI (D:Nat->Prop) (B lo b g:Nat) (k:Option Nat) (S:Sto) (lvl:Int) (ps:List (List It)) (P:Nat) (pv:List Value) (w:World) (v i:Value) (wr:World):Prop where
 ex:∃ (j:Nat) (ups:List It) (S':Sto) (k':Option Nat) (D':Nat->Prop) (Av:Option Addr) (cv:Nat),j<=ps.length/\i=.int .i64 (j:Int)/\v=.slice Av j cv/\ups.length=j/\jw lvl (ps.take j) S=.ok (ups,S')/\qo S'=true/\Zf w.heap.size k k'/\Ks w.heap.size D D'/\Bch D' B lo b g k' S' wr/\qY lo b g k w wr /\
  wr.ownsRow w.heap.size 68 5 (.slice Av j cv) j (qP (upV ups))/\(∀ q,(Value.slice Av j cv).ownBlock=some q->¬D' q/\P<q)/\wr.heap[P]?=some (.cells pv.toArray 47 (0,0))/\P<wr.heap.size
structure HdI (D:Nat->Prop) (B lo b g:Nat) (k:Option Nat) (S:Sto) (held:List It) (vu:Value) (wm:World) (v i:Value) (wr:World):Prop where
 ex:∃ (j:Nat) (t:List UInt8),v=vu/\j<=held.length/\i=.int .i64 (j:Int)/\QG (qX (held.take j)) S.now=.ok t/\Bch D B lo b g k (qu S t) wr/\qY lo b g k wm wr
theorem Tr {R:Ending->World->Prop} {a:Act} {W:World} {u v:Value} (h8:a.tmps[8]?.getD undef=u) (h9:a.tmps[9]?.getD undef=v) (hd:a.defers=[]) (hR:R (.returned (.tuple #[u,v])) W):bodyPost prog Tryz.f103 R .ret a W:=by refine bodyPost_ret (v:=.tuple #[u,v]) ?_ hd hR;simp[results,results103,go_sem,h8,h9]
set_option maxRecDepth 100000 in
theorem qaU (D:Nat->Prop) (B lo b g:Nat) (k:Option Nat) (S:Sto) (hS:qo S=true) (lvl:Int) (A:Option Addr) (n c:Nat) (its:List It) (mJ:∀ x∈its,jq x) (hn0:0<its.length) (oQ:its.length<=100) (loh:Nat) (vh:Value) (cZ:List (It×Value)) (held:List It) (rZ:cZ.map (·.1)=held) (hh1:∀ p∈cZ,∃ A c,p.2=.slice A p.1.val.length c) (hhr:∀ x∈held,(x.r=0\/8<=x.r)/\x.r<256) (hhl:held.length<=100) (w:World) (h:Bch D B lo b g k S w) (hx:JZ (B3 b g k) w (.slice A n c) its) (hho:w.ownsRow loh 68 5 vh held.length (qP cZ)):Calls prog 103 #[.pointer (some ⟨b,0,none⟩),.int .i64 lvl,.slice A n c,vh] w (Ky D B lo b g k S lvl its held w):=by
 obtain⟨ik,hzb,uo,hzg,rY,uq,wX⟩:=h.size;obtain⟨ny,fP,eG,hA⟩:=hx.now.at_;subst ny;obtain⟨bi,off,rfl,hbi⟩:=hA zO;obtain⟨Ah,ch,rfl,hcc1,hcc2⟩:=qy hho;clear hA wX;replace h:=zH h;replace hx:=zH hx;replace mJ:=zH mJ;replace eG:=zH eG;replace hcc2:=zH hcc2;replace hho:=zH hho;rcases Nat.lt_or_ge 5 its.length with h5|h5
 case' inl =>
  have hpo:=zH (show Vi its=[its.take 3,its.drop 3] by unfold Vi;exact if_pos h5);have e5:decide ((5:Int)<(its.length:Int))=true:=decide_eq_true zO;go_enter func103,ntmps103;go_upto_region 3 with fail;generalize hw0:World.alloc _ _=w0;have x0:Ext w w0:=by rw[<-hw0];exact zN _ _
  have z0:w.heap.size<w0.heap.size:=by rw[<-hw0];simp
  clear hw0;refine qm zQ ?_;refine qL (w:=w0) qk (qD []) (List.replicate 4 true) 2 zQ zQ zQ zQ zQ zQ zQ ?st (Rel.drew _ _) ?walk
  case' st=>exact qj (fun _ h=>by cases h)
  case' walk =>
   intro K hK;dsimp only[qp,List.replicate];repeat ((first|(refine qd ?_ zA0 zA0 (fun W hW _=>⟨W,?_,Rel.refl _ W⟩) ?_;rotate_left;(go_simp<;>with_reducible rfl))|(refine qh zA0 ?_));try simp only[Act.put,ql,qf,qc,qg,qc,qO,zA,zB,zC])
   refine qd (.slice (some ⟨bi,off,none⟩) 3 c) zA0 zA0 (fun W hW _=>⟨W,?_,Rel.refl _ W⟩) ?_
   ·go_simp;intro sO;exfalso;omega
   simp only[Act.put,qf,qc,qg,qc,qO,zA,zB,zC];repeat ((first|(refine qd ?_ zA0 zA0 (fun W hW _=>⟨W,?_,Rel.refl _ W⟩) ?_;rotate_left;(go_simp<;>with_reducible rfl))|(refine qh zA0 ?_));try simp only[Act.put,ql,qf,qc,qg,qc,qO,zA,zB,zC])
   refine qd (.slice (some ⟨bi,off+3*5,none⟩) (its.length-3) (c-3)) zA0 zA0 (fun W hW _=>⟨W,?_,Rel.refl _ W⟩) ?_
   ·go_simp;rw[if_pos zO,if_neg zO]
   simp only[Act.put,qf,qc,qg,qc,qO,zA,zB,zC];repeat ((first|(refine qd ?_ zA0 zA0 (fun W hW _=>⟨W,?_,Rel.refl _ W⟩) ?_;rotate_left;(go_simp<;>with_reducible rfl))|(refine qh zA0 ?_));try simp only[Act.put,ql,qf,qc,qg,qc,qO,zA,zB,zC])
   refine qt (hK _ _ fun W hW hF=>?_);clear hF hK;have hW:Ext w0 W:=hW;refine zC3 ?_;go_wp2;refine Qm ?_;go_wp2_with fail;have x1:Ext w (W.alloc (.cells #[.slice (some ⟨bi,off,none⟩) 3 c,.slice (some ⟨bi,off+15,none⟩) (its.length-3) (c-3)] 47)):=(x0.trans hW).trans (zN _ _);have zP0:w.heap.size<=W.heap.size:=(x0.trans hW).size;obtain⟨ps,wz⟩:∃ ps,ps=[its.take 3,its.drop 3]:=⟨_,rfl⟩
   obtain⟨pv,tV⟩:∃ pv:List Value,pv=[.slice (some ⟨bi,off,none⟩) 3 c,.slice (some ⟨bi,off+15,none⟩) (its.length-3) (c-3)]:=⟨_,rfl⟩
   have bU:ps.length=2:=by rw[wz];rfl
   have hel:Hid (∀ j (hj:j<ps.length),∃ bj oj cj,pv[j]?=some (.slice (some ⟨bj,oj,none⟩) ps[j].length cj)/\JZ (B3 b g k) w (.slice (some ⟨bj,oj,none⟩) ps[j].length cj) ps[j]/\0<ps[j].length/\∀ x∈ps[j],jq x):=zH fun j hj=>by
    have e3:(its.take 3).length=3:=by rw[List.length_take];omega
    rcases j with _|_|j
    ·subst wz tV;refine⟨bi,off,c,?_,?_,?_,fun x hxm=>mJ.out x (List.mem_of_mem_take hxm)⟩
     ·simp only[List.getElem_cons_zero,e3];rfl
     ·simp only[List.getElem_cons_zero,e3];exact hx.out.take zO
     ·simp only[List.getElem_cons_zero,e3];omega
    ·subst wz tV;refine⟨bi,off+15,c-3,?_,?_,?_,fun x hxm=>mJ.out x (List.mem_of_mem_drop hxm)⟩
     ·simp only[List.getElem_cons_succ,List.getElem_cons_zero,List.length_drop];rfl
     ·simp only[List.getElem_cons_succ,List.getElem_cons_zero,List.length_drop];exact hx.out.drop (k:=3) zO
     ·simp only[List.getElem_cons_succ,List.getElem_cons_zero,List.length_drop];omega
    ·omega
   have hPr:(W.alloc (.cells #[.slice (some ⟨bi,off,none⟩) 3 c,.slice (some ⟨bi,off+15,none⟩) (its.length-3) (c-3)] 47)).heap[W.heap.size]?=some (.cells pv.toArray 47 (0,0)):=by rw[tV];exact zI _ _ _ rfl
   have hKR:=zH (hpo.out.trans wz.symm);clear wz tV hpo h5 e5 x0 z0 hW;generalize World.alloc W _=w1 at *;generalize W.heap.size=P at *;generalize Value.slice (some ⟨bi,off+15,none⟩) (its.length-3) (c-3)=v26;generalize Value.slice (some ⟨bi,off,none⟩) 3 c=v24;generalize Value.slice (some ⟨w.heap.size,0,none⟩) 1 1=v19
 case' inr =>
  have hpo:=zH (show Vi its=[its] by unfold Vi;exact if_neg zO);have e5:decide ((5:Int)<(its.length:Int))=false:=decide_eq_false zO;go_enter func103,ntmps103;go_wp2_with fail;have x1:Ext w (w.alloc (.cells #[.slice (some ⟨bi,off,none⟩) its.length c] 47)):=zN _ _;obtain⟨ps,wz⟩:∃ ps,ps=[its]:=⟨_,rfl⟩
  obtain⟨pv,tV⟩:∃ pv:List Value,pv=[.slice (some ⟨bi,off,none⟩) its.length c]:=⟨_,rfl⟩
  have bU:ps.length=1:=by rw[wz];rfl
  have hel:Hid (∀ j (hj:j<ps.length),∃ bj oj cj,pv[j]?=some (.slice (some ⟨bj,oj,none⟩) ps[j].length cj)/\JZ (B3 b g k) w (.slice (some ⟨bj,oj,none⟩) ps[j].length cj) ps[j]/\0<ps[j].length/\∀ x∈ps[j],jq x):=zH fun j hj=>by
   rcases j with _|j
   ·subst wz tV;exact⟨bi,off,c,rfl,hx.out,hn0,mJ.out⟩
   ·omega
  have hPr:(w.alloc (.cells #[.slice (some ⟨bi,off,none⟩) its.length c] 47)).heap[w.heap.size]?=some (.cells pv.toArray 47 (0,0)):=by rw[tV];exact zI _ _ _ rfl
  have hKR:=zH (hpo.out.trans wz.symm);obtain⟨P,hPP⟩:∃ P,P=w.heap.size:=⟨_,rfl⟩
  rw[<-hPP] at hPr;clear wz tV hpo h5 e5;generalize World.alloc w _=w1 at *;have zP0:w.heap.size<=P:=zO;simp only[<-hPP];clear hPP
 all_goals
  clear hx mJ hbi fP eG;go_loopw [8,30] (fun v i wr=>BdI D B lo b g k S lvl ps P pv w v i wr) (fun _ i _=>ps.length-(intOf i).toNat)
  case atStart=>exact⟨0,[],S,k,D,none,0,Nat.zero_le _,rfl,rfl,rfl,rfl,hS,Zf.refl _ _,Ks.refl _ _,h.out.ext x1,qY.of_ext x1 uq,World.ownsRow_nil _ _ _ _,(fun q hq=>by cases hq),hPr,(zG.1 hPr).1⟩
  case round =>
   obtain⟨j,ups,S',k',D',Av,cv,hj,rfl,rfl,lZ,ut,rX,yQ,hND,bg,lI,aB,hoD,hPw,hPz⟩:=hrel.ex;clear hrel hPr;have xI:=(qQ rX).2.1;by_cases hlt:j<ps.length
   ·obtain⟨bj,oj,cj,hpvj,hxj,eH,hJS⟩:=hel.out j hlt;have kP:wr.cell? ⟨P,j,none⟩=some (.slice (some ⟨bj,oj,none⟩) ps[j].length cj):=by rw[qa hPw];simpa using hpvj
    have nP:=hxj.trans lI.keepX (B3.of_new yQ);have HM:=zH (Tq D' B lo b g k' S' lvl (some ⟨bj,oj,none⟩) ps[j].length cj ps[j] hJS xI wr bg nP);have ah:=zH (fun e h1=>qhj hlt (e:=e) ut h1);have ae:=zH (fun f S'' h1=>qfs hlt (f:=f) (S'':=S'') ut h1);have hmay:=zH (fun f S'' (h1:zh S' lvl ps[j]=.ok (f,S''))=>(vB hJS rX h1).1);have nP:=zH nP;have d1:∀ M:Int,M=(ps.length:Int)->decide ((j:Int)<M)=true:=fun M hM=>decide_eq_true zO;have d3:∀ M:Nat,M=ps.length->j<M:=fun M hM=>zO
    first
     |(have d2:=d1 2 (by rw[bU];rfl);have hjn:=d3 2 bU.symm)
     |(have d2:=d1 1 (by rw[bU];rfl);have hjn:=d3 1 bU.symm)
    have hj1:=zH (IntWalk.wrap64_in ((j:Int)+1) zO);replace bU:=zH bU;generalize ps[j]=p at *;generalize hnj:p.length=nj at *;replace hnj:=zH hnj;clear hpvj hJS hxj d1 d3 ut rX xI;go_wp2_with fail;refine HM.out.mono ?_;clear HM;rintro e wM ⟨hkM,aQ⟩;have zwr:=lI.below.size;have zM:=hkM.below.size;have nB:∀ {q cs ty fr},wr.heap[q]?=some (.cells cs ty fr)->ty≠191->ty≠5->ty≠130->¬B3 b g k' q:=fun hr h1 h2 h3=>bg.notB3 hr h1 h2 h3;have wu:=hkM.own aB (fun q hq=>by obtain⟨cur,hc⟩:=Zl aB hq;exact nB hc zA1 zA1 zA1);have hPM:=hkM.row hPw (nB hPw zA1 zA1 zA1);have oL:=lI.trans hkM yQ;rcases hmx:zh S' lvl p with er|⟨f,S''⟩
    ·rw[hmx] at aQ;have hq:=zH (show QZ S lvl its held=.error er by unfold QZ;rw[hKR.out,ah.out er hmx]);have aN:(er != 0)=true:=by rw[bne_iff_ne];exact Yn hmx
     have aQ:e=.returned (.tuple #[.int .i64 0,.int .i64 er]):=aQ;subst aQ;clear ae hmay ah hmx wu hPM aB hPw hoD nB bg hkM hel kP;replace oL:=zH oL;go_wp2_with fail;exact Tr rfl rfl rfl (Ky.bad hq.out oL.out)
    ·rw[hmx] at aQ;obtain⟨rfl,k'',D'',xg,hD2,bI⟩:e=.returned (.tuple #[.int .i64 (f:Int),.int .i64 0])/\∃ k'' D'',Zf wr.heap.size k' k''/\Ks wr.heap.size D' D''/\Bch D'' B lo b g k'' S'' wM:=aQ;have hml2:=ae.out f S'' hmx;have hS2:=hmay.out f S'' hmx;obtain⟨A',c',g0,g1,g2,-,-,-⟩:=((nP.out.trans hkM.keepX (B3.of_new xg)).now).item 0 (by rw[hnj.out];exact eH);have pX:Tw p=((p[0]'(by rw[hnj.out];exact eH)).k,(p[0]'(by rw[hnj.out];exact eH)).i,(p[0]'(by rw[hnj.out];exact eH)).o):=by
      have h0:0<p.length:=by rw[hnj.out];exact eH
      rcases p with _|⟨y,r⟩
      ·simp at h0
      ·rfl
     generalize p[0]'(by rw[hnj.out];exact eH)=y at *;simp only[Nat.zero_mul,Nat.add_zero] at g0 g1 g2;have hN':Zf w.heap.size k k'':=yQ.trans xg zO;have hDn':Ks w.heap.size D D'':=hND.trans hD2 zO;have hoq:∀ q,(Value.slice Av j cv).ownBlock=some q->w.heap.size<=q/\q<wr.heap.size:=fun q hq=>Ql aB q hq;have aI:∀ (v':Value) (W:World),W.ownsRow w.heap.size 68 5 v' (j+1) (qP (upV ups)++[.int .u8 y.k,.int .u32 y.i,.int .u32 y.o,.int .i64 (f:Int),.slice none 0 0])->wM.grownBy W (Value.slice Av j cv).ownBlock->Below w.heap.size wM W->(v'.ownBlock=(Value.slice Av j cv).ownBlock\/∃ g,v'.ownBlock=some g/\wM.heap.size<=g) ->
       BdI D B lo b g k S lvl ps P pv w v' (.int .i64 ((j:Int)+1)) W:=fun v' W aW hg hB dQ=>by
      obtain⟨A7,c7,rfl,-,-⟩:=qy aW;have aC:∀ q,q<wM.heap.size->¬OwnX (.slice Av j cv) q->W.heap[q]?=wM.heap[q]?:=fun q hq hX=>hg.block q hq fun e=>hX e.symm;have cO:=bI.blo;have hzW:=hg.size;have hDq:∀ q,(Value.slice Av j cv).ownBlock=some q->¬D'' q:=fun q hq hd=>(hD2 q hd).elim (fun h1=>(hoD q hq).1 h1) fun h1=>by have:=(hoq q hq).2;omega
      refine⟨j+1,ups++[mkIt (Tw p) f],S'',k'',D'',A7,c7,zO,rfl,rfl,by simp[lZ],hml2,hS2,hN',hDn',?_,?_,?_,?_,?_,zO⟩
      ·refine bI.keepX (X:=OwnX (.slice Av j cv)) (Below.mono hB zO) aC (fun q hq hX=>?_);rcases hq with hq|hq
       ·obtain⟨cur,hc⟩:=Zl wu (show _=some q from hX);exact bI.notB3 hc zA1 zA1 zA1 hq
       ·exact hDq q hX hq
      ·refine⟨oL.below.trans (Below.mono hB uq),fun q hq hn=>(aC q zO fun hX=>?_).trans (oL.rows q hq hn)⟩;have:=(hoq q hX).1;omega
      ·rw[upV_item];have:mkIt (Tw p) f=⟨y.k,y.i,y.o,(f:Int),[]⟩:=by rw[pX];rfl
       rw[this];exact aW
      ·intro q hq;rcases dQ with e1|⟨g',e1,e2⟩
       ·rw[e1] at hq;exact⟨hDq q hq,(hoD q hq).2⟩
       ·rw[e1] at hq;obtain rfl:g'=q:=by simpa using hq
        exact⟨fun hd=>by have:=(bI.dB g' hd).2.1;omega,zO⟩
      ·refine(aC P zO fun hX=>?_).trans hPM;have:=(hoD P hX).2;omega
     replace aI:=zH aI;obtain⟨i0,hi,aY,aV,aX⟩:=info_parts Tryz.info_item;have hzz:w.heap.size<=wM.heap.size:=zO;clear ae hmay ah hmx hPM aB hPw hoD nB bg hkM hel kP hoq bI xg hD2 hml2 hS2 oL hN' hDn' pX;go_wp2_with (at_builtin;refine qI ?_);refine Qh.go (Zc wM rfl (.tmp 45) (.tmp 52) 47 rfl w.heap.size 68 i0 _ 5 48 underlying47 hi aY aV aX rfl zA1 (.slice Av j cv) j (qP (upV ups)) zE wu #[.int .u8 y.k,.int .u32 y.i,.int .u32 y.o,.int .i64 (f:Int),.slice none 0 0] zE rfl zA8 zO zA1 hzz ?_);intro v' W aW hg hB dQ;have hF:=zH (aI.out v' W aW hg hB dQ);clear aI aW hg hB dQ wu hi;go_wp2_with fail;try rw[hj1.out]
     refine⟨hF.out,?_⟩;simp[intOf];omega
   ·obtain rfl:j=ps.length:=zO;rw[List.take_length] at ut;have d1:∀ M:Int,M=(ps.length:Int)->decide (((ps.length:Nat):Int)<M)=false:=fun M hM=>decide_eq_false zO
    first
     |have d2:=d1 2 (by rw[bU];rfl)
     |have d2:=d1 1 (by rw[bU];rfl)
    replace bU:=zH bU;have hbX:Hid (QZ S lvl its held=match QG (qX held) S'.now with
     | .error e=>.error e
     | .ok t=>.ok (ups,qu S' t)):=zH (by unfold QZ;simp only[hKR.out,ut] <;> rfl)
    have hhm':=hho.out;have hEI:=lI.own hho.out (fun q hq=>by obtain⟨cur,hc⟩:=Zl hho.out hq;exact h.out.notB3 hc zA1 zA1 zA1);clear hPw hPz hel ut d1 hhm';replace lI:=zH lI;replace aB:=zH aB;replace hoD:=zH hoD;replace bg:=zH bg;generalize hwm:wr=wm at *;clear hwm;go_wp2_with fail;go_loopw [8,57] (fun v i wr=>HdI D' B lo b g k' S' held (.slice Av ps.length cv) wm v i wr) (fun _ i _=>held.length-(intOf i).toNat)
    case atStart=>exact⟨0,S'.now,rfl,Nat.zero_le _,rfl,rfl,bg.out,qY.refl _ _ _ _ _⟩
    case round =>
     obtain⟨j,t,rfl,hj,rfl,aP,pR,lV⟩:=hrel.ex;clear hrel;have hkA:=zH (lI.out.trans lV yQ);by_cases hlt:j<held.length
     ·have hlp:j<cZ.length:=by rw[<-rZ,List.length_map] at hlt;exact hlt
      have hor:=lV.own hEI (fun q hq=>by obtain⟨cur,hc⟩:=Zl hEI hq;exact bg.out.notB3 hc zA1 zA1 zA1);obtain⟨bh,offh,rfl,hbh,hch⟩:=(Rd.of_own hor).2 zO;obtain⟨g0,g1,g2,g3,g4⟩:=vz cZ j hlp;replace g0:=hch _ _ g0;replace g1:=hch _ _ g1;replace g2:=hch _ _ g2;replace g3:=hch _ _ g3;replace g4:=hch _ _ g4;rw[<-Nat.add_assoc] at g1 g2 g3 g4;obtain⟨Ax,cx,hx2⟩:=hh1 cZ[j] (List.getElem_mem hlp);have hxe:cZ[j].1=held[j]:=by simp only[<-rZ,List.getElem_map]
      rw[hx2] at g4;rw[hxe] at g0 g1 g2 g3 g4;have yX:=hhr held[j] (List.getElem_mem hlt);have ah:=zH (fun h0 h1=>Gt hlt aP h0 h1);have ae:=zH (fun h0 h1=>Ul hlt aP h0 h1);have fA:=zH (fun h0=>Um hlt aP h0);generalize held[j]=x at *;have hj1:=zH (IntWalk.wrap64_in ((j:Int)+1) zO);obtain⟨a,hra⟩:∃ a:Nat,x.r=(a:Int):=⟨x.r.toNat,zO⟩
      have ha9:a<256:=zO;have hsa:(x.r).toNat=a:=zO;rw[hra] at g3;rw[hsa] at ah ae fA;have hz:=pR.size.2.2.2.2.2.1;have HL:=zH (fun W (hW:Ext wr W)=>TQ D' B lo b g k' (qu S' t) a ha9 W (pR.ext hW));replace pR:=zH pR;replace lV:=zH lV;clear hch hx2 hxe hor hra hsa yX aP hEI hlp;rcases Nat.eq_zero_or_pos a with xh|xh
      ·subst xh;have hF:HdI D' B lo b g k' S' held (.slice Av ps.length cv) wm (.slice Av ps.length cv) (.int .i64 ((j:Int)+1)) (wr.alloc (.cells #[.int .u8 x.k,.int .u32 x.i,.int .u32 x.o,.int .i64 0,.slice Ax x.val.length cx] 68)):=⟨j+1,t,rfl,zO,rfl,fA.out rfl,pR.out.ext (zN _ _),lV.out.trans (qY.of_ext (zN _ _) hz) (Zf.refl _ _)⟩
       replace hF:=zH hF;clear ah ae fA HL;go_wp2_with fail;try rw[hj1.out]
       refine⟨hF.out,?_⟩;simp[intOf];omega
      ·have hza:((a:Int) == 0)=false:=by rw[beq_eq_false_iff_ne];omega
       replace xh:=zH xh;go_wp2_with fail;generalize iG:World.alloc _ _=wa;have xa:Ext wr wa:=by rw[<-iG];exact zN _ _
       clear iG g0 g1 g2 g3 g4;refine(HL.out wa xa).mono ?_;clear HL;rintro e wl ⟨hkl,aQ⟩;have pY:=lV.out.trans ((qY.of_ext xa hz).trans hkl (Zf.refl _ _)) (Zf.refl _ _);rcases aQ with ⟨dC,rfl⟩|⟨dC,rfl,cO⟩
       ·have hq:=zH (show QZ S lvl its held=.error 6 by rw[hbX.out,ah.out (by have:=xh.out;omega) dC]);have xy:=zH (lI.out.trans pY yQ);clear hbX ah ae fA hkl pY dC hkA;go_wp2_with fail;exact Tr rfl rfl rfl (Ky.bad hq.out xy.out)
       ·have hF:HdI D' B lo b g k' S' held (.slice Av ps.length cv) wm (.slice Av ps.length cv) (.int .i64 ((j:Int)+1)) wl:=⟨j+1,_,rfl,zO,rfl,ae.out (by have:=xh.out;omega) dC,cO,pY⟩
        replace hF:=zH hF;clear hbX ah ae fA hkl pY dC cO hkA;go_wp2_with fail;try rw[hj1.out]
        refine⟨hF.out,?_⟩;simp[intOf];omega
     ·obtain rfl:j=held.length:=zO;rw[List.take_length] at aP;have hq:QZ S lvl its held=.ok (ups,qu S' t):=by rw[hbX.out,aP]
      have oP:=Yo rX (Jp (fun a ha=>by obtain⟨x,hxm,rfl⟩:=List.mem_map.1 ha;have:=hhr x hxm;omega) (qZ.1 rX).2.1 aP);have hor:=lV.own aB.out (fun q hq=>by obtain⟨cur,hc⟩:=Zl aB.out hq;exact bg.out.notB3 hc zA1 zA1 zA1);have hR:Ky D B lo b g k S lvl its held w (.returned (.tuple #[.slice Av ps.length cv,.int .i64 0])) wr:=by
       refine⟨hkA.out,?_⟩;rw[hq];refine⟨k',D',Av,cv,by rw[lZ],yQ,hND,pR,oP,?_,?_⟩
       ·rw[lZ];exact hor
       ·rw[lZ];exact fun q hq=>(hoD.out q hq).1
      replace hR:=zH hR;clear hor oP hq pR lV aP hbX hkA hEI;go_wp2_with fail;exact Tr rfl rfl rfl hR.out
def jx (D:Nat->Prop) (B lo b g:Nat) (k:Option Nat) (S:Sto) (a:Nat) (w:World) (e:Ending) (W:World):Prop:=qY lo b g k w W /\
 match Qz S (-1) S.now a with
 |none=>e=.returned (.int .i64 8)
 |some t=>e=.returned (.int .i64 0)/\Bch D B lo b g k (qu S t) W
theorem jx.bad {D:Nat->Prop} {B lo b g:Nat} {k:Option Nat} {S:Sto} {a:Nat} {w W:World} (h:Qz S (-1) S.now a=none) (hB:qY lo b g k w W):jx D B lo b g k S a w (.returned (.int .i64 8)) W:=by refine⟨hB,?_⟩;rw[h]
theorem jx.good {D:Nat->Prop} {B lo b g:Nat} {k:Option Nat} {S:Sto} {a:Nat} {t:List UInt8} {w W:World} (h:Qz S (-1) S.now a=some t) (hB:qY lo b g k w W) (hb:Bch D B lo b g k (qu S t) W):jx D B lo b g k S a w (.returned (.int .i64 0)) W:=by refine⟨hB,?_⟩;rw[h];exact⟨rfl,hb⟩
structure L0I (D:Nat->Prop) (B lo b g:Nat) (k:Option Nat) (S:Sto) (t0:List UInt8) (xs:List It) (wB:World) (v i:Value) (wr:World):Prop where
 ex:∃ (j:Nat) (t:List UInt8),v=.int .i64 0/\j<=xs.length/\i=.int .i64 (j:Int)/\QG (qX (xs.take j)) t0=.ok t/\Bch D B lo b g k (qu S t) wr/\qY lo b g k wB wr
theorem Bch.fresh {D:Nat->Prop} {B lo b g:Nat} {k:Option Nat} {S:Sto} {w0 w W:World} (h0:Bch D B lo b g k S w0) {S':Sto} (h:Bch D B lo b g k S' w) (hx:Below w0.heap.size w W):Bch D B lo b g k S' W:=by have h6:=h0.size.2.2.2.2.2.1;have h1:=h0.blo;exact h.keep (Below.mono hx zO) fun q hq=>hx.block q (hq.elim (fun h2=>(h0.b3 q h2).2) fun h2=>(h0.dB q h2).2.1)
def Tp (S:Sto) (x:It):Int:=if itB x.r x.val.length=true then (if x.r≠0/\ZE S x.r.toNat=0 then 6 else 0) else 8
abbrev itV (x:It) (A:Option Addr) (c:Nat):Value:=.agg #[.int .u8 x.k,.int .u32 x.i,.int .u32 x.o,.int .i64 x.r,.slice A x.val.length c]
set_option maxRecDepth 100000 in
theorem qfB (A1:Option Addr) (n1 c1:Nat) (A2:Option Addr) (n2 c2:Nat) (A3:Option Addr) (n3 c3:Nat) (A4:Option Addr) (n4 c4:Nat) (S:Sto) (hS:qo S=true) (a lvl:Nat) (xs:List It) (ha:8<=a) (bK:a<256) (hn:qv S a=some ((lvl:Int),xs)) (aU:(Qg S lvl xs).isSome=true) (x:It) (Ax:Option Addr) (cx:Nat) (w:World) (aH:qU w w.heap.size (.slice A1 n1 c1) (.slice A2 n2 c2) (.slice A3 n3 c3) (.slice A4 n4 c4) S):Calls prog 97 #[Qd A1 n1 c1 A2 n2 c2 A3 n3 c3 A4 n4 c4,.int .i64 (a:Int),itV x Ax cx] w (Ret (.int .i64 (Tp S x)) w):=by
 have HCK:=zH (fun W (hx:Ext w W)=>Xf A1 n1 c1 A2 n2 c2 A3 n3 c3 A4 n4 c4 S hS a ⟨ha,bK,lvl,xs,hn,aU⟩ W (aH.ext hx));have HIC:=zH (fun W=>Jn x.k x.i x.o x.r Ax x.val.length cx W);have hKP:=Gz hS aH.now;obtain⟨b3,o3,cc3,e3,dF,ig⟩:=hKP;simp only[Value.slice.injEq] at e3;obtain⟨rfl,rfl,rfl⟩:=e3;have ig:=zH ig;obtain⟨q,hq⟩:∃ q,Tp S x=q:=⟨_,rfl⟩
 rw[hq];replace hq:=zH hq;clear aH hn aU ha bK;go_enter func97,ntmps97;go_wp2_with fail;generalize aA:(World.alloc (World.alloc w _) _)=w1;have x1:Ext w w1:=by rw[<-aA];exact(zN _ _).trans (zN _ _)
 have uX:w1.heap[w.heap.size]?=some (.cells #[.slice A1 n1 c1,.slice A2 n2 c2,.slice (some ⟨b3,o3,none⟩) 256 c3,.slice A4 n4 c4] 28 (0,0)):=by rw[<-aA];exact(zK _ _ _ zA3).trans (zI _ _ _ rfl)
 have ri1:w1.heap[w.heap.size+1]?=some (.cells #[.int .u8 x.k,.int .u32 x.i,.int .u32 x.o,.int .i64 x.r,.slice Ax x.val.length cx] 68 (0,0)):=by rw[<-aA];exact zI _ _ _ zA3
 clear aA;refine(HCK.out w1 x1).mono ?_;clear HCK;rintro e w2 ⟨u,rfl,⟨m,rfl⟩,hB⟩;have x2:Ext w w2:=Ext.trans x1 hB;have rs2:=qb uX hB;have ri2:=qb ri1 hB;have ki2:=qa ri2;clear uX ri1 hB x1;go_wp2_with fail;refine(HIC.out w2).mono ?_;clear HIC;rintro e w3 ⟨rfl,hB⟩;have x3:Ext w w3:=Ext.trans x2 hB;have rs3:=qb rs2 hB;have ri3:=qb ri2 hB;have ki3:=qa ri3;have ks3:=qa rs3;clear rs2 ri2 hB x2 ki2;cases hit:itB x.r x.val.length
 ·have hqq:q=8:=by rw[<-hq.out];unfold Tp;rw[hit];rfl
  subst hqq;rw[jX rfl];go_wp2_with fail;go_ret;exact⟨rfl,x3⟩
 ·have yX:x.r=0\/(8<=x.r/\x.r<256):=by unfold itB at hit;simp at hit;exact hit.1
  have hqq:Hid (q=if x.r≠0/\ZE S x.r.toNat=0 then 6 else 0):=zH (by rw[<-hq.out];unfold Tp;rw[if_pos hit]);rw[show Jh true=0 from rfl];replace hit:=zH hit;clear hq;rcases yX with hr0|mX
  ·have hq0:=zH (show q=0 by rw[hqq.out,if_neg (fun h=>h.1 hr0)]);rw[hr0] at ki3;clear hqq rs3 ri3;go_wp2_with fail;go_ret;exact⟨by rw[hq0.out];rfl,x3⟩
  ·obtain⟨r,hra⟩:∃ r:Nat,x.r=(r:Int):=⟨x.r.toNat,zO⟩
   have xC:r<256:=zO;have tY:8<=r:=zO;have hkr:=Ext.cell x3 (ig.out r xC);rw[hra] at ki3;rw[hra,Int.toNat_natCast] at hqq;have aX:((r:Int) != 0)=true:=by rw[bne_iff_ne];omega
   generalize ZE S r=nv at *;clear hra mX rs3 ri3;by_cases h0:nv=0
   ·have hq0:=zH (show q=6 by rw[hqq.out,if_pos ⟨zO,h0⟩]);subst h0;clear hqq;go_wp2_with fail;go_ret;exact⟨by rw[hq0.out];rfl,x3⟩
   ·have hq0:=zH (show q=0 by rw[hqq.out,if_neg (fun h=>h0 h.2)]);have hy1:((nv:Int) == 0)=false:=by rw[beq_eq_false_iff_ne];omega
    replace h0:=zH h0;clear hqq;go_wp2_with fail;go_ret;exact⟨by rw[hq0.out];rfl,x3⟩
theorem kJ (k:K3):∀ (ps qs:List Stp) (up:List It) (S:Sto),ju k (ps++qs) up S=match ju k ps up S with
  | .error e=>.error e
  | .ok (up',S')=>ju k qs up' S'
 | [],qs,up,S=>rfl
 |(lvl,xs,p) :: ps,qs,up,S=>by
  simp only[List.cons_append,ju];rcases QZ S (lvl:Int) (Ko xs p (VR k lvl xs) up) up with e|⟨up',S'⟩
  ·rfl
  ·exact kJ k ps qs up' S'
theorem qhc (k:K3) (s:Stp) (up:List It) (S:Sto):ju k [s] up S=QZ S (s.1:Int) (Ko s.2.1 s.2.2 (VR k s.1 s.2.1) up) up:=by obtain⟨lvl,xs,p⟩:=s;simp only[ju];rcases QZ S (lvl:Int) (Ko xs p (VR k lvl xs) up) up with e|⟨up',S'⟩ <;> rfl
theorem Xj:∀ {l:List Nat} {t:List UInt8} {e:Int},QG l t=.error e->e≠0
 | [],t,e,h=>by cases h
 |a :: l,t,e,h=>by
  by_cases ha:a=0
  ·subst ha;rw[jV] at h;exact Xj h
  ·by_cases h0:qT t a=0
   ·rw[Jo ha h0] at h;cases h;decide
   ·rw[jU ha h0] at h;exact Xj h
theorem qbe {lvl:Int}:∀ {ps:List (List It)} {S:Sto} {e:Int},jw lvl ps S=.error e->e≠0
 | [],S,e,h=>by cases h
 |p :: ps,S,e,h=>by
  simp only[jw] at h;split at h
  ·rename_i e' h';cases h;exact Yn h'
  ·split at h
   ·rename_i e' h';cases h;exact qbe h'
   ·cases h
theorem kD {S:Sto} {lvl:Int} {l held:List It} {e:Int} (h:QZ S lvl l held=.error e):e≠0:=by
 unfold QZ at h;split at h
 ·rename_i e' h';cases h;exact qbe h'
 ·split at h
  ·rename_i e' h';cases h;exact Xj h'
  ·cases h
structure qcH (k:K3) (s:Stp):Prop where
 may:Qe (s.1:Int) s.2.1=true
 its:∀ x∈s.2.1,jq x/\itB x.r x.val.length=true
 len:s.2.1.length<=5
 le:s.2.2<=s.2.1.length
 lt:0<s.1->s.2.2<s.2.1.length
 zero:s.1=0->s.2.2=qG s.2.1 k
theorem qfV {S:Sto} {k:K3}:∀ (h:Nat) {a:Nat} {xs:List It},qv S a=some ((h:Int),xs)->(Qg S h xs).isSome=true->∀ s∈VD S k h xs,qcH k s
 |0,a,xs,hn,hs,s,hm=>by
  rw[qez] at hm;obtain rfl:s=(0,xs,qG xs k):=by simpa using hm
  obtain⟨m1,m2,_⟩:=Qc hn;exact⟨m1,m2,(zt hn).2.2,JJ xs k,fun h=>absurd h (Nat.lt_irrefl 0),fun _=>rfl⟩
 |h+1,a,xs,hn,hs,s,hm=>by
  obtain⟨m1,m2,_⟩:=Qc hn;have hx:=qbZ m1 zO;obtain⟨b,e1,-,-,zs,e4,e5⟩:=Jb (JO hs _ (List.getElem_mem (Js (k:=k) hx)));rw[qag (zL (Js hx)) (by rw[e1,Int.toNat_natCast];exact e4)] at hm;rcases List.mem_cons.1 hm with rfl|hm
  ·exact⟨m1,m2,(zt hn).2.2,Nat.le_of_lt (Js hx),fun _=>Js hx,fun h=>by cases h⟩
  ·exact qfV h e4 e5 s hm
theorem many_ok {k:K3} {s:Stp} (h:qcH k s):(VR k s.1 s.2.1=0\/VR k s.1 s.2.1=1)/\s.2.2+VR k s.1 s.2.1<=s.2.1.length:=by
 have hle:=h.le;unfold VR;split
 ·exact⟨.inl rfl,zO⟩
 ·rename_i hc;refine⟨.inr rfl,?_⟩;rcases Nat.eq_zero_or_pos s.1 with h0|h0
  ·rw[h.zero h0] at hle ⊢;by_cases hl:qG s.2.1 k<s.2.1.length
   ·omega
   ·exact absurd ⟨h0,XB hl⟩ hc
  ·have:=h.lt h0;omega
theorem Bch.of_on {B lo b:Nat} {A1:Option Addr} {n1 c1:Nat} {A2:Option Addr} {n2 c2:Nat} {A3:Option Addr} {n3 c3:Nat} {A4:Option Addr} {n4 c4:Nat} {A3':Option Addr} {c3':Nat} {S:Sto} {W:World} (hB:B<=lo) (hS:qo S=true) (aH:qU W B (.slice A1 n1 c1) (.slice A2 n2 c2) (.slice A3 n3 c3) (.slice A4 n4 c4) S) (aP:lo<=b) (hr:W.heap[b]?=some (.cells #[.slice A1 n1 c1,.slice A2 n2 n2,.slice A3' n3 c3',.slice A4 n4 c4] 191 (0,0))) (ho:W.ownsRow lo 5 1 (.slice A3' n3 c3') n3 (S.now.map bv)):∃ g,Bch (fun _=>False) B lo b g none S W:=by
 obtain⟨oM,um,nJ,hl4⟩:=qQ hS;have e3:=aH.now.at_.1;have e4:=aH.last.at_.1;obtain rfl:n3=256:=zO;obtain rfl:n4=256:=zO;obtain⟨g,rfl⟩:∃ g,A3'=some ⟨g,0,none⟩:=by
  rcases ho.2 with ⟨_,h0⟩|⟨g,_,_,e,_⟩
  ·cases h0
  ·cases e;exact⟨g,rfl⟩
 refine⟨g,aP,hB,fun q h=>h.elim,A1,n1,c1,.slice A2 n2 n2,c3',A4,c4,hr,ho,?_,aH.bs,aH.last⟩;obtain⟨ps,e,⟨A,c,e2,h1,h2,oV⟩,hp⟩:=aH.ws;simp only[Value.slice.injEq] at e2;obtain⟨rfl,rfl,rfl⟩:=e2;refine⟨ps,e,.inl ⟨rfl,zO,A2,rfl,oV⟩,fun p ai=>⟨(hp p ai).1,fun C hC=>(hp p ai).2.keepX hC fun q hq hx=>by have:=hx.1;omega⟩⟩
def TC (S:Sto) (L:Nat) (xs:List It) (x:It):Except Int (List It×Sto):=
 if Ut (qE x) (VD S (qE x) L xs)=true then .error 120 else
 match ju (qE x) (VD S (qE x) L xs).reverse [x] S with
 | .error e=>.error e
 | .ok (up,S1)=>if 1<up.length then QZ S1 ((VD S (qE x) L xs).length:Int) up up else .ok (up,S1)
def Ke (up:List It):Nat:=match up with
 | []=>0
 |y :: _=>y.r.toNat
theorem qco (S:Sto) (L:Nat) (xs:List It) (root:Nat) (x:It):putX S L xs root x=match TC S L xs x with
  | .error e=>.error e
  | .ok (up,S2)=>match Qz S2 (-1) S2.now root with
   |none=>.error 8
   |some t=>.ok (Ke up,qu S2 t):=by
 unfold putX TC;by_cases ht:Ut (qE x) (VD S (qE x) L xs)=true
 ·rw[if_pos ht,if_pos ht]
 ·rw[if_neg ht,if_neg ht];rcases ju (qE x) (VD S (qE x) L xs).reverse [x] S with e|⟨up,S1⟩
  ·rfl
  ·simp only;generalize (if 1<up.length then QZ S1 ((VD S (qE x) L xs).length:Int) up up else Except.ok (up,S1))=r;rcases r with e|⟨up',S2⟩
   ·rfl
   ·simp only;rcases Qz S2 (-1) S2.now root with _|t <;> rfl
def TD (S:Sto) (L:Nat) (xs:List It) (root:Nat) (x:It):Except Int (Nat×Sto):=if Tp S x=0 then putX S L xs root x else .error (Tp S x)
def PutQ (lo:Nat) (q:Except Int (Nat×Sto)) (u:Value) (W:World):Prop:=match q with
 | .error e=>u=.tuple #[Qd none 0 0 none 0 0 none 0 0 none 0 0,.int .i64 0,.int .i64 e]
 | .ok (r,S')=>∃ v,u=.tuple #[v,.int .i64 (r:Int),.int .i64 0]/\QF lo S' v W
end Go.Proofs.YtpbniokljofedaaGreat
namespace Go.Proofs.YtpbniokljofedaaGreat
open Go.RowKit Go.Shelf
attribute [local go_sem] Oper.semAt_some
abbrev Us:Type:=Stp×Sl
abbrev usz:Us:=((0,[],0),(none,0,0))
set_option maxRecDepth 100000 in
theorem backs_in (n:Nat) (hn:1<=n) (l Bs b off len cap:Nat) (us:List Us) (aj:len<1099511627776) (J Jx:List Nat->World->Prop) (hY:∀ pre (x:Nat) W,J pre W->pre.length<len->YieldAt Fence.wide (n-1) prog l #[.int .i64 (x:Int),.agg #[.int .i64 ((us[x]?.getD usz).1.1:Int),sv (us[x]?.getD usz).2,.int .i64 ((us[x]?.getD usz).1.2.2:Int)]] W fun e W' =>
   (e=.returned (.bool true)/\J (pre++[x]) W'/\Qi Bs b W W')\/(e=.returned (.bool false)/\Jx (pre++[x]) W'))
  (W:World) (fO:W.cell? ⟨Bs,0,none⟩=some (.slice (some ⟨b,off,none⟩) len cap)) (hc:∀ i,i<len->W.cell? ⟨b,off+i*3,none⟩=some (.int .i64 ((us[i]?.getD usz).1.1:Int))/\W.cell? ⟨b,off+i*3+1,none⟩=some (sv (us[i]?.getD usz).2)/\W.cell? ⟨b,off+i*3+2,none⟩=some (.int .i64 ((us[i]?.getD usz).1.2.2:Int))) (h0:J [] W) :
  CallsIn Fence.wide n prog 146 #[.func (.yield l) #[] #[],.pointer (some ⟨Bs,0,none⟩)] W fun e W'=>(∃ v,e=.returned v) /\
   ((∃ ys,ys=Zn (fun j=>len-1-j) len/\J ys W')\/(∃ pre,(∃ k,k<=len/\pre=Zn (fun j=>len-1-j) k)/\Jx pre W')):=by
 refine callsIn_of_wp func146 rfl trivial ?_ rfl;simp only[ntmps146,List.size_toArray,List.length_cons,List.length_nil,Nat.reduceAdd,Nat.reduceSub,Array.replicate_succ,Array.replicate_zero,List.push_toArray,List.append_toArray,List.nil_append,List.cons_append]
 gi_wp2
 gi_loopw [3] (fun i wr=>∃ k:Nat,k<=len/\i=.int .i64 ((len:Int)-1-k)/\J (Zn (fun j=>len-1-j) k) wr/\Qi Bs b W wr)
  (fun i _=>(intOf i+1).toNat)
 case atStart=>exact⟨0,Nat.zero_le _,zA3,h0,Qi.refl _ _ _⟩
 case round =>
  obtain⟨k,hk,rfl,fC,dR⟩:=hrel;have hBr:wr.cell? ⟨Bs,0,none⟩=some (.slice (some ⟨b,off,none⟩) len cap):=(World.cell?_of_block (w:=W) dR.1).trans fO;by_cases hlt:k<len
  ·obtain⟨fn,tmps,assign,body,hy,hR⟩:=hY _ (len-1-k) wr fC (by rw[zj];exact hlt);have dC:=(World.cell?_of_block (w:=W) (a:=⟨b,off+(len-1-k)*3,none⟩) dR.2).trans (hc (len-1-k) zO).1;have dV:=(World.cell?_of_block (w:=W) (a:=⟨b,off+(len-1-k)*3+1,none⟩) dR.2).trans (hc (len-1-k) zO).2.1;have az:=(World.cell?_of_block (w:=W) (a:=⟨b,off+(len-1-k)*3+2,none⟩) dR.2).trans (hc (len-1-k) zO).2.2;try dsimp only at hy
   obtain⟨i,hi⟩:∃ i:Nat,len-1-k=i:=⟨_,rfl⟩
   have dD:(len:Int)-1-k=(i:Int):=zO;have hil:i<len:=zO;have hik:k+i+1<=len/\len<=k+i+1:=zO;have HU:=zH (Ju (fun j=>len-1-j) k);obtain⟨u,hu⟩:∃ u,us[i]?.getD usz=u:=⟨_,rfl⟩
   rw[hi] at dC dV az hy hR;rw[hu] at dC dV az hy;rw[dD];clear dD;clear hu;have HI:=zH hi;clear hi
   gi_wp2
   refine hR.mono ?_;rintro e W3 (⟨rfl,xZ,ig⟩|⟨rfl,iH⟩)
   ·gi_wp2
    go_roundw
    case rel=>exact⟨k+1,zO,by go_num,by rw[HU.out,HI.out];exact xZ,dR.t ig⟩
    case measure=>simp[intOf]
   ·gi_wp2
    refine bodyPost_ret (results_none rfl _ _ _) rfl ?_;exact⟨⟨_,rfl⟩,.inr ⟨_,⟨k+1,zO,by rw[HU.out,HI.out]⟩,iH⟩⟩
  ·obtain rfl:k=len:=zO
   gi_wp2
   go_end0;exact⟨⟨_,rfl⟩,.inl ⟨_,rfl,fC⟩⟩
set_option maxRecDepth 100000 in
theorem qbI (n l Bs c:Nat) (A:Option Addr) (J:List Nat->World->Prop) (W:World) (fO:W.cell? ⟨Bs,0,none⟩=some (.slice A 0 c)) (h0:J [] W):CallsIn Fence.wide n prog 146 #[.func (.yield l) #[] #[],.pointer (some ⟨Bs,0,none⟩)] W fun e W'=>(∃ v,e=.returned v)/\J [] W':=by
 refine callsIn_of_wp func146 rfl trivial ?_ rfl;simp only[ntmps146,List.size_toArray,List.length_cons,List.length_nil,Nat.reduceAdd,Nat.reduceSub,Array.replicate_succ,Array.replicate_zero,List.push_toArray,List.append_toArray,List.nil_append,List.cons_append]
 gi_wp2
 gi_loopw [3] (fun i wr=>i=.int .i64 (-1)/\J [] wr) (fun _ _=>0)
 case atStart=>exact⟨rfl,h0⟩
 case round =>
  obtain⟨rfl,fC⟩:=hrel
  gi_wp2
  go_end0;exact⟨⟨_,rfl⟩,fC⟩
def SWs (W:World) (Bs b:Nat) (v:Value) (us:List Us):Prop:=
 W.cell? ⟨Bs,0,none⟩=some v/\((us=[]/\∃ A c,v=.slice A 0 c)\/∃ off cap,v=.slice (some ⟨b,off,none⟩) us.length cap/\∀ i,i<us.length->W.cell? ⟨b,off+i*3,none⟩=some (.int .i64 ((us[i]?.getD usz).1.1:Int))/\W.cell? ⟨b,off+i*3+1,none⟩=some (sv (us[i]?.getD usz).2)/\W.cell? ⟨b,off+i*3+2,none⟩=some (.int .i64 ((us[i]?.getD usz).1.2.2:Int)))
theorem SWs.keep {W W':World} {Bs b:Nat} {v:Value} {us:List Us} (h:SWs W Bs b v us) (hk:Qi Bs b W W'):SWs W' Bs b v us:=by
 refine⟨(World.cell?_of_block (w:=W) hk.1).trans h.1,?_⟩;rcases h.2 with h|⟨off,cap,e,hc⟩
 ·exact .inl h
 ·exact .inr ⟨off,cap,e,fun i hi=>⟨(World.cell?_of_block (w:=W) hk.2).trans (hc i hi).1,(World.cell?_of_block (w:=W) hk.2).trans (hc i hi).2.1,(World.cell?_of_block (w:=W) hk.2).trans (hc i hi).2.2⟩⟩
theorem qcV (n:Nat) (hn:1<=n) (Bs b:Nat) (v:Value) (us:List Us) (aj:us.length<1099511627776) (w:World) (fO:Bs<w.heap.size) (hb:b<w.heap.size) (hS:SWs w Bs b v us):SeqStopsK Fence.wide n prog 146 #[.pointer (some ⟨Bs,0,none⟩)] (fun x:Nat=>#[.int .i64 (x:Int),.agg #[.int .i64 ((us[x]?.getD usz).1.1:Int),sv (us[x]?.getD usz).2,.int .i64 ((us[x]?.getD usz).1.2.2:Int)]]) (Qi Bs b) (fun ys=>ys=Zn (fun j=>us.length-1-j) us.length)
   (fun pre=>∃ k,k<=us.length/\pre=Zn (fun j=>us.length-1-j) k) us.length w:=fun l J Jx W hW _ _ hY h0=>by
 obtain⟨hc,h⟩:=hS.keep (Qi.below hW fO hb);rcases h with ⟨rfl,A,c,rfl⟩|⟨off,cap,rfl,bV⟩
 ·exact(qbI n l Bs c A J W hc h0).mono fun e W' ⟨he,hj⟩=>⟨he,.inl ⟨_,rfl,hj⟩⟩
 ·exact backs_in n hn l Bs b off us.length cap us aj J Jx hY W hc bV h0
theorem qaq (A:Option Addr) (m c:Nat) (w:World):Calls prog 100 #[.slice A m c] w (fun e w'=>e=.returned (.func (.func 146) #[] #[.pointer (some ⟨w.heap.size,0,none⟩)])/\w'=w.alloc (.cells #[.slice A m c] 153)):=by
 go_enter func100,ntmps100;go_wp2;go_ret;exact⟨rfl,rfl⟩
end Go.Proofs.YtpbniokljofedaaGreat
