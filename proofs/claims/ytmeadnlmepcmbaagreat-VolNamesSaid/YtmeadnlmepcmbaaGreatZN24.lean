/- Lemmas of the proof. -/
import Derived.Test.YtmeadnlmepcmbaaGreatZN23
set_option linter.all false
set_option maxHeartbeats 8000000
open Go.Proofs.Tryz
namespace Go.Proofs.YtmeadnlmepcmbaaGreat
open Go.RowKit
def GH (M:Nat->Bool) (a:Nat):Nat->Bool:=fun b=>if b=a then false else M b
theorem qec (M:Nat->Bool) (a:Nat):GH M a a=false:=by simp[GH]
theorem UV {M:Nat->Bool} {a b:Nat} (h:b≠a):GH M a b=M b:=by simp[GH,h]
theorem VC {M:Nat->Bool} {a b:Nat} (h:GH M a b=true):M b=true/\b≠a:=by
 by_cases e:b=a
 ·subst e;rw[qec] at h;cases h
 ·rw[UV e] at h;exact⟨h,e⟩
theorem qkj {M:Nat->Bool} {a:Nat} (h:M a=true):vJ (GH M a) a=M:=by
 funext b;unfold vJ GH;by_cases e:b=a
 ·subst e;simp[h]
 ·simp[e]
theorem GC {rs:Nat->List Nat} {M:Nat->Bool} {a b:Nat} (h:M a=true) (n:Nat):Ju rs M b n=Ju rs (GH M a) b n+if a<n then (rs a).count b else 0:=by rw[<-XK (qec M a) n,qkj h]
theorem GB {rs:Nat->List Nat} {M M':Nat->Bool} (h:∀ a,M a=true->M' a=true) (b:Nat):∀ n,Ju rs M b n<=Ju rs M' b n
 |0=>zM _
 |n+1=>by
  unfold Ju;have h1:=GB (rs:=rs) h b n;by_cases hn:M n=true
  ·rw[if_pos hn,if_pos (h n hn)];omega
  ·rw[if_neg hn];omega
theorem qcg {rs:Nat->List Nat} {M:Nat->Bool} {a b:Nat} (ha:M a=true) (hb:b∈rs a) {n:Nat} (hn:a<n):0<Ju rs M b n:=by rw[GC ha n,if_pos hn];have:=List.count_pos_iff.2 hb;omega
structure Cov (ks rs:Nat->List Nat) (t:List UInt8) (R:List Nat) (M:Nat->Bool):Prop where
 kid:∀ a,M a=true->∀ b∈ks a,M b=true
 sub:∀ a b,b∈ks a->b∈rs a
 cnt:∀ b,0<b->R.count b+Ju rs M b 256<=qL t b
 live:∀ a,M a=true->qL t a≠0
 low:∀ a,M a=true->0<a/\a<256
structure KP (R:List Nat) (M M':Nat->Bool):Prop where
 le:∀ a,M' a=true->M a=true
 keep:∀ a,a∈R->M a=true->M' a=true
theorem KP.refl (R:List Nat) (M:Nat->Bool):KP R M M:=⟨fun _ h=>h,fun _ _ h=>h⟩
theorem KP.trans {R:List Nat} {M M' M'':Nat->Bool} (h:KP R M M') (k:KP R M' M''):KP R M M'':=⟨fun a x=>h.le a (k.le a x),fun a x y=>k.keep a x (h.keep a x y)⟩
theorem KP.mono {R R':List Nat} {M M':Nat->Bool} (h:KP R M M') (hr:∀ a∈R',a∈R):KP R' M M':=⟨h.le,fun a x y=>h.keep a (hr a x) y⟩
section
variable {ks rs:Nat->List Nat} {t t':List UInt8} {R R':List Nat} {M:Nat->Bool} {a b:Nat}
theorem Cov.perm (h:Cov ks rs t R M) (hc:∀ b,0<b->R'.count b<=R.count b):Cov ks rs t R' M:=⟨h.kid,h.sub,fun b hb=>Nat.le_trans (Nat.add_le_add_right (hc b hb) _) (h.cnt b hb),h.live,h.low⟩
theorem Cov.drop (h:Cov ks rs t R M) (ha:M a=true) (h0:Ju rs M a 256=0):Cov ks rs t R (GH M a) where
 kid c hc d hd:=by
  obtain⟨h1,h2⟩:=VC hc;have e:d≠a:=fun e=>by have:=qcg h1 (h.sub c d hd) (h.low c h1).2;rw[e] at this;omega
  rw[UV e];exact h.kid c h1 d hd
 sub:=h.sub
 cnt b hb:=Nat.le_trans (Nat.add_le_add_left (GB (fun c hc=>(VC hc).1) b 256) _) (h.cnt b hb)
 live c hc:=h.live c (VC hc).1
 low c hc:=h.low c (VC hc).1
theorem YU {t:List UInt8} {b:Nat} (h:qL t b≠0) (c:Nat):qL (ju t b) c=if c=b then qL t b-1 else qL t c:=by
 have hl:b<t.length:=by
  by_cases h1:b<t.length
  ·exact h1
  ·exact absurd (Kx zO) h
 have h2:=Xx t b;unfold ju;by_cases e:c=b
 ·subst e;rw[if_pos rfl,vR hl,UInt8.toNat_ofNat'];omega
 ·rw[if_neg e,Ja e]
theorem Cov.loose (h:Cov ks rs t (b :: R) M) (hb:0<b):∃ M',Cov ks rs (ju t b) R M'/\KP R M M':=by
 have h1:=h.cnt b hb;rw[List.count_cons_self] at h1;have hne:qL t b≠0:=zO;have hc:∀ c,0<c->R.count c+Ju rs M c 256<=qL (ju t b) c:=fun c hc=>by
  rw[YU hne c];split
  ·rename_i e;subst e;omega
  ·rename_i e;have:=h.cnt c hc
   rwa [List.count_cons_of_ne (fun x=>e x.symm)] at this
 by_cases hM:M b=true/\qL t b=1
 ·have h0:Ju rs M b 256=0:=zO;have hr:R.count b=0:=zO;have hd:=h.drop hM.1 h0;refine⟨GH M b,⟨hd.kid,h.sub,fun c hcp=>Nat.le_trans (Nat.add_le_add_left (GB (fun d hd=>(VC hd).1) c 256) _) (hc c hcp),fun c hcM=>?_,hd.low⟩,fun c hc=>(VC hc).1,fun c hcR hcM=>?_⟩
  ·obtain⟨k1,k2⟩:=VC hcM;rw[YU hne c,if_neg k2];exact h.live c k1
  ·rw[UV]
   ·exact hcM
   ·rintro rfl;exact absurd hcR (List.count_eq_zero.1 hr)
 ·refine⟨M,⟨h.kid,h.sub,hc,fun c hcM=>?_,h.low⟩,KP.refl _ _⟩;rw[YU hne c];split
  ·rename_i e;subst e;intro e;exact hM ⟨hcM,zO⟩
  ·exact h.live c hcM
theorem Cov.looseL:∀ {l:List Nat} {t t':List UInt8} {M:Nat->Bool},Cov ks rs t (l++R) M->looseL l t=.ok t'->∃ M',Cov ks rs t' R M'/\KP R M M'
 | [],t,t',M,h,e=>by cases e;exact⟨M,h,KP.refl _ _⟩
 |a :: l,t,t',M,h,e=>by
  by_cases ha:a=0
  ·subst ha;rw[jC] at e;exact Cov.looseL (h.perm fun b hb=>by rw[List.cons_append,List.count_cons_of_ne zO];exact zM _) e
  ·by_cases h0:qL t a=0
   ·rw[Jd ha h0] at e;cases e
   ·rw[jB ha h0] at e;obtain⟨M1,h1,l1⟩:=Cov.loose (R:=l++R) h zO;obtain⟨M2,h2,l2⟩:=Cov.looseL h1 e;exact⟨M2,h2,(l1.mono fun _ x=>List.mem_append_right _ x).trans l2⟩
end
section
variable {S:Sto} {R:List Nat}
theorem Yq {S:Sto} {a:Nat} {lvl:Int} {xs:List It} (hn:qu S a=some (lvl,xs)) {b:Nat} (hb:0<b):(qE xs).count b=(QU S a).count b:=by unfold QU qE;rw[hn];simp only;rw[List.count_filter (by simpa using (show b≠0 by omega))]
theorem qex {S:Sto} {a:Nat} {lvl:Int} {xs:List It} (hn:qu S a=some (lvl,xs)) (hl:0<lvl):Zq S a=QU S a:=by unfold Zq;rw[hn];simp only;rw[if_pos hl]
theorem Cov.gone {t:List UInt8} {M:Nat->Bool} {a:Nat} {lvl:Int} {xs:List It} (h:Cov (Zq S) (QU S) t (a :: R) M) (hM:M a=true) (h1:qL t a=1) (hn:qu S a=some (lvl,xs)):Cov (Zq S) (QU S) (t.set a 0) (qE xs++R) (GH M a)/\R.count a=0/\(∀ r∈Zq S a,GH M a r=true):=by
 obtain⟨ha0,ha2⟩:=h.low a hM;have h2:=h.cnt a ha0;rw[List.count_cons_self,h1] at h2;have h0:Ju (QU S) M a 256=0:=zO;have hR:R.count a=0:=zO;have hd:=h.drop hM h0;have hl:a<t.length:=by
  by_cases hx:a<t.length
  ·exact hx
  ·rw[Kx zO] at h1;cases h1
 have hra:(QU S a).count a=0:=by have:=GC (rs:=QU S) (b:=a) hM 256;rw[if_pos ha2] at this;omega
 refine⟨⟨hd.kid,h.sub,fun b hb=>?_,fun c hc=>?_,hd.low⟩,hR,fun r hr=>?_⟩
 ·rw[List.count_append,Yq hn hb];have h3:=GC (rs:=QU S) (b:=b) hM 256;rw[if_pos ha2] at h3;by_cases e:b=a
  ·subst e;rw[vR hl];show _<=0;omega
  ·rw[Ja e];have h4:=h.cnt b hb;rw[List.count_cons_of_ne (fun x=>e x.symm)] at h4;omega
 ·obtain⟨k1,k2⟩:=VC hc;rw[Ja k2];exact h.live c k1
 ·rw[UV]
  ·exact h.kid a hM r hr
  ·rintro rfl;have:=List.count_pos_iff.2 (h.sub r r hr);omega
theorem Cov.foldl {f:List UInt8->Nat->Option (List UInt8)} (hf:∀ {t t':List UInt8} {a:Nat} {R:List Nat} {M:Nat->Bool},Cov (Zq S) (QU S) t (a :: R) M->M a=true->f t a=some t'->∃ M',Cov (Zq S) (QU S) t' R M'/\KP R M M') : ∀ (l:List Nat) {t t':List UInt8} {M:Nat->Bool},Cov (Zq S) (QU S) t (l++R) M->(∀ r∈l,M r=true)->l.foldl (fun acc r=>acc.bind fun t=>f t r) (some t)=some t'->∃ M',Cov (Zq S) (QU S) t' R M'/\KP R M M'
 | [],t,t',M,h,_,e=>by cases e;exact⟨M,h,KP.refl _ _⟩
 |a :: l,t,t',M,h,hM,e=>by
  rw[List.foldl_cons,Option.bind_some] at e;rcases e1:f t a with _|t1
  ·rw[e1] at e;exfalso;have:∀ l:List Nat,l.foldl (fun acc r=>acc.bind fun t=>f t r) none=none:=fun l=>by
    induction l with
    |nil=>rfl
    |cons x l ih=>rw[List.foldl_cons];exact ih
   rw[this] at e;cases e
  ·rw[e1] at e;obtain⟨M1,h1,l1⟩:=hf (R:=l++R) h (hM a List.mem_cons_self) e1;obtain⟨M2,h2,l2⟩:=Cov.foldl hf l h1 (fun r hr=>l1.keep r (List.mem_append_left _ hr) (hM r (List.mem_cons_of_mem _ hr))) e;exact⟨M2,h2,(l1.mono fun _ x=>List.mem_append_right _ x).trans l2⟩
theorem Cov.leaveF:∀ (h:Nat) (lvl:Int) {t t':List UInt8} {a:Nat} {R:List Nat} {M:Nat->Bool},Cov (Zq S) (QU S) t (a :: R) M->M a=true->leaveF S h lvl t a=some t'->∃ M',Cov (Zq S) (QU S) t' R M'/\KP R M M'
 |0,lvl,t,t',a,R,M,_,_,e=>by cases e
 |h+1,lvl,t,t',a,R,M,hc,hM,e=>by
  rw[JT] at e;split at e
  ·cases e
  ·rename_i h0;split at e
   ·cases e;exact hc.loose (hc.low a hM).1
   ·rename_i h1;split at e
    ·cases e
    ·rename_i l xs hn;split at e
     ·cases e
     ·obtain⟨hg,hR,hk⟩:=hc.gone hM zO hn;have hlw:KP R M (GH M a):=⟨fun c hc=>(VC hc).1,fun c hcR hcM=>by
       rw[UV]
       ·exact hcM
       ·rintro rfl;exact absurd hcR (List.count_eq_zero.1 hR)⟩
      split at e
      ·rename_i hl;obtain⟨M',h2,l2⟩:=Cov.foldl (R:=R) (f:=fun t r=>Go.Proofs.YtmeadnlmepcmbaaGreat.leaveF S h (l-1) t r) (fun hc hM e=>Cov.leaveF h (l-1) hc hM e) (qE xs) hg (fun r hr=>hk r (by rw[qex hn hl];have h8:=(qbF hn hl r hr).1;have:=Yq hn (show 0<r by omega);have hp:=List.count_pos_iff.2 hr;exact List.count_pos_iff.1 zO)) e;exact⟨M',h2,hlw.trans l2⟩
      ·split at e
       ·cases e
       ·rename_i t1 el;cases e;obtain⟨M',h2,l2⟩:=Cov.looseL (R:=R) hg el;exact⟨M',h2,hlw.trans l2⟩
end
theorem Uj (S:Sto) (a b:Nat) (h:b∈Zq S a):b∈QU S a:=by
 unfold Zq at h;split at h
 ·cases h
 ·split at h
  ·exact h
  ·cases h
theorem Yt {rs rs':Nat->List Nat} {M:Nat->Bool} (h:∀ a,M a=true->rs' a=rs a) (b:Nat):∀ n,Ju rs' M b n=Ju rs M b n
 |0=>rfl
 |n+1=>by
  unfold Ju;rw[Yt h b n];by_cases hn:M n=true
  ·rw[if_pos hn,if_pos hn,h n hn]
  ·rw[if_neg hn,if_neg hn]
structure ZJ (S:Sto) (R:List Nat) (M:Nat->Bool):Prop where
 cov:Cov (Zq S) (QU S) S.now R M
 nd:∀ a,M a=true->(qu S a).isSome=true
theorem XI {S S':Sto} {a:Nat} (h:qu S' a=qu S a):QU S' a=QU S a/\Zq S' a=Zq S a:=by
 have e:QU S' a=QU S a:=by unfold QU;rw[h]
 refine⟨e,?_⟩;unfold Zq;rw[h,e]
theorem ZJ.perm {S:Sto} {R R':List Nat} {M:Nat->Bool} (h:ZJ S R M) (hc:∀ b,0<b->R'.count b<=R.count b):ZJ S R' M:=⟨h.cov.perm hc,h.nd⟩
theorem ZJ.fell {S:Sto} {R:List Nat} {M:Nat->Bool} {t:List UInt8} (h:Cov (Zq S) (QU S) t R M) (hn:∀ a,M a=true->(qu S a).isSome=true) (hle:∀ a,qL t a<=qL S.now a):ZJ (qy S t) R M:=by have he:∀ a,M a=true->qu (qy S t) a=qu S a:=fun a ha=>Yj (h.live a ha) (hle a);refine⟨⟨fun a ha b hb=>h.kid a ha b (by rw[<-(XI (he a ha)).2];exact hb),Uj _,fun b hb=>?_,h.live,h.low⟩,fun a ha=>by rw[he a ha];exact hn a ha⟩;rw[Yt (fun a ha=>(XI (he a ha)).1)];exact h.cnt b hb
theorem ZJ.leave {S:Sto} {R:List Nat} {M:Nat->Bool} {a:Nat} {t:List UInt8} (h:ZJ S (a :: R) M) (hM:M a=true) (e:QL S (-1) S.now a=some t):∃ M',ZJ (qy S t) R M'/\KP R M M':=by obtain⟨M',h1,h2⟩:=Cov.leaveF 7 (-1) h.cov hM e;exact⟨M',ZJ.fell h1 (fun a ha=>h.nd a (h2.le a ha)) (Gp S 7 (-1) S.now a t e),h2⟩
theorem ZJ.make {S S':Sto} {R:List Nat} {M:Nat->Bool} {h f:Nat} {p:List It} (hc:ZJ S R M) (hS:ql S=true) (hio:∀ x∈p,zy x) (hsp:(qG S h p).isSome=true) (hk:0<h->∀ r∈qE p,M r=true) (e:ZE S (h:Int) p=.ok (f,S')):ZJ S' (f :: R) (vJ M f)/\SM S S':=by
 obtain⟨hsm,hmay,-,hn,h8,hf⟩:=Gr hS hio hsp e;obtain⟨t,hm,ht,hw,-,-,hfb,rfl,htm⟩:=Ut hS e;have hl:=kE htm;have hsh:=TO ht;have h0:qL t f=0:=by unfold ZZ at hfb;simp only[Bool.and_eq_true,decide_eq_true_eq] at hfb;exact hfb.2.1
 have hcn:∀ b,qL (ZF (qy S t) f (Zg (Qv (h:Int) p))).now b=if b=f then 1 else qL t b:=fun b=>by show qL (t.set f 1) b=_;rw[Ua t zO];rfl
 have hMf:M f=false:=by
  rcases hx:M f with _|_
  ·rfl
  ·have h1:=hc.cov.live f hx;have h2:=hsh f zO;omega
 have hne:∀ a,M a=true->a≠f:=fun a ha e=>by rw[e,hMf] at ha;cases ha
 have wOO:∀ a,M a=true->qu (ZF (qy S t) f (Zg (Qv (h:Int) p))) a=qu S a:=fun a ha=>by obtain⟨nd,hnd⟩:=Option.isSome_iff_exists.1 (hc.nd a ha);rw[hnd];exact hsm.node a nd hnd
 have wOG:∀ a,vJ M f a=true->a=f\/M a=true:=fun a ha=>by
  unfold vJ at ha;split at ha
  ·rename_i e;exact .inl e
  ·exact .inr ha
 have hin:∀ a,M a=true->vJ M f a=true:=fun a ha=>by unfold vJ;rw[if_neg (hne a ha)];exact ha
 refine⟨⟨⟨fun a ha b hb=>?_,Uj _,fun b hb=>?_,fun a ha=>?_,fun a ha=>?_⟩,fun a ha=>?_⟩,hsm⟩
 ·rcases wOG a ha with rfl|ha
  ·obtain⟨h1,y,hy,e,hb0⟩:=qbv hn hb;exact hin b (hk h1 b (by rw[e];exact List.mem_map.2 ⟨y,hy,rfl⟩))
  ·exact hin b (hc.cov.kid a ha b (by rw[<-(XI (wOO a ha)).2];exact hb))
 ·rw[XK hMf,if_pos hf,Yt (fun a ha=>(XI (wOO a ha)).1),<-Yq hn hb,hcn b];have h1:=hc.cov.cnt b hb;have h2:=hsh b zO;by_cases e:b=f
  ·subst e;rw[List.count_cons_self,if_pos rfl];omega
  ·rw[List.count_cons_of_ne (fun x=>e x.symm),if_neg e];omega
 ·rw[hcn a];rcases wOG a ha with rfl|ha
  ·rw[if_pos rfl];omega
  ·rw[if_neg (hne a ha)];have h1:=hc.cov.live a ha;have h2:=hsh a (by have:=(hc.cov.low a ha).1;omega);omega
 ·rcases wOG a ha with rfl|ha
  ·omega
  ·exact hc.cov.low a ha
 ·rcases wOG a ha with rfl|ha
  ·rw[hn];rfl
  ·rw[wOO a ha];exact hc.nd a ha
section
variable {ks rs:Nat->List Nat} {R:List Nat} {M:Nat->Bool}
theorem Cov.loose' {t:List UInt8} {b:Nat} (h:Cov ks rs t (b :: R) M) (hb:0<b) (hp:0<Ju rs M b 256):Cov ks rs (ju t b) R M:=by
 have h1:=h.cnt b hb;rw[List.count_cons_self] at h1;have hne:qL t b≠0:=zO;refine⟨h.kid,h.sub,fun c hc=>?_,fun c hcM=>?_,h.low⟩
 ·rw[YU hne c];split
  ·rename_i e;subst e;omega
  ·rename_i e;have:=h.cnt c hc
   rwa [List.count_cons_of_ne (fun x=>e x.symm)] at this
 ·rw[YU hne c];split
  ·rename_i e;subst e;omega
  ·exact h.live c hcM
theorem Cov.looseL':∀ {l:List Nat} {t t':List UInt8},Cov ks rs t (l++R) M->(∀ b∈l,b≠0->0<Ju rs M b 256)->Go.Proofs.YtmeadnlmepcmbaaGreat.looseL l t=.ok t'->Cov ks rs t' R M
 | [],t,t',h,_,e=>by cases e;exact h
 |a :: l,t,t',h,hp,e=>by
  by_cases ha:a=0
  ·subst ha;rw[jC] at e;exact Cov.looseL' (h.perm fun b hb=>by rw[List.cons_append,List.count_cons_of_ne zO];exact zM _) (fun b hb=>hp b (List.mem_cons_of_mem _ hb)) e
  ·by_cases h0:qL t a=0
   ·rw[Jd ha h0] at e;cases e
   ·rw[jB ha h0] at e;exact Cov.looseL' (Cov.loose' (R:=l++R) h zO (hp a List.mem_cons_self ha)) (fun b hb=>hp b (List.mem_cons_of_mem _ hb)) e
end
theorem XH {S:Sto} {f h:Nat} {p:List It} (hn:qu S f=some ((h:Int),p)) {r:Nat} (hr:r∈qE p) (h0:r≠0):r∈QU S f:=by have:=Yq hn (show 0<r by omega);have hp:=List.count_pos_iff.2 hr;exact List.count_pos_iff.1 zO
theorem ZJ.makeL {h:Nat}:∀ {ps:List (List It)} {S S':Sto} {up:List It} {R:List Nat} {M:Nat->Bool},(∀ p∈ps,(∀ x∈p,zy x)/\(qG S h p).isSome=true)->(0<h->∀ p∈ps,∀ r∈qE p,M r=true)->ql S=true->ZJ S R M->Go.Proofs.YtmeadnlmepcmbaaGreat.makeL (h:Int) ps S=.ok (up,S') -> ∃ M',ZJ S' (qE up++R) M'/\(∀ a,M a=true->M' a=true)/\(∀ r∈qE up,M' r=true)/\SM S S'/\ql S'=true/\∀ p∈ps,∀ r∈qE p,r≠0->∃ f,M' f=true/\r∈QU S' f
 | [],S,S',up,R,M,_,_,hS,hc,e=>by cases e;exact⟨M,hc,fun _ h=>h,fun r hr=>by simp[qE] at hr,⟨fun _ _ e=>e,fun _ e=>e⟩,hS,fun p hp=>by cases hp⟩
 |p :: ps,S,S',up,R,M,hp,hk,hS,hc,e=>by
  simp only[Go.Proofs.YtmeadnlmepcmbaaGreat.makeL] at e;split at e
  ·cases e
  ·rename_i f S1 e1;obtain⟨hio,hsp⟩:=hp p List.mem_cons_self;obtain⟨m1,hS1,-,hn1,h8,hf⟩:=Gr hS hio hsp e1;obtain⟨hc1,-⟩:=hc.make hS hio hsp (fun h0=>hk h0 p List.mem_cons_self) e1;split at e
   ·cases e
   ·rename_i up1 S2 e2;cases e;have hin:∀ a,M a=true->vJ M f a=true:=fun a ha=>by unfold vJ;split <;> simp_all
    obtain⟨M2,h2,k2,r2,m2,hS2,q2⟩:=ZJ.makeL (fun q hq=>⟨(hp q (List.mem_cons_of_mem _ hq)).1,m1.spanOk (hp q (List.mem_cons_of_mem _ hq)).2⟩) (fun h0 q hq r hr=>hin r (hk h0 q (List.mem_cons_of_mem _ hq) r hr)) hS1 hc1 e2;have hfM:M2 f=true:=k2 f (by simp[vJ]);have hrf:(Gs (VR p) f).r.toNat=f:=by show ((f:Int)).toNat=f;omega
    refine⟨M2,h2.perm fun b _=>?_,fun a ha=>k2 a (hin a ha),fun r hr=>?_,m1.trans m2,hS2,fun q hq r hr h0=>?_⟩
    ·simp only[qE,List.map_cons,hrf,List.cons_append,List.count_append,List.count_cons];omega
    ·simp only[qE,List.map_cons,hrf,List.mem_cons] at hr;rcases hr with rfl|hr
     ·exact hfM
     ·exact r2 r hr
    ·rcases List.mem_cons.1 hq with rfl|hq
     ·exact⟨f,hfM,XH (m2.node _ _ hn1) hr h0⟩
     ·exact q2 q hq r hr h0
theorem qdJ {l p:List It} (hp:p∈Zs l):∃ a b,l=a++p++b:=by
 unfold Zs at hp;split at hp
 ·simp only[List.mem_cons,List.not_mem_nil,or_false] at hp;rcases hp with rfl|rfl
  ·exact⟨[],l.drop 3,zA2⟩
  ·exact⟨l.take 3,[],zA2⟩
 ·simp only[List.mem_cons,List.not_mem_nil,or_false] at hp;subst hp;exact⟨[],[],zA2⟩
theorem ZJ.build {S S':Sto} {h:Nat} {l held up:List It} {R:List Nat} {M:Nat->Bool} (hc:ZJ S (qE held++R) M) (hS:ql S=true) (hl:∀ x∈l,zy x) (hsp:(qG S h l).isSome=true) (xBG:∀ r∈qE held,r∈qE l) (hk:0<h->∀ r∈qE l,M r=true) (e:QQ S (h:Int) l held=.ok (up,S')):∃ M',ZJ S' (qE up++R) M'/\(∀ a,M a=true->M' a=true)/\(∀ r∈qE up,M' r=true):=by
 unfold QQ at e;split at e
 ·cases e
 ·rename_i up1 S1 e1;split at e
  ·cases e
  ·rename_i t e2;cases e;obtain⟨M1,h1,k1,r1,m1,hS1,q1⟩:=ZJ.makeL (fun p hp=>by
    obtain⟨a,b,rfl⟩:=qdJ hp;exact⟨fun x hx=>hl x (by simp[hx]),kA hsp⟩) (fun h0 p hp r hr=>by
    obtain⟨a,b,rfl⟩:=qdJ hp;exact hk h0 r (by unfold qE at *;simp only[List.map_append,List.mem_append];exact .inl (.inr hr))) hS hc e1
   have h1':ZJ S1 (qE held++(qE up++R)) M1:=h1.perm fun b _=>by simp only[List.count_append];omega
   have h2:=h1'.cov.looseL' (fun b hb h0=>by have hbl:=xBG b hb;rw[<-qbT l] at hbl;obtain⟨x,hx,ex⟩:=List.mem_map.1 hbl;obtain⟨p,hp,hxp⟩:=List.mem_flatten.1 hx;obtain⟨f,hf1,hf2⟩:=q1 p hp b (List.mem_map.2 ⟨x,hxp,ex⟩) h0;exact qcg hf1 hf2 (h1.cov.low f hf1).2) e2;exact⟨M1,ZJ.fell h2 h1.nd (VJ e2).2,k1,r1⟩
theorem qgb {S:Sto} {x:It} {R:List Nat} (hS:ql S=true) (hx:qaV S x):∀ (h:Nat) {a:Nat} {xs up:List It} {S':Sto} {M:Nat->Bool},qu S a=some ((h:Int),xs)->(qG S h xs).isSome=true->ZJ S (qE [x]++R) M->M a=true->jA (qt x) (kJ S (qt x) h xs).reverse [x] S=.ok (up,S') -> ∃ M',ZJ S' (qE up++R) M'/\(∀ a,M a=true->M' a=true)/\∀ r∈qE up,M' r=true
 |0,a,xs,up,S',M,hn,hs,hc,hM,e=>by
  rw[UU,List.reverse_singleton,Kz] at e;simp only at e;have ho:Ord xs:=(kz hs).2;rw[qgm ho] at e;have hmx:=(qQ hn).2.1;have hQT:∀ y∈kM (qt x) x xs,y=x\/y∈xs:=fun y hy=>by
   unfold kM at hy;simp only[List.mem_append,List.mem_filter,List.mem_singleton] at hy;rcases hy with (hy|hy)|hy
   ·exact .inr hy.1
   ·exact .inl hy
   ·exact .inr hy.1
  have hl:∀ y∈kM (qt x) x xs,zy y:=fun y hy=>by
   rcases hQT y hy with rfl|hy
   ·exact hx.ok
   ·exact(hmx y hy).1
  have hsp:(qG S 0 (kM (qt x) x xs)).isSome=true:=Zh.2 ⟨fun y hy=>by
   rcases hQT y hy with rfl|hy
   ·exact⟨_,hx.one⟩
   ·exact(Zh.1 hs).1 y hy,qaK ho⟩
  exact hc.build (h:=0) hS hl hsp (fun r hr=>by obtain⟨y,hy,rfl⟩:=List.mem_map.1 hr;rw[List.mem_singleton.1 hy];exact List.mem_map.2 ⟨x,by unfold kM;simp,rfl⟩) (fun h=>absurd h zO) e
 |h+1,a,xs,up,S',M,hn,hs,hc,hM,e=>by
  have h0:=Uu (qQ hn).1 zO;have hlt:=jQ (k:=qt x) h0;obtain⟨b,e1,hb8,-,zs,e4,e5⟩:=ZM (ZP hs _ (List.getElem_mem hlt));have hnb:qu S (xs[Zb xs (qt x)].r).toNat=some ((h:Int),zs):=by rw[e1,Int.toNat_natCast];exact e4
  have xAJ:∀ y∈xs,M y.r.toNat=true:=fun y hy=>hc.cov.kid a hM _ (by rw[qex hn zO];obtain⟨c,f1,f8,-⟩:=ZM (ZP hs y hy);exact XH hn (List.mem_map.2 ⟨y,hy,rfl⟩) (by rw[f1,Int.toNat_natCast];omega));have hMb:M b=true:=by
   have:=xAJ _ (List.getElem_mem hlt)
   rwa [e1,Int.toNat_natCast] at this
  rw[Xs (zL hlt) hnb,List.reverse_cons,JZ] at e;split at e
  ·cases e
  ·rename_i up1 S1 eg;obtain⟨m1,hS1,wLK,hi1,hVL,hVQ⟩:=KY hS hx h e4 e5 eg;obtain⟨M1,hc1,k1,r1⟩:=qgb hS hx h e4 e5 hc hMb eg;rw[Kz] at e;simp only at e;have hm1:Jt (qt x) (h+1) xs=1:=by unfold Jt;rw[if_neg zO]
   rw[hm1] at e;unfold Vq at e;obtain⟨hA,hC⟩:=qcn (k:=qt x) hs h0;have hmx:=(qQ hn).2.1;generalize hp:Zb xs (qt x)=p at *;have wCR:xs=xs.take p++[xs[p]]++xs.drop (p+1):=by rw[List.append_assoc,List.singleton_append,List.getElem_cons_drop,List.take_append_drop]
   have hs':=hs;rw[wCR] at hs';have hsA:(qG S (h+1) (xs.take p)).isSome=true:=kA (xs:=[]) (ys:=xs.take p) (zs:=[xs[p]]++xs.drop (p+1)) (by rw[List.nil_append,<-List.append_assoc];exact hs');have hsC:(qG S (h+1) (xs.drop (p+1))).isSome=true:=kA (xs:=xs.take p++[xs[p]]) (ys:=xs.drop (p+1)) (zs:=[]) (by rw[List.append_nil];exact hs');have hB:qI S (h+1) [xs[p]]=qI S h zs:=by simp only[qI,List.flatMap_cons,List.flatMap_nil,List.append_nil,hnb]
   have wHY:qI S1 (h+1) (xs.take p++up1++xs.drop (p+1))=kM (qt x) x (qI S (h+1) xs):=by
    conv=>rhs;rw[wCR,Qq,Qq,qjb hA hC,hB,<-hi1]
    rw[Qq,Qq,m1.items _ _ hsA,m1.items _ _ hsC]
   have hl:∀ y∈xs.take p++up1++xs.drop (p+1),zy y:=fun y hy=>by
    rcases List.mem_append.1 hy with hy|hy
    ·rcases List.mem_append.1 hy with hy|hy
     ·exact(hmx y (List.mem_of_mem_take hy)).1
     ·exact(hVQ y hy).1
    ·exact(hmx y (List.mem_of_mem_drop hy)).1
   have hsp:(qG S1 (h+1) (xs.take p++up1++xs.drop (p+1))).isSome=true:=Zh.2 ⟨kX (kX (m1.each (Zh.1 hsA).1) (Zh.1 wLK).1) (m1.each (Zh.1 hsC).1),by rw[wHY];exact qaK (kz hs).1⟩;obtain⟨M2,hc2,k2,r2⟩:=hc1.build (h:=h+1) hS1 hl hsp (fun r hr=>by
    obtain⟨y,hy,rfl⟩:=List.mem_map.1 hr;exact List.mem_map.2 ⟨y,by simp[hy],rfl⟩) (fun _ r hr=>by
    obtain⟨y,hy,rfl⟩:=List.mem_map.1 hr;rcases List.mem_append.1 hy with hy|hy
    ·rcases List.mem_append.1 hy with hy|hy
     ·exact k1 _ (xAJ y (List.mem_of_mem_take hy))
     ·exact r1 _ (List.mem_map.2 ⟨y,hy,rfl⟩)
    ·exact k1 _ (xAJ y (List.mem_of_mem_drop hy))) e
   exact⟨M2,hc2,fun a ha=>k2 a (k1 a ha),r2⟩
theorem put_cov {S S':Sto} {h a r:Nat} {xs:List It} {x:It} {R:List Nat} {M:Nat->Bool} (hS:ql S=true) (hx:qaV S x) (hn:qu S a=some ((h:Int),xs)) (hs:(qG S h xs).isSome=true) (hc:ZJ S (qE [x]++a :: R) M) (hM:M a=true) (e:putX S h xs a x=.ok (r,S')) : ∃ M',ZJ S' (r :: R) M'/\M' r=true/\∀ b∈R,M b=true->M' b=true:=by
 unfold putX at e;split at e
 ·cases e
 ·split at e
  ·cases e
  ·rename_i up S1 eg;obtain⟨m1,hS1,wLK,hi1,hVL,hVQ⟩:=KY hS hx h hn hs eg;obtain⟨M1,hc1,k1,r1⟩:=qgb hS hx h hn hs hc hM eg;have hwl:=UT (k:=qt x) h (qQ hn).1 hs;split at e
   ·cases e
   ·rename_i up2 S2 eb;split at e
    ·cases e
    ·rename_i t hl;cases e;have hCI:∀ {y:It} {S2:Sto} {t:List UInt8} {M2:Nat->Bool},QL S2 (-1) S2.now a=some t->ZJ S2 (qE [y]++a :: R) M2->(∀ a,M a=true->M2 a=true)->(∀ r∈qE [y],M2 r=true)->∃ M',ZJ (qy S2 t) (y.r.toNat :: R) M'/\M' y.r.toNat=true/\∀ b∈R,M b=true->M' b=true:=fun {y S2 t M2} hl h2 k2 r2=>by
      have h3:ZJ S2 (a :: (y.r.toNat :: R)) M2:=h2.perm fun b _=>by simp only[qE,List.map_cons,List.map_nil,List.cons_append,List.nil_append,List.count_cons];omega
      obtain⟨M3,h4,l4⟩:=h3.leave (k2 a hM) hl;exact⟨M3,h4,l4.keep _ List.mem_cons_self (r2 _ (by simp[qE])),fun b hb hMb=>l4.keep b (List.mem_cons_of_mem _ hb) (k2 b hMb)⟩
     split at eb
     ·rename_i hlen;rw[hwl] at eb;have hmay:=VQ (fun y hy=>(hVQ y hy).1) (fun y hy=>(hVQ y hy).2) hS1 eb;have hup:up.length<=2:=Gl eg zA2;obtain⟨y,hy⟩:∃ y,up2=[y]:=by have h1:=hmay.2.1;unfold Zs at h1;rw[if_neg zO] at h1;exact List.length_eq_one_iff.1 (by simpa using h1)
      obtain⟨M2,h2,k2,r2⟩:=hc1.build (h:=h+1) hS1 (fun y hy=>(hVQ y hy).1) wLK (fun r hr=>hr) (fun _ r hr=>r1 r hr) eb;subst hy;exact hCI hl h2 (fun a ha=>k2 a (k1 a ha)) r2
     ·cases eb;rename_i hlen;obtain⟨y,hy⟩:∃ y,up=[y]:=List.length_eq_one_iff.1 (by have:=List.length_pos_iff.2 hVL;omega);subst hy;exact hCI hl hc1 k1 r1
theorem qdS {rs:Nat->List Nat} {M:Nat->Bool} {b:Nat} (h:∀ a,M a=true->b∉rs a):∀ n,Ju rs M b n=0
 |0=>rfl
 |n+1=>by
  unfold Ju;rw[qdS h n];split
  ·rename_i hn;rw[List.count_eq_zero.2 (h n hn)]
  ·rfl
theorem qkr {S:Sto} {a b:Nat} (h:b∈QU S a):0<b/\b<256:=by
 unfold QU at h;split at h
 ·cases h
 ·rename_i lvl xs hn;obtain⟨h1,h2⟩:=List.mem_filter.1 h;have:=(KH hn b h1).2;simp only[bne_iff_ne,ne_eq] at h2;omega
theorem qgx {S:Sto} {a:Nat} (h:(qu S a).isSome=true):qL S.now a≠0:=fun e=>by
 have e2:qu S a=if qL S.now a=0 then none else QG (Zu S a):=rfl
 rw[e2,if_pos e] at h;cases h
theorem ZJ.of {S:Sto} {root next:Int} {dead:List Int} {vs:List Vol} {refs nodes:Nat->Nat} (hp:Qo S root next dead vs) (hc:qY S (Qj root dead vs) refs nodes) (he:QB S refs):ZJ S (Qj root dead vs) (vz nodes):=by
 have htr:∀ a,vz nodes a=true->ZX S a:=fun a ha=>qin (R:=(· ∈ Qj root dead vs)) hp.trees (hc.mkd.reach a ha);have hnd:∀ a,vz nodes a=true->(qu S a).isSome=true:=fun a ha=>by obtain⟨-,-,lvl,xs,hn,-⟩:=htr a ha;rw[hn];rfl
 refine⟨⟨hc.mkd.kids,Uj S,fun b hb=>?_,fun a ha=>qgx (hnd a ha),fun a ha=>?_⟩,hnd⟩
 ·rw[<-hc.mkd.sum b];by_cases h2:b<256
  ·exact he b h2
  ·have h1:(Qj root dead vs).count b=0:=List.count_eq_zero.2 fun h=>by have:=(hp.trees b h).2.1;omega
   have h3:Ju (QU S) (vz nodes) b 256=0:=qdS (fun a _ h=>by have:=(qkr h).2;omega) _;rw[hc.mkd.sum b];omega
 ·obtain⟨h8,h256,-⟩:=htr a ha;omega
theorem ZJ.held {S:Sto} {R:List Nat} {M:Nat->Bool} {a:Int} (h:ZJ S R M) (hs:Zn S a=0):ZJ (Jr S a) (a.toNat :: R) M:=by
 have hsm:=(qev hs).2.1;have h0:jt S a=0:=by
  unfold Zn at hs;split at hs
  ·rename_i hh;exact absurd hs hh
  ·rename_i hh;exact Classical.not_not.1 hh
 obtain⟨hS,m,rfl,h8,h256,-⟩:=Vt h0;have h255:Zo S m≠255:=fun e=>by unfold Zn at hs;rw[if_neg (by rw[h0];simp),Int.toNat_natCast,if_pos e] at hs;cases hs
 have hl:=(qX hS).2.2.1;have hcn:∀ b,qL (Jr S (m:Int)).now b=qL S.now b+if b=m then 1 else 0:=fun b=>by
  show qL (jj S.now (m:Int).toNat 1) b=_;rw[Int.toNat_natCast];unfold jj;rw[Ua _ zO];split
  ·rename_i e;subst e;have h2:=Xx S.now b;have h3:qL S.now b≠255:=h255;rw[UInt8.toNat_ofNat'];omega
  ·rfl
 have hnd:∀ a,M a=true->qu (Jr S (m:Int)) a=qu S a:=fun a ha=>by obtain⟨nd,hn⟩:=Option.isSome_iff_exists.1 (h.nd a ha);rw[hn];exact hsm.node a nd hn
 rw[Int.toNat_natCast];refine⟨⟨fun a ha b hb=>h.cov.kid a ha b (by rw[<-(XI (hnd a ha)).2];exact hb),Uj _,fun b hb=>?_,fun a ha=>?_,h.cov.low⟩,fun a ha=>by rw[hnd a ha];exact h.nd a ha⟩
 ·have h1:=h.cov.cnt b hb;rw[Yt (fun a ha=>(XI (hnd a ha)).1),hcn,List.count_cons];by_cases e:b=m
  ·subst e;simp only[beq_self_eq_true,if_true];omega
  ·rw[if_neg e,if_neg (by simpa using fun x=>e x.symm)];omega
 ·rw[hcn];have:=h.cov.live a ha;omega
theorem qbl {α β:Type} {f g:β->α->β}:∀ (l:List α) (a:β),(∀ a,∀ b∈l,f a b=g a b)->l.foldl f a=l.foldl g a
 | [],_,_=>rfl
 |x :: l,a,h=>by rw[List.foldl_cons,List.foldl_cons,h a x List.mem_cons_self];exact qbl l _ fun a b hb=>h a b (List.mem_cons_of_mem _ hb)
theorem ZJ.span {S2:Sto} {t:List UInt8} {R:List Nat} {M:Nat->Bool} (h:ZJ (qy S2 t) R M) (hle:∀ b,qL t b<=qL S2.now b):∀ (H:Nat) {a:Nat} {ys:List It},M a=true->qu S2 a=some ((H:Int),ys)->(qG S2 H ys).isSome=true->qG (qy S2 t) H ys=qG S2 H ys:=by
 have hnd:∀ a,M a=true->qu (qy S2 t) a=qu S2 a:=fun a ha=>Yj (h.cov.live a ha) (hle a);have hf:∀ {H:Nat} {ys:List It},(∀ y∈ys,jv (qy S2 t) H y=jv S2 H y)->qG (qy S2 t) H ys=qG S2 H ys:=fun {H ys} hy=>by unfold qG;refine qbl _ _ fun a y hm=>?_;unfold jV;rw[hy y hm]
 intro H;induction H with
 |zero =>
  intro a ys hM hn hs;refine hf fun y hy=>?_;have h1:=ZP hs y hy;have h2:=(qQ hn).2.1 y hy;have hit:=h2.2;unfold itB at hit;rw[decide_eq_true_eq] at hit;unfold jv at h1 ⊢;split at h1
  ·rename_i hc;rw[if_pos hc,if_pos];by_cases hr:y.r=0
   ·exact .inl hr
   ·right;have hm:y.r.toNat∈QU (qy S2 t) a:=XH ((hnd a hM).trans hn) (List.mem_map.2 ⟨y,hy,rfl⟩) zO;have h3:=qcg hM hm (h.cov.low a hM).2;have h4:=h.cov.cnt y.r.toNat zO;show 0<qL t _;have h5:qL (qy S2 t).now y.r.toNat=qL t y.r.toNat:=rfl;omega
  ·cases h1
 |succ H ih =>
  intro a ys hM hn hs;refine hf fun y hy=>?_;obtain⟨b,e1,h8,h256,zs,e4,e5⟩:=ZM (ZP hs y hy);have hMb:M b=true:=by
   have:=h.cov.kid a hM y.r.toNat (by rw[qex ((hnd a hM).trans hn) zO];exact XH ((hnd a hM).trans hn) (List.mem_map.2 ⟨y,hy,rfl⟩) (by rw[e1,Int.toNat_natCast];omega))
   rwa [e1,Int.toNat_natCast] at this
  have h3:=ih hMb e4 e5;rw[JV,JV];unfold vI;rw[e1,Int.toNat_natCast,hnd b hMb,e4];simp only[h3]
theorem ZJ.tree {S2:Sto} {t:List UInt8} {R:List Nat} {M:Nat->Bool} (h:ZJ (qy S2 t) R M) (hle:∀ b,qL t b<=qL S2.now b) {a:Nat} (hM:M a=true) (ht:ZX S2 a):ZX (qy S2 t) a:=by obtain⟨h8,h256,lvl,xs,hn,hs⟩:=ht;exact⟨h8,h256,lvl,xs,(Yj (h.cov.live a hM) (hle a)).trans hn,by rw[h.span hle lvl hM hn hs];exact hs⟩
theorem qhb {S:Sto} {a:Nat} (h:ZX S a):okL S (-1) (a:Int)=true:=by obtain⟨h8,h256,lvl,xs,hn,hs⟩:=h;unfold okL;rw[if_pos zO,Int.toNat_natCast,hn];simp[hs]
theorem ZJ.extra {S:Sto} {R:List Nat} {M:Nat->Bool} {a:Nat} (h:ZJ S R M) (ha:R.count a+Ju (QU S) M a 256<qL S.now a):ZJ S (a :: R) M:=
 ⟨⟨h.cov.kid,h.cov.sub,fun b hb=>by
  rw[List.count_cons];by_cases e:a=b
  ·subst e;simp only[beq_self_eq_true,if_true];omega
  ·rw[if_neg (by simpa using e)];exact h.cov.cnt b hb,h.cov.live,h.cov.low⟩,h.nd⟩
theorem putN_cov {S S2:Sto} {a r:Nat} {x:It} {R:List Nat} {M:Nat->Bool} (hS:ql S=true) (hio:zy x) (ht:ZX S a) (hc:ZJ S (x.r.toNat :: a :: R) M) (hM:M a=true) (e:UJ S a x=.ok (r,S2)):ZX S2 r/\∃ M',ZJ S2 (r :: R) M'/\M' r=true/\∀ b∈R,M b=true->M' b=true:=by
 obtain⟨h8,h256,lvl,xs,hn,hs⟩:=ht;unfold UJ at e;rw[hn] at e;simp only[Int.toNat_natCast] at e;unfold XW at e;split at e
 ·rename_i wZJ;have hx:=qaV.of hio wZJ;obtain⟨M',h1,h2,h3⟩:=put_cov hS hx hn hs (R:=R) (M:=M) hc hM e;obtain⟨T,t,H,ys,rfl,m,hT,hn2,hs2,hi2,hl⟩:=qkq hS hx hn hs e;have hlo:=h1.cov.low r h2;refine⟨h1.tree (Gp T 7 _ _ _ _ hl) h2 ⟨?_,hlo.2,H,ys,hn2,hs2⟩,M',h1,h2,h3⟩;by_cases h:8<=r
  ·exact h
  ·exfalso;have h4:=qgx (S:=T) (a:=r) (by rw[hn2];rfl);exact h4 (by
    have h5:=(qF.1 hT).2.1;unfold Qt Vs at h5;simp only[Bool.and_eq_true,List.all_eq_true] at h5;have hl5:=kE (qF.1 hT).2.1;have h6:=h5.2 (T.now[r]'(by omega)) (List.mem_iff_getElem.2 ⟨r,zA1,zA2⟩);have h7:T.now[r]'(by omega)=0:=by simpa using h6
    unfold qL;rw[zL zO,h7];rfl)
 ·cases e
theorem put_tree {S S2:Sto} {root next:Int} {dead:List Int} {vs:List Vol} {refs nodes:Nat->Nat} {v:Vol} {x:It} {r:Nat} (hp:Qo S root next dead vs) (hc:qY S (Qj root dead vs) refs nodes) (he:QB S refs) (hv:v∈vs) (hio:zy x) (hd:x.r=0\/QX S refs nodes x.r true=0) (hsh:Zn S v.root=0) (e:UJ (Jr S v.root) v.root.toNat x=.ok (r,S2)):ZX S2 r/\∃ M',ZJ S2 (r :: Qj root dead vs) M'/\M' r=true/\∀ b∈Qj root dead vs,M' b=true:=by
 obtain⟨-,hsm,hmay⟩:=qev hsh;obtain⟨a,ha,ht⟩:=qdQ hp hv;have hin:v.root.toNat∈Qj root dead vs:=List.mem_map.2 ⟨v.root,by unfold ZU;exact List.mem_append_right _ (List.mem_map.2 ⟨v,hv,rfl⟩),rfl⟩;have h1:ZJ S (x.r.toNat :: Qj root dead vs) (vz nodes):=by
  rcases hd with h0|hd
  ·exact(ZJ.of hp hc he).perm fun b hb=>by rw[h0,List.count_cons_of_ne (by show (0:Int).toNat≠b;simp;omega)];exact zM _
  ·refine(ZJ.of hp hc he).extra ?_;rw[<-hc.mkd.sum];unfold QX at hd;split at hd
   ·split at hd
    ·cases hd
    ·rename_i h2;simp only[not_or,true_and,Nat.not_le] at h2;exact h2.2.2
   ·cases hd
 have h2:=h1.held hsh;have htr:ZX (Jr S v.root) v.root.toNat:=by rw[ha,Int.toNat_natCast];obtain⟨b,e1,hb⟩:=vn (hsm.okL (qhb ht));obtain rfl:a=b:=zO;rw[ha] at hb;exact hb
 obtain⟨k1,M',k2,k3,k4⟩:=putN_cov (R:=Qj root dead vs) hmay hio htr (h2.perm fun b _=>by simp only[List.count_cons];omega) (hc.mkd.root _ hin) e;exact⟨k1,M',k2,k3,fun b hb=>k4 b hb (hc.mkd.root b hb)⟩
theorem qeb (A1 n1 c1 A2 n2 c2 A3 n3 c3 A4 n4 c4) (gen root next:Int) (A5 c5) (S:Sto) (dead:List Int) (id:Int) (x:It) (hxo:itB x.r x.val.length=true->zy x) (Ax:OA) (cx:Nat) (w:World) (h:qZ w w.heap.size (.slice A1 n1 c1) (.slice A2 n2 c2) (.slice A3 n3 c3) (.slice A4 n4 c4) S) (hd:Zw w w.heap.size (.slice A5 dead.length c5) dead) (hxv:Bys w w.heap.size (.slice Ax x.val.length cx) x.val):Calls prog 27 #[.agg (qC (.slice A1 n1 c1) (.slice A2 n2 c2) (.slice A3 n3 c3) (.slice A4 n4 c4) gen root next (.slice A5 dead.length c5)),.int .u32 id,itV x Ax cx] w (qfo S gen root next dead id x w):=
 qkJ A1 n1 c1 A2 n2 c2 A3 n3 c3 A4 n4 c4 gen root next A5 c5 S dead id x hxo Ax cx (fun vs refs nodes v hp hc he hv _ hdt hsh r2 S2 hq=>by
  by_cases hi:itB x.r x.val.length=true
  ·exact qhb (put_tree hp hc he (XS hv) (hxo hi) hdt hsh hq).1
  ·exfalso;unfold UJ at hq;split at hq
   ·cases hq
   ·unfold XW XV at hq;rw[if_neg hi] at hq;simp at hq) w h hd hxv
abbrev Vm:Array Value:=qC (.slice none 0 0) (.slice none 0 0) (.slice none 0 0) (.slice none 0 0) 0 0 0 (.slice none 0 0)
section
variable {W W':World} {B p:Nat} {ty:TypeId}
theorem Rd.skipC {sz n:Nat} {A:OA} {vs:List Value} {cs:Array Value} (h:Rd W B sz A n vs) (hp:W.heap[p]?=some (.cells cs ty (0,0))) (hk:∀ k,k≠p->W'.heap[k]?=W.heap[k]?) (hn:0<n->∀ o:Nat,∃ j u,vs[j]?=some u/\cs[o+j]?≠some u):Rd W' B sz A n vs:=by
 refine⟨h.1,fun h0=>?_⟩;obtain⟨b,o,e,hb,hc⟩:=h.2 h0;have hbp:b≠p:=fun e=>by subst e;obtain⟨j,u,hu,hne⟩:=hn h0 o;have:=hc j u hu;rw[qa hp] at this;exact hne this
 exact⟨b,o,e,hb,fun j u hu=>(World.cell?_of_block (w:=W) (hk b hbp)).trans (hc j u hu)⟩
theorem qbX:∀ (o:Nat) (u:Value),Vm[o]?=some u->o<8/\(u=.slice none 0 0\/u=.int .u32 0\/(o=5/\u=.int .i64 0)):=fun o u h=>by rcases o with _|_|_|_|_|_|_|_|o <;> simp[Vm,qC] at h <;> subst h <;> simp
theorem Bys.skip {v:Value} {l:List UInt8} (h:Bys W B v l) (hp:W.heap[p]?=some (.cells Vm ty (0,0))) (hk:∀ k,k≠p->W'.heap[k]?=W.heap[k]?):Bys W' B v l:=by obtain⟨A,c,e,h1,h2,hr⟩:=h;refine⟨A,c,e,h1,h2,hr.skipC hp hk fun h0 o=>⟨0,bv (l[0]'h0),by rw[List.getElem?_map,zL h0];rfl,fun h=>?_⟩⟩;rcases(qbX _ _ h).2 with h|h|⟨-,h⟩ <;> cases h
theorem qZ.skip {v1 v2 v3 v4:Value} {S:Sto} (h:qZ W B v1 v2 v3 v4 S) (hp:W.heap[p]?=some (.cells Vm ty (0,0))) (hk:∀ k,k≠p->W'.heap[k]?=W.heap[k]?) (h8:8<S.bs.length):qZ W' B v1 v2 v3 v4 S:=by
 refine⟨?_,?_,h.now.skip hp hk,h.last.skip hp hk⟩
 ·obtain⟨vs,A,c,e,h1,h2,hr,hl⟩:=h.bs;refine⟨vs,A,c,e,h1,h2,hr.skipC hp hk fun h0 o=>?_,fun i u l hu hb=>(hl i u l hu hb).skip hp hk⟩;have hv:8<vs.length:=by have:=hr.1;omega
  refine⟨8,vs[8],zL hv,fun h=>?_⟩;have:=(qbX _ _ h).1;omega
 ·obtain⟨ps,e,⟨A,c,e1,e2,e3,hr⟩,hq⟩:=h.ws;refine⟨ps,e,⟨A,c,e1,e2,e3,hr.skipC hp hk fun h0 o=>?_⟩,fun q hm=>⟨(hq q hm).1,(hq q hm).2.skip hp hk⟩⟩;obtain⟨q,qs,rfl⟩:∃ q qs,ps=q :: qs:=by
   cases ps with
   |nil=>rw[<-e] at h0;simp at h0
   |cons q qs=>exact⟨q,qs,rfl⟩
  by_cases hx:Vm[o]?=some (.int .i64 q.1.1)
  ·refine⟨1,q.2,rfl,fun h=>?_⟩;rcases(qbX _ _ hx).2 with h1|h1|⟨ho,h1⟩
   ·cases h1
   ·cases h1
   ·subst ho;obtain⟨A,c,e⟩:=(hq q List.mem_cons_self).1;rw[e] at h;simp[Vm,qC] at h
  ·exact⟨0,.int .i64 q.1.1,rfl,hx⟩
end
theorem qkc {R:Ending->World->Prop} {a:Act} {W:World} {b:Nat} {x0 x1 x2:Value} (h4:a.tmps[2]?.getD undef=.pointer (some ⟨b,0,none⟩)) (hd:a.defers=[]) (hCA:W.heap[b]?=some (.cells #[x0,x1,x2] 49 (0,0))) (hR:R (.returned (.agg #[x0,x1,x2])) W):bodyPost prog Tryz.f33 R .ret a W:=by
 refine bodyPost_ret (v:=.agg #[x0,x1,x2]) ?_ hd hR;have k:=qa hCA;simp[results,results33,go_sem,h4,k]
theorem XB (n:Int) (w:World):Calls prog 33 #[.int .u32 n] w (Ret (Xd 2 0 n) w):=by go_enter func33,ntmps33;go_wp2;exact qkc (b:=w.heap.size) rfl rfl (zI _ _ _ rfl) ⟨rfl,zN _ _⟩
def outPl (lo:Nat) (S:Sto) (gen root next:Int) (dead:List Int):Qe:=⟨PV,fun p=>.tuple #[.agg p.cs,.int .i64 0],fun p W=>jx lo S gen root next dead (.agg p.cs) W⟩
theorem jk (lo:Nat) (S:Sto) (gen root next:Int) (dead:List Int) (p:PV):(outPl lo S gen root next dead).f p=.tuple #[.agg p.cs,.int .i64 0]:=rfl
theorem qeK (lo:Nat) (S:Sto) (gen root next:Int) (dead:List Int):∀ p,qJ qm ((outPl lo S gen root next dead).φ p):=fun p W W' he h=>by have he:Ext W W':=he;exact jx.keep h (zM _) he.size fun b _ hb=>he.block b hb
theorem jx.pv {lo:Nat} {S:Sto} {gen root next:Int} {dead:List Int} {u:Value} {W:World} (h:jx lo S gen root next dead u W):∃ p:PV,u=.agg p.cs:=by obtain⟨E1,e1,E2,e2,E3,e3,E4,e4,E5,e5,rfl,-⟩:=_root_.id h;exact⟨⟨E1,_,e1,E2,_,e2,E3,_,e3,E4,_,e4,gen,root,next,E5,_,e5⟩,rfl⟩
def qeH (x:It):Qe:=⟨OA×Nat,fun p=>.tuple #[.agg (Gm x p.1 p.2),.int .i64 0],fun p W=>Bys W W.heap.size (.slice p.1 x.val.length p.2) x.val⟩
theorem ZA (x:It) (A:OA) (c:Nat):(qeH x).f (A,c)=.tuple #[.agg (Gm x A c),.int .i64 0]:=rfl
theorem qcQ (x:It):∀ p,qJ qm ((qeH x).φ p):=fun p W W' he h=>by have he:Ext W W':=he;have h:Bys W W.heap.size (.slice p.1 x.val.length p.2) x.val:=h;exact(h.below he).more he.size
def HasPl (S:Sto) (gen root next:Int) (u:Value) (W:World):Prop:=∃ A1 c1 A2 c2 A3 c3 A4 c4 A5 c5,u=.agg (qC (.slice A1 S.bs.length c1) (.slice A2 S.ws.length c2) (.slice A3 S.now.length c3) (.slice A4 S.last.length c4) gen root next (.slice A5 0 c5))/\qZ W W.heap.size (.slice A1 S.bs.length c1) (.slice A2 S.ws.length c2) (.slice A3 S.now.length c3) (.slice A4 S.last.length c4) S/\Zw W W.heap.size (.slice A5 0 c5) []
theorem Zw.nil_of {W W':World} {B B':Nat} {v:Value} (h:Zw W B v []):Zw W' B' v []:=by obtain⟨A,c,e,h1,h2,-⟩:=h;exact⟨A,c,e,h1,h2,rfl,fun h=>absurd h zA2⟩
theorem u2_bs:8<u2.bs.length:=by decide +kernel
theorem qiH {R:Ending->World->Prop} {a:Act} {W:World} {b:Nat} {x0 x1 x2 x3 x4 x5 x6 x7 v:Value} (h4:a.tmps[0]?.getD undef=.pointer (some ⟨b,0,none⟩)) (h5:a.tmps[1]?.getD undef=v) (hd:a.defers=[]) (hCA:W.heap[b]?=some (.cells #[x0,x1,x2,x3,x4,x5,x6,x7] 32 (0,0))) (hR:R (.returned (.tuple #[.agg #[x0,x1,x2,x3,x4,x5,x6,x7],v])) W):bodyPost prog Tryz.f31 R .ret a W:=by
 refine bodyPost_ret (v:=.tuple #[.agg #[x0,x1,x2,x3,x4,x5,x6,x7],v]) ?_ hd hR;have k:=qa hCA;simp[results,results31,go_sem,h4,h5,k]
set_option maxRecDepth 100000 in
theorem qcx (w:World):Calls prog 31 #[] w (zF (fun u W=>∃ v,u=.tuple #[v,.bool true]/\HasPl u2 0 11 2 v W) w):=by
 go_enter func31,ntmps31;go_wp2_with fail;generalize hw1:World.alloc _ _=w1;have x1:Ext w w1:=by rw[<-hw1];exact zN _ _
 have q1:w1.heap[w.heap.size]?=some (.cells (qC (.slice none 0 0) (.slice none 0 0) (.slice none 0 0) (.slice none 0 0) 0 0 0 (.slice none 0 0)) 32 (0,0)):=by rw[<-hw1];exact zI _ _ _ zA2
 clear hw1;refine(fnew_any w1).mono ?_;rintro e w2 ⟨u,rfl,hp,hB⟩;have x12:Ext w1 w2:=hB;have x2:Ext w w2:=x1.trans x12;have q2:=qb q1 x12;obtain⟨A1,c1,A2,c2,A3,c3,A4,c4,rfl,hS⟩:=hp.sto;obtain⟨l1,l2,l3,l4⟩:=YV;have HC:=zH (fun W (hx:Ext w2 W)=>qhe A1 256 c1 A2 1 c2 A3 256 c3 A4 256 c4 0 8 1 none 0 qT [] zD zD W (hS.ext hx) (Zw.nil_ _ _));clear hS hp l1 l2 l3 l4 hB x1 q1 x12;go_wp2_with fail;refine(HC.out w2 (Ext.refl _)).mono ?_;clear HC;intro e w3 hq;obtain⟨hB,u,rfl,hN⟩:=qhC u1_cre hq;have x23:Ext w2 w3:=hB;have x3:Ext w w3:=x2.trans x23;have q3:=qb q2 x23;obtain⟨A1',c1',A2',c2',A3',c3',A4',c4',A5,c5,rfl,hS,hI⟩:=hN.sto;clear hN hq hB q2 x2 x23;go_wp2_with fail;generalize hw4:World.alloc w3 _=w4;have x34:Ext w3 w4:=by rw[<-hw4];exact zN _ _
 have p4:w4.heap[w3.heap.size]?=some (.cells (qC (.slice A1' u1.bs.length c1') (.slice A2' u1.ws.length c2') (.slice A3' u1.now.length c3') (.slice A4' u1.last.length c4') 0 10 2 (.slice A5 0 c5)) 32 (0,0)):=by rw[<-hw4];exact zI _ _ _ zA2
 have q4:=qb q3 x34;clear hw4 q3;have gP:∀ W,qm.r w4 W->∀ i,W.cell? ⟨w3.heap.size,i,none⟩=(qC (.slice A1' u1.bs.length c1') (.slice A2' u1.ws.length c2') (.slice A3' u1.now.length c3') (.slice A4' u1.last.length c4') 0 10 2 (.slice A5 0 c5))[i]?:=fun W h=>qa (qb p4 h);have HP:=zH (fun W (hx:Ext w4 W) A c (hb:Bys W W.heap.size (.slice A 1 c) x17.val)=>qeb A1' _ c1' A2' _ c2' A3' _ c3' A4' _ c4' 0 10 2 A5 c5 u1 [] 1 x17 (fun _=>by refine⟨⟨?_,?_⟩,⟨?_,?_⟩,⟨?_,?_⟩,⟨?_,?_⟩,?_⟩ <;> decide) A c W (hS.ext (x34.trans hx)) (hI.ext_ (x34.trans hx)) hb);clear hS hI;go_upto_region 2 with fail;refine qp zQ ?_;refine Jw 10 8 zE zQ rfl rfl zQ zQ zQ zQ ?_;dsimp only[jq,Array.push,List.push_toArray,List.concat_eq_append];refine Qa (w:=w4) qm (qM [(2,one (Xd 2 0 2)),(3,jh w4.heap.size 1 5 #[.int .u8 7]),(5,outPl w4.heap.size u2 0 11 2 []),(9,Zy w4.heap.size 32 Vm)]) (List.replicate 10 true) 2 zQ zQ zQ zQ zQ zQ zQ ?st (Rel.drew _ _) ?walk
 case st=>exact qj (by simp only[List.forall_mem_cons];exact⟨jD _,fun p=>Qp (jP _ _ _ _ p),qeK _ _ _ _ _ _,fun p=>Qp (QY _ _ _ p),fun _ h=>by cases h⟩)
 case walk =>
  intro K hK;dsimp only[qw,List.replicate];refine zD2 ?_;refine qz (one (Xd 2 0 2)) zA0 zA0 (fun W hW _=>?_) (fun (p:Unit)=>?_)
  ·refine qV ?_ ((XB 2 W).mono fun e w' h=>?_)
   ·go_simp
   exact⟨(),h.1,trivial,h.2⟩
  refine zD2 ?_;refine qz (jh w4.heap.size 1 5 #[.int .u8 7]) zA0 zA0 (fun W hW _=>?_) (fun (p3:Nat)=>?_)
  ·have hW:Ext w4 W:=hW;unfold QA;go_simp;exact⟨W.heap.size,rfl,⟨zI _ _ _ rfl,hW.size⟩,zN _ _⟩
  refine zD2 ?_;refine qz (outPl w4.heap.size u2 0 11 2 []) zA0 zA0 (fun W hW hp=>?_) (fun (p5:PV)=>?_)
  ·have hW:Ext w4 W:=hW;obtain⟨f3,_⟩:W.heap[p3]?=some (.cells #[.int .u8 7] 5 (0,0))/\w4.heap.size<=p3:=((hp 4 zD).2 3 zD).1;refine qV ?_ ((HP.out W hW (some ⟨p3,0,none⟩) 1 (Bys.lit (l:=[7]) f3 (by simp[maxLen]))).mono fun e w' hq=>?_)
   ·go_simp;exact⟨rfl,rfl,rfl,rfl,rfl⟩
   obtain⟨hB,u,rfl,hN⟩:=vputC_ok u2_put hq;obtain⟨p,rfl⟩:=hN.pv;exact⟨p,rfl,hN.keep hW.size (zM _) (fun _ _ _=>rfl),hB⟩
  obtain⟨E1,m1,e1,E2,m2,e2,E3,m3,e3,E4,m4,e4,g5,t5,n5,E5,m5,e5⟩:=p5;refine zD2 ?_;refine qz (Zy w4.heap.size 32 Vm) zA0 zA0 (fun W hW _=>?_) (fun (p9:Nat)=>?_)
  ·refine Zm ?_ (Below.size hW);go_simp
  refine zD2 ?_;refine qA (hK _ _ fun W hW hF=>?_);have hN5:jx w4.heap.size u2 0 11 2 [] (.agg (qC (.slice E1 m1 e1) (.slice E2 m2 e2) (.slice E3 m3 e3) (.slice E4 m4 e4) g5 t5 n5 (.slice E5 m5 e5))) W:=(hF 5).1;obtain⟨f9,hlo⟩:W.heap[p9]?=some (.cells Vm 32 (0,0))/\w4.heap.size<=p9:=(hF 9).1;clear hF hK gP HP;have hW:Ext w4 W:=hW;have q5:=qb q4 hW;have x5:Ext w W:=(x3.trans x34).trans hW;refine zB7 ?_;have k9:=qa f9;have h9:=qd f9;have z9:=(zG.1 f9).1;go_wp2;refine Qw ?_;have r9:=vA f9 (.slice E1 m1 e1) (.slice E2 m2 e2) (.slice E3 m3 e3) (.slice E4 m4 e4) (.int .u32 g5) (.int .i64 t5) (.int .u32 n5) (.slice E5 m5 e5);have b9:=ZV (w0:=w4) (B:=w4.heap.size) hW hlo (.slice E1 m1 e1) (.slice E2 m2 e2) (.slice E3 m3 e3) (.slice E4 m4 e4) (.int .u32 g5) (.int .i64 t5) (.int .u32 n5) (.slice E5 m5 e5);have o9:=fun k (hk:k≠p9)=>jI (w:=W) hk (.slice E1 m1 e1) (.slice E2 m2 e2) (.slice E3 m3 e3) (.slice E4 m4 e4) (.int .u32 g5) (.int .i64 t5) (.int .u32 n5) (.slice E5 m5 e5);generalize hw9:World.setCell (World.setCell (World.setCell (World.setCell (World.setCell (World.setCell (World.setCell (World.setCell W _ _) _ _) _ _) _ _) _ _) _ _) _ _) _ _=w9 at *;have zw4:=(x3.trans x34).size;have zq5:=(zG.1 q4).1;have z4W:=hW.size;have hne:w.heap.size≠p9:=zO;have q9:=(o9 w.heap.size hne).trans q5;have hz9:w9.heap.size=W.heap.size:=by rw[<-hw9];simp
  have k9':=qa r9;have kq:=qa q9;have fq:=qd q9;have zq:w.heap.size<w9.heap.size:=zO;have z9':p9<w9.heap.size:=zO;obtain⟨B1,d1,B2,d2,B3,d3,B4,d4,B5,d5,e5',hS5,hI5⟩:=hN5.sto;have hS9:=(hS5.skip f9 (fun k hk=>o9 k hk) u2_bs).more (show W.heap.size<=w9.heap.size by omega);simp only[Value.agg.injEq,Array.mk.injEq,List.cons.injEq,Value.slice.injEq,Value.int.injEq,and_true,true_and] at e5';obtain⟨⟨rfl,rfl,rfl⟩,⟨rfl,rfl,rfl⟩,⟨rfl,rfl,rfl⟩,⟨rfl,rfl,rfl⟩,rfl,rfl,rfl,rfl,rfl,rfl⟩:=e5';replace hS9:=zH hS9;replace hI5:=zH hI5;clear hw9 k9 h9 f9 q5 q4 p4 hN5 hS5;go_wp2_with fail;have hsk:=fun k (hk:k≠w.heap.size)=>jI (w:=w9) hk (.slice E1 u2.bs.length e1) (.slice E2 u2.ws.length e2) (.slice E3 u2.now.length e3) (.slice E4 u2.last.length e4) (.int .u32 0) (.int .i64 11) (.int .u32 2) (.slice E5 0 e5);refine qiH (b:=w.heap.size) rfl rfl rfl (vA q9 _ _ _ _ _ _ _ _) ⟨_,rfl,⟨_,rfl,E1,e1,E2,e2,E3,e3,E4,e4,E5,e5,rfl,(hS9.out.skip q9 hsk u2_bs).more (by rw[size8];exact zM _),hI5.out.nil_of⟩,?_⟩;exact ZV (Below.trans (x3.trans x34) (Below.mono b9 zw4)) (zM _) _ _ _ _ _ _ _ _
theorem qfs {R:Ending->World->Prop} {a:Act} {W:World} {v:Value} (h0:a.tmps[0]?.getD undef=v) (hd:a.defers=[]) (hR:R (.returned v) W):bodyPost prog Tryz.f30 R .ret a W:=by refine bodyPost_ret (v:=v) ?_ hd hR;simp[results,results30,go_sem,h0]
abbrev Ko:Array Value:=#[.int .u8 0,.int .u32 0,.int .u32 0,.int .i64 0,.slice none 0 0]
set_option maxRecDepth 100000 in
theorem find17 {w w':World} {e:Ending} (h:Ge u2 11 2 [] 1 (2,0,2) w e w'):Below w.heap.size w w'/\∃ A c,e=.returned (.tuple #[.agg (Gm x17 A c),.int .i64 0])/\Bys w' w'.heap.size (.slice A 1 c) [7]:=by obtain⟨u,rfl,hm⟩:=h.knownC XP;have e1:ZQ [qcr] 1=some qcr:=rfl;have e2:Tc u2 qcr.root (2,0,2)=some x17:=u2_find;rw[e1] at hm;simp only[e2] at hm;obtain⟨A,c,rfl,hb,-⟩:=hm;exact⟨h.1,A,c,rfl,hb⟩
set_option maxRecDepth 100000 in
theorem qfr (w:World):Calls prog 30 #[] w (Ret (.bool true) w):=by
 go_enter func30,ntmps30;go_wp2_with fail;refine(qcx w).mono ?_;rintro e w1 ⟨u,rfl,⟨v,rfl,A1,c1,A2,c2,A3,c3,A4,c4,A5,c5,rfl,hS,hI⟩,hB⟩;have x1:Ext w w1:=hB;have HF:=zH (fun W (hx:Ext w1 W)=>GG A1 _ c1 A2 _ c2 A3 _ c3 A4 _ c4 0 11 2 A5 c5 u2 [] 1 2 0 2 W (hS.ext hx) (hI.ext_ hx));clear hS hI hB;go_upto_region 2 with fail;generalize hw2:World.alloc w1 _=w2;have x12:Ext w1 w2:=by rw[<-hw2];exact zN _ _
 have r2:w2.heap[w1.heap.size]?=some (.cells (qC (.slice A1 u2.bs.length c1) (.slice A2 u2.ws.length c2) (.slice A3 u2.now.length c3) (.slice A4 u2.last.length c4) 0 11 2 (.slice A5 0 c5)) 32 (0,0)):=by rw[<-hw2];exact zI _ _ _ rfl
 clear hw2;have gP:∀ W,qm.r w2 W->∀ i,W.cell? ⟨w1.heap.size,i,none⟩=(qC (.slice A1 u2.bs.length c1) (.slice A2 u2.ws.length c2) (.slice A3 u2.now.length c3) (.slice A4 u2.last.length c4) 0 11 2 (.slice A5 0 c5))[i]?:=fun W h=>qa (qb r2 h);refine qp zQ ?_;refine Jw 7 5 zE zQ rfl rfl zQ zQ zQ zQ ?_;dsimp only[jq,Array.push,List.push_toArray,List.concat_eq_append];refine Qa (w:=w2) qm (qM [(1,one (Xd 2 0 2)),(2,qeH x17),(6,Zy w2.heap.size 51 Ko)]) (List.replicate 7 true) 2 zQ zQ zQ zQ zQ zQ zQ ?st (Rel.drew _ _) ?walk
 case st=>exact qj (by simp only[List.forall_mem_cons];exact⟨jD _,qcQ _,fun p=>Qp (QY _ _ _ p),fun _ h=>by cases h⟩)
 case walk =>
  intro K hK;dsimp only[qw,List.replicate];refine zD2 ?_;refine qz (one (Xd 2 0 2)) zA0 zA0 (fun W hW _=>?_) (fun (p:Unit)=>?_)
  ·refine qV ?_ ((XB 2 W).mono fun e w' h=>?_)
   ·go_simp
   exact⟨(),h.1,trivial,h.2⟩
  refine zD2 ?_;refine qz (qeH x17) zA0 zA0 (fun W hW _=>?_) (fun p=>?_)
  ·have hW:Ext w2 W:=hW;refine qV ?_ ((HF.out W (x12.trans hW)).mono fun e w' h=>?_)
   ·go_simp
   obtain⟨hB,A,c,rfl,hb⟩:=find17 h;exact⟨(A,c),rfl,hb,hB⟩
  obtain⟨A7,c7⟩:=p;refine zD2 ?_;refine qz (Zy w2.heap.size 51 Ko) zA0 zA0 (fun W hW _=>?_) (fun (p6:Nat)=>?_)
  ·refine Zm ?_ (Below.size hW);go_simp
  refine zD2 ?_;refine qA (hK _ _ fun W hW hF=>?_);have hb7:Bys W W.heap.size (.slice A7 1 c7) [7]:=(hF 2).1;obtain⟨f6,hlo⟩:W.heap[p6]?=some (.cells Ko 51 (0,0))/\w2.heap.size<=p6:=(hF 6).1;clear hF hK gP HF;have hW:Ext w2 W:=hW;refine zB7 ?_;have hi:Gm x17 A7 c7=#[.int .u8 2,.int .u32 0,.int .u32 2,.int .i64 0,.slice A7 1 c7]:=rfl;rw[hi];have k6:=qa f6;have h6:=qd f6;have z6:=(zG.1 f6).1;go_wp2;refine Qw ?_;have r9:=row5 f6 (.int .u8 2) (.int .u32 0) (.int .u32 2) (.int .i64 0) (.slice A7 1 c7);have b9:=Km (w0:=w2) (B:=w2.heap.size) hW hlo (.int .u8 2) (.int .u32 0) (.int .u32 2) (.int .i64 0) (.slice A7 1 c7);have o9:∀ k,k≠p6->(((((W.setCell ⟨p6,0,none⟩ (.int .u8 2)).setCell ⟨p6,1,none⟩ (.int .u32 0)).setCell ⟨p6,2,none⟩ (.int .u32 2)).setCell ⟨p6,3,none⟩ (.int .i64 0)).setCell ⟨p6,4,none⟩ (.slice A7 1 c7)).heap[k]?=W.heap[k]?:=fun k hk=>by rw[zJ _ _ _ _ hk,zJ _ _ _ _ hk,zJ _ _ _ _ hk,zJ _ _ _ _ hk,zJ _ _ _ _ hk]
  generalize hw9:World.setCell (World.setCell (World.setCell (World.setCell (World.setCell W _ _) _ _) _ _) _ _) _ _=w9 at *;have z9:p6<w9.heap.size:=(zG.1 r9).1;have hby:Bys w9 W.heap.size (.slice A7 1 c7) [7]:=by obtain⟨A,c,e,h1,h2,hr⟩:=hb7;refine⟨A,c,e,h1,h2,hr.skipC f6 o9 fun _ o=>⟨0,bv 7,rfl,fun h=>?_⟩⟩;rcases o with _|_|_|_|_|o <;> simp[Ko,bv] at h
  have hbs:bstr [7]=⟨#[7]⟩:=rfl;have hv:(convert 26 9 (.slice A7 1 c7)).run prog w9=.ok (.string ⟨#[7]⟩) w9:=by have h0:=JH (P:=prog) hby 26 9 5 underlying26 underlying5 underlying9;rw[hbs] at h0;exact h0
  have k9:=qa r9;have x9:=zH ((x1.trans x12).trans b9);clear hw9 hby hb7 f6 k6 h6 z6 r9 o9 b9 hbs hW r2;go_wp2_with fail;exact qfs rfl rfl ⟨rfl,x9.out⟩
def VDatQ (S:Sto) (root next:Int) (dead:List Int) (a:Int) (w:World) (e:Ending) (w':World):Prop:=Below w.heap.size w w' /\
 ((e=.returned (.tuple #[.slice none 0 0,.int .i64 8])/\∀ vs,Qo S root next dead vs->∃ refs nodes,qY S (Qj root dead vs) refs nodes/\¬QB S refs) \/
  ∃ vs refs nodes,Qo S root next dead vs/\qY S (Qj root dead vs) refs nodes/\QB S refs/\((QX S refs nodes a false≠0/\e=.returned (.tuple #[.slice none 0 0,.int .i64 (QX S refs nodes a false)])) \/
   (QX S refs nodes a false=0/\∃ v,e=.returned (.tuple #[v,.int .i64 0])/\w'.ownsRow w.heap.size 5 1 v (Zu S a.toNat).length ((Zu S a.toNat).map bv))))
theorem qcs {R:Ending->World->Prop} {a:Act} {W:World} {u v:Value} (h4:a.tmps[4]?.getD undef=u) (h5:a.tmps[5]?.getD undef=v) (hd:a.defers=[]) (hR:R (.returned (.tuple #[u,v])) W):bodyPost prog Tryz.f35 R .ret a W:=by refine bodyPost_ret (v:=.tuple #[u,v]) ?_ hd hR;simp[results,results35,go_sem,h4,h5]
theorem qjN {S:Sto} {refs nodes:Nat->Nat} {a:Int} {held:Bool} (h:QX S refs nodes a held=0):∃ m:Nat,a=(m:Int)/\m<256:=by
 unfold QX at h;split at h
 ·exact⟨a.toNat,zO,zO⟩
 ·cases h
set_option maxRecDepth 100000 in
theorem vdat_any (A1 n1 c1 A2 n2 c2 A3 n3 c3 A4 n4 c4) (gen root next:Int) (A5 c5) (S:Sto) (dead:List Int) (a:Int) (w:World) (h:qZ w w.heap.size (.slice A1 n1 c1) (.slice A2 n2 c2) (.slice A3 n3 c3) (.slice A4 n4 c4) S) (hd:Zw w w.heap.size (.slice A5 dead.length c5) dead):Calls prog 35 #[.agg (qC (.slice A1 n1 c1) (.slice A2 n2 c2) (.slice A3 n3 c3) (.slice A4 n4 c4) gen root next (.slice A5 dead.length c5)),.int .i64 a] w (VDatQ S root next dead a w):=by
 have HD:=zH (fun W (hx:Ext w W)=>qbe A1 n1 c1 A2 n2 c2 A3 n3 c3 A4 n4 c4 gen root next A5 c5 S dead a false W (h.ext hx) (hd.ext_ hx));replace h:=zH h;clear hd;go_enter func35,ntmps35;go_wp2_with fail;generalize hw1:World.alloc w _=w1;have x1:Ext w w1:=by rw[<-hw1];exact zN _ _
 have r1:w1.heap[w.heap.size]?=some (.cells (qC (.slice A1 n1 c1) (.slice A2 n2 c2) (.slice A3 n3 c3) (.slice A4 n4 c4) gen root next (.slice A5 dead.length c5)) 32 (0,0)):=by rw[<-hw1];exact zI _ _ _ rfl
 clear hw1;refine(HD.out w1 x1).mono ?_;clear HD;rintro e w2 ⟨hB,hQ⟩;have x2:Ext w w2:=Ext.trans x1 hB;have r2:=qb r1 hB;have k2:=qa r2;clear hB r1 x1;rcases hQ with ⟨rfl,hno⟩|⟨vs,refs,nodes,hEG,hMD,hen,rfl⟩
 ·replace hno:=zH hno;go_wp2_with fail;exact qcs rfl rfl rfl ⟨x2,.inl ⟨rfl,hno.out⟩⟩
 ·have hS:=hEG.may;replace hEG:=zH hEG;replace hMD:=zH hMD;replace hen:=zH hen;by_cases h0:QX S refs nodes a false=0
  ·obtain⟨m,rfl,hm⟩:=qjN h0;have HR:=zH (qjR A1 n1 c1 A2 n2 c2 S hS m hm w2 (h.out.ext x2).bs (h.out.ext x2).ws);rw[h0];replace h0:=zH h0;replace hS:=zH hS;go_wp2_with fail;refine HR.out.mono ?_;clear HR;rintro e w3 ⟨u,rfl,⟨v,rfl,ho⟩,hB⟩;have x3:Ext w w3:=x2.trans hB;have z12:=x2.size;obtain⟨A6,c6,rfl,_,_⟩:=qB ho;replace ho:=zH ho;clear hB;go_wp2_with fail;exact qcs rfl rfl rfl ⟨x3,.inr ⟨vs,refs,nodes,hEG.out,hMD.out,hen.out,.inr ⟨h0.out,_,rfl,Qz ho.out z12⟩⟩⟩
  ·generalize hE:QX S refs nodes a false=er at *;have he:(er != 0)=true:=by rw[bne_iff_ne];exact h0
   have hq:=zH h0;replace hE:=zH hE;clear h0;go_wp2_with fail;exact qcs rfl rfl rfl ⟨x2,.inr ⟨vs,refs,nodes,hEG.out,hMD.out,hen.out,.inl ⟨by rw[hE.out];exact hq.out,by rw[hE.out];rfl⟩⟩⟩
section
variable {S S':Sto} {gen root next:Int} {dead:List Int} {vs:List Vol} {met refs:List Nat} {w w':World} {e:Ending}
theorem qfo.dataC {id:Int} {x:It} {v:Vol} (h:qfo S gen root next dead id x w e w') (hk:vp S root next dead=some (vs,met,refs)) (hv:ZQ vs id=some v) (hf:v.fz=false) (hi:itB x.r x.val.length=true) (hr:x.r≠0) (hd:QX S (fun b=>refs.count b) (vl met) x.r true≠0):e=.returned (.tuple #[vE,.int .i64 6]):=by
 obtain⟨h1,h2,h3⟩:=JE hk;rcases h.2 with ⟨er,hne,rfl,hE⟩|⟨r3,S4,u,⟨vs',refs',nodes',v',k1,k2,k3,k4,k5,k6,k7,_⟩,-⟩
 ·rcases hE with ⟨_,hb⟩|⟨vs',refs',nodes',k1,k2,k3,hE⟩
  ·exact(Zp.notC hk hb).elim
  ·obtain⟨rfl,rfl,hm⟩:=Qo.unique h1 h2 k1 k2;rw[Ky hm] at hE;rcases hE with ⟨_,e⟩|⟨v',e,hE⟩
   ·rw[hv] at e;cases e
   ·rw[hv] at e;cases e;rcases hE with ⟨_,e⟩|⟨_,hE⟩
    ·rw[hf] at e;cases e
    ·rcases hE with ⟨_,e⟩|⟨_,hE⟩
     ·rw[hi] at e;cases e
     ·rcases hE with ⟨rfl,_⟩|⟨e|e,_⟩
      ·rfl
      ·exact absurd e hr
      ·exact absurd e hd
 ·obtain⟨rfl,rfl,hm⟩:=Qo.unique h1 h2 k1 k2;rw[Ky hm] at k7;rcases k7 with e|e
  ·exact absurd e hr
  ·exact absurd e hd
theorem Gt (hk:vp S root next dead=some (vs,met,refs)) (hb:∀ vs,Qo S root next dead vs->∃ refs nodes,qY S (Qj root dead vs) refs nodes/\¬QB S refs):False:=by obtain⟨h1,h2,h3⟩:=JE hk;obtain⟨refs',nodes',hc',hn⟩:=hb vs h1;obtain⟨-,rfl,-⟩:=Qo.unique h1 h2 h1 hc';exact hn h3
theorem VLayQ.knownC {data:List UInt8} (h:VLayQ S gen root next dead data w e w') (hk:vp S root next dead=some (vs,met,refs)):(qaC S data≠0/\e=.returned (.tuple #[vE,.int .i64 0,.int .i64 (qaC S data)])) \/ (qaC S data=0/\∃ v,e=.returned (.tuple #[v,.int .i64 (Qm S:Int),.int .i64 0])/\jx w.heap.size (ZF S (Qm S) (Jh 128 data)) gen root next dead v w'):=by
 rcases h.2 with ⟨_,hb⟩|⟨_,_,_,_,_,_,h⟩
 ·exact(Gt hk hb).elim
 ·exact h
theorem VDatQ.knownC {a:Int} (h:VDatQ S root next dead a w e w') (hk:vp S root next dead=some (vs,met,refs)) (hd:QX S (fun b=>refs.count b) (vl met) a false=0):∃ v,e=.returned (.tuple #[v,.int .i64 0])/\w'.ownsRow w.heap.size 5 1 v (Zu S a.toNat).length ((Zu S a.toNat).map bv):=by
 obtain⟨h1,h2,h3⟩:=JE hk;rcases h.2 with ⟨_,hb⟩|⟨_,_,_,k1,k2,k3,⟨hn,_⟩|⟨_,h⟩⟩
 ·exact(Gt hk hb).elim
 ·obtain⟨rfl,rfl,hm⟩:=Qo.unique h1 h2 k1 k2;rw[Ky hm] at hn;exact absurd hd hn
 ·exact h
theorem VolSQ.looseC {a:Int} (h:VolSQ S gen root next dead (YA S a) S' w e w') (hk:vp S root next dead=some (vs,met,refs)):∃ u,e=.returned u/\PoolR (YA S a (fun b=>refs.count b) (vl met)) S' gen root next dead w.heap.size u w':=by
 obtain⟨h1,h2,h3⟩:=JE hk;rcases h.2 with ⟨_,hb⟩|⟨_,_,_,u,k1,k2,k3,e,hR⟩
 ·exact(Gt hk hb).elim
 ·obtain⟨rfl,rfl,hm⟩:=Qo.unique h1 h2 k1 k2;unfold YA at hR;rw[Ky hm] at hR;exact⟨u,e,hR⟩
end
def x9:It:=⟨0,0,0,9,[]⟩
theorem u2_none:Tc u2 8 (2,0,3)=none:=by decide +kernel
theorem u2_data9:QX u2 (fun b=>[11,8].count b) (vl [8,11]) 9 true≠0:=by decide +kernel
theorem u2_x9:itB x9.r x9.val.length=true:=by decide +kernel
theorem u2_lay:qaC u2 [120,121]=0:=by decide +kernel
theorem u2_free:Qm u2=9:=by decide +kernel
theorem qjB:qaC u2 (List.replicate 129 0)=3:=by decide +kernel
def u3:Sto:=ZF u2 9 (Jh 128 [120,121])
theorem qjC:vp u3 11 2 []=some ([qcr],[8,11],[11,8]):=by decide +kernel
theorem u3_data:QX u3 (fun b=>[11,8].count b) (vl [8,11]) 9 false=0:=by decide +kernel
theorem u3_seen:Zu u3 9=[120,121,0]++List.replicate 125 0:=by decide +kernel
theorem u3_loose:YA u3 9 (fun b=>[11,8].count b) (vl [8,11])=0:=by decide +kernel
def u4:Sto:=qy u3 (ju u3.now 9)
theorem u4_pool:vp u4 11 2 []=some ([qcr],[8,11],[11,8]):=by decide +kernel
theorem u4_loose:YA u4 9 (fun b=>[11,8].count b) (vl [8,11])=6:=by decide +kernel
end Go.Proofs.YtmeadnlmepcmbaaGreat
