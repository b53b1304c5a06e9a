/- Texts Reach, Kids, CenW, Learn, joined. -/
import Derived.Test.YtckhnchnbeoogaaGreatV11
set_option linter.unusedSimpArgs false
set_option linter.unusedVariables false
namespace Go.Proofs.YtckhnchnbeoogaaGreat

inductive Rch (ks:Nat→List Nat) (R:Nat→Prop):Nat→Prop
 |base {a:Nat}:R a→Rch ks R a
 |step {a b:Nat}:Rch ks R a→b∈ks a→Rch ks R b
theorem Rch.mono {ks:Nat→List Nat} {R R':Nat→Prop} (h:∀ a,R a→R' a) {a:Nat} (x:Rch ks R a):Rch ks R' a:=by
 induction x with
 |base r=>exact .base (h _ r)
 |step _ hb ih=>exact .step ih hb
theorem Rch.closed {ks:Nat→List Nat} {R M:Nat→Prop} (h:∀ a,R a→M a) (hc:∀ a,M a→∀ b∈ks a,M b) {a:Nat} (x:Rch ks R a):M a:=by
 induction x with
 |base r=>exact h _ r
 |step _ hb ih=>exact hc _ ih _ hb
def Ju (M:Nat→Bool) (a:Nat):Nat→Bool:=fun b=>if b=a then true else M b
def vL (rs:Nat→List Nat) (M:Nat→Bool) (b:Nat):Nat→Nat
 |0=>0
 |n+1=>vL rs M b n+if M n=true then (rs n).count b else 0
def Jh (M:Nat→Bool):Nat→Nat
 |0=>0
 |n+1=>Jh M n+if M n=true then 0 else 1
theorem XJ {M M':Nat→Bool}:∀ n,(∀ a,a<n→M a=M' a)→Jh M n=Jh M' n
 |0,_=>rfl
 |n+1,h=>by unfold Jh;rw[XJ n fun a ha=>h a (by omega),h n (by omega)]
theorem kZ {rs:Nat→List Nat} {M:Nat→Bool} {a b:Nat} (h:M a=false):∀ n,vL rs (Ju M a) b n=vL rs M b n+if a<n then (rs a).count b else 0
 |0=>rfl
 |n+1=>by
  unfold vL
  rw[kZ h n]
  by_cases hn:n=a
  ·subst hn
   simp[Ju,h]
  ·simp only[Ju,if_neg hn]
   by_cases ha:a<n
   ·rw[if_pos ha,if_pos (show a<n+1 by omega)];omega
   ·rw[if_neg ha,if_neg (show ¬a<n+1 by omega)];omega
theorem Yd {M:Nat→Bool} {a:Nat} (h:M a=false):∀ n,Jh (Ju M a) n+(if a<n then 1 else 0)=Jh M n
 |0=>rfl
 |n+1=>by
  have hi:=Yd h n
  show Jh (Ju M a) n+(if (if n=a then true else M n)=true then 0 else 1)+(if a<n+1 then 1 else 0)=Jh M n+if M n=true then 0 else 1
  by_cases hn:n=a
  ·rw[←hn] at h hi ⊢
   rw[if_neg (Nat.lt_irrefl _)] at hi
   rw[if_pos rfl,if_pos rfl,if_pos (Nat.lt_succ_self n),h,if_neg (by decide)]
   omega
  ·rw[if_neg hn]
   by_cases ha:a<n
   ·rw[if_pos ha] at hi;rw[if_pos (show a<n+1 by omega)];omega
   ·rw[if_neg ha] at hi;rw[if_neg (show ¬a<n+1 by omega)];omega
theorem qab {rs:Nat→List Nat} {M:Nat→Bool} {b k:Nat}:∀ n,(∀ a,a<n→M a=true→(rs a).length≤k)→vL rs M b n+k*Jh M n≤k*n
 |0,_=>by simp[vL,Jh]
 |n+1,h=>by
  unfold vL Jh
  have:=qab (b:=b) n fun a ha=>h a (by omega)
  rw[Nat.mul_add,Nat.mul_add]
  split
  ·rename_i hm
   have h1:=h n (by omega) hm
   have h2:=List.count_le_length (a:=b) (l:=rs n)
   omega
  ·omega
theorem qbg (M:Nat→Bool):∀ n,Jh M n≤n
 |0=>Nat.le_refl _
 |n+1=>by unfold Jh;have:=qbg M n;split <;> omega
structure VU (ks rs:Nat→List Nat) (R:List Nat) (M:Nat→Bool) (refs:Nat→Nat) (stack:List Nat):Prop where
 reach:∀ a,M a=true→Rch ks (· ∈ R) a
 stk:∀ a∈stack,Rch ks (· ∈ R) a
 root:∀ a∈R,M a=true∨a∈stack
 kids:∀ a,M a=true→∀ b∈ks a,M b=true∨b∈stack
 sum:∀ b,refs b=R.count b+vL rs M b 256
theorem VU.nil {ks rs:Nat→List Nat} {M:Nat→Bool} {refs:Nat→Nat} (hM:∀ a,M a=false) (hr:∀ b,refs b=0):VU ks rs [] M refs []:=by
 have h0:∀ b n,vL rs M b n=0:=fun b n=>by
  induction n with
  |zero=>rfl
  |succ n ih=>unfold vL;rw[ih,hM];rfl
 have hno:∀ a,M a=true→False:=fun a h=>by have:=hM a;rw[h] at this;cases this
 exact { reach:=fun a h=>(hno a h).elim,stk:=fun a h=>(List.not_mem_nil h).elim,root:=fun a h=>(List.not_mem_nil h).elim,kids:=fun a h=>(hno a h).elim,sum:=fun b=>by rw[hr,h0];rfl }
theorem VU.add {ks rs:Nat→List Nat} {R:List Nat} {M:Nat→Bool} {refs refs':Nat→Nat} (h:VU ks rs R M refs []) (r:Nat) (hr:∀ b,refs' b=refs b+if b=r then 1 else 0):VU ks rs (R++[r]) M refs' [r]:=by
 refine⟨fun a ha=>(h.reach a ha).mono fun _ x=>List.mem_append_left _ x,fun a ha=>.base (List.mem_append_right _ ha),fun a ha=>?_,fun a ha b hb=>.inl ((h.kids a ha b hb).elim id fun x=>(List.not_mem_nil x).elim),fun b=>?_⟩
 ·rcases List.mem_append.1 ha with ha|ha
  ·exact .inl ((h.root a ha).elim id fun x=>(List.not_mem_nil x).elim)
  ·exact .inr ha
 ·rw[hr,h.sum,List.count_append]
  have:[r].count b=if b=r then 1 else 0:=by
   rw[List.count_singleton]
   by_cases hb:b=r
   ·subst hb;simp
   ·rw[if_neg hb,if_neg (by simp;omega)]
  omega
theorem VU.again {ks rs:Nat→List Nat} {R:List Nat} {M:Nat→Bool} {refs:Nat→Nat} {s:List Nat} {a:Nat} (h:VU ks rs R M refs (s++[a])) (ha:M a=true):VU ks rs R M refs s:=by
 have key:∀ b,M b=true∨b∈s++[a]→M b=true∨b∈s:=by
  rintro b (hb|hb)
  ·exact .inl hb
  ·rcases List.mem_append.1 hb with hb|hb
   ·exact .inr hb
   ·rw[List.mem_singleton.1 hb];exact .inl ha
 exact⟨h.reach,fun b hb=>h.stk b (List.mem_append_left _ hb),fun b hb=>key b (h.root b hb),fun c hc b hb=>key b (h.kids c hc b hb),h.sum⟩
theorem VU.new {ks rs:Nat→List Nat} {R:List Nat} {M:Nat→Bool} {refs refs':Nat→Nat} {s:List Nat} {a:Nat} (h:VU ks rs R M refs (s++[a])) (ha:M a=false) (hl:a<256) (hr:∀ b,refs' b=refs b+(rs a).count b):VU ks rs R (Ju M a) refs' (s++ks a):=by
 have hm:∀ b,M b=true→Ju M a b=true:=by
  intro b hb;unfold Ju;split
  ·rfl
  ·exact hb
 have hma:Ju M a a=true:=by simp[Ju]
 have hra:=h.stk a (List.mem_append_right _ (List.mem_singleton.2 rfl))
 have key:∀ b,M b=true∨b∈s++[a]→Ju M a b=true∨b∈s++ks a:=by
  rintro b (hb|hb)
  ·exact .inl (hm b hb)
  ·rcases List.mem_append.1 hb with hb|hb
   ·exact .inr (List.mem_append_left _ hb)
   ·rw[List.mem_singleton.1 hb];exact .inl hma
 refine⟨fun b hb=>?_,fun b hb=>?_,fun b hb=>key b (h.root b hb),fun c hc b hb=>?_,fun b=>?_⟩
 ·unfold Ju at hb
  split at hb
  ·rename_i e;rw[e];exact hra
  ·exact h.reach b hb
 ·rcases List.mem_append.1 hb with hb|hb
  ·exact h.stk b (List.mem_append_left _ hb)
  ·exact .step hra hb
 ·unfold Ju at hc
  split at hc
  ·rename_i e;rw[e] at hb;exact .inr (List.mem_append_right _ hb)
  ·exact key b (h.kids c hc b hb)
 ·rw[hr,h.sum,kZ ha,if_pos hl];omega
theorem VU.done {ks rs:Nat→List Nat} {R:List Nat} {M:Nat→Bool} {refs:Nat→Nat} (h:VU ks rs R M refs []) (a:Nat):M a=true↔Rch ks (· ∈ R) a:=
 ⟨h.reach a,fun x=>x.closed (fun a ha=>(h.root a ha).elim id fun x=>(List.not_mem_nil x).elim) fun a ha b hb=>(h.kids a ha b hb).elim id fun x=>(List.not_mem_nil x).elim⟩
structure JE (ks rs:Nat→List Nat) (T:List Nat) (M:Nat→Bool) (refs:Nat→Nat) (M':Nat→Bool) (refs':Nat→Nat):Prop where
 grow:∀ a,M a=true→M' a=true
 new:∀ a,M' a=true→M a=true∨Rch ks (· ∈ T) a
 all:∀ a∈T,M' a=true
 kids:∀ a,M' a=true→M a=true∨∀ b∈ks a,M' b=true
 sum:∀ b,refs' b+vL rs M b 256=refs b+vL rs M' b 256
theorem JE.nil {ks rs:Nat→List Nat} {M:Nat→Bool} {refs:Nat→Nat}:JE ks rs [] M refs M refs:=
 ⟨fun _ h=>h,fun _ h=>.inl h,fun _ h=>(List.not_mem_nil h).elim,fun _ h=>.inl h,fun _=>rfl⟩
theorem JE.met {ks rs:Nat→List Nat} {a:Nat} {M:Nat→Bool} {refs:Nat→Nat} (ha:M a=true):JE ks rs [a] M refs M refs:=
 ⟨fun _ h=>h,fun _ h=>.inl h,fun _ h=>by rw[List.mem_singleton.1 h];exact ha,fun _ h=>.inl h,fun _=>rfl⟩
theorem JE.trans {ks rs:Nat→List Nat} {T U:List Nat} {M M' M'':Nat→Bool} {r r' r'':Nat→Nat} (x:JE ks rs T M r M' r') (y:JE ks rs U M' r' M'' r''):JE ks rs (T++U) M r M'' r'':=by
 refine⟨fun a ha=>y.grow a (x.grow a ha),fun a ha=>?_,fun a ha=>?_,fun a ha=>?_,fun b=>by have:=x.sum b;have:=y.sum b;omega⟩
 ·rcases y.new a ha with h1|h1
  ·exact(x.new a h1).imp id fun h1=>h1.mono fun _ z=>List.mem_append_left _ z
  ·exact .inr (h1.mono fun _ z=>List.mem_append_right _ z)
 ·rcases List.mem_append.1 ha with ha|ha
  ·exact y.grow a (x.all a ha)
  ·exact y.all a ha
 ·rcases y.kids a ha with h1|h1
  ·exact(x.kids a h1).imp id fun z b hb=>y.grow b (z b hb)
  ·exact .inr h1
theorem JE.more {ks rs:Nat→List Nat} {T:List Nat} {M M':Nat→Bool} {r r' s s':Nat→Nat} (x:JE ks rs T M r M' r') (h:∀ b,s' b+r b=r' b+s b):JE ks rs T M s M' s':=
 ⟨x.grow,x.new,x.all,x.kids,fun b=>by have:=x.sum b;have:=h b;omega⟩
theorem JE.up {ks rs:Nat→List Nat} {a:Nat} {M M':Nat→Bool} {r r' s':Nat→Nat} (ha:M a=false) (hl:a<256) (x:JE ks rs (ks a) (Ju M a) r M' r') (hr:∀ b,s' b=r' b+(rs a).count b):JE ks rs [a] M r M' s':=by
 have hma:Ju M a a=true:=by simp[Ju]
 have hM:∀ b,Ju M a b=true→b≠a→M b=true:=by
  intro b hb hne
  unfold Ju at hb
  rwa [if_neg hne] at hb
 refine⟨fun b hb=>x.grow b ?_,fun b hb=>?_,fun b hb=>?_,fun b hb=>?_,fun b=>?_⟩
 ·unfold Ju;split
  ·rfl
  ·exact hb
 ·by_cases hne:b=a
  ·subst hne;exact .inr (.base (List.mem_singleton.2 rfl))
  ·rcases x.new b hb with h1|h1
   ·exact .inl (hM b h1 hne)
   ·exact .inr (h1.closed (fun c hc=>.step (.base (List.mem_singleton.2 rfl)) hc) fun c hc d hd=>.step hc hd)
 ·rw[List.mem_singleton.1 hb];exact x.grow a hma
 ·by_cases hne:b=a
  ·subst hne;exact .inr x.all
  ·exact(x.kids b hb).imp (hM b · hne) id
 ·have h1:=x.sum b
  have h2:=kZ (rs:=rs) (b:=b) ha 256
  rw[if_pos hl] at h2
  have:=hr b
  omega
structure Qr (ks rs:Nat→List Nat) (R:List Nat) (M:Nat→Bool) (refs:Nat→Nat):Prop where
 reach:∀ a,M a=true→Rch ks (· ∈ R) a
 root:∀ a∈R,M a=true
 kids:∀ a,M a=true→∀ b∈ks a,M b=true
 sum:∀ b,refs b=R.count b+vL rs M b 256
theorem Qr.walk {ks rs:Nat→List Nat} {R:List Nat} {M:Nat→Bool} {refs:Nat→Nat}:Qr ks rs R M refs↔VU ks rs R M refs []:=
 ⟨fun h=>⟨h.reach,fun _ ha=>(List.not_mem_nil ha).elim,fun a ha=>.inl (h.root a ha),fun a ha b hb=>.inl (h.kids a ha b hb),h.sum⟩,
  fun h=>⟨h.reach,fun a ha=>(h.root a ha).elim id fun x=>(List.not_mem_nil x).elim,fun a ha b hb=>(h.kids a ha b hb).elim id fun x=>(List.not_mem_nil x).elim,h.sum⟩⟩
theorem Qr.add {ks rs:Nat→List Nat} {R:List Nat} {M M':Nat→Bool} {r r1 r':Nat→Nat} {a:Nat} (h:Qr ks rs R M r) (h1:∀ b,r1 b=r b+if b=a then 1 else 0) (x:JE ks rs [a] M r1 M' r'):Qr ks rs (R++[a]) M' r':=by
 refine⟨fun b hb=>?_,fun b hb=>?_,fun b hb c hc=>?_,fun b=>?_⟩
 ·rcases x.new b hb with h2|h2
  ·exact(h.reach b h2).mono fun _ z=>List.mem_append_left _ z
  ·exact h2.mono fun _ z=>List.mem_append_right _ z
 ·rcases List.mem_append.1 hb with hb|hb
  ·exact x.grow b (h.root b hb)
  ·exact x.all b hb
 ·rcases x.kids b hb with h2|h2
  ·exact x.grow c (h.kids b h2 c hc)
  ·exact h2 c hc
 ·have:=x.sum b
  have:=h1 b
  have:=h.sum b
  have:[a].count b=if b=a then 1 else 0:=by
   rw[List.count_singleton]
   by_cases hb:b=a
   ·subst hb;simp
   ·rw[if_neg hb,if_neg (by simp;omega)]
  rw[List.count_append]
  omega
theorem Qr.same {ks rs:Nat→List Nat} {R:List Nat} {M M':Nat→Bool} {r r':Nat→Nat} (h:Qr ks rs R M r) (h':Qr ks rs R M' r'):M=M'∧r=r':=by
 have e:M=M':=by
  funext a
  have h1:=(Qr.walk.1 h).done a
  have h2:=(Qr.walk.1 h').done a
  exact Bool.eq_iff_iff.2 (h1.trans h2.symm)
 refine⟨e,?_⟩
 funext b
 rw[h.sum,h'.sum,e]
end Go.Proofs.YtckhnchnbeoogaaGreat
namespace Go.Proofs.YtckhnchnbeoogaaGreat
open Go.RowKit
def zi (S:Sto) (a:Nat):List Nat:=match qV S a with
 |none=>[]
 |some (_,xs)=>(xs.map fun y=>y.r.toNat).filter fun r=>r != 0
def QX (S:Sto) (a:Nat):List Nat:=match qV S a with
 |none=>[]
 |some (lvl,_)=>if 0<lvl then zi S a else []
def ZN (S:Sto) (a:Nat):Prop:=8≤a∧a<256∧∃ (lvl:Nat) (xs:List It),qV S a=some ((lvl:Int),xs)∧(QL S lvl xs).isSome=true
theorem kS {S:Sto} {r:Int} (h:okL S (-1) r=true):∃ a:Nat,r=(a:Int)∧ZN S a:=by
 unfold okL at h
 split at h
 ·rename_i hr
  obtain⟨a,rfl⟩:=Int.eq_ofNat_of_zero_le (show 0≤r by omega)
  refine⟨a,rfl,by omega,by omega,?_⟩
  rw[Int.toNat_natCast] at h
  rcases hn:qV S a with _|⟨lvl,xs⟩
  ·rw[hn] at h;cases h
  ·rw[hn] at h
   obtain⟨-,-,h0⟩:=Qn hn
   obtain⟨l,rfl⟩:=Int.eq_ofNat_of_zero_le h0
   simp only[Int.toNat_natCast,Bool.and_eq_true] at h
   exact⟨l,xs,rfl,h.1⟩
 ·cases h
theorem YW (one:It→Option (K3×K3)):∀ (xs:List It) (a:Option (Option (K3×K3))),(xs.foldl (JW one) a).isSome=true→a.isSome=true∧∀ y∈xs,(one y).isSome=true
 | [],a,h=>⟨h,fun _ hy=>(List.not_mem_nil hy).elim⟩
 |x :: r,a,h=>by
  obtain⟨h1,h2⟩:=YW one r _ h
  unfold JW at h1
  rcases a with _|a
  ·cases h1
  ·rcases hx:one x with _|q
   ·rw[hx] at h1;cases h1
   ·refine⟨rfl,fun y hy=>?_⟩
    rcases List.mem_cons.1 hy with rfl|hy
    ·rw[hx];rfl
    ·exact h2 y hy
theorem kj {S:Sto} {h:Nat} {xs:List It} (hs:(QL S h xs).isSome=true):∀ y∈xs,(Yi S h y).isSome=true:=(YW _ xs _ hs).2
theorem VN {S:Sto} {h:Nat} {y:It} (hy:(Yi S (h+1) y).isSome=true):∃ b:Nat,y.r=(b:Int)∧8≤b∧b<256∧∃ xs,qV S b=some ((h:Int),xs)∧(QL S h xs).isSome=true:=by
 rw[Kg] at hy
 unfold JP at hy
 split at hy
 ·rename_i hr
  obtain⟨b,hb⟩:=Int.eq_ofNat_of_zero_le (show 0≤y.r by omega)
  rw[hb,Int.toNat_natCast] at hy
  refine⟨b,hb,by omega,by omega,?_⟩
  rcases hn:qV S b with _|⟨lvl,xs⟩
  ·rw[hn] at hy;cases hy
  ·rw[hn] at hy
   simp only at hy
   split at hy
   ·rename_i hl
    refine⟨xs,by rw[hl],?_⟩
    rcases hs:QL S h xs with _|q
    ·rw[hs] at hy;cases hy
    ·rfl
   ·cases hy
 ·cases hy
theorem qbA {S:Sto} {a b lvl:Nat} {xs:List It} (hn:qV S a=some ((lvl:Int),xs)) (hb:b∈QX S a):0<lvl∧∃ y∈xs,b=y.r.toNat∧b≠0:=by
 unfold QX at hb
 rw[hn] at hb
 simp only at hb
 split at hb
 ·unfold zi at hb
  rw[hn] at hb
  simp only[List.mem_filter,List.mem_map,bne_iff_ne,ne_eq] at hb
  obtain⟨⟨y,hy,rfl⟩,h0⟩:=hb
  exact⟨by omega,y,hy,rfl,h0⟩
 ·cases hb
theorem Gi {S:Sto} {a b:Nat} (h:ZN S a) (hb:b∈QX S a):ZN S b:=by
 obtain⟨h1,h2,lvl,xs,h3,h4⟩:=h
 obtain⟨h5,y,hy,rfl,-⟩:=qbA h3 hb
 obtain⟨l,rfl⟩:∃ l,lvl=l+1:=⟨lvl-1,by omega⟩
 obtain⟨b,e,h6,h7,ys,h8,h9⟩:=VN (kj h4 y hy)
 rw[e,Int.toNat_natCast]
 exact⟨h6,h7,l,ys,h8,h9⟩
theorem KT {S:Sto} {R:Nat→Prop} (hR:∀ a,R a→ZN S a) {a:Nat} (h:Rch (QX S) R a):ZN S a:=h.closed hR fun _ hc _ hb=>Gi hc hb
theorem Uc {S:Sto} {a:Nat}:(zi S a).length≤5:=by
 unfold zi
 rcases hn:qV S a with _|⟨lvl,xs⟩
 ·simp
 ·have h:=(Qn hn).1
  unfold qR zN at h
  simp at h
  simp only
  refine Nat.le_trans (List.length_filter_le _ _) ?_
  rw[List.length_map]
  omega
theorem qei {S:Sto} {lo:Nat} {w:World} {f:Int→Option Value} (hk:Ty S lo w f) {a b:Nat} (h:ZN S a) (hf:(f (a:Int)).isSome=true) (hb:b∈QX S a):(f (b:Int)).isSome=true:=by
 obtain⟨h1,h2,lvl,xs,h3,h4⟩:=h
 obtain⟨v,hv⟩:=Option.isSome_iff_exists.1 hf
 obtain⟨n,lvl',xs',A,c,fk,lk,b',e,-,-,h5,-,-,h6,h7⟩:=hk _ _ hv
 obtain rfl:a=n:=by omega
 rw[h3,Option.some.injEq,Prod.mk.injEq] at h5
 obtain⟨e1,rfl⟩:=h5
 obtain rfl:lvl=lvl':=by omega
 obtain⟨h0,y,hy,rfl,hz⟩:=qbA h3 hb
 have:=h7 (by rw[h6.1,h4]) h0 y hy
 rwa [show ((y.r.toNat:Nat):Int)=y.r by omega]
theorem Bys.keepF {w w':World} {B:Nat} {v:Value} {l:List UInt8} (h:Bys w B v l) (hk:∀ q:Addr,q.block<B→(∃ A n c,v=.slice (some A) n c∧q.block=A.block)→w'.cell? q=w.cell? q):Bys w' B v l:=by
 obtain⟨A,c,e,hc,hm,hr⟩:=h
 refine⟨A,c,e,hc,hm,hr.1,fun hn=>?_⟩
 obtain⟨b,off,hA,hb,hcell⟩:=hr.2 hn
 exact⟨b,off,hA,hb,fun j u hu=>(hk ⟨b,off+j,none⟩ hb ⟨⟨b,off,none⟩,_,c,by rw[e,hA],rfl⟩).trans (hcell j u hu)⟩
structure Off (B cb:Nat) (w w':World):Prop where
 os:w'.os=w.os
 tape:w'.tape=w.tape
 output:w'.output=w.output
 size:B≤w'.heap.size
 block:∀ k,k<B→k≠cb→w'.heap[k]?=w.heap[k]?
theorem Off.refl {B cb:Nat} {w:World} (h:B≤w.heap.size):Off B cb w w:=⟨rfl,rfl,rfl,h,fun _ _ _=>rfl⟩
theorem Off.trans {B cb:Nat} {w w' w'':World} (h:Off B cb w w') (h':Off B cb w' w''):Off B cb w w'':=
 ⟨h'.os.trans h.os,h'.tape.trans h.tape,h'.output.trans h.output,h'.size,fun k hk hc=>(h'.block k hk hc).trans (h.block k hk hc)⟩
theorem Off.below {B cb:Nat} {w w' w'':World} (h:Off B cb w w') (h':Below B w' w''):Off B cb w w'':=
 ⟨h'.os.trans h.os,h'.tape.trans h.tape,h'.output.trans h.output,Nat.le_trans h.size h'.size,fun k hk hc=>(h'.block k hk).trans (h.block k hk hc)⟩
theorem Off.cell {B cb:Nat} {w w':World} (h:Off B cb w w') {q:Addr} (hq:q.block<B) (hc:q.block≠cb):w'.cell? q=w.cell? q:=World.cell?_of_block (h.block _ hq hc)
theorem Off.setCell {B cb:Nat} {w w':World} (h:Off B cb w w') {p:Addr} (hp:p.block=cb∨B≤p.block) (u:Value):Off B cb w (w'.setCell p u):=
 ⟨h.os,h.tape,h.output,by simpa using h.size,fun k hk hc=>(Below.heap_setCell _ _ _ _ (fun e=>by omega)).trans (h.block k hk hc)⟩
theorem Off.grown {B cb:Nat} {w w' w'':World} {row:Option Nat} (h:Off B cb w w') (hg:w'.grownBy w'' row) (hr:∀ g,row=some g→g=cb∨B≤g):Off B cb w w'':=
 ⟨hg.os.trans h.os,hg.tape.trans h.tape,hg.output.trans h.output,Nat.le_trans h.size hg.size,fun k hk hc=>(hg.block k (Nat.lt_of_lt_of_le hk h.size) (fun e=>by rcases hr k e.symm with e|e <;> omega)).trans (h.block k hk hc)⟩
abbrev CP.put (p:CP) (ca:Array Value):CP:={ p with ca:=ca }
theorem Cen.put {p:CP} {w w':World} {f:Int→Option Value} (h:Cen p w f) {B:Nat} (hB:w.heap.size=B) (hO:Off B p.cb w w') {ca:Array Value} (hr:w'.heap[p.cb]?=some (.cells ca 112 (0,0))) (hc:∀ i,i<6→ca[i]?=p.ca[i]?):Cen (p.put ca) w' f:=by
 subst hB
 have hl:=h.low
 have hk:∀ q:Addr,q.block<p.sb→w'.cell? q=w.cell? q:=fun q hq=>hO.cell (by omega) (by omega)
 exact {
  row:=hr
  c0:=(hc 0 (by omega)).trans h.c0
  c1:=(hc 1 (by omega)).trans h.c1
  c2:=(hc 2 (by omega)).trans h.c2
  c3:=(hc 3 (by omega)).trans h.c3
  c4:=(hc 4 (by omega)).trans h.c4
  c5:=(hc 5 (by omega)).trans h.c5
  map:=h.map.of_heap (hO.block p.mb (by omega) (by omega))
  known:=fun a v hv=>(h.known a v hv).keep (Nat.le_refl _) hO.size (fun q h1 h2=>hO.cell h2 (show q.block≠p.cb by omega)) (fun _ h=>h)
  sto:=h.sto.keep hk
  on:=(hO.block p.bb (by omega) (by omega)).trans h.on
  onb:=h.onb.keep hk
  onw:=h.onw.keep hk
  onl:=h.onl.keep hk
  onn:=(h.onn.keepF fun q hq ⟨A,n,c,e,e'⟩=>hO.cell hq (by rw[e'];exact h.onf A n c e)).more hO.size
  onf:=h.onf
  low:=⟨hl.1,hl.2.1,hl.2.2.1,hl.2.2.2.1,hl.2.2.2.2.1,Nat.le_trans hl.2.2.2.2.2.1 hO.size,hl.2.2.2.2.2.2⟩
  may:=h.may }
theorem Tryz.info_span:(Tryz.prog.info? 159).map (fun i=>(i.zero,i.size,i.bytes))=some (some (zh 0 none 0 0 (0,0,0) (0,0,0) false),9,64):=by kernel_rfl
theorem qeJ (w:World):(zeroValue 159).run Tryz.prog w=.ok (zh 0 none 0 0 (0,0,0) (0,0,0) false) w:=by
 obtain⟨i0,hi,hz0,_,_⟩:=info_parts Tryz.info_span
 simp[zeroValue,typeInfo,hi,hz0,Sem.run]
theorem set9 {cs:Array Value} (hs:cs.size=9) (x0 x1 x2 x3 x4 x5 x6 x7 x8:Value) :
  ((((((((cs.setIfInBounds 0 x0).setIfInBounds 1 x1).setIfInBounds 2 x2).setIfInBounds 3 x3).setIfInBounds 4 x4).setIfInBounds 5 x5).setIfInBounds 6 x6).setIfInBounds 7 x7).setIfInBounds 8 x8=#[x0,x1,x2,x3,x4,x5,x6,x7,x8]:=by
 apply Array.ext_getElem?
 intro j
 by_cases hj:j<9
 ·have:j=0∨j=1∨j=2∨j=3∨j=4∨j=5∨j=6∨j=7∨j=8:=by omega
  rcases this with rfl|rfl|rfl|rfl|rfl|rfl|rfl|rfl|rfl <;> simp[Array.getElem?_setIfInBounds,hs]
 ·rw[Array.getElem?_eq_none (by simp;omega),Array.getElem?_eq_none (by simp;omega)]
theorem vd {w:World} {b:Nat} {ty:TypeId} {cs:Array Value} (h:w.heap[b]?=some (.cells cs ty (0,0))) (hs:cs.size=9) (x0 x1 x2 x3 x4 x5 x6 x7 x8:Value) :
  (((((((((w.setCell ⟨b,0,none⟩ x0).setCell ⟨b,1,none⟩ x1).setCell ⟨b,2,none⟩ x2).setCell ⟨b,3,none⟩ x3).setCell ⟨b,4,none⟩ x4).setCell ⟨b,5,none⟩ x5).setCell ⟨b,6,none⟩ x6).setCell ⟨b,7,none⟩ x7).setCell ⟨b,8,none⟩ x8).heap[b]?=some (.cells #[x0,x1,x2,x3,x4,x5,x6,x7,x8] ty (0,0)):=by
 have:=qh (qh (qh (qh (qh (qh (qh (qh (qh h 0 x0) 1 x1) 2 x2) 3 x3) 4 x4) 5 x5) 6 x6) 7 x7) 8 x8
 rw[this,set9 hs]
theorem Jt {w0 w:World} {B b:Nat} (h:Below B w0 w) (hb:B≤b) (x0 x1 x2 x3 x4 x5 x6 x7 x8:Value) :
  Below B w0 (((((((((w.setCell ⟨b,0,none⟩ x0).setCell ⟨b,1,none⟩ x1).setCell ⟨b,2,none⟩ x2).setCell ⟨b,3,none⟩ x3).setCell ⟨b,4,none⟩ x4).setCell ⟨b,5,none⟩ x5).setCell ⟨b,6,none⟩ x6).setCell ⟨b,7,none⟩ x7).setCell ⟨b,8,none⟩ x8):=
 Below.setCell (Below.setCell (Below.setCell (Below.setCell (Below.setCell (Below.setCell (Below.setCell (Below.setCell (Below.setCell h (p:=⟨b,0,none⟩) hb _) (p:=⟨b,1,none⟩) hb _) (p:=⟨b,2,none⟩) hb _) (p:=⟨b,3,none⟩) hb _) (p:=⟨b,4,none⟩) hb _) (p:=⟨b,5,none⟩) hb _) (p:=⟨b,6,none⟩) hb _) (p:=⟨b,7,none⟩) hb _) (p:=⟨b,8,none⟩) hb _
theorem vK {w:World} {b:Nat} (x0 x1 x2 x3 x4 x5 x6 x7 x8:Value) :
  w.grownBy (((((((((w.setCell ⟨b,0,none⟩ x0).setCell ⟨b,1,none⟩ x1).setCell ⟨b,2,none⟩ x2).setCell ⟨b,3,none⟩ x3).setCell ⟨b,4,none⟩ x4).setCell ⟨b,5,none⟩ x5).setCell ⟨b,6,none⟩ x6).setCell ⟨b,7,none⟩ x7).setCell ⟨b,8,none⟩ x8) (some b):=
 qk.trans (qk.trans (qk.trans (qk.trans (qk.trans (qk.trans (qk.trans (qk.trans qk)))))))
theorem YT {p:CP} {f g:Int→Option Value} {φ:Value→(Int→Option Value)→Prop} {w w5 w6 w7 w7' w8 W:World} {a:Nat} {lvl:Nat} {xs:List It} {A:Option Addr} {c:Nat} {fk lk:K3} {b:Bool} {u:Value} (hfa:f a=none) (hC:Cen p w f) (h5:Ext w w5) (hlt:w.heap.size<w5.heap.size)
  (hgr:Zf f g) (hm6:zm w6 p.mb g) (hg6:w5.grownBy w6 (some p.mb)) (hn:vV p.S w5 f g w6) (h67:w6.grownBy w7 (some w.heap.size)) (h7:Ext w7 w7') (hm7:zm w7' p.mb g) (h78:w7'.grownBy w8 (some p.mb))
  (hm8:zm w8 p.mb (fun r=>if r=(a:Int) then some (zh lvl A xs.length c fk lk b) else g r)) (h8W:w8.grownBy W (some w.heap.size)) (ha:8≤a) (ha2:a<256) (hnode:qV p.S a=some ((lvl:Int),xs)) (hits:zU (w.heap.size+1) w5 (.slice A xs.length c) xs) (hsp:Zz p.S lvl xs fk lk b)
  (hcl:b=true→0<lvl→∀ y∈xs,(g y.r).isSome=true) (hφ:φ u (fun r=>if r=(a:Int) then some (zh lvl A xs.length c fk lk b) else g r)):KS p f φ w (.returned u) W:=by
 have hmb:p.mb<w.heap.size:=by have:=hC.low;omega
 have hC5:=hC.ext h5
 have z5:=h5.size
 have z6:=hg6.size
 have z7:=h67.size
 have z7':=h7.size
 have z8:=h78.size
 have zW:=h8W.size
 have hmW:zm W p.mb _:=hm8.of_heap (h8W.block _ (by omega) (by simp;omega))
 refine qej (w5:=w5) (w6:=w6) hfa h5 hlt hgr hg6 hn hmW ?_ (by omega) (fun q h1 h2=>?_) ha ha2 hnode ?_ hsp hcl hφ
 ·refine World.grownBy.andThen (World.grownBy.andThen (World.grownBy.andThen (World.grownBy.andThen (World.grownBy.andThen (Qo h5 (some p.mb)) hg6 (fun j e=>.inr (by rw[←e]))) h67 (fun j e=>.inl (by cases e;omega))) (Qo h7 none) (fun j e=>by cases e)) h78 (fun j e=>.inr (by rw[←e]))) h8W (fun j e=>.inl (by cases e;omega))
 ·have hne:some q.block≠some w.heap.size:=by simp;omega
  rw[World.cell?_of_block (h8W.block q.block (by omega) hne),ZJ hm7 hm8 h78 q (by omega),Below.cell h7 (p:=q) (by omega),World.cell?_of_block (h67.block q.block (by omega) hne)]
 ·exact hits.keep hg6.size (fun q _ h2=>ZJ hC5.map hm6 hg6 q h2)
abbrev GY:Value:=zh 0 none 0 0 (0,0,0) (0,0,0) false
theorem ZL {R:Ending→World→Prop} {a:Act} {W:World} {b:Nat} {lvl:Int} {A:Option Addr} {n c:Nat} {f l:K3} {bo:Bool} (h6:a.tmps[6]?.getD undef=.pointer (some ⟨b,0,none⟩)) (hd:a.defers=[])
  (hrow:W.heap[b]?=some (.cells (ZQ lvl A n c f l bo) 159 (0,0))) (hR:R (.returned (zh lvl A n c f l bo)) W):bodyPost Tryz.prog Tryz.f87 R .ret a W:=by
 refine bodyPost_ret (v:=zh lvl A n c f l bo) ?_ hd hR
 have k:=qa hrow
 simp[results,Tryz.results87,go_sem,h6,k]
theorem cen_node {p:CP} {W:World} {g:Int→Option Value} {a:Nat} (hC:Cen p W g) (ha:8≤a) (ha2:a<256) :
  Calls Tryz.prog 56 #[.pointer (some ⟨p.bb,0,none⟩),.int .i64 (a:Int)] W (zE (NodeP W.heap.size (qV p.S a)) W):=by
 obtain⟨_,A1,c1,e1,_⟩:=hC.onB.2.2.bs
 obtain⟨_,_,⟨A2,c2,e2,_⟩,_⟩:=hC.onB.2.2.ws
 obtain⟨A3,c3,e3,_⟩:=hC.onB.2.2.now
 obtain⟨A4,c4,e4,_⟩:=hC.onB.2.2.last
 have h:=hC.onB
 rw[e1,e2,e3,e4] at h
 exact qeb 0 p.bb _ _ _ _ _ _ _ _ _ _ _ _ p.S hC.may a ha ha2 W h
set_option maxHeartbeats 4000000 in
set_option maxRecDepth 100000 in
theorem Gv (p:CP) (L:Int) (hL:L=-1∨(0≤L∧L≤5)) (HR:∀ h:Nat,h≤5→(0≤L→(h:Int)=L)→ReadC p h):qcB p L:=by
 intro r w f hC
 by_cases hr:r<8∨256≤r
 ·have ho:okL p.S L r=false:=by unfold okL;rw[if_neg (by omega)]
  have HP:TE p L r GY f:=⟨0,none,0,0,_,_,by rw[ho],fun h=>by rw[ho] at h;cases h⟩
  replace HP:=zH HP
  replace hC:=zH hC
  clear ho HR
  go_enter Tryz.func87,Tryz.ntmps87
  go_wp2
  all_goals first|(exfalso;omega)|skip
  all_goals
   generalize hwf:(World.alloc _ _)=wf
   have rf:wf.heap[w.heap.size]?=some (.cells (ZQ 0 none 0 0 (0,0,0) (0,0,0) false) 159 (0,0)):=by rw[←hwf];exact World.alloc_heap_at _ _ _ rfl
   have xf:Ext w wf:=by rw[←hwf];exact Ext.alloc _ _
   have kf:=qa rf
   exact bodyPost_ret (v:=GY) (by simp[results,Tryz.results87,go_sem,kf]) rfl (KS.same hC.out xf HP.out)
 ·obtain⟨a,rfl⟩:∃ a:Nat,r=(a:Int):=⟨r.toNat,by omega⟩
  have ha:8≤a:=by omega
  have ha2:a<256:=by omega
  have hd1:decide ((a:Int)<8)=false:=decide_eq_false (by omega)
  have hd2:decide ((a:Int)≥256)=false:=decide_eq_false (by omega)
  have HOK:Hid (okL p.S L a=match qV p.S a with|none=>false|some (lvl,xs)=>(QL p.S lvl.toNat xs).isSome && (decide (L<0) || (decide (lvl=L) && decide (xs.length≠0)))):=by
   refine zH ?_
   unfold okL
   rw[if_pos (by omega),Int.toNat_natCast]
   rfl
  have k0:∀ W,Ext w W→W.cell? ⟨p.cb,5,none⟩=some (.map (some p.mb)):=fun W h=>by rw[qa (qc hC.row h),hC.c5]
  have k1:∀ W,Ext w W→W.cell? ⟨p.cb,4,none⟩=some (.pointer (some ⟨p.bb,0,none⟩)):=fun W h=>by rw[qa (qc hC.row h),hC.c4]
  have hcb:p.cb<w.heap.size:=(zG.1 hC.row).1
  have hk5:w.cell? ⟨p.cb,5,none⟩=some (.map (some p.mb)):=k0 w (Ext.refl _)
  replace hC:=zH hC
  clear hr
  go_enter Tryz.func87,Tryz.ntmps87
  go_wp2_with (at_lookup;refine qI ?_)
  generalize hw1:(World.alloc _ _)=w1
  have x1:Ext w w1:=by rw[←hw1];exact Ext.alloc _ _
  have q1:w1.heap[w.heap.size]?=some (.cells (ZQ 0 none 0 0 (0,0,0) (0,0,0) false) 159 (0,0)):=by rw[←hw1];exact World.alloc_heap_at _ _ _ rfl
  clear hw1
  have hC1:=hC.out.ext x1
  refine Qc.go (Yv _ rfl (.tmp 21) (.tmp 22) 109 rfl Tryz.underlying109 Tryz.underlying3 (qeJ _) rfl rfl hC1.map ?_)
  rcases hfr:f (a:Int) with _|v
  ·have kq:=qa q1
   have fq:=qd q1
   go_wp2_with fail
   have q2:=vd q1 rfl (.int .i64 0) (.slice none 0 0) (.int .u8 0) (.int .u32 0) (.int .u32 0) (.int .u8 0) (.int .u32 0) (.int .u32 0) (.bool false)
   have x2:Ext w _:=Jt x1 (Nat.le_refl w.heap.size) (.int .i64 0) (.slice none 0 0) (.int .u8 0) (.int .u32 0) (.int .u32 0) (.int .u8 0) (.int .u32 0) (.int .u32 0) (.bool false)
   generalize hw2:(World.setCell (World.setCell (World.setCell (World.setCell (World.setCell (World.setCell (World.setCell (World.setCell (World.setCell w1 _ _) _ _) _ _) _ _) _ _) _ _) _ _) _ _) _ _)=w2 at *
   clear hw2 kq fq q1 x1 hC1
   refine(cen_node (hC.out.ext x2) ha ha2).mono ?_
   rintro e w3 ⟨u,rfl,hu,hB⟩
   have x3:Ext w w3:=x2.trans hB
   have q3:=qc q2 hB
   have s3:w.heap.size<w3.heap.size:=(zG.1 q3).1
   have s2:w.heap.size<w2.heap.size:=(zG.1 q2).1
   have k3:=qa q3
   have f3:=qd q3
   have HP0:okL p.S L a=false→TE p L a GY f:=fun h=>⟨0,none,0,0,_,_,by rw[h],fun h'=>by rw[h] at h';cases h'⟩
   rcases hnode:qV p.S a with _|⟨lvl',xs⟩
   ·rw[hnode] at hu HOK
    obtain⟨er,hne,rfl⟩:=hu
    have hv:=HP0 HOK.out
    have hne2:(er != 0)=true:=by rw[bne_iff_ne];exact hne
    replace hv:=zH hv
    clear HP0 HOK HR hnode k0 k1 hk5
    go_wp2
    exact ZL (b:=w.heap.size) rfl rfl ((Below.heap_alloc _ _ _ (by simpa using s3)).trans (vd q3 rfl _ _ _ _ _ _ _ _ _)) (KS.same hC.out (Below.alloc (Jt x3 (Nat.le_refl _) _ _ _ _ _ _ _ _ _) (by simp;omega) _) hv.out)
   ·rw[hnode] at hu HOK
    obtain⟨A,c,rfl,hits⟩:=hu
    obtain⟨hmay,hxs,hlv⟩:=Qn hnode
    obtain⟨lvl,rfl⟩:=Int.eq_ofNat_of_zero_le hlv
    replace HOK:Hid (okL p.S L a=((QL p.S lvl xs).isSome && (decide (L<0) || (decide ((lvl:Int)=L) && decide (xs.length≠0))))):=HOK
    have hl5:lvl≤5:=by unfold qR zN at hmay;simp at hmay;omega
    by_cases hmm:0≤L∧(lvl:Int)≠L
    ·have hv:=HP0 (by rw[HOK.out];simp only[decide_eq_false (show ¬L<0 by omega),decide_eq_false hmm.2];simp)
     have hdl:decide (L≥0)=true:=decide_eq_true hmm.1
     have hne1:((lvl:Int) != L)=true:=by rw[bne_iff_ne];exact hmm.2
     replace hv:=zH hv
     clear HP0 HOK HR hnode k0 k1 hk5 hmm
     go_wp2
     exact ZL (b:=w.heap.size) rfl rfl ((Below.heap_alloc _ _ _ (by simpa using s3)).trans (vd q3 rfl _ _ _ _ _ _ _ _ _)) (KS.same hC.out (Below.alloc (Jt x3 (Nat.le_refl _) _ _ _ _ _ _ _ _ _) (by simp;omega) _) hv.out)
    ·have hLc:L<0∨(0≤L∧(lvl:Int)=L):=by
      rcases hL with h|h
      ·exact .inl (by omega)
      ·exact .inr ⟨h.1,Classical.byContradiction fun h'=>hmm ⟨h.1,h'⟩⟩
     have HRD:=zH (HR lvl hl5 (fun h=>by omega))
     clear HR
     rcases hLc with hL0|⟨hL0,hLl⟩
     ·skip
      have hdl:decide (L≥0)=false:=decide_eq_false (by omega)
      have hokb:okL p.S L a=(QL p.S lvl xs).isSome:=by rw[HOK.out,decide_eq_true hL0,Bool.true_or,Bool.and_true]
      replace hokb:=zH hokb
      clear HOK HP0
      go_wp2_with fail
      generalize hw5:(World.alloc _ _)=w5
      have x35:Ext w3 w5:=by rw[←hw5];exact Ext.alloc _ _
      clear hw5 k3 f3
      have x5:Ext w w5:=x3.trans x35
      have q5:=qc q3 x35
      have hlow:=hC.out.low
      have s5:w.heap.size<w5.heap.size:=(zG.1 q5).1
      have hits5:zU (w.heap.size+1) w5 (.slice A xs.length c) xs:=(hits.ext x35).mono (by omega)
      refine(HRD.out xs A c w5 f hmay hxs (hits5.mono (by omega)) (hC.out.ext x5)).mono ?_
      rintro e w6 ⟨v,g,rfl,⟨fk,lk,b,rfl,hsp,hcl⟩,hgr,hm6,hg6,hn6⟩
      have hC6:=(hC.out.ext x5).after hgr hm6 hg6 hn6
      have q6:w6.heap[w.heap.size]?=_:=(hg6.block _ s5 (by simp;omega)).trans q5
      have k6:=qa q6
      have f6:=qd q6
      go_wp2_with fail
      have q7:=vd q6 rfl (.int .i64 lvl) (.slice A xs.length c) (.int .u8 fk.1) (.int .u32 fk.2.1) (.int .u32 fk.2.2) (.int .u8 lk.1) (.int .u32 lk.2.1) (.int .u32 lk.2.2) (.bool b)
      have h67:=vK (w:=w6) (b:=w.heap.size) (.int .i64 lvl) (.slice A xs.length c) (.int .u8 fk.1) (.int .u32 fk.2.1) (.int .u32 fk.2.2) (.int .u8 lk.1) (.int .u32 lk.2.1) (.int .u32 lk.2.2) (.bool b)
      generalize hw7:(World.setCell (World.setCell (World.setCell (World.setCell (World.setCell (World.setCell (World.setCell (World.setCell (World.setCell w6 _ _) _ _) _ _) _ _) _ _) _ _) _ _) _ _) _ _)=w7 at *
      have z56:=hg6.size
      have hrow7:w7.heap[p.cb]?=_:=(h67.block _ (by omega) (by simp;omega)).trans hC6.row
      have hm7:zm w7 p.mb g:=hm6.of_heap (h67.block _ (by omega) (by simp;omega))
      have hc5:=hC6.c5
      clear hw7 k6 f6 q6
      have g5:∀ W,qu.r w7 W→W.cell? ⟨p.cb,5,none⟩=some (.map (some p.mb)):=fun W h=>by rw[qa (qc hrow7 h),hc5]
      have gq:∀ W,qu.r w7 W→∀ i,W.cell? ⟨w.heap.size,i,none⟩=(ZQ lvl A xs.length c fk lk b)[i]?:=fun W h=>qa (qc q7 h)
      refine qv (by kernel_rfl) ?_
      refine QH (w:=w7) qu (qE []) [true,true,true,true,true,true] 1 (by kernel_rfl) (by kernel_rfl) (by kernel_rfl) (by kernel_rfl) (by kernel_rfl) (by kernel_rfl) ?st (Rel.drew _ _) ?walk
      case st=>exact qm (fun _ h=>by cases h)
      case walk =>
       intro K hK
       dsimp only[qz]
       repeat ((first|(refine qf ?_ (by rfl) (by rfl) (fun W hW _=>⟨W,?_,Rel.refl _ W⟩) ?_;rotate_left;(first|(go_simp;with_reducible rfl)|(go_simp;done)))|(refine qj (by rfl) ?_));try simp only[Act.put,qi,qe,qb,qg,zA,zB,zC])
       refine qD (hK _ _ fun W hW hF=>?_)
       clear hF hK g5 gq
       have hW':Ext w7 W:=hW
       have z7:=h67.size
       have q7':=qc q7 hW'
       have hmW:zm W p.mb g:=hm7.of_heap (hW'.block _ (by omega))
       dsimp only[List.drop,List.length_cons,List.length_nil]
       refine jv _ rfl (.tmp 56) (.tmp 57) (.tmp 58) 109 rfl Tryz.underlying109 Tryz.underlying3 rfl rfl rfl hmW ?_
       intro w8 hm8 hg8
       have z7W:=hW'.size
       have q8:w8.heap[w.heap.size]?=_:=(hg8.block _ (by omega) (by simp;omega)).trans q7'
       have k8:=qa q8
       have f8:=qd q8
       replace hcl:=zH hcl
       replace hsp:=zH hsp
       replace hnode:=zH hnode
       replace hfr:=zH hfr
       go_wp2
       refine Qw ?_
       go_wp2
       exact ZL (b:=w.heap.size) rfl rfl (vd q8 rfl _ _ _ _ _ _ _ _ _) (YT hfr.out hC.out x5 s5 hgr hm6 hg6 hn6 h67 hW' hmW hg8 hm8 (vK _ _ _ _ _ _ _ _ _) ha ha2 hnode.out hits5 hsp.out hcl.out ⟨lvl,A,_,c,fk,lk,by rw[hokb.out,←hsp.out.1],fun _=>if_pos rfl⟩)
     ·by_cases hm0:xs.length=0
      case neg =>
       have hdl:decide (L≥0)=true:=decide_eq_true (by omega)
       have hne1:((lvl:Int) != L)=false:=by rw[bne_eq_false_iff_eq];exact hLl
       have hokb:okL p.S L a=(QL p.S lvl xs).isSome:=by rw[HOK.out,decide_eq_true hLl,decide_eq_true hm0];simp
       have hne2:((xs.length:Int) == 0)=false:=by rw[beq_eq_false_iff_ne];omega
       have hne3:decide (xs.length=0)=false:=decide_eq_false hm0
       replace hokb:=zH hokb
       replace hLl:=zH hLl
       replace hm0:=zH hm0
       clear HOK HP0
       go_wp2_with fail
       generalize hw5:(World.alloc _ _)=w5
       have x35:Ext w3 w5:=by rw[←hw5];exact Ext.alloc _ _
       clear hw5 k3 f3
       have x5:Ext w w5:=x3.trans x35
       have q5:=qc q3 x35
       have hlow:=hC.out.low
       have s5:w.heap.size<w5.heap.size:=(zG.1 q5).1
       have hits5:zU (w.heap.size+1) w5 (.slice A xs.length c) xs:=(hits.ext x35).mono (by omega)
       refine(HRD.out xs A c w5 f hmay hxs (hits5.mono (by omega)) (hC.out.ext x5)).mono ?_
       rintro e w6 ⟨v,g,rfl,⟨fk,lk,b,rfl,hsp,hcl⟩,hgr,hm6,hg6,hn6⟩
       have hC6:=(hC.out.ext x5).after hgr hm6 hg6 hn6
       have q6:w6.heap[w.heap.size]?=_:=(hg6.block _ s5 (by simp;omega)).trans q5
       have k6:=qa q6
       have f6:=qd q6
       go_wp2_with fail
       have q7:=vd q6 rfl (.int .i64 lvl) (.slice A xs.length c) (.int .u8 fk.1) (.int .u32 fk.2.1) (.int .u32 fk.2.2) (.int .u8 lk.1) (.int .u32 lk.2.1) (.int .u32 lk.2.2) (.bool b)
       have h67:=vK (w:=w6) (b:=w.heap.size) (.int .i64 lvl) (.slice A xs.length c) (.int .u8 fk.1) (.int .u32 fk.2.1) (.int .u32 fk.2.2) (.int .u8 lk.1) (.int .u32 lk.2.1) (.int .u32 lk.2.2) (.bool b)
       generalize hw7:(World.setCell (World.setCell (World.setCell (World.setCell (World.setCell (World.setCell (World.setCell (World.setCell (World.setCell w6 _ _) _ _) _ _) _ _) _ _) _ _) _ _) _ _) _ _)=w7 at *
       have z56:=hg6.size
       have hrow7:w7.heap[p.cb]?=_:=(h67.block _ (by omega) (by simp;omega)).trans hC6.row
       have hm7:zm w7 p.mb g:=hm6.of_heap (h67.block _ (by omega) (by simp;omega))
       have hc5:=hC6.c5
       clear hw7 k6 f6 q6
       have g5:∀ W,qu.r w7 W→W.cell? ⟨p.cb,5,none⟩=some (.map (some p.mb)):=fun W h=>by rw[qa (qc hrow7 h),hc5]
       have gq:∀ W,qu.r w7 W→∀ i,W.cell? ⟨w.heap.size,i,none⟩=(ZQ lvl A xs.length c fk lk b)[i]?:=fun W h=>qa (qc q7 h)
       refine qv (by kernel_rfl) ?_
       refine QH (w:=w7) qu (qE []) [true,true,true,true,true,true] 1 (by kernel_rfl) (by kernel_rfl) (by kernel_rfl) (by kernel_rfl) (by kernel_rfl) (by kernel_rfl) ?st (Rel.drew _ _) ?walk
       case st=>exact qm (fun _ h=>by cases h)
       case walk =>
        intro K hK
        dsimp only[qz]
        repeat ((first|(refine qf ?_ (by rfl) (by rfl) (fun W hW _=>⟨W,?_,Rel.refl _ W⟩) ?_;rotate_left;(first|(go_simp;with_reducible rfl)|(go_simp;done)))|(refine qj (by rfl) ?_));try simp only[Act.put,qi,qe,qb,qg,zA,zB,zC])
        refine qD (hK _ _ fun W hW hF=>?_)
        clear hF hK g5 gq
        have hW':Ext w7 W:=hW
        have z7:=h67.size
        have q7':=qc q7 hW'
        have hmW:zm W p.mb g:=hm7.of_heap (hW'.block _ (by omega))
        dsimp only[List.drop,List.length_cons,List.length_nil]
        refine jv _ rfl (.tmp 56) (.tmp 57) (.tmp 58) 109 rfl Tryz.underlying109 Tryz.underlying3 rfl rfl rfl hmW ?_
        intro w8 hm8 hg8
        have z7W:=hW'.size
        have q8:w8.heap[w.heap.size]?=_:=(hg8.block _ (by omega) (by simp;omega)).trans q7'
        have k8:=qa q8
        have f8:=qd q8
        replace hcl:=zH hcl
        replace hsp:=zH hsp
        replace hnode:=zH hnode
        replace hfr:=zH hfr
        go_wp2
        refine Qw ?_
        go_wp2
        exact ZL (b:=w.heap.size) rfl rfl (vd q8 rfl _ _ _ _ _ _ _ _ _) (YT hfr.out hC.out x5 s5 hgr hm6 hg6 hn6 h67 hW' hmW hg8 hm8 (vK _ _ _ _ _ _ _ _ _) ha ha2 hnode.out hits5 hsp.out hcl.out ⟨lvl,A,_,c,fk,lk,by rw[hokb.out,←hsp.out.1],fun _=>if_pos rfl⟩)
      case pos =>
       have hdl:decide (L≥0)=true:=decide_eq_true (by omega)
       have hne1:((lvl:Int) != L)=false:=by rw[bne_eq_false_iff_eq];exact hLl
       have hokb:okL p.S L a=false:=by rw[HOK.out];simp[hm0,show ¬L<0 by omega]
       have hne2:((xs.length:Int) == 0)=true:=by rw[beq_iff_eq];omega
       have hne3:decide (xs.length=0)=true:=decide_eq_true hm0
       replace hokb:=zH hokb
       replace hLl:=zH hLl
       replace hm0:=zH hm0
       clear HOK HP0
       go_wp2_with fail
       generalize hw5:(World.alloc _ _)=w5
       have x35:Ext w3 w5:=by rw[←hw5];exact Ext.alloc _ _
       clear hw5 k3 f3
       have x5:Ext w w5:=x3.trans x35
       have q5:=qc q3 x35
       have hlow:=hC.out.low
       have s5:w.heap.size<w5.heap.size:=(zG.1 q5).1
       have hits5:zU (w.heap.size+1) w5 (.slice A xs.length c) xs:=(hits.ext x35).mono (by omega)
       refine(HRD.out xs A c w5 f hmay hxs (hits5.mono (by omega)) (hC.out.ext x5)).mono ?_
       rintro e w6 ⟨v,g,rfl,⟨fk,lk,b,rfl,hsp,hcl⟩,hgr,hm6,hg6,hn6⟩
       have hC6:=(hC.out.ext x5).after hgr hm6 hg6 hn6
       have q6:w6.heap[w.heap.size]?=_:=(hg6.block _ s5 (by simp;omega)).trans q5
       have k6:=qa q6
       have f6:=qd q6
       go_wp2_with fail
       have q7:=vd q6 rfl (.int .i64 lvl) (.slice A xs.length c) (.int .u8 fk.1) (.int .u32 fk.2.1) (.int .u32 fk.2.2) (.int .u8 lk.1) (.int .u32 lk.2.1) (.int .u32 lk.2.2) (.bool b)
       have h67:=vK (w:=w6) (b:=w.heap.size) (.int .i64 lvl) (.slice A xs.length c) (.int .u8 fk.1) (.int .u32 fk.2.1) (.int .u32 fk.2.2) (.int .u8 lk.1) (.int .u32 lk.2.1) (.int .u32 lk.2.2) (.bool b)
       generalize hw7:(World.setCell (World.setCell (World.setCell (World.setCell (World.setCell (World.setCell (World.setCell (World.setCell (World.setCell w6 _ _) _ _) _ _) _ _) _ _) _ _) _ _) _ _) _ _)=w7 at *
       have z56:=hg6.size
       have hrow7:w7.heap[p.cb]?=_:=(h67.block _ (by omega) (by simp;omega)).trans hC6.row
       have hm7:zm w7 p.mb g:=hm6.of_heap (h67.block _ (by omega) (by simp;omega))
       have hc5:=hC6.c5
       clear hw7 k6 f6 q6
       have g5:∀ W,qu.r w7 W→W.cell? ⟨p.cb,5,none⟩=some (.map (some p.mb)):=fun W h=>by rw[qa (qc hrow7 h),hc5]
       have gq:∀ W,qu.r w7 W→∀ i,W.cell? ⟨w.heap.size,i,none⟩=(ZQ lvl A xs.length c fk lk b)[i]?:=fun W h=>qa (qc q7 h)
       refine qv (by kernel_rfl) ?_
       refine QH (w:=w7) qu (qE []) [true,true,true,true,true,true] 1 (by kernel_rfl) (by kernel_rfl) (by kernel_rfl) (by kernel_rfl) (by kernel_rfl) (by kernel_rfl) ?st (Rel.drew _ _) ?walk
       case st=>exact qm (fun _ h=>by cases h)
       case walk =>
        intro K hK
        dsimp only[qz]
        repeat ((first|(refine qf ?_ (by rfl) (by rfl) (fun W hW _=>⟨W,?_,Rel.refl _ W⟩) ?_;rotate_left;(first|(go_simp;with_reducible rfl)|(go_simp;done)))|(refine qj (by rfl) ?_));try simp only[Act.put,qi,qe,qb,qg,zA,zB,zC])
        refine qD (hK _ _ fun W hW hF=>?_)
        clear hF hK g5 gq
        have hW':Ext w7 W:=hW
        have z7:=h67.size
        have q7':=qc q7 hW'
        have hmW:zm W p.mb g:=hm7.of_heap (hW'.block _ (by omega))
        dsimp only[List.drop,List.length_cons,List.length_nil]
        refine jv _ rfl (.tmp 56) (.tmp 57) (.tmp 58) 109 rfl Tryz.underlying109 Tryz.underlying3 rfl rfl rfl hmW ?_
        intro w8 hm8 hg8
        have z7W:=hW'.size
        have q8:w8.heap[w.heap.size]?=_:=(hg8.block _ (by omega) (by simp;omega)).trans q7'
        have k8:=qa q8
        have f8:=qd q8
        replace hcl:=zH hcl
        replace hsp:=zH hsp
        replace hnode:=zH hnode
        replace hfr:=zH hfr
        go_wp2
        refine Qw ?_
        go_wp2
        exact ZL (b:=w.heap.size) (f:=(0,0,0)) (l:=(0,0,0)) rfl rfl (vd q8 rfl _ _ _ _ _ _ _ _ _) (YT hfr.out hC.out x5 s5 hgr hm6 hg6 hn6 h67 hW' hmW hg8 hm8 (vK _ _ _ _ _ _ _ _ _) ha ha2 hnode.out hits5 hsp.out hcl.out ⟨0,none,0,0,_,_,by rw[hokb.out],fun h=>by rw[hokb.out] at h;cases h⟩)
  ·obtain⟨n,lvl,xs,A,c,fk,lk,b,hn,_,_,hnode,rfl,hits,hspan,hclo⟩:=hC1.known _ _ hfr
   obtain rfl:a=n:=by omega
   have hok:okL p.S L a=(b && (decide (L<0) || (decide ((lvl:Int)=L) && decide (xs.length≠0)))):=by rw[HOK.out,hnode,hspan.1];rfl
   have HPv:okL p.S L a=b→TE p L a (zh lvl A xs.length c fk lk b) f:=fun h=>⟨_,A,_,c,fk,lk,by rw[h],fun _=>hfr⟩
   have HP0:okL p.S L a=false→TE p L a GY f:=fun h=>⟨0,none,0,0,_,_,by rw[h],fun h'=>by rw[h] at h';cases h'⟩
   replace HPv:=zH HPv
   replace HP0:=zH HP0
   replace hC1:=zH hC1
   replace hok:=zH hok
   clear hfr hclo hspan hits hnode HOK HR hn k0 k1 hk5
   have kq:=qa q1
   have fq:=qd q1
   generalize hxl:xs.length=m at *
   clear hxl
   by_cases hL0:L<0
   ·have hv:=HPv.out (by rw[hok.out,decide_eq_true hL0,Bool.true_or,Bool.and_true])
    have hdl:decide (L≥0)=false:=decide_eq_false (by omega)
    replace hv:=zH hv
    clear HPv HP0 hok
    go_wp2
    exact ZL (b:=w.heap.size) rfl rfl (vd (vd q1 rfl _ _ _ _ _ _ _ _ _) rfl _ _ _ _ _ _ _ _ _) (KS.same hC.out (Jt (Jt x1 (Nat.le_refl _) _ _ _ _ _ _ _ _ _) (Nat.le_refl _) _ _ _ _ _ _ _ _ _) hv.out)
   ·have hdl:decide (L≥0)=true:=decide_eq_true (by omega)
    by_cases hll:(lvl:Int)=L∧m≠0
    ·have hv:=HPv.out (by rw[hok.out,decide_eq_false hL0,decide_eq_true hll.1,decide_eq_true hll.2];simp)
     have hne1:((lvl:Int) != L)=false:=by rw[bne_eq_false_iff_eq];exact hll.1
     have hne2:((m:Int) == 0)=false:=by rw[beq_eq_false_iff_ne];omega
     have hne3:decide (m=0)=false:=decide_eq_false hll.2
     replace hv:=zH hv
     clear HPv HP0 hok hll
     go_wp2
     exact ZL (b:=w.heap.size) rfl rfl (vd (vd q1 rfl _ _ _ _ _ _ _ _ _) rfl _ _ _ _ _ _ _ _ _) (KS.same hC.out (Jt (Jt x1 (Nat.le_refl _) _ _ _ _ _ _ _ _ _) (Nat.le_refl _) _ _ _ _ _ _ _ _ _) hv.out)
    ·have hv:=HP0.out (by
      rw[hok.out,decide_eq_false hL0]
      by_cases h1:(lvl:Int)=L
      ·have h2:m=0:=Classical.byContradiction fun h=>hll ⟨h1,h⟩
       simp[h2]
      ·simp[h1])
     replace hv:=zH hv
     clear HPv HP0 hok
     by_cases h1:(lvl:Int)=L
     ·have h2:m=0:=Classical.byContradiction fun h=>hll ⟨h1,h⟩
      have hne1:((lvl:Int) != L)=false:=by rw[bne_eq_false_iff_eq];exact h1
      clear hll h1
      subst h2
      go_wp2
      exact ZL (b:=w.heap.size) rfl rfl (vd (vd q1 rfl _ _ _ _ _ _ _ _ _) rfl _ _ _ _ _ _ _ _ _) (KS.same hC.out (Jt (Jt x1 (Nat.le_refl _) _ _ _ _ _ _ _ _ _) (Nat.le_refl _) _ _ _ _ _ _ _ _ _) hv.out)
     ·have hne1:((lvl:Int) != L)=true:=by rw[bne_iff_ne];exact h1
      clear hll h1
      go_wp2
      exact ZL (b:=w.heap.size) rfl rfl (vd (vd q1 rfl _ _ _ _ _ _ _ _ _) rfl _ _ _ _ _ _ _ _ _) (KS.same hC.out (Jt (Jt x1 (Nat.le_refl _) _ _ _ _ _ _ _ _ _) (Nat.le_refl _) _ _ _ _ _ _ _ _ _) hv.out)
end Go.Proofs.YtckhnchnbeoogaaGreat
