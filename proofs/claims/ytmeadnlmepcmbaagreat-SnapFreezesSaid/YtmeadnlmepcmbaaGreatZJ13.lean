/- Lemmas of the proof. -/
import Derived.WalkMore
import Derived.Defers
import Derived.Test.YtmeadnlmepcmbaaGreatZJ12
set_option linter.all false
set_option maxHeartbeats 8000000
open Go.Proofs.Tryz
namespace Go.Proofs.YtmeadnlmepcmbaaGreat
open Go.RowKit
theorem qad (ps:List (It×Value)):∀ k,Qa (ps.drop k)=(Qa ps).drop (k*5):=by
 induction ps with
 |nil=>intro k;simp[Qa]
 |cons p r ih =>
  intro k;rcases k with _|k
  ·simp[Qa]
  ·rw[List.drop_succ_cons,show (k+1)*5=k*5+1+1+1+1+1 by omega];simp only[Qa,List.drop_succ_cons,ih k]
theorem qbs (ps:List (It×Value)) (h:∀ p∈ps,p.2.oneCell'=true):∀ u∈Qa ps,u.oneCell'=true:=by
 induction ps with
 |nil=>intro u hu;cases hu
 |cons p r ih =>
  intro u hu;simp only[Qa,List.mem_cons] at hu;rcases hu with rfl|rfl|rfl|rfl|rfl|hu
  ·rfl
  ·rfl
  ·rfl
  ·rfl
  ·exact h p List.mem_cons_self
  ·exact ih (fun q hq=>h q (List.mem_cons_of_mem _ hq)) u hu
theorem Its.take {w:World} {B b off n c:Nat} {xs:List It} (h:Its w B (.slice (some ⟨b,off,none⟩) n c) xs) {k:Nat} (hk:k<=xs.length):Its w B (.slice (some ⟨b,off,none⟩) k c) (xs.take k):=by
 obtain⟨ps,rfl,⟨A,c',e,h1,h2,hr⟩,hp⟩:=h;cases e;have hk':k<=ps.length:=by simpa using hk
 refine⟨ps.take k,by rw[List.map_take],⟨_,c,by rw[List.length_take,Nat.min_eq_left hk],by rw[List.length_take];omega,h2,?_⟩,fun p af=>hp p (List.mem_of_mem_take af)⟩;rw[List.length_take,Nat.min_eq_left hk];rw[<-qae];refine⟨by rw[List.length_take,hr.1,List.length_map];omega,fun hn=>?_⟩;obtain⟨b',off',e,hb,hc⟩:=hr.2 zO;exact⟨b',off',e,hb,fun j u hu=>hc j u (by rw[List.getElem?_take] at hu;split at hu;exact hu;cases hu)⟩
theorem Its.drop {w:World} {B b off n c:Nat} {xs:List It} (h:Its w B (.slice (some ⟨b,off,none⟩) n c) xs) {k:Nat} (hk:k<xs.length):Its w B (.slice (some ⟨b,off+k*5,none⟩) (n-k) (c-k)) (xs.drop k):=by
 obtain⟨ps,rfl,⟨A,c',e,h1,h2,hr⟩,hp⟩:=h;cases e;have hk':k<ps.length:=by simpa using hk
 refine⟨ps.drop k,by rw[List.map_drop],⟨_,c-k,by rw[List.length_drop],by rw[List.length_drop];omega,zO,?_⟩,fun p af=>hp p (List.mem_of_mem_drop af)⟩;rw[List.length_drop,qad];refine⟨by rw[List.length_drop,hr.1,List.length_map];omega,fun hn=>?_⟩;obtain⟨b',off',e,hb,hc⟩:=hr.2 zO;cases e;exact⟨b,off+k*5,rfl,hb,fun j u hu=>by rw[List.getElem?_drop] at hu;rw[Nat.add_assoc];exact hc _ _ hu⟩
theorem kM.take {X:Nat->Prop} {w:World} {b off n c:Nat} {xs:List It} (h:kM X w (.slice (some ⟨b,off,none⟩) n c) xs) {k:Nat} (hk:k<=xs.length):kM X w (.slice (some ⟨b,off,none⟩) k c) (xs.take k):=fun C hC=>(h C hC).take hk
theorem kM.drop {X:Nat->Prop} {w:World} {b off n c:Nat} {xs:List It} (h:kM X w (.slice (some ⟨b,off,none⟩) n c) xs) {k:Nat} (hk:k<xs.length):kM X w (.slice (some ⟨b,off+k*5,none⟩) (n-k) (c-k)) (xs.drop k):=fun C hC=>(h C hC).drop hk
theorem Bch.notB3 {D:Nat->Prop} {B lo b g:Nat} {k:Option Nat} {S:Sto} {w:World} (h:Bch D B lo b g k S w) {q:Nat} {cs:Array Value} {ty:TypeId} {fr:Nat×Nat} (hr:w.heap[q]?=some (.cells cs ty fr)) (h1:ty≠223) (h2:ty≠5) (h3:ty≠142):¬B3 b g k q:=fun hx=>by
 obtain⟨A1,n1,c1,v2,c3,A4,c4,uo,ho,⟨ps,_,hw,_⟩,_,_⟩:=h.ex;rcases hx with e|e|e
 ·subst e;rw[hr] at uo;simp only[Option.some.injEq,Obj.cells.injEq] at uo;exact h1 uo.2.1
 ·subst e;obtain⟨cur,hg⟩:=jh ho (q:=q) rfl;rw[hr] at hg;simp only[Option.some.injEq,Obj.cells.injEq] at hg;exact h2 hg.2.1
 ·rcases hw with ⟨e1,_⟩|⟨q',e1,e2,how⟩
  ·rw[e1] at e;cases e
  ·rw[e1] at e;cases e;obtain⟨cur,hg⟩:=jh how e2;rw[hr] at hg;simp only[Option.some.injEq,Obj.cells.injEq] at hg;exact h3 hg.2.1
def upV (ups:List It):List (It×Value):=ups.map fun x=>(x,.slice none 0 0)
theorem upV_item (ups:List It) (x:It):Qa (upV (ups++[x]))=Qa (upV ups)++[.int .u8 x.k,.int .u32 x.i,.int .u32 x.o,.int .i64 x.r,.slice none 0 0]:=by unfold upV;rw[List.map_append,vL];rfl
theorem qiG {t:List UInt8} {a:Nat} {e:Int} (h:vt t a=.error e):e≠0:=by
 unfold vt at h;split at h
 ·cases h
 ·split at h
  ·cases h;decide
  ·split at h
   ·cases h;decide
   ·cases h
theorem qcn:∀ {l:List Nat} {t:List UInt8} {e:Int},ZI l t=.error e->e≠0
 | [],t,e,h=>by cases h
 |a :: l,t,e,h=>by
  simp only[ZI] at h;split at h
  ·rename_i e' h';cases h;exact qiG h'
  ·exact qcn h
theorem XM {S:Sto} {lvl:Int} {its:List It} {e:Int} (h:Zz S lvl its=.error e):e≠0:=by
 unfold Zz at h;split at h
 ·split at h
  ·rename_i e' h';cases h;exact qcn h'
  ·split at h
   ·cases h;decide
   ·cases h
 ·cases h;decide
theorem Ys (lvl:Int):∀ (ps qs:List (List It)) (S:Sto),makeL lvl (ps++qs) S=match makeL lvl ps S with
  | .error e=>.error e
  | .ok (up,S')=>match makeL lvl qs S' with
   | .error e=>.error e
   | .ok (up',S'')=>.ok (up++up',S'')
 | [],qs,S=>by simp only[List.nil_append,makeL];rcases makeL lvl qs S with e|⟨up,S'⟩ <;> rfl
 |p :: ps,qs,S=>by
  simp only[List.cons_append,makeL];rcases Zz S lvl p with e|⟨f,S'⟩
  ·rfl
  ·simp only;rw[Ys lvl ps qs S'];rcases makeL lvl ps S' with e|⟨up,S''⟩
   ·rfl
   ·simp only;rcases makeL lvl qs S'' with e|⟨up',S3⟩ <;> rfl
theorem qkB (lvl:Int) (p:List It) (S:Sto):makeL lvl [p] S=match Zz S lvl p with
  | .error e=>.error e
  | .ok (f,S')=>.ok ([GD (VV p) f],S'):=by
 simp only[makeL] <;> (rcases Zz S lvl p with e|⟨f,S'⟩ <;> rfl)
theorem qkA {lvl:Int} {ps:List (List It)} {j:Nat} (hj:j<ps.length) {S S':Sto} {up:List It} {e:Int} (h:makeL lvl (ps.take j) S=.ok (up,S')) (h1:Zz S' lvl ps[j]=.error e):makeL lvl ps S=.error e:=by
 have:ps=ps.take j++(ps[j] :: ps.drop (j+1)):=by rw[<-List.drop_eq_getElem_cons hj,List.take_append_drop]
 rw[this,Ys,h];simp only[makeL];rw[h1]
theorem qin {lvl:Int} {ps:List (List It)} {j:Nat} (hj:j<ps.length) {S S' S'':Sto} {up:List It} {f:Nat} (h:makeL lvl (ps.take j) S=.ok (up,S')) (h1:Zz S' lvl ps[j]=.ok (f,S'')):makeL lvl (ps.take (j+1)) S=.ok (up++[GD (VV ps[j]) f],S''):=by rw[List.take_succ_eq_append_getElem hj,Ys,h];simp only;rw[qkB,h1]
theorem qim {its:List It} (k:Nat):qz its=qz (its.take k)++qz (its.drop k):=by unfold qz;rw[<-List.map_append,List.take_append_drop]
theorem qbJ {its:List It} {k:Nat} (hk:k<its.length) {t t':List UInt8} (h:looseL (qz (its.take k)) t=.ok t') (h0:its[k].r.toNat≠0) (h1:qN t' its[k].r.toNat=0):looseL (qz its) t=.error 6:=by rw[qim (its:=its) k,Jw,h];simp only;rw[List.drop_eq_getElem_cons hk];exact Jd h0 h1 _
theorem qat {its:List It} {k:Nat} (hk:k<its.length) {t t':List UInt8} (h:looseL (qz (its.take k)) t=.ok t') (h0:its[k].r.toNat≠0) (h1:qN t' its[k].r.toNat≠0):looseL (qz (its.take (k+1))) t=.ok (vd t' its[k].r.toNat):=by rw[Kh hk,Jw,h];simp only;rw[jq h0 h1];rfl
theorem qau {its:List It} {k:Nat} (hk:k<its.length) {t t':List UInt8} (h:looseL (qz (its.take k)) t=.ok t') (h0:its[k].r.toNat=0):looseL (qz (its.take (k+1))) t=.ok t':=by rw[Kh hk,Jw,h];simp only;rw[h0,jr];rfl
structure SM (S S':Sto):Prop where
 node:∀ r nd,qt S r=some nd->qt S' r=some nd
 pos:∀ r:Nat,0<(S.now[r]?.getD 0).toNat->0<(S'.now[r]?.getD 0).toNat
theorem TN {one one':It->Option (K3×K3)} (h:∀ y p,one y=some p->one' y=some p):∀ (xs:List It) (a:Option (Option (K3×K3))) (q:Option (K3×K3)),xs.foldl (jR one) a=some q->xs.foldl (jR one') a=some q
 | [],_,_,e=>e
 |x :: r,a,q,e=>by
  simp only[List.foldl_cons] at e ⊢;have hs:=(Gu one r (jR one a x) (by rw[e];rfl)).1;have e2:jR one' a x=jR one a x:=by
   unfold jR at hs ⊢;rcases a with _|a
   ·rfl
   ·rcases hx:one x with _|p
    ·rw[hx] at hs;cases hs
    ·rw[h x p hx]
  rw[e2];exact TN h r _ q e
section
variable {S S':Sto}
theorem SM.one (hm:SM S S'):∀ (h:Nat) (y:It) (p:K3×K3),jB S h y=some p->jB S' h y=some p
 |0,y,p,e=>by
  unfold jB at e ⊢;split at e
  ·rename_i hc;rw[if_pos (hc.imp id (hm.pos _))];exact e
  ·cases e
 |h+1,y,p,e=>by
  rw[VM] at e ⊢;unfold Vn at e ⊢;split at e
  ·rename_i hr;rw[if_pos hr];rcases hn:qt S y.r.toNat with _|⟨lvl,xs⟩
   ·rw[hn] at e;cases e
   ·rw[hn] at e;rw[hm.node _ _ hn];simp only at e ⊢;split at e
    ·rename_i hl;rw[if_pos hl];rcases hs:qD S h xs with _|q
     ·rw[hs] at e;cases e
     ·rw[hs] at e;have h2:qD S' h xs=some q:=TN (SM.one hm h) xs _ q hs;rw[h2];exact e
    ·cases e
  ·cases e
theorem SM.span (hm:SM S S') {h:Nat} {xs:List It} {q:Option (K3×K3)} (e:qD S h xs=some q):qD S' h xs=some q:=TN (hm.one h) xs _ q e
theorem SM.spanOk (hm:SM S S') {h:Nat} {xs:List It} (e:(qD S h xs).isSome=true):(qD S' h xs).isSome=true:=by obtain⟨q,hq⟩:=Option.isSome_iff_exists.1 e;rw[hm.span hq];rfl
theorem SM.okL (hm:SM S S') {L r:Int} (e:okL S L r=true):okL S' L r=true:=by
 unfold Go.Proofs.YtmeadnlmepcmbaaGreat.okL at e ⊢;split at e
 ·rename_i hr;rw[if_pos hr];rcases hn:qt S r.toNat with _|⟨lvl,xs⟩
  ·rw[hn] at e;cases e
  ·rw[hn] at e;rw[hm.node _ _ hn];simp only[Bool.and_eq_true] at e ⊢;exact⟨hm.spanOk e.1,e.2⟩
 ·cases e
theorem SM.items (hm:SM S S'):∀ (h:Nat) (xs:List It),(qD S h xs).isSome=true->qC S' h xs=qC S h xs
 |0,_,_=>rfl
 |h+1,xs,e=>by unfold qC;rw[List.flatMap_def,List.flatMap_def];congr 1;refine List.map_congr_left fun y hy=>?_;obtain⟨b,hb,_,_,ys,hn,hs⟩:=ZF (ZU e y hy);rw[hb,Int.toNat_natCast,hm.node _ _ hn,hn];exact SM.items hm h ys hs
theorem SM.vols (hm:SM S S') {root next:Int} {vs:List Vol} (ht:Go.Proofs.YtmeadnlmepcmbaaGreat.okL S (-1) root=true) (e:Vr S root next=some vs):Vr S' root next=some vs:=by
 unfold Vr at e ⊢;unfold Go.Proofs.YtmeadnlmepcmbaaGreat.okL at ht;split at ht
 ·rcases hn:qt S root.toNat with _|⟨lvl,xs⟩
  ·rw[hn] at e;cases e
  ·rw[hn] at e ht;rw[hm.node _ _ hn];simp only[Bool.and_eq_true] at e ht ⊢;rw[hm.items _ _ ht.1];exact e
 ·cases ht
theorem SM.pool (hm:SM S S') (hS:ql S'=true) {root next:Int} {dead:List Int} {vs:List Vol} (h:Qb S root next dead vs):Qb S' root next dead vs:=
 ⟨hS,h.few,hm.okL h.top,hm.vols h.top h.vols,fun r hr=>hm.okL (h.ok r hr)⟩
theorem SM.refs (hm:SM S S') {a:Nat} (h:jj S a):QQ S' a=QQ S a:=by obtain⟨-,-,lvl,xs,hn,-⟩:=h;unfold QQ;rw[hn,hm.node _ _ hn]
theorem SM.kids (hm:SM S S') {a:Nat} (h:jj S a):zF S' a=zF S a:=by have hr:=hm.refs h;obtain⟨-,-,lvl,xs,hn,-⟩:=h;unfold zF;rw[hn,hm.node _ _ hn];simp only[hr]
theorem SM.rch (hm:SM S S') {R:Nat->Prop} (hR:∀ a,R a->jj S a) {a:Nat} (x:Rch (zF S) R a):Rch (zF S') R a:=by
 induction x with
 |base r=>exact .base r
 |step hx hb ih=>exact .step ih (by rw[hm.kids (TV hR hx)];exact hb)
theorem qjK {rs rs':Nat->List Nat} {M:Nat->Bool} {b:Nat}:∀ n,(∀ a,M a=true->rs a=rs' a)->jS rs M b n=jS rs' M b n
 |0,_=>rfl
 |n+1,h=>by
  unfold jS;rw[qjK n h];by_cases hm:M n=true
  ·rw[if_pos hm,if_pos hm,h n hm]
  ·rw[if_neg hm,if_neg hm]
theorem SM.counted (hm:SM S S') {R:List Nat} {refs nodes:Nat->Nat} (hR:∀ a,a∈R->jj S a) (h:qR S R refs nodes):qR S' R refs nodes:=by
 have yP:∀ a,Jz nodes a=true->jj S a:=fun a ha=>TV (R:=(· ∈ R)) hR (h.mkd.reach a ha);refine⟨⟨fun a ha=>hm.rch hR (h.mkd.reach a ha),h.mkd.root,fun a ha b hb=>?_,fun b=>?_⟩,h.few⟩
 ·rw[hm.kids (yP a ha)] at hb;exact h.mkd.kids a ha b hb
 ·rw[h.mkd.sum b,qjK 256 fun a ha=>(hm.refs (yP a ha)).symm]
theorem Qb.trees {root next:Int} {dead:List Int} {vs:List Vol} (h:Qb S root next dead vs):∀ a,a∈Qk root dead vs->jj S a:=fun a ha=>by obtain⟨r,hr,rfl⟩:=List.mem_map.1 ha;obtain⟨n,rfl,hn⟩:=ZR (h.ok r hr);exact hn
end
def qeb (S:Sto) (root next:Int) (dead:List Int) (w:World) (e:Ending) (w':World):Prop:=Below w.heap.size w w' /\
 ((e=.returned (.int .i64 8)/\∀ vs,Qb S root next dead vs->∃ refs nodes,qR S (Qk root dead vs) refs nodes/\¬Qw S refs) \/
  (e=.returned (.int .i64 0)/\∃ vs refs nodes,Qb S root next dead vs/\qR S (Qk root dead vs) refs nodes/\Qw S refs))
theorem qca {R:Ending->World->Prop} {a:Act} {W:World} {u:Value} (h2:a.tmps[2]?.getD undef=u) (hd:a.defers=[]) (hR:R (.returned u) W):bodyPost prog Tryz.f52 R .ret a W:=by refine bodyPost_ret (v:=u) ?_ hd hR;simp[results,results52,go_sem,h2]
set_option maxRecDepth 100000 in
theorem qiw (A1 n1 c1 A2 n2 c2 A3 n3 c3 A4 n4 c4) (gen root next:Int) (A5 c5) (S:Sto) (dead:List Int) (w:World) (h:qV w w.heap.size (.slice A1 n1 c1) (.slice A2 n2 c2) (.slice A3 n3 c3) (.slice A4 n4 c4) S) (hd:Zv w w.heap.size (.slice A5 dead.length c5) dead):Calls prog 52 #[.agg (qF (.slice A1 n1 c1) (.slice A2 n2 c2) (.slice A3 n3 c3) (.slice A4 n4 c4) gen root next (.slice A5 dead.length c5))] w (qeb S root next dead w):=by
 have HT:=zH (fun W (hx:Ext w W)=>KR A1 n1 c1 A2 n2 c2 A3 n3 c3 A4 n4 c4 gen root next A5 c5 S dead W (h.ext hx) (by obtain⟨A,c,e,q1,q2,q3⟩:=hd;exact⟨A,c,e,q1,q2,(q3.below hx).more hx.size⟩));clear h hd;go_enter func52,ntmps52;go_wp2_with fail;generalize aA:World.alloc w _=w1;have x1:Ext w w1:=by rw[<-aA];exact zN _ _
 clear aA;refine(HT.out w1 x1).mono ?_;rintro e w2 ⟨hB,hQ⟩;have x2:Below w.heap.size w w2:=Ext.trans x1 hB;rcases hQ with ⟨rfl,aX⟩|⟨vs,refs,nodes,cb,ca,vv,rfl,hT⟩
 ·have HB:qeb S root next dead w (.returned (.int .i64 8)) w2:=⟨x2,.inl ⟨rfl,aX⟩⟩
  replace HB:=zH HB;clear aX hB;go_wp2_with fail;exact qca rfl rfl HB.out
 ·have HB:qeb S root next dead w (.returned (.int .i64 0)) w2:=⟨x2,.inr ⟨rfl,vs,refs,nodes,hT.pool,hT.cnt,hT.enough⟩⟩
  replace HB:=zH HB;clear hT hB;go_wp2_with fail;exact qca rfl rfl HB.out
theorem rowI_one (l:List Int):∀ u∈GN l,u.oneCell'=true:=by intro u hu;obtain⟨a,_,rfl⟩:=List.mem_map.1 hu;rfl
theorem Zv.of_own {w:World} {base:Nat} {v:Value} {l:List Int} (h:w.ownsRow base 3 1 v l.length (GN l)):Zv w w.heap.size v l:=by
 obtain⟨A,c,rfl,hc,hm⟩:=qE h;refine⟨A,c,rfl,hc,hm,zA2,fun hn=>?_⟩;rcases h.2 with ⟨_,h0⟩|⟨g,cap,cur,e,_,hr,_⟩
 ·omega
 ·simp only[Value.slice.injEq] at e;obtain⟨rfl,-,rfl⟩:=e;exact⟨g,0,rfl,(zG.1 hr).1,fun j u hu=>by have h5:=h.cells (g:=g) rfl j u hu;rw[Nat.zero_add];unfold Addr.add at h5;split at h5 <;> simp_all⟩
theorem Zv.more {w:World} {B B':Nat} {v:Value} {l:List Int} (h:Zv w B v l) (hb:B<=B'):Zv w B' v l:=by obtain⟨A,c,e,hc,hm,hr⟩:=h;exact⟨A,c,e,hc,hm,hr.more hb⟩
theorem Zv.ext_ {w W:World} {v:Value} {l:List Int} (h:Zv w w.heap.size v l) (hx:Ext w W):Zv W W.heap.size v l:=by obtain⟨A,c,e,hc,hm,hr⟩:=h;exact⟨A,c,e,hc,hm,(hr.below hx).more hx.size⟩
set_option maxRecDepth 100000 in
theorem qhV (v:Value) (l:List Int) (hl:l.length<1073741824) (w:World) (h:Zv w w.heap.size v l):Calls prog 63 #[v] w (Zg (fun u w'=>w'.ownsRow w.heap.size 3 1 u l.length (GN l)) w):=by
 obtain⟨i0,hi,ag,aV,aW⟩:=info_parts Tryz.info_int;obtain⟨A,c,rfl,hc,hm,hr⟩:=h;have qn:∀ (w:World) (a:OA) (n c n' c':Nat),(binOp .eql 30 (.slice a n c) (.slice none n' c')).run prog w=.ok (.bool a.isNone) w:=fun w a n c n' c'=>Lib.run_eql_slice_nil w _ _ a n c n' c' underlying30;rcases A with _|⟨b,off,p⟩
 ·have h0:l=[]:=by
   rcases l with _|⟨x,r⟩
   ·rfl
   ·obtain⟨b,off,h,_⟩:=hr.2 zA2;cases h
  subst h0;go_enter func63,ntmps63;go_wp2;go_ret;exact⟨_,rfl,World.ownsRow_nil _ _ _ _,Below.refl _ _⟩
 ·go_enter func63,ntmps63;go_wp2_with (at_builtin;refine Qh ?_);refine QF.go (Qz _ rfl (.tmp 5) (.tmp 6) 30 rfl w.heap.size 3 i0 (.int .i64 0) 1 8 underlying30 hi ag aV aW rfl zD _ 0 [] rfl ?_ w.heap.size _ l.length c (GN l) zE ?_ (rowI_one l) zO zD zA2 ?_)
  ·exact World.ownsRow_lit w #[] 0 (zM _) (by simp[maxLen]) rfl
  ·exact hr.keep fun p hp=>World.cell?_alloc_lt w _ p hp
  ·intro v' w' aB _ hb _;simp only[Nat.zero_add,List.nil_append] at aB;go_wp2;go_ret;exact⟨_,rfl,aB,Below.trans ((Below.refl _ _).alloc (zM _) _) hb⟩
theorem ints_at (l:List Nat) {k:Nat} (hk:k<l.length):(Jo l)[k]?=some (.int .i64 (l[k]:Int)):=by unfold Jo;rw[List.getElem?_map,zL hk];rfl
def IxP (l:List Nat) (x:Nat) (u:Value):Prop:=(x∈l/\∃ j:Nat,j<l.length/\u=.int .i64 (j:Int))\/(x∉l/\u=.int .i64 (-1))
theorem ix_ret {R:Ending->World->Prop} {a:Act} {W:World} {u:Value} (h4:a.tmps[4]?.getD undef=u) (hd:a.defers=[]) (hR:R (.returned u) W):bodyPost prog Tryz.f184 R .ret a W:=by refine bodyPost_ret (v:=u) ?_ hd hR;simp[results,results184,go_sem,h4]
set_option maxRecDepth 100000 in
theorem qkv (A c) (l:List Nat) (hl:l.length<=1000000) (x:Nat) (w:World) (h:Rd w w.heap.size 1 A l.length (Jo l)):Calls prog 184 #[.slice A l.length c,.int .i64 (x:Int)] w (fun e W=>∃ u,e=.returned u/\IxP l x u/\W=w):=by
 replace h:=zH h;go_enter func184,ntmps184;go_wp2_with fail;go_loopw [8] (fun i wr=>∃ k:Nat,k<=l.length/\i=.int .i64 (k:Int)/\wr=w/\∀ j (hj:j<l.length),j<k->l[j]≠x) (fun i _=>l.length-(intOf i).toNat)
 case atStart=>exact⟨0,Nat.zero_le _,rfl,rfl,fun j _ hj=>absurd hj (Nat.not_lt_zero _)⟩
 case round =>
  obtain⟨k,hk,rfl,rfl,aX⟩:=hrel;replace aX:=zH aX;by_cases hlt:k<l.length
  ·obtain⟨b,o,rfl,hb,aC⟩:=h.out.2 zO;have hc:=aC k _ (ints_at l hlt);have HNO:=zH (fun (he:l[k]≠x) j (hj:j<l.length) (hjk:j<k+1)=>by
    rcases Nat.lt_or_ge j k with h1|h1
    ·exact aX.out j hj h1
    ·obtain rfl:j=k:=zO;exact he)
   have HY:=zH (fun (he:l[k]=x)=>(⟨he ▸ List.getElem_mem hlt,k,hlt,rfl⟩:x∈l/\∃ j:Nat,j<l.length/\(Value.int .i64 (k:Int))=.int .i64 (j:Int)));have hw:=zH (IntWalk.wrap64_in ((k:Int)+1) zO);generalize l[k]=y at *;clear aC;by_cases he:y=x
   ·have z1:((x:Int) == (y:Int))=true:=by rw[beq_iff_eq];omega
    have hQ:=zH (HY.out he);clear HNO HY;replace he:=zH he;go_wp2_with fail;exact ix_ret rfl rfl ⟨_,rfl,.inl hQ.out,rfl⟩
   ·have z1:((x:Int) == (y:Int))=false:=by rw[beq_eq_false_iff_ne];omega
    have hQ:=zH (HNO.out he);clear HNO HY;replace he:=zH he;have hw':=hw.out;go_wp2_with fail;refine⟨⟨k+1,hlt,rfl,trivial,fun j hj hjk=>hQ.out j hj hjk⟩,?_⟩;simp[intOf];omega
  ·obtain rfl:k=l.length:=zO;have hQ:x∉l:=fun hx=>by obtain⟨j,hj,e⟩:=List.mem_iff_getElem.1 hx;exact aX.out j hj hj e
   replace hQ:=zH hQ;go_wp2_with fail;exact ix_ret rfl rfl ⟨_,rfl,.inr ⟨hQ.out,rfl⟩,rfl⟩
set_option maxRecDepth 100000 in
theorem has_any (A c) (l:List Nat) (hl:l.length<=1000000) (x:Nat) (w:World) (h:Rd w w.heap.size 1 A l.length (Jo l)):Calls prog 143 #[.slice A l.length c,.int .i64 (x:Int)] w (fun e W=>e=.returned (.bool (decide (x∈l)))/\W=w):=by
 have HI:=zH (qkv A c l hl x w h);clear h;go_enter func143,ntmps143;go_wp2_with fail;refine HI.out.mono ?_;clear HI;rintro e W ⟨u,rfl,hu,rfl⟩;rcases hu with ⟨h1,j,hj,rfl⟩|⟨h1,rfl⟩
 ·have z1:decide ((j:Int)≥0)=true:=decide_eq_true zO;replace h1:=zH h1;go_wp2_with fail;go_ret;exact⟨by rw[decide_eq_true h1.out];rfl,rfl⟩
 ·replace h1:=zH h1;go_wp2_with fail;go_ret;exact⟨by rw[decide_eq_false h1.out];rfl,rfl⟩
def qeq (S:Sto) (refs:Nat->Nat):Bool:=(List.range 256).all fun a=>decide (refs a<=(S.now[a]?.getD 0).toNat)
theorem qfV (S:Sto) (refs:Nat->Nat):qeq S refs=true↔Qw S refs:=by unfold qeq Qw;rw[List.all_eq_true];exact⟨fun h a ha=>of_decide_eq_true (h a (List.mem_range.2 ha)),fun h a ha=>decide_eq_true (h a (List.mem_range.1 ha))⟩
theorem Qb.same {S:Sto} {root next:Int} {dead:List Int} {vs vs':List Vol} (h:Qb S root next dead vs) (h':Qb S root next dead vs'):vs=vs':=by have:=h.vols;rw[h'.vols] at this;cases this;rfl
def jN (S:Sto) (refs nodes:Nat->Nat) (a:Int) (held:Bool):Int:=if 8<=a/\a<256 then (if Zo S a.toNat=0\/0<nodes a.toNat\/(held=true/\Zo S a.toNat<=refs a.toNat) then 6 else 0) else 2
theorem qkh {S:Sto} {refs nodes:Nat->Nat} {a:Int} (h:¬(8<=a/\a<256)) (held:Bool):jN S refs nodes a held=2:=by unfold jN;rw[if_neg h]
theorem dataE_in (S:Sto) (refs nodes:Nat->Nat) {a:Nat} (h8:8<=a) (h:a<256) (held:Bool):jN S refs nodes (a:Int) held=if Zo S a=0\/0<nodes a\/(held=true/\Zo S a<=refs a) then 6 else 0:=by unfold jN;rw[if_pos zO,Int.toNat_natCast]
theorem mem_met {nodes:Nat->Nat} {a:Nat} (h:a<256):a∈VX nodes 256↔0<nodes a:=by unfold VX;simp[h]
def DataQ (S:Sto) (root next:Int) (dead:List Int) (a:Int) (held:Bool) (w:World) (e:Ending) (w':World):Prop:=Below w.heap.size w w' /\
 ((e=.returned (.int .i64 8)/\∀ vs,Qb S root next dead vs->∃ refs nodes,qR S (Qk root dead vs) refs nodes/\¬Qw S refs) \/
  ∃ vs refs nodes,Qb S root next dead vs/\qR S (Qk root dead vs) refs nodes/\Qw S refs/\e=.returned (.int .i64 (jN S refs nodes a held)))
theorem vW {R:Ending->World->Prop} {a:Act} {W:World} {u:Value} (h6:a.tmps[6]?.getD undef=u) (hd:a.defers=[]) (hR:R (.returned u) W):bodyPost prog Tryz.f83 R .ret a W:=by refine bodyPost_ret (v:=u) ?_ hd hR;simp[results,results83,go_sem,h6]
theorem qah {S:Sto} {R:List Nat} {refs refs' nodes nodes':Nat->Nat} (h:qR S R refs nodes) (h':qR S R refs' nodes'):refs=refs':=(jU.same h.mkd h'.mkd).2
set_option maxRecDepth 100000 in
theorem data_any (A1 n1 c1 A2 n2 c2 A3 n3 c3 A4 n4 c4) (gen root next:Int) (A5 c5) (S:Sto) (dead:List Int) (a:Int) (held:Bool) (w:World) (h:qV w w.heap.size (.slice A1 n1 c1) (.slice A2 n2 c2) (.slice A3 n3 c3) (.slice A4 n4 c4) S) (hd:Zv w w.heap.size (.slice A5 dead.length c5) dead):Calls prog 83 #[.agg (qF (.slice A1 n1 c1) (.slice A2 n2 c2) (.slice A3 n3 c3) (.slice A4 n4 c4) gen root next (.slice A5 dead.length c5)),.int .i64 a,.bool held] w (DataQ S root next dead a held w):=by
 have HI:=fun W (hx:Ext w W)=>(show Zv W W.heap.size (.slice A5 dead.length c5) dead by obtain⟨A,c,e,q1,q2,q3⟩:=hd;exact⟨A,c,e,q1,q2,(q3.below hx).more hx.size⟩)
 have HR:=zH (fun W (hx:Ext w W)=>refs_any A1 n1 c1 A2 n2 c2 A3 n3 c3 A4 n4 c4 gen root next A5 c5 S dead W (h.ext hx) (HI W hx));have HN:=zH (fun W (hx:Ext w W)=>qkG A1 n1 c1 A2 n2 c2 A3 n3 c3 A4 n4 c4 gen root next A5 c5 S dead W (h.ext hx) (HI W hx));replace h:=zH h;clear hd HI;go_enter func83,ntmps83;go_wp2_with fail;generalize aA:(World.alloc w _)=w1;have x1:Ext w w1:=by rw[<-aA];exact zN _ _
 have rp1:w1.heap[w.heap.size]?=some (.cells (qF (.slice A1 n1 c1) (.slice A2 n2 c2) (.slice A3 n3 c3) (.slice A4 n4 c4) gen root next (.slice A5 dead.length c5)) 32 (0,0)):=by rw[<-aA];exact zI _ _ _ rfl
 clear aA;refine(HR.out w1 x1).mono ?_;clear HR;rintro e w2 ⟨hB,hQ⟩;have x2:Ext w w2:=Ext.trans x1 hB;have rp2:=qb rp1 hB;clear hB rp1 x1;rcases hQ with ⟨rfl,aX⟩|⟨vs,refs,nodes,cb,ca,vv,lo,rfl,aQ,hT⟩
 ·replace aX:=zH aX;go_wp2_with fail;exact vW rfl rfl ⟨x2,.inl ⟨rfl,aX.out⟩⟩
 ·have kp2:=qa rp2;replace hT:=zH hT;go_wp2_with fail;refine(HN.out w2 x2).mono ?_;clear HN;rintro e w3 ⟨hB,hQ⟩;have x3:Ext w w3:=Ext.trans x2 hB;have rp3:=qb rp2 hB;have rc3:=qb hT.out.row hB;clear hB rp2 x2 kp2;rcases hQ with ⟨rfl,aX⟩|⟨vs',refs',nodes',v,lo',rfl,hlo',fU,rY,he',aB⟩
  ·obtain⟨refs',nodes',rY,hn'⟩:=aX vs hT.out.pool;exact absurd (qah hT.out.cnt rY ▸ hT.out.enough) hn'
  ·obtain rfl:=Qb.same hT.out.pool fU;obtain rfl:=qah hT.out.cnt rY;obtain⟨An,cn,rfl,-,-⟩:=qE aB;by_cases hr:8<=a/\a<256
   ·obtain⟨m,hma⟩:=Int.eq_ofNat_of_zero_le (show 0<=a by omega);subst hma;have uC:8<=m:=zO;have dn:m<256:=zO;have hE:=dataE_in S refs nodes' uC dn held;obtain⟨b,o,c,e3,hb,aC⟩:=GE fU.may h.out.now;have fJ:=Ext.cell x3 (aC m dn);have yN:=(qa rc3 (6+m)).trans (hT.out.ar.ref m dn);have eH:=mem_met (nodes:=nodes') dn;have HH:=has_any An cn (VX nodes' 256) (Nat.le_trans (qdC _ _) zO) m w3 (Rd.of_own aB);cases e3;have kp3:=qa rp3;have d1:decide ((m:Int)<8)=false:=decide_eq_false zO;have d2:decide ((m:Int)≥256)=false:=decide_eq_false zO;have hQ:=fun E (hh:jN S refs nodes' (m:Int) held=E)=>(⟨x3,.inr ⟨vs,refs,nodes',fU,rY,he',by rw[hh]⟩⟩:DataQ S root next dead (m:Int) held w (.returned (.int .i64 E)) w3)
    replace hQ:=zH hQ;have wU:=zH (IntWalk.wrap64_in (Zo S m:Int) (by have:=(S.now[m]?.getD 0).toNat_lt;unfold Zo;omega));generalize Zo S m=nw at *;generalize refs m=rf at *;clear hT fU rY he' aB aC hr rc3;by_cases h0:nw=0
    ·have z1:((nw:Int) == 0)=true:=by rw[beq_iff_eq];omega
     have z2:decide (nw=0)=true:=decide_eq_true h0;rw[if_pos (.inl h0)] at hE;replace hE:=zH hE;replace h0:=zH h0;replace eH:=zH eH;have hw':=wU.out;go_wp2_with fail;exact vW rfl rfl (hQ.out _ hE.out)
    ·have z1:((nw:Int) == 0)=false:=by rw[beq_eq_false_iff_ne];omega
     have z2:decide (nw=0)=false:=decide_eq_false h0;by_cases hm:m∈VX nodes' 256
     ·rw[decide_eq_true hm] at HH;rw[if_pos (.inr (.inl (eH.1 hm)))] at hE;replace hE:=zH hE;replace h0:=zH h0;replace eH:=zH eH;replace hm:=zH hm;have hw':=wU.out;go_wp2_with fail;refine HH.mono ?_;rintro e w4 ⟨rfl,rfl⟩;go_wp2_with fail;exact vW rfl rfl (hQ.out _ hE.out)
     ·rw[decide_eq_false hm] at HH;have hm':¬0<nodes' m:=fun h=>hm (eH.2 h);replace eH:=zH eH;replace hm:=zH hm;cases held
      ·rw[if_neg (fun h=>by rcases h with h|h|⟨h,h'⟩;exact h0 h;exact hm' h;cases h)] at hE;replace hE:=zH hE;replace h0:=zH h0;replace hm':=zH hm';have hw':=wU.out;go_wp2_with fail;refine HH.mono ?_;rintro e w4 ⟨rfl,rfl⟩;go_wp2_with fail;exact vW rfl rfl (hQ.out _ hE.out)
      ·by_cases hle:nw<=rf
       ·have z3:decide ((nw:Int)<=(rf:Int))=true:=decide_eq_true zO;have z4:decide (nw<=rf)=true:=decide_eq_true hle;rw[if_pos (.inr (.inr ⟨rfl,hle⟩))] at hE;replace hE:=zH hE;replace h0:=zH h0;replace hm':=zH hm';replace hle:=zH hle;have hw':=wU.out;go_wp2_with fail;refine HH.mono ?_;rintro e w4 ⟨rfl,rfl⟩;go_wp2_with fail;exact vW rfl rfl (hQ.out _ hE.out)
       ·have z3:decide ((nw:Int)<=(rf:Int))=false:=decide_eq_false zO;have z4:decide (nw<=rf)=false:=decide_eq_false hle;rw[if_neg (fun h=>by rcases h with h|h|⟨h',h⟩;exact h0 h;exact hm' h;exact hle h)] at hE;replace hE:=zH hE;replace h0:=zH h0;replace hm':=zH hm';replace hle:=zH hle;have hw':=wU.out;go_wp2_with fail;refine HH.mono ?_;rintro e w4 ⟨rfl,rfl⟩;go_wp2_with fail;exact vW rfl rfl (hQ.out _ hE.out)
   ·have hE:=zH (qkh (S:=S) (refs:=refs) (nodes:=nodes') hr held);have hQ:=fun E (hh:jN S refs nodes' a held=E)=>(⟨x3,.inr ⟨vs,refs,nodes',fU,rY,he',by rw[hh]⟩⟩:DataQ S root next dead a held w (.returned (.int .i64 E)) w3)
    replace hQ:=zH hQ;clear hT fU rY he' aB rc3;by_cases h8:a<8
    ·have d1:decide (a<8)=true:=decide_eq_true h8;replace hr:=zH hr;go_wp2_with fail;exact vW rfl rfl (hQ.out _ hE.out)
    ·have d1:decide (a<8)=false:=decide_eq_false h8;have d2:decide (a≥256)=true:=decide_eq_true zO;replace hr:=zH hr;go_wp2_with fail;exact vW rfl rfl (hQ.out _ hE.out)
abbrev jb:Value:=.agg (qF (.slice none 0 0) (.slice none 0 0) (.slice none 0 0) (.slice none 0 0) 0 0 0 (.slice none 0 0))
def jV (lo:Nat) (S:Sto) (gen root next:Int) (dead:List Int) (u:Value) (W:World):Prop:=∃ A1 c1 A2 c2 A3 c3 A4 c4 A5 c5,u=.agg (qF (.slice A1 S.bs.length c1) (.slice A2 S.ws.length c2) (.slice A3 S.now.length c3) (.slice A4 S.last.length c4) gen root next (.slice A5 dead.length c5)) /\
 ∀ C:World,PosZ lo W C->qV C W.heap.size (.slice A1 S.bs.length c1) (.slice A2 S.ws.length c2) (.slice A3 S.now.length c3) (.slice A4 S.last.length c4) S/\Zv C W.heap.size (.slice A5 dead.length c5) dead
theorem Rd.pos {w C:World} {B size lo n c:Nat} {A:OA} {xs:List Value} (h:Rd w B size A n xs) (hf:Zu lo (.slice A n c)) (hk:∀ (q:Addr) (v:Value),lo<=q.block->q.block<B->w.cell? q=some v->C.cell? q=some v):Rd C B size A n xs:=
 ⟨h.1,fun hn=>by obtain⟨b,off,rfl,hb,hc⟩:=h.2 hn;exact⟨b,off,rfl,hb,fun j u hu=>hk _ _ (hf ⟨b,off,none⟩ n c rfl) hb (hc j u hu)⟩⟩
theorem Zv.pos {w C:World} {B lo:Nat} {v:Value} {l:List Int} (h:Zv w B v l) (hf:Zu lo v) (hk:∀ (q:Addr) (v:Value),lo<=q.block->q.block<B->w.cell? q=some v->C.cell? q=some v):Zv C B v l:=by obtain⟨A,c,e,hc,hm,hr⟩:=h;subst e;exact⟨A,c,rfl,hc,hm,Rd.pos hr hf hk⟩
theorem QM.newSto {lo:Nat} {S:Sto} {u:Value} {W:World} (h:QM lo S u W) (hS:GZ S):NewSto lo S u W:=by obtain⟨BB,WW,g,A3,c3,A4,c4,e,h1,h2,h3⟩:=h;refine⟨_,_,_,_,A3,c3,A4,c4,e,qkL (W:=thaw W) (Φ:=fun C=>qV C W.heap.size _ _ _ _ S) (fun A C hAC hA=>hA.some_ hAC) fun W2 hk=>?_⟩;obtain⟨k1,k2⟩:=h1.readsT hS.bs hS.ws hS.be hS.we W2 hk;exact⟨k1,k2,(Bys.of_ownT h2).keepN (Zu.of_own h2) hk,(Bys.of_ownT h3).keepN (Zu.of_own h3) hk⟩
theorem Zv.of_ownT {w:World} {base:Nat} {v:Value} {l:List Int} (h:w.ownsRow base 3 1 v l.length (GN l)):Zv (thaw w) w.heap.size v l:=by obtain⟨A,c,e,hc,hm,hr⟩:=Zv.of_own h;refine⟨A,c,e,hc,hm,hr.1,fun hn=>?_⟩;obtain⟨b,off,e2,hb,dA⟩:=hr.2 hn;obtain⟨cs,t,aF⟩:=Thaw.of_own h ⟨b,off,none⟩ l.length c (by rw[e,e2]) hn;exact⟨b,off,e2,hb,fun j u hu=>(KS aF _).trans (dA j u hu)⟩
def outN (lo n:Nat) (l:List Int):Qd:=⟨OA×Nat,fun p=>.slice p.1 n p.2,fun p W=>Zv (thaw W) W.heap.size (.slice p.1 n p.2) l/\Zu lo (.slice p.1 n p.2)⟩
theorem jL (lo n:Nat) (l:List Int) (A c):(outN lo n l).f (A,c)=.slice A n c:=rfl
theorem qgD (lo n:Nat) (l:List Int):∀ p,QZ ((outN lo n l).φ p):=fun p W W' he h=>⟨by have h1:=h.1;rw[<-KU W] at h1;have h2:=h1.ext_ (Ext.thaw he);rw[KU] at h2;exact h2,h.2⟩
def zh (S:Sto):Int:=if ql S=true/\16<=(Zh S).length then 0 else 9
structure Two (bp be:Nat) (W W':World):Prop where
 os:W'.os=W.os
 tape:W'.tape=W.tape
 output:W'.output=W.output
 size:W.heap.size<=W'.heap.size
 same:∀ k,k<W.heap.size->k≠bp->k≠be->W'.heap[k]?=W.heap[k]?
theorem Two.of_ext {bp be:Nat} {W W':World} (h:Ext W W'):Two bp be W W':=⟨h.os,h.tape,h.output,h.size,fun k hk _ _=>h.block k hk⟩
theorem Two.below {bp be B:Nat} {w0 W W':World} (h:Two bp be W W') (hb:Below B w0 W) (h1:B<=bp) (h2:B<=be) (hB:B<=W.heap.size):Below B w0 W':=hb.trans ⟨h.os,h.tape,h.output,h.size,fun k hk=>h.same k zO zO zO⟩
abbrev kK:Array Value:=qF (.slice none 0 0) (.slice none 0 0) (.slice none 0 0) (.slice none 0 0) 0 0 0 (.slice none 0 0)
theorem Two.trans {bp be:Nat} {A B C:World} (h:Two bp be A B) (k:Two bp be B C):Two bp be A C:=⟨k.os.trans h.os,k.tape.trans h.tape,k.output.trans h.output,Nat.le_trans h.size k.size,fun i hi h1 h2=>(k.same i (Nat.lt_of_lt_of_le hi h.size) h1 h2).trans (h.same i hi h1 h2)⟩
theorem Two.setP {bp be:Nat} (A:World) (j:Nat) (v:Value):Two bp be A (A.setCell ⟨bp,j,none⟩ v):=⟨rfl,rfl,rfl,zA2,fun k _ hk _=>zJ _ _ _ _ hk⟩
theorem Two.setE {bp be:Nat} (A:World) (j:Nat) (v:Value):Two bp be A (A.setCell ⟨be,j,none⟩ v):=⟨rfl,rfl,rfl,zA2,fun k _ _ hk=>zJ _ _ _ _ hk⟩
theorem Two.set8 {bp be:Nat} (w:World) (x0 x1 x2 x3 x4 x5 x6 x7:Value):Two bp be w ((((((((w.setCell ⟨bp,0,none⟩ x0).setCell ⟨bp,1,none⟩ x1).setCell ⟨bp,2,none⟩ x2).setCell ⟨bp,3,none⟩ x3).setCell ⟨bp,4,none⟩ x4).setCell ⟨bp,5,none⟩ x5).setCell ⟨bp,6,none⟩ x6).setCell ⟨bp,7,none⟩ x7):=
 (Two.setP _ _ _).trans ((Two.setP _ _ _).trans ((Two.setP _ _ _).trans ((Two.setP _ _ _).trans ((Two.setP _ _ _).trans ((Two.setP _ _ _).trans ((Two.setP _ _ _).trans (Two.setP _ _ _)))))))
def RoomyQ (bp be:Nat) (cs:Array Value) (e:Int) (S:Sto) (W W':World):Prop:=Two bp be W W' /\
 ((e=0/\zh S=0/\W'.heap[bp]?=some (.cells cs 32 (0,0))/\W'.heap[be]?=some (.cells #[.int .i64 0] 37 (0,0))) \/
  ∃ e',e'≠0/\((e=0/\e'=zh S)\/(e≠0/\e'=e))/\W'.heap[bp]?=some (.cells kK 32 (0,0))/\W'.heap[be]?=some (.cells #[.int .i64 e'] 37 (0,0)))
set_option maxRecDepth 100000 in
theorem qkS (bp be:Nat) (aG:bp≠be) (A1 n1 c1 A2 n2 c2 A3 n3 c3 A4 n4 c4) (gen root next:Int) (v5:Value) (e:Int) (S:Sto) (w:World) (hp:w.heap[bp]?=some (.cells (qF (.slice A1 n1 c1) (.slice A2 n2 c2) (.slice A3 n3 c3) (.slice A4 n4 c4) gen root next v5) 32 (0,0))) (he:w.heap[be]?=some (.cells #[.int .i64 e] 37 (0,0))) (h:e=0->qV w w.heap.size (.slice A1 n1 c1) (.slice A2 n2 c2) (.slice A3 n3 c3) (.slice A4 n4 c4) S):Calls prog 89 #[.pointer (some ⟨bp,0,none⟩),.pointer (some ⟨be,0,none⟩)] w (fun x w'=>x=.returned (.tuple #[])/\RoomyQ bp be (qF (.slice A1 n1 c1) (.slice A2 n2 c2) (.slice A3 n3 c3) (.slice A4 n4 c4) gen root next v5) e S w w'):=by
 have kp:=qa hp;have ke:=qa he;have fp:=qe hp;have fe:=qe he;by_cases h0:e=0
 ·subst h0;have HF:=GL A1 n1 c1 A2 n2 c2 A3 n3 c3 A4 n4 c4 S w (h rfl);clear h;go_enter func89,ntmps89;go_wp2_with fail;refine HF.mono ?_;rintro x w2 ⟨hB,hQ⟩;have x2:Ext w w2:=hB;have dV:=qb hp x2;have fG:=qb he x2;have kp2:=qa dV;have ke2:=qa fG;have fp2:=qe dV;have fe2:=qe fG;clear kp ke fp fe hB HF hp he;rcases hQ with ⟨hm,rfl⟩|⟨hm,v,rfl,aB⟩
  ·have hE:zh S=9:=by unfold zh;rw[hm];rfl
   replace hE:=zH hE;replace hm:=zH hm;have iU:¬be=bp:=fun e=>aG e.symm;go_wp2_with fail;go_end0;exact⟨rfl,(Two.of_ext x2).trans ((Two.setE _ _ _).trans (Two.set8 _ _ _ _ _ _ _ _ _)),.inr ⟨9,zD,.inl ⟨rfl,hE.out.symm⟩,ji ((zJ _ _ _ _ aG).trans dV) _ _ _ _ _ _ _ _,(jK iU _ _ _ _ _ _ _ _).trans (qi fG 0 _)⟩⟩
  ·obtain⟨A,c,rfl,-,-⟩:=qE aB;clear aB;by_cases hl:(Zh S).length<16
   ·have hE:zh S=9:=by unfold zh;rw[if_neg zO]
    replace hE:=zH hE;have d1:decide (((Zh S).length:Int)<16)=true:=decide_eq_true zO;replace hl:=zH hl;replace hm:=zH hm;have iU:¬be=bp:=fun e=>aG e.symm;go_wp2_with fail;go_end0;exact⟨rfl,(Two.of_ext x2).trans ((Two.setE _ _ _).trans (Two.set8 _ _ _ _ _ _ _ _ _)),.inr ⟨9,zD,.inl ⟨rfl,hE.out.symm⟩,ji ((zJ _ _ _ _ aG).trans dV) _ _ _ _ _ _ _ _,(jK iU _ _ _ _ _ _ _ _).trans (qi fG 0 _)⟩⟩
   ·have hE:zh S=0:=by unfold zh;rw[if_pos ⟨hm,zO⟩]
    replace hE:=zH hE;have d1:decide (((Zh S).length:Int)<16)=false:=decide_eq_false zO;replace hl:=zH hl;replace hm:=zH hm;go_wp2_with fail;go_end0;exact⟨rfl,Two.of_ext x2,.inl ⟨rfl,hE.out,dV,fG⟩⟩
 ·have b0:(e == 0)=false:=by rw[beq_eq_false_iff_ne];exact h0
  have b1:(e != 0)=true:=by rw[bne_iff_ne];exact h0
  replace h0:=zH h0;replace aG:=zH aG;clear h;go_enter func89,ntmps89;go_wp2_with fail;go_end0;exact⟨rfl,Two.set8 _ _ _ _ _ _ _ _ _,.inr ⟨e,h0.out,.inr ⟨h0.out,rfl⟩,ji hp _ _ _ _ _ _ _ _,(jK (fun x=>aG.out x.symm) _ _ _ _ _ _ _ _).trans he⟩⟩
structure YI (bp be ba:Nat) (W W':World):Prop where
 os:W'.os=W.os
 tape:W'.tape=W.tape
 output:W'.output=W.output
 size:W.heap.size<=W'.heap.size
 same:∀ k,k<W.heap.size->k≠bp->k≠be->k≠ba->W'.heap[k]?=W.heap[k]?
theorem YI.of_two {bp be ba:Nat} {W W':World} (h:Two bp be W W'):YI bp be ba W W':=⟨h.os,h.tape,h.output,h.size,fun k hk h1 h2 _=>h.same k hk h1 h2⟩
theorem YI.set {bp be ba:Nat} {W W':World} (h:YI bp be ba W W') (v:Value):YI bp be ba W (W'.setCell ⟨ba,0,none⟩ v):=⟨h.os,h.tape,h.output,by simpa using h.size,fun k hk h1 h2 h3=>(zJ _ _ _ _ h3).trans (h.same k hk h1 h2 h3)⟩
theorem YI.below {bp be ba B:Nat} {w0 W W':World} (h:YI bp be ba W W') (hb:Below B w0 W) (h1:B<=bp) (h2:B<=be) (h3:B<=ba) (hB:B<=W.heap.size):Below B w0 W':=hb.trans ⟨h.os,h.tape,h.output,h.size,fun k hk=>h.same k zO zO zO zO⟩
theorem Ux {W:World} {b:Nat} {x0 x1 x2 x3 x4 x5 x6 x7 y z u0 u1 u2 u3 u4 u5 u6 u7 p q:Value} {ty1 ty2 ty3:TypeId} (r4:W.heap[b+1]?=some (.cells #[u0,u1,u2,u3,u4,u5,u6,u7] ty1 (0,0))) (r5:W.heap[b+2]?=some (.cells #[p] ty2 (0,0))) (r6:W.heap[b+3]?=some (.cells #[q] ty3 (0,0))) {C:World} (hC:C=((((((((((W.setCell ⟨b+1,0,none⟩ x0).setCell ⟨b+1,1,none⟩ x1).setCell ⟨b+1,2,none⟩ x2).setCell ⟨b+1,3,none⟩ x3).setCell ⟨b+1,4,none⟩ x4).setCell ⟨b+1,5,none⟩ x5).setCell ⟨b+1,6,none⟩ x6).setCell ⟨b+1,7,none⟩ x7).setCell ⟨b+1+1,0,none⟩ y).setCell ⟨b+1+1+1,0,none⟩ z)):C.heap[b+1]?=some (.cells #[x0,x1,x2,x3,x4,x5,x6,x7] ty1 (0,0))/\C.heap[b+2]?=some (.cells #[y] ty2 (0,0))/\C.heap[b+3]?=some (.cells #[z] ty3 (0,0))/\(∀ {B:Nat} {w0:World},B<=b+1->Below B w0 W->Below B w0 C)/\C.heap.size=W.heap.size/\(∀ k,k≠b+1->k≠b+2->k≠b+3->C.heap[k]?=W.heap[k]?):=by
 subst hC;have hs:=fun (A:World) (b j:Nat) (v:Value) (k:Nat) (hk:k≠b)=>zJ A ⟨b,j,none⟩ v k hk;refine⟨?_,?_,?_,fun hB h=>?_,zA2,fun k h1 h2 h3=>?_⟩
 ·rw[hs _ _ _ _ _ zO,hs _ _ _ _ _ zO];exact ji r4 x0 x1 x2 x3 x4 x5 x6 x7
 ·rw[hs _ _ _ _ _ zO];refine qi (t:=ty2) (cs:=#[p]) ?_ 0 y;rw[jK zO];exact r5
 ·refine qi (t:=ty3) (cs:=#[q]) ?_ 0 z;rw[hs _ _ _ _ _ zO,jK zO];exact r6
 ·exact Below.setCell (Below.setCell (QR h (b:=b+1) zO x0 x1 x2 x3 x4 x5 x6 x7) (p:=⟨b+1+1,0,none⟩) zA1 _) (p:=⟨b+1+1+1,0,none⟩) zA1 _
 ·rw[hs _ _ _ _ _ zO,hs _ _ _ _ _ zO,jK zO]
theorem two_rows {W:World} {b:Nat} {p q p0 q0:Value} {ty2 ty3:TypeId} (r5:W.heap[b+2]?=some (.cells #[p0] ty2 (0,0))) (r6:W.heap[b+3]?=some (.cells #[q0] ty3 (0,0))) {C:World} (hC:(W.setCell ⟨b+1+1,0,none⟩ p).setCell ⟨b+1+1+1,0,none⟩ q=C):C.heap[b+2]?=some (.cells #[p] ty2 (0,0))/\C.heap[b+3]?=some (.cells #[q] ty3 (0,0))/\(∀ {B:Nat} {w0:World},B<=b+1->Below B w0 W->Below B w0 C)/\C.heap.size=W.heap.size/\(∀ k,k≠b+2->k≠b+3->C.heap[k]?=W.heap[k]?):=by
 subst hC;have hs:=fun (A:World) (b j:Nat) (v:Value) (k:Nat) (hk:k≠b)=>zJ A ⟨b,j,none⟩ v k hk;refine⟨?_,?_,fun hB h=>?_,zA2,fun k h2 h3=>?_⟩
 ·rw[hs _ _ _ _ _ zO];exact qi (t:=ty2) (cs:=#[p0]) r5 0 p
 ·refine qi (t:=ty3) (cs:=#[q0]) ?_ 0 q;rw[hs _ _ _ _ _ zO];exact r6
 ·exact Below.setCell (Below.setCell h (p:=⟨b+1+1,0,none⟩) zA1 _) (p:=⟨b+1+1+1,0,none⟩) zA1 _
 ·rw[hs _ _ _ _ _ zO,hs _ _ _ _ _ zO]
theorem qgk (ws:List (Int×List UInt8)) (a r:Int) (l:List UInt8) (h:a≠r):jv (ws++[(a,l)]) r=jv ws r:=by
 unfold jv;rw[List.reverse_append,List.reverse_singleton,List.singleton_append,List.find?_cons];have:(a == r)=false:=by rw[beq_eq_false_iff_ne];exact h
 simp only[this]
theorem seen_put (S:Sto) {a r:Nat} (l:List UInt8) (h:r≠a):Ji (JV S a l) r=Ji S r:=by unfold Ji JV;simp only;rw[qgk _ _ _ _ (show (a:Int)≠(r:Int) by omega)]
theorem qjx (t:List UInt8) {a r:Nat} (v:UInt8) (h:r≠a):(t.set a v)[r]?.getD 0=t[r]?.getD 0:=by rw[List.getElem?_set_ne (Ne.symm h)]
theorem qis (t:List UInt8) {a:Nat} (v:UInt8) (h:a<t.length):(t.set a v)[a]?.getD 0=v:=by rw[List.getElem?_set_self h];rfl
theorem sm_put {S:Sto} {a:Nat} (l:List UInt8) (h0:Zo S a=0) (hl:a<S.now.length):SM S (JV S a l) where
 node r nd e:=by
  by_cases hr:r=a
  ·subst hr;unfold qt at e;rw[if_pos (show (S.now[r]?.getD 0).toNat=0 from h0)] at e;cases e
  ·unfold qt at e ⊢;rw[seen_put S l hr,show (JV S a l).now[r]?.getD 0=S.now[r]?.getD 0 from qjx _ _ hr];exact e
 pos r h:=by
  by_cases hr:r=a
  ·subst hr;rw[show (JV S r l).now[r]?.getD 0=1 from qis _ _ hl];decide
  ·rw[show (JV S a l).now[r]?.getD 0=S.now[r]?.getD 0 from qjx _ _ hr];exact h
theorem qeV {S:Sto} {t:List UInt8} (h:∀ r:Nat,0<(S.now[r]?.getD 0).toNat->0<(t[r]?.getD 0).toNat):SM S (qw S t) where
 node r nd e:=by
  unfold qt at e ⊢;split at e
  ·cases e
  ·rename_i h1;rw[if_neg (by have:=h r zO;simp only;omega)];exact e
 pos:=h
theorem ZJ {t:List UInt8} {a:Nat} (h:Qt t=true) (ha:8<=a) (v:UInt8):Qt (t.set a v)=true:=by unfold Qt at *;simp only[Bool.and_eq_true,decide_eq_true_eq] at *;refine⟨by rw[List.length_set];exact h.1,?_⟩;rw[List.take_set_of_le ha];exact h.2
theorem qG {S:Sto}:ql S=true↔jO S.bs S.ws=true/\Qt S.now=true/\Qt S.last=true:=by unfold ql;simp[Bool.and_eq_true]
theorem may_now {S:Sto} (h:ql S=true) {a:Nat} (ha:8<=a) (v:UInt8):ql (qw S (S.now.set a v))=true:=by obtain⟨h1,h2,h3⟩:=qG.1 h;exact qG.2 ⟨h1,ZJ h2 ha v,h3⟩
theorem may_put {S:Sto} (h:ql S=true) {a:Nat} (ha:8<=a) (ak:a<256) {l:List UInt8} (hl:l.length=128) (hw:S.ws.length≠4096):ql (JV S a l)=true:=by obtain⟨h1,h2,h3⟩:=qG.1 h;refine qG.2 ⟨?_,ZJ h2 ha 1,h3⟩;unfold jO headD at *;simp only[Bool.and_eq_true,decide_eq_true_eq,JV,List.length_append,List.length_singleton,List.all_append,List.all_cons,List.all_nil,Bool.and_true] at *;obtain⟨⟨g1,g2⟩,g3,g4⟩:=h1;refine⟨⟨g1,zO⟩,g3,g4,?_⟩;unfold wrOk;exact decide_eq_true ⟨zA2,zA1,hl⟩
theorem qcI {S:Sto} (h:¬Zh S=[]):zp S<256:=by
 have eH:zp S∈Js S 256:=by
  show zp S∈Zh S;unfold zp;rcases hf:Zh S with _|⟨x,r⟩
  ·exact absurd hf h
  ·simp
 simpa using (List.mem_filter.1 eH).1
theorem YE {t:List UInt8} (h:Qt t=true):t.length=256:=by unfold Qt at h;simp only[Bool.and_eq_true,decide_eq_true_eq] at h;exact h.1
theorem qaF {t:List UInt8} (h:Qt t=true):qN t 0=0:=by
 have hl:=YE h;unfold Qt at h;simp only[Bool.and_eq_true] at h;rcases t with _|⟨x,r⟩
 ·simp at hl
 ·have:=h.2;simp[kL] at this;simp[qN,this.1]
theorem qiH {t t':List UInt8} {a:Nat} (ha:a=0\/8<=a) (h:Qt t=true) (e:vt t a=.ok t'):Qt t'=true:=by
 unfold vt at e;split at e
 ·cases e;exact h
 ·split at e
  ·cases e
  ·split at e
   ·cases e
   ·cases e;exact ZJ h zO _
theorem qco:∀ {l:List Nat} {t t':List UInt8},(∀ a∈l,a=0\/8<=a)->Qt t=true->ZI l t=.ok t'->Qt t'=true
 | [],t,t',_,h,e=>by cases e;exact h
 |a :: l,t,t',hl,h,e=>by
  simp only[ZI] at e;split at e
  ·cases e
  ·rename_i t1 e1;exact qco (fun b hb=>hl b (List.mem_cons_of_mem _ hb)) (qiH (hl a List.mem_cons_self) h e1) e
theorem JK:∀ {l:List Nat} {t t':List UInt8},(∀ a∈l,a=0\/8<=a)->Qt t=true->looseL l t=.ok t'->Qt t'=true
 | [],t,t',_,h,e=>by cases e;exact h
 |a :: l,t,t',hl,h,e=>by
  by_cases ha:a=0
  ·subst ha;rw[jr] at e;exact JK (fun b hb=>hl b (List.mem_cons_of_mem _ hb)) h e
  ·by_cases h0:qN t a=0
   ·rw[Jd ha h0] at e;cases e
   ·rw[jq ha h0] at e;exact JK (fun b hb=>hl b (List.mem_cons_of_mem _ hb)) (ZJ h (by have:=hl a List.mem_cons_self;omega) _) e
theorem qeQ {its:List It} (h:∀ x∈its,itB x.r x.val.length=true):∀ a∈qz its,(a=0\/8<=a)/\a<256:=fun a ha=>by obtain⟨x,hx,rfl⟩:=List.mem_map.1 ha;have:=h x hx;unfold itB at this;simp only[decide_eq_true_eq] at this;omega
theorem KM {S:Sto} {a:Nat} {lvl:Int} {xs:List It} (h:qt S a=some (lvl,xs)):∀ r∈qz xs,(r=0\/8<=r)/\r<256:=qeQ fun x hx=>((qM h).2.1 x hx).2
theorem UE {S S':Sto} {lvl:Int} {its:List It} {f:Nat} (hS:ql S=true) (h:Zz S lvl its=.ok (f,S')):∃ t,Qf lvl its=true/\ZI (qz its) S.now=.ok t/\S.ws.length≠4096/\8<=f/\f<256/\ZZ (qw S t) f=true/\S'=JV (qw S t) f (Ze (Qu lvl its))/\Qt t=true:=by
 unfold Zz at h;split at h
 ·rename_i hm;split at h
  ·cases h
  ·rename_i t ht;split at h
   ·cases h
   ·rename_i hn;cases h;have h1:Zh (qw S t)≠[]:=fun e=>hn (.inl e);have eH:zp (qw S t)∈Zh (qw S t):=by
     unfold zp;cases e:Zh (qw S t) with
     |nil=>exact absurd e h1
     |cons a l=>exact List.mem_cons_self
    have ry:ZZ (qw S t) (zp (qw S t))=true:=by have:=List.mem_filter.1 (show zp (qw S t)∈(List.range 256).filter (ZZ (qw S t)) from eH);exact this.2
    have h8:8<=zp (qw S t):=by unfold ZZ at ry;simp only[Bool.and_eq_true,decide_eq_true_eq] at ry;exact ry.1
    exact⟨t,hm,ht,fun e=>hn (.inr e),h8,qcI h1,ry,rfl,qco (fun a ha=>(qeQ (jF hm).2.2.2 a ha).1) (qG.1 hS).2.1 ht⟩
 ·cases h
theorem KL {S S':Sto} {lvl:Int} {its:List It} {f:Nat} (fQ:∀ x∈its,zu x) (hS:ql S=true) (h:Zz S lvl its=.ok (f,S')):ql S'=true/\8<=f/\f<256/\S'.ws.length<=4096:=by obtain⟨t,hm,ht,hw,h8,hf,ry,rfl,xq⟩:=UE hS h;have hl:(Ze (Qu lvl its)).length=128:=vH (by have:=YG lvl its.length its.length fQ (jF hm).2.2.1;rw[YF] at this;omega);have h1:=may_put (S:=qw S t) (qG.2 ⟨(qG.1 hS).1,xq,(qG.1 hS).2.2⟩) h8 hf hl hw;exact⟨h1,h8,hf,(Qc h1).2.1⟩
theorem UG {S:Sto} (hS:ql S=true) {t:List UInt8} (ht:Qt t=true):ql (qw S t)=true:=qG.2 ⟨(qG.1 hS).1,ht,(qG.1 hS).2.2⟩
theorem qbI {S:Sto}:∀ (h:Nat) {lvl:Int} {t t':List UInt8} {a:Nat},(8<=a\/qN t a=0)->Qt t=true->leaveF S h lvl t a=some t'->Qt t'=true
 |0,lvl,t,t',a,_,_,e=>by cases e
 |h+1,lvl,t,t',a,ha,ht,e=>by
  rw[Jc] at e;split at e
  ·cases e
  ·rename_i h0;have ha8:8<=a:=zO;split at e
   ·cases e;exact ZJ ht ha8 _
   ·split at e
    ·cases e
    ·rename_i l xs hn;have hr:=KM hn;have ht0:=ZJ ht ha8 0;split at e
     ·cases e
     ·split at e
      ·have key:∀ (rs:List Nat),(∀ r∈rs,(r=0\/8<=r)/\r<256)->∀ (o:Option (List UInt8)),(∀ u,o=some u->Qt u=true)->rs.foldl (fun acc r=>acc.bind fun t=>leaveF S h (l-1) t r) o=some t'->Qt t'=true:=by
        intro rs;induction rs with
        |nil=>intro _ o ho e;exact ho _ e
        |cons r rs ih =>
         intro hrs o ho e;rw[List.foldl_cons] at e;refine ih (fun q hq=>hrs q (List.mem_cons_of_mem _ hq)) _ (fun u hu=>?_) e;cases o with
         |none=>cases hu
         |some t1 =>
          have h1:=ho t1 rfl;refine qbI h (a:=r) ?_ h1 hu;rcases(hrs r List.mem_cons_self).1 with rfl|h8
          ·right;exact qaF h1
          ·exact .inl h8
       exact key _ hr _ (fun u hu=>by cases hu;exact ht0) e
      ·split at e
       ·cases e
       ·rename_i t1 e1;cases e;exact JK (fun a ha=>(hr a ha).1) ht0 e1
theorem Yq {S:Sto} {lvl:Int} {t t':List UInt8} {a:Nat} (ha:8<=a) (ht:Qt t=true) (e:QH S lvl t a=some t'):Qt t'=true:=qbI 7 (.inl ha) ht e
theorem GB {lvl:Int}:∀ {ps:List (List It)} {S S':Sto} {up:List It},(∀ p∈ps,∀ x∈p,zu x)->ql S=true->makeL lvl ps S=.ok (up,S')->ql S'=true/\up.length=ps.length/\∀ y∈up,(∃ f:Nat,y.r=(f:Int)/\8<=f/\f<256)/\y.val=[]/\∃ p∈ps,qo y=VV p
 | [],S,S',up,_,hS,e=>by cases e;exact⟨hS,rfl,fun y hy=>by cases hy⟩
 |p :: ps,S,S',up,hp,hS,e=>by
  simp only[makeL] at e;split at e
  ·cases e
  ·rename_i f S1 e1;obtain⟨h1,h8,hf,_⟩:=KL (hp p List.mem_cons_self) hS e1;split at e
   ·cases e
   ·rename_i up1 S2 e2;cases e;obtain⟨g1,g2,g3⟩:=GB (fun q hq=>hp q (List.mem_cons_of_mem _ hq)) h1 e2;refine⟨g1,by simp[g2],fun y hy=>?_⟩;rcases List.mem_cons.1 hy with rfl|hy
    ·exact⟨⟨f,rfl,h8,hf⟩,rfl,p,List.mem_cons_self,rfl⟩
    ·obtain⟨k1,k2,q,hq,k3⟩:=g3 y hy;exact⟨k1,k2,q,List.mem_cons_of_mem _ hq,k3⟩
theorem Xt {l:List It} (h:∀ x∈l,zu x):∀ p∈Zq l,∀ x∈p,zu x:=fun p hp x hx=>by
 unfold Zq at hp;split at hp
 ·simp only[List.mem_cons,List.not_mem_nil,or_false] at hp;rcases hp with rfl|rfl
  ·exact h x (List.mem_of_mem_take hx)
  ·exact h x (List.mem_of_mem_drop hx)
 ·simp only[List.mem_cons,List.not_mem_nil,or_false] at hp;subst hp;exact h x hx
theorem qjs {p:List It} (h:∀ x∈p,zu x):(0<=(VV p).1/\(VV p).1<256)/\(0<=(VV p).2.1/\(VV p).2.1<4294967296)/\(0<=(VV p).2.2/\(VV p).2.2<4294967296):=by
 cases p with
 |nil=>exact⟨⟨zD,zD⟩,⟨zD,zD⟩,zD,zD⟩
 |cons x r =>
  obtain⟨h1,h2,h3,_⟩:=h x List.mem_cons_self;exact⟨h1,h2,h3⟩
theorem VS {S S':Sto} {lvl:Int} {l held up:List It} (hl:∀ x∈l,zu x) (hh:∀ x∈held,itB x.r x.val.length=true) (hS:ql S=true) (e:QU S lvl l held=.ok (up,S')):ql S'=true/\up.length=(Zq l).length/\(∀ y∈up,zu y/\itB y.r y.val.length=true)/\∀ y∈up,8<=y.r/\y.r<256:=by
 unfold QU at e;split at e
 ·cases e
 ·rename_i up1 S1 e1;split at e
  ·cases e
  ·rename_i t e2;cases e;obtain⟨h1,h2,h3⟩:=GB (Xt hl) hS e1;refine⟨UG h1 (JK (fun a ha=>(qeQ hh a ha).1) (qG.1 h1).2.1 e2),h2,fun y hy=>?_,fun y hy=>?_⟩
   ·obtain⟨⟨f,k1,k8,k9⟩,k2,p,hp,k3⟩:=h3 y hy;have:=qjs (Xt hl p hp);rw[<-k3] at this;obtain⟨a1,a2,a3⟩:=this;exact⟨⟨a1,a2,a3,by rw[k1];omega,by rw[k2];simp⟩,by unfold itB;rw[k1,k2];simp;omega⟩
   ·obtain⟨⟨f,k1,k8,k9⟩,_⟩:=h3 y hy;omega
def YT (D:Nat->Prop) (B lo b g:Nat) (k:Option Nat) (S:Sto) (lvl:Int) (l held:List It) (w:World) (e:Ending) (W:World):Prop:=Qg lo b g k w W /\
 match QU S lvl l held with
 | .error er=>e=.returned (.tuple #[.slice none 0 0,.int .i64 er])
 | .ok (up,S')=>∃ k' D' A c,e=.returned (.tuple #[.slice A up.length c,.int .i64 0])/\ZD w.heap.size k k'/\YO w.heap.size D D'/\Bch D' B lo b g k' S' W/\ql S'=true/\W.ownsRow w.heap.size 51 5 (.slice A up.length c) up.length (Qa (upV up))/\∀ q,(Value.slice A up.length c).ownBlock=some q->¬D' q
theorem YT.bad {D:Nat->Prop} {B lo b g:Nat} {k:Option Nat} {S:Sto} {lvl:Int} {l held:List It} {w W:World} {er:Int} (h:QU S lvl l held=.error er) (hB:Qg lo b g k w W):YT D B lo b g k S lvl l held w (.returned (.tuple #[.slice none 0 0,.int .i64 er])) W:=by refine⟨hB,?_⟩;rw[h]
structure BdI (D:Nat->Prop) (B lo b g:Nat) (k:Option Nat) (S:Sto) (lvl:Int) (ps:List (List It)) (P:Nat) (pv:List Value) (w:World) (v i:Value) (wr:World):Prop where
 ex:∃ (j:Nat) (ups:List It) (S':Sto) (k':Option Nat) (D':Nat->Prop) (Av:OA) (cv:Nat),j<=ps.length/\i=.int .i64 (j:Int)/\v=.slice Av j cv/\ups.length=j/\makeL lvl (ps.take j) S=.ok (ups,S')/\ql S'=true/\ZD w.heap.size k k'/\YO w.heap.size D D'/\Bch D' B lo b g k' S' wr/\Qg lo b g k w wr /\
  wr.ownsRow w.heap.size 51 5 (.slice Av j cv) j (Qa (upV ups))/\(∀ q,(Value.slice Av j cv).ownBlock=some q->¬D' q/\P<q)/\wr.heap[P]?=some (.cells pv.toArray 55 (0,0))/\P<wr.heap.size
structure HdI (D:Nat->Prop) (B lo b g:Nat) (k:Option Nat) (S:Sto) (held:List It) (vu:Value) (wm:World) (v i:Value) (wr:World):Prop where
 ex:∃ (j:Nat) (t:List UInt8),v=vu/\j<=held.length/\i=.int .i64 (j:Int)/\looseL (qz (held.take j)) S.now=.ok t/\Bch D B lo b g k (qw S t) wr/\Qg lo b g k wm wr
theorem Gr {R:Ending->World->Prop} {a:Act} {W:World} {u v:Value} (h8:a.tmps[8]?.getD undef=u) (h9:a.tmps[9]?.getD undef=v) (hd:a.defers=[]) (hR:R (.returned (.tuple #[u,v])) W):bodyPost prog Tryz.f130 R .ret a W:=by refine bodyPost_ret (v:=.tuple #[u,v]) ?_ hd hR;simp[results,results130,go_sem,h8,h9]
set_option maxRecDepth 100000 in
theorem qdi (D:Nat->Prop) (B lo b g:Nat) (k:Option Nat) (S:Sto) (hS:ql S=true) (lvl:Int) (A n c) (its:List It) (fQ:∀ x∈its,zu x) (hn0:0<its.length) (lW:its.length<=100) (loh:Nat) (vh:Value) (ax:List (It×Value)) (held:List It) (rE:ax.map (·.1)=held) (hh1:∀ p∈ax,∃ A c,p.2=.slice A p.1.val.length c) (hhr:∀ x∈held,(x.r=0\/8<=x.r)/\x.r<256) (hhl:held.length<=100) (w:World) (h:Bch D B lo b g k S w) (hx:kM (B3 b g k) w (.slice A n c) its) (hho:w.ownsRow loh 51 5 vh held.length (Qa ax)):Calls prog 130 #[.pointer (some ⟨b,0,none⟩),.int .i64 lvl,.slice A n c,vh] w (YT D B lo b g k S lvl its held w):=by
 obtain⟨lV,hzb,xP,hzg,yG,rG,wG⟩:=h.size;obtain⟨xR,gZ,fF,hA⟩:=hx.now.at_;subst xR;obtain⟨bi,off,rfl,hbi⟩:=hA zO;obtain⟨Ah,ch,rfl,hcc1,hcc2⟩:=qE hho;clear hA wG;replace h:=zH h;replace hx:=zH hx;replace fQ:=zH fQ;replace fF:=zH fF;replace hcc2:=zH hcc2;replace hho:=zH hho;rcases Nat.lt_or_ge 5 its.length with h5|h5
 case' inl =>
  have hpo:=zH (show Zq its=[its.take 3,its.drop 3] by unfold Zq;exact if_pos h5);have e5:decide ((5:Int)<(its.length:Int))=true:=decide_eq_true zO;go_enter func130,ntmps130;go_upto_region 3 with fail;generalize hw0:World.alloc _ _=w0;have x0:Ext w w0:=by rw[<-hw0];exact zN _ _
  have z0:w.heap.size<w0.heap.size:=by rw[<-hw0];simp
  clear hw0;refine qp zQ ?_;refine qQ (w:=w0) qj (qH []) (List.replicate 4 true) 2 zQ zQ zQ zQ zQ zQ zQ ?st (Rel.drew _ _) ?walk
  case' st=>exact qk (fun _ h=>by cases h)
  case' walk =>
   intro K hK;dsimp only[qu,List.replicate];refine zC4 ?_;refine qd (.slice (some ⟨bi,off,none⟩) 3 c) zA0 zA0 (fun W hW _=>⟨W,?_,Rel.refl _ W⟩) ?_
   ·go_simp;intro tu;exfalso;omega
   refine zC4 ?_;refine qd (.slice (some ⟨bi,off+3*5,none⟩) (its.length-3) (c-3)) zA0 zA0 (fun W hW _=>⟨W,?_,Rel.refl _ W⟩) ?_
   ·go_simp;rw[if_pos zO,if_neg zO]
   refine zC4 ?_;refine qv (hK _ _ fun W hW hF=>?_);clear hF hK;have hW:Ext w0 W:=hW;refine zC3 ?_;go_wp2;refine Qr ?_;go_wp2_with fail;have x1:Ext w (W.alloc (.cells #[.slice (some ⟨bi,off,none⟩) 3 c,.slice (some ⟨bi,off+15,none⟩) (its.length-3) (c-3)] 55)):=(x0.trans hW).trans (zN _ _);have zP0:w.heap.size<=W.heap.size:=(x0.trans hW).size;obtain⟨ps,uG⟩:∃ ps,ps=[its.take 3,its.drop 3]:=⟨_,rfl⟩
   obtain⟨pv,sU⟩:∃ pv:List Value,pv=[.slice (some ⟨bi,off,none⟩) 3 c,.slice (some ⟨bi,off+15,none⟩) (its.length-3) (c-3)]:=⟨_,rfl⟩
   have bM:ps.length=2:=by rw[uG];rfl
   have hel:Hid (∀ j (hj:j<ps.length),∃ bj oj cj,pv[j]?=some (.slice (some ⟨bj,oj,none⟩) ps[j].length cj)/\kM (B3 b g k) w (.slice (some ⟨bj,oj,none⟩) ps[j].length cj) ps[j]/\0<ps[j].length/\∀ x∈ps[j],zu x):=zH fun j hj=>by
    have e3:(its.take 3).length=3:=by rw[List.length_take];omega
    rcases j with _|_|j
    ·subst uG sU;refine⟨bi,off,c,?_,?_,?_,fun x hxm=>fQ.out x (List.mem_of_mem_take hxm)⟩
     ·simp only[List.getElem_cons_zero,e3];rfl
     ·simp only[List.getElem_cons_zero,e3];exact hx.out.take zO
     ·simp only[List.getElem_cons_zero,e3];omega
    ·subst uG sU;refine⟨bi,off+15,c-3,?_,?_,?_,fun x hxm=>fQ.out x (List.mem_of_mem_drop hxm)⟩
     ·simp only[List.getElem_cons_succ,List.getElem_cons_zero,List.length_drop];rfl
     ·simp only[List.getElem_cons_succ,List.getElem_cons_zero,List.length_drop];exact hx.out.drop (k:=3) zO
     ·simp only[List.getElem_cons_succ,List.getElem_cons_zero,List.length_drop];omega
    ·omega
   have hPr:(W.alloc (.cells #[.slice (some ⟨bi,off,none⟩) 3 c,.slice (some ⟨bi,off+15,none⟩) (its.length-3) (c-3)] 55)).heap[W.heap.size]?=some (.cells pv.toArray 55 (0,0)):=by rw[sU];exact zI _ _ _ rfl
   have hIR:=zH (hpo.out.trans uG.symm);clear uG sU hpo h5 e5 x0 z0 hW;generalize World.alloc W _=w1 at *;generalize W.heap.size=P at *;generalize Value.slice (some ⟨bi,off+15,none⟩) (its.length-3) (c-3)=v26;generalize Value.slice (some ⟨bi,off,none⟩) 3 c=v24;generalize Value.slice (some ⟨w.heap.size,0,none⟩) 1 1=v19
 case' inr =>
  have hpo:=zH (show Zq its=[its] by unfold Zq;exact if_neg zO);have e5:decide ((5:Int)<(its.length:Int))=false:=decide_eq_false zO;go_enter func130,ntmps130;go_wp2_with fail;have x1:Ext w (w.alloc (.cells #[.slice (some ⟨bi,off,none⟩) its.length c] 55)):=zN _ _;obtain⟨ps,uG⟩:∃ ps,ps=[its]:=⟨_,rfl⟩
  obtain⟨pv,sU⟩:∃ pv:List Value,pv=[.slice (some ⟨bi,off,none⟩) its.length c]:=⟨_,rfl⟩
  have bM:ps.length=1:=by rw[uG];rfl
  have hel:Hid (∀ j (hj:j<ps.length),∃ bj oj cj,pv[j]?=some (.slice (some ⟨bj,oj,none⟩) ps[j].length cj)/\kM (B3 b g k) w (.slice (some ⟨bj,oj,none⟩) ps[j].length cj) ps[j]/\0<ps[j].length/\∀ x∈ps[j],zu x):=zH fun j hj=>by
   rcases j with _|j
   ·subst uG sU;exact⟨bi,off,c,rfl,hx.out,hn0,fQ.out⟩
   ·omega
  have hPr:(w.alloc (.cells #[.slice (some ⟨bi,off,none⟩) its.length c] 55)).heap[w.heap.size]?=some (.cells pv.toArray 55 (0,0)):=by rw[sU];exact zI _ _ _ rfl
  have hIR:=zH (hpo.out.trans uG.symm);obtain⟨P,hPP⟩:∃ P,P=w.heap.size:=⟨_,rfl⟩
  rw[<-hPP] at hPr;clear uG sU hpo h5 e5;generalize World.alloc w _=w1 at *;have zP0:w.heap.size<=P:=zO;simp only[<-hPP];clear hPP
 all_goals
  clear hx fQ hbi gZ fF;go_loopw [8,30] (fun v i wr=>BdI D B lo b g k S lvl ps P pv w v i wr) (fun _ i _=>ps.length-(intOf i).toNat)
  case atStart=>exact⟨0,[],S,k,D,none,0,Nat.zero_le _,rfl,rfl,rfl,rfl,hS,ZD.refl _ _,YO.refl _ _,h.out.ext x1,Qg.of_ext x1 rG,World.ownsRow_nil _ _ _ _,(fun q hq=>by cases hq),hPr,(zG.1 hPr).1⟩
  case round =>
   obtain⟨j,ups,S',k',D',Av,cv,hj,rfl,rfl,lY,pF,rD,hNk,hND,bg,lF,aB,hoD,hPw,hPz⟩:=hrel.ex;clear hrel hPr;have yR:=(Qc rD).2.1;by_cases hlt:j<ps.length
   ·obtain⟨bj,oj,cj,hpvj,hxj,dZ,hHO⟩:=hel.out j hlt;have kP:wr.cell? ⟨P,j,none⟩=some (.slice (some ⟨bj,oj,none⟩) ps[j].length cj):=by rw[qa hPw];simpa using hpvj
    have nN:=hxj.trans lF.keepX (B3.of_new hNk);have HM:=zH (qdh D' B lo b g k' S' lvl (some ⟨bj,oj,none⟩) ps[j].length cj ps[j] hHO yR wr bg nN);have ai:=zH (fun e h1=>qkA hlt (e:=e) pF h1);have aZ:=zH (fun f S'' h1=>qin hlt (f:=f) (S'':=S'') pF h1);have hmay:=zH (fun f S'' (h1:Zz S' lvl ps[j]=.ok (f,S''))=>(KL hHO rD h1).1);have nN:=zH nN;have d1:∀ M:Int,M=(ps.length:Int)->decide ((j:Int)<M)=true:=fun M hM=>decide_eq_true zO;have d3:∀ M:Nat,M=ps.length->j<M:=fun M hM=>zO
    first
     |(have d2:=d1 2 (by rw[bM];rfl);have hjn:=d3 2 bM.symm)
     |(have d2:=d1 1 (by rw[bM];rfl);have hjn:=d3 1 bM.symm)
    have hj1:=zH (IntWalk.wrap64_in ((j:Int)+1) zO);replace bM:=zH bM;generalize ps[j]=p at *;generalize hnj:p.length=nj at *;replace hnj:=zH hnj;clear hpvj hHO hxj d1 d3 pF rD yR;go_wp2_with fail;refine HM.out.mono ?_;clear HM;rintro e wM ⟨hkM,aP⟩;have zwr:=lF.below.size;have zM:=hkM.below.size;have nB:∀ {q cs ty fr},wr.heap[q]?=some (.cells cs ty fr)->ty≠223->ty≠5->ty≠142->¬B3 b g k' q:=fun hr h1 h2 h3=>bg.notB3 hr h1 h2 h3;have wL:=hkM.own aB (fun q hq=>by obtain⟨cur,hc⟩:=jh aB hq;exact nB hc zD zD zD);have hPM:=hkM.row hPw (nB hPw zD zD zD);have oC:=lF.trans hkM hNk;rcases hmx:Zz S' lvl p with er|⟨f,S''⟩
    ·rw[hmx] at aP;have hq:=zH (show QU S lvl its held=.error er by unfold QU;rw[hIR.out,ai.out er hmx]);have aG:(er != 0)=true:=by rw[bne_iff_ne];exact XM hmx
     have aP:e=.returned (.tuple #[.int .i64 0,.int .i64 er]):=aP;subst aP;clear aZ hmay ai hmx wL hPM aB hPw hoD nB bg hkM hel kP;replace oC:=zH oC;go_wp2_with fail;exact Gr rfl rfl rfl (YT.bad hq.out oC.out)
    ·rw[hmx] at aP;obtain⟨rfl,k'',D'',wu,hD2,bU⟩:e=.returned (.tuple #[.int .i64 (f:Int),.int .i64 0])/\∃ k'' D'',ZD wr.heap.size k' k''/\YO wr.heap.size D' D''/\Bch D'' B lo b g k'' S'' wM:=aP;have hml2:=aZ.out f S'' hmx;have yc:=hmay.out f S'' hmx;obtain⟨A',c',g0,g1,g2,-,-,-⟩:=((nN.out.trans hkM.keepX (B3.of_new wu)).now).item 0 (by rw[hnj.out];exact dZ);have oh:VV p=((p[0]'(by rw[hnj.out];exact dZ)).k,(p[0]'(by rw[hnj.out];exact dZ)).i,(p[0]'(by rw[hnj.out];exact dZ)).o):=by
      have h0:0<p.length:=by rw[hnj.out];exact dZ
      rcases p with _|⟨y,r⟩
      ·simp at h0
      ·rfl
     generalize p[0]'(by rw[hnj.out];exact dZ)=y at *;simp only[Nat.zero_mul,Nat.add_zero] at g0 g1 g2;have hN':ZD w.heap.size k k'':=hNk.trans wu zO;have hDn':YO w.heap.size D D'':=hND.trans hD2 zO;have hoq:∀ q,(Value.slice Av j cv).ownBlock=some q->w.heap.size<=q/\q<wr.heap.size:=fun q hq=>QP aB q hq;have aJ:∀ (v':Value) (W:World),W.ownsRow w.heap.size 51 5 v' (j+1) (Qa (upV ups)++[.int .u8 y.k,.int .u32 y.i,.int .u32 y.o,.int .i64 (f:Int),.slice none 0 0])->wM.grownBy W (Value.slice Av j cv).ownBlock->Below w.heap.size wM W->(v'.ownBlock=(Value.slice Av j cv).ownBlock\/∃ g,v'.ownBlock=some g/\wM.heap.size<=g) ->
       BdI D B lo b g k S lvl ps P pv w v' (.int .i64 ((j:Int)+1)) W:=fun v' W aj hg hB fE=>by
      obtain⟨A7,c7,rfl,-,-⟩:=qE aj;have aF:∀ q,q<wM.heap.size->¬OwnX (.slice Av j cv) q->W.heap[q]?=wM.heap[q]?:=fun q hq hX=>hg.block q hq fun e=>hX e.symm;have cZ:=bU.blo;have hzW:=hg.size;have hDq:∀ q,(Value.slice Av j cv).ownBlock=some q->¬D'' q:=fun q hq hd=>(hD2 q hd).elim (fun h1=>(hoD q hq).1 h1) fun h1=>by have:=(hoq q hq).2;omega
      refine⟨j+1,ups++[GD (VV p) f],S'',k'',D'',A7,c7,zO,rfl,rfl,by simp[lY],hml2,yc,hN',hDn',?_,?_,?_,?_,?_,zO⟩
      ·refine bU.keepX (X:=OwnX (.slice Av j cv)) (Below.mono hB zO) aF (fun q hq hX=>?_);rcases hq with hq|hq
       ·obtain⟨cur,hc⟩:=jh wL (show _=some q from hX);exact bU.notB3 hc zD zD zD hq
       ·exact hDq q hX hq
      ·refine⟨oC.below.trans (Below.mono hB rG),fun q hq hn=>(aF q zO fun hX=>?_).trans (oC.rows q hq hn)⟩;have:=(hoq q hX).1;omega
      ·rw[upV_item];have:GD (VV p) f=⟨y.k,y.i,y.o,(f:Int),[]⟩:=by rw[oh];rfl
       rw[this];exact aj
      ·intro q hq;rcases fE with e1|⟨g',e1,e2⟩
       ·rw[e1] at hq;exact⟨hDq q hq,(hoD q hq).2⟩
       ·rw[e1] at hq;obtain rfl:g'=q:=by simpa using hq
        exact⟨fun hd=>by have:=(bU.dB g' hd).2.1;omega,zO⟩
      ·refine(aF P zO fun hX=>?_).trans hPM;have:=(hoD P hX).2;omega
     replace aJ:=zH aJ;obtain⟨i0,hi,ag,aV,aW⟩:=info_parts Tryz.info_item;have hzz:w.heap.size<=wM.heap.size:=zO;clear aZ hmay ai hmx hPM aB hPw hoD nB bg hkM hel kP hoq bU wu hD2 hml2 yc oC hN' hDn' oh;go_wp2_with (at_builtin;refine Qh ?_);refine QF.go (js wM rfl (.tmp 45) (.tmp 52) 55 rfl w.heap.size 51 i0 _ 5 48 underlying55 hi ag aV aW rfl zD (.slice Av j cv) j (Qa (upV ups)) zE wL #[.int .u8 y.k,.int .u32 y.i,.int .u32 y.o,.int .i64 (f:Int),.slice none 0 0] zE rfl zA7 zO zD hzz ?_);intro v' W aj hg hB fE;have hF:=zH (aJ.out v' W aj hg hB fE);clear aJ aj hg hB fE wL hi;go_wp2_with fail;try rw[hj1.out]
     refine⟨hF.out,?_⟩;simp[intOf];omega
   ·obtain rfl:j=ps.length:=zO;rw[List.take_length] at pF;have d1:∀ M:Int,M=(ps.length:Int)->decide (((ps.length:Nat):Int)<M)=false:=fun M hM=>decide_eq_false zO
    first
     |have d2:=d1 2 (by rw[bM];rfl)
     |have d2:=d1 1 (by rw[bM];rfl)
    replace bM:=zH bM;have hbX:Hid (QU S lvl its held=match looseL (qz held) S'.now with
     | .error e=>.error e
     | .ok t=>.ok (ups,qw S' t)):=zH (by unfold QU;simp only[hIR.out,pF] <;> rfl)
    have hhm':=hho.out;have hDO:=lF.own hho.out (fun q hq=>by obtain⟨cur,hc⟩:=jh hho.out hq;exact h.out.notB3 hc zD zD zD);clear hPw hPz hel pF d1 hhm';replace lF:=zH lF;replace aB:=zH aB;replace hoD:=zH hoD;replace bg:=zH bg;generalize hwm:wr=wm at *;clear hwm;go_wp2_with fail;go_loopw [8,57] (fun v i wr=>HdI D' B lo b g k' S' held (.slice Av ps.length cv) wm v i wr) (fun _ i _=>held.length-(intOf i).toNat)
    case atStart=>exact⟨0,S'.now,rfl,Nat.zero_le _,rfl,rfl,bg.out,Qg.refl _ _ _ _ _⟩
    case round =>
     obtain⟨j,t,rfl,hj,rfl,aQ,oQ,lS⟩:=hrel.ex;clear hrel;have hkA:=zH (lF.out.trans lS hNk);by_cases hlt:j<held.length
     ·have hlp:j<ax.length:=by rw[<-rE,List.length_map] at hlt;exact hlt
      have uh:=lS.own hDO (fun q hq=>by obtain⟨cur,hc⟩:=jh hDO hq;exact bg.out.notB3 hc zD zD zD);obtain⟨bh,offh,rfl,hbh,hch⟩:=(Rd.of_own uh).2 zO;obtain⟨g0,g1,g2,g3,g4⟩:=vD ax j hlp;replace g0:=hch _ _ g0;replace g1:=hch _ _ g1;replace g2:=hch _ _ g2;replace g3:=hch _ _ g3;replace g4:=hch _ _ g4;rw[<-Nat.add_assoc] at g1 g2 g3 g4;obtain⟨Ax,cx,yS⟩:=hh1 ax[j] (List.getElem_mem hlp);have hxe:ax[j].1=held[j]:=by simp only[<-rE,List.getElem_map]
      rw[yS] at g4;rw[hxe] at g0 g1 g2 g3 g4;have yO:=hhr held[j] (List.getElem_mem hlt);have ai:=zH (fun h0 h1=>qbJ hlt aQ h0 h1);have aZ:=zH (fun h0 h1=>qat hlt aQ h0 h1);have fA:=zH (fun h0=>qau hlt aQ h0);generalize held[j]=x at *;have hj1:=zH (IntWalk.wrap64_in ((j:Int)+1) zO);obtain⟨a,hra⟩:∃ a:Nat,x.r=(a:Int):=⟨x.r.toNat,zO⟩
      have ha9:a<256:=zO;have hsa:(x.r).toNat=a:=zO;rw[hra] at g3;rw[hsa] at ai aZ fA;have hz:=oQ.size.2.2.2.2.2.1;have HL:=zH (fun W (hW:Ext wr W)=>qac D' B lo b g k' (qw S' t) a ha9 W (oQ.ext hW));replace oQ:=zH oQ;replace lS:=zH lS;clear hch yS hxe uh hra hsa yO aQ hDO hlp;rcases Nat.eq_zero_or_pos a with uQ|uQ
      ·subst uQ;have hF:HdI D' B lo b g k' S' held (.slice Av ps.length cv) wm (.slice Av ps.length cv) (.int .i64 ((j:Int)+1)) (wr.alloc (.cells #[.int .u8 x.k,.int .u32 x.i,.int .u32 x.o,.int .i64 0,.slice Ax x.val.length cx] 51)):=⟨j+1,t,rfl,zO,rfl,fA.out rfl,oQ.out.ext (zN _ _),lS.out.trans (Qg.of_ext (zN _ _) hz) (ZD.refl _ _)⟩
       replace hF:=zH hF;clear ai aZ fA HL;go_wp2_with fail;try rw[hj1.out]
       refine⟨hF.out,?_⟩;simp[intOf];omega
      ·have hza:((a:Int) == 0)=false:=by rw[beq_eq_false_iff_ne];omega
       replace uQ:=zH uQ;go_wp2_with fail;generalize lM:World.alloc _ _=wa;have xa:Ext wr wa:=by rw[<-lM];exact zN _ _
       clear lM g0 g1 g2 g3 g4;refine(HL.out wa xa).mono ?_;clear HL;rintro e wl ⟨hkl,aP⟩;have oq:=lS.out.trans ((Qg.of_ext xa hz).trans hkl (ZD.refl _ _)) (ZD.refl _ _);rcases aP with ⟨dQ,rfl⟩|⟨dQ,rfl,cZ⟩
       ·have hq:=zH (show QU S lvl its held=.error 6 by rw[hbX.out,ai.out (by have:=uQ.out;omega) dQ]);have xJ:=zH (lF.out.trans oq hNk);clear hbX ai aZ fA hkl oq dQ hkA;go_wp2_with fail;exact Gr rfl rfl rfl (YT.bad hq.out xJ.out)
       ·have hF:HdI D' B lo b g k' S' held (.slice Av ps.length cv) wm (.slice Av ps.length cv) (.int .i64 ((j:Int)+1)) wl:=⟨j+1,_,rfl,zO,rfl,aZ.out (by have:=uQ.out;omega) dQ,cZ,oq⟩
        replace hF:=zH hF;clear hbX ai aZ fA hkl oq dQ cZ hkA;go_wp2_with fail;try rw[hj1.out]
        refine⟨hF.out,?_⟩;simp[intOf];omega
     ·obtain rfl:j=held.length:=zO;rw[List.take_length] at aQ;have hq:QU S lvl its held=.ok (ups,qw S' t):=by rw[hbX.out,aQ]
      have oH:=UG rD (JK (fun a ha=>by obtain⟨x,hxm,rfl⟩:=List.mem_map.1 ha;have:=hhr x hxm;omega) (qG.1 rD).2.1 aQ);have uh:=lS.own aB.out (fun q hq=>by obtain⟨cur,hc⟩:=jh aB.out hq;exact bg.out.notB3 hc zD zD zD);have hR:YT D B lo b g k S lvl its held w (.returned (.tuple #[.slice Av ps.length cv,.int .i64 0])) wr:=by
       refine⟨hkA.out,?_⟩;rw[hq];refine⟨k',D',Av,cv,by rw[lY],hNk,hND,oQ,oH,?_,?_⟩
       ·rw[lY];exact uh
       ·rw[lY];exact fun q hq=>(hoD.out q hq).1
      replace hR:=zH hR;clear uh oH hq oQ lS aQ hbX hkA hDO;go_wp2_with fail;exact Gr rfl rfl rfl hR.out
def jT (D:Nat->Prop) (B lo b g:Nat) (k:Option Nat) (S:Sto) (a:Nat) (w:World) (e:Ending) (W:World):Prop:=Qg lo b g k w W /\
 match QH S (-1) S.now a with
 |none=>e=.returned (.int .i64 8)
 |some t=>e=.returned (.int .i64 0)/\Bch D B lo b g k (qw S t) W
theorem jT.bad {D:Nat->Prop} {B lo b g:Nat} {k:Option Nat} {S:Sto} {a:Nat} {w W:World} (h:QH S (-1) S.now a=none) (hB:Qg lo b g k w W):jT D B lo b g k S a w (.returned (.int .i64 8)) W:=by refine⟨hB,?_⟩;rw[h]
theorem jT.good {D:Nat->Prop} {B lo b g:Nat} {k:Option Nat} {S:Sto} {a:Nat} {t:List UInt8} {w W:World} (h:QH S (-1) S.now a=some t) (hB:Qg lo b g k w W) (hb:Bch D B lo b g k (qw S t) W):jT D B lo b g k S a w (.returned (.int .i64 0)) W:=by refine⟨hB,?_⟩;rw[h];exact⟨rfl,hb⟩
structure L0I (D:Nat->Prop) (B lo b g:Nat) (k:Option Nat) (S:Sto) (t0:List UInt8) (xs:List It) (wB:World) (v i:Value) (wr:World):Prop where
 ex:∃ (j:Nat) (t:List UInt8),v=.int .i64 0/\j<=xs.length/\i=.int .i64 (j:Int)/\looseL (qz (xs.take j)) t0=.ok t/\Bch D B lo b g k (qw S t) wr/\Qg lo b g k wB wr
theorem Bch.fresh {D:Nat->Prop} {B lo b g:Nat} {k:Option Nat} {S:Sto} {w0 w W:World} (h0:Bch D B lo b g k S w0) {S':Sto} (h:Bch D B lo b g k S' w) (hx:Below w0.heap.size w W):Bch D B lo b g k S' W:=by have h6:=h0.size.2.2.2.2.2.1;have h1:=h0.blo;exact h.keep (Below.mono hx zO) fun q hq=>hx.block q (hq.elim (fun h2=>(h0.b3 q h2).2) fun h2=>(h0.dB q h2).2.1)
end Go.Proofs.YtmeadnlmepcmbaaGreat
