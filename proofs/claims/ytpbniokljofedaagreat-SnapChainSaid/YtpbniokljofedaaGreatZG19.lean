/- Texts Place, PutE, StepsW, CopyK, ItRep, BuildW, Mono, PCheck, Has, PoolW, joined. -/
import Derived.Lib.AppendZerosOnto
import Derived.Lib.Overlaps
import Derived.WalkMore
import Derived.Test.YtpbniokljofedaaGreatZG03
import Derived.Test.YtpbniokljofedaaGreatZG10
import Derived.Test.YtpbniokljofedaaGreatZG11
import Derived.Test.YtpbniokljofedaaGreatZG15
import Derived.Test.YtpbniokljofedaaGreatZG16
import Derived.Test.YtpbniokljofedaaGreatZG18
set_option linter.unusedSimpArgs false
set_option linter.unusedVariables false
set_option maxHeartbeats 8000000
open Go.Proofs.Tryz
namespace Go.Proofs.YtpbniokljofedaaGreat
open Go.RowKit
def KX (xs:List It) (k:K3):Bool:=match xs[qA xs k]? with
 |none=>false
 |some x=>decide (qo x=k)
theorem kI {xs:List It} {k:K3} (h:qA xs k<xs.length):KX xs k=decide (qo xs[qA xs k]=k):=by unfold KX;rw[zL h]
theorem Xt {xs:List It} {k:K3} (h:¬qA xs k<xs.length):KX xs k=false:=by unfold KX;rw[List.getElem?_eq_none zO]
theorem key_if (x:It) (k i o:Int) (W:World):(if x.k=k then if x.i=i then if x.o=o then Result.ok (Next.value (Value.bool true)) W else Result.ok (Next.value (Value.bool false)) W else Result.ok (Next.value (Value.bool false)) W else Result.ok (Next.value (Value.bool false)) W)=Result.ok (Next.value (Value.bool (decide (qo x=(k,i,o))))) W:=by
 have e:(qo x=(k,i,o))↔(x.k=k/\x.i=i/\x.o=o):=by unfold qo;simp only[Prod.mk.injEq]
 by_cases h1:x.k=k
 ·by_cases h2:x.i=i
  ·by_cases h3:x.o=o
   ·rw[if_pos h1,if_pos h2,if_pos h3,decide_eq_true (e.2 ⟨h1,h2,h3⟩)]
   ·rw[if_pos h1,if_pos h2,if_neg h3,decide_eq_false (fun h=>h3 (e.1 h).2.2)]
  ·rw[if_pos h1,if_neg h2,decide_eq_false (fun h=>h2 (e.1 h).2.1)]
 ·rw[if_neg h1,decide_eq_false (fun h=>h1 (e.1 h).1)]
theorem qdh {R:Ending->World->Prop} {a:Act} {W:World} {u v:Value} (h2:a.tmps[4]?.getD undef=u) (h3:a.tmps[5]?.getD undef=v) (hd:a.defers=[]) (hR:R (.returned (.tuple #[u,v])) W):bodyPost prog Tryz.f143 R .ret a W:=by refine bodyPost_ret (v:=.tuple #[u,v]) ?_ hd hR;simp[results,results143,go_sem,h2,h3]
set_option maxRecDepth 100000 in
theorem qbu (lvl:Int) (A:Option Addr) (c:Nat) (xs:List It) (k i o:Int) (w:World) (hl:xs.length<=5) (h:Its w w.heap.size (.slice A xs.length c) xs):Calls prog 143 #[jE lvl A xs.length c,Tq k i o] w (Ret (.tuple #[.int .i64 ((qA xs (k,i,o):Nat):Int),.bool (KX xs (k,i,o))]) w):=by
 obtain⟨-,dV,bP,hA⟩:=h.at_;have HI:=zH h;clear h;go_enter func143,ntmps143;go_wp2_with fail;generalize aA:(World.alloc (World.alloc w _) _)=w1;have x1:Ext w w1:=by rw[<-aA];exact(zN _ _).trans (zN _ _)
 have rn:w1.heap[w.heap.size]?=some (.cells #[.int .i64 lvl,.slice A xs.length c] 49 (0,0)):=by rw[<-aA];exact(zK _ _ _ zA2).trans (zI _ _ _ rfl)
 have rk:w1.heap[w.heap.size+1]?=some (.cells #[.int .u8 k,.int .u32 i,.int .u32 o] 66 (0,0)):=by rw[<-aA];exact zI _ _ _ zA2
 clear aA;go_loopw [4,11] (fun p j wr=>∃ n:Nat,n<=xs.length/\j=.int .i64 (n:Int)/\p=.int .i64 ((qA (xs.take n) (k,i,o):Nat):Int)/\Ext w1 wr) (fun _ j _=>xs.length-(intOf j).toNat)
 case atStart=>exact⟨0,Nat.zero_le _,rfl,rfl,Ext.refl _⟩
 case round =>
  obtain⟨n,hn,rfl,rfl,xr⟩:=hrel;have mO:=x1.trans xr;have kn:=qa (qb rn xr);have kk:=qa (qb rk xr);have zk:w.heap.size+1<wr.heap.size:=(zG.1 (qb rk xr)).1;by_cases hlt:n<xs.length
  ·obtain⟨b,off,rfl,hb⟩:=hA zO;obtain⟨A',c',d0,d1,d2,d3,d4,-⟩:=HI.out.item n hlt;replace d0:=Ext.cell mO d0;replace d1:=Ext.cell mO d1;replace d2:=Ext.cell mO d2;replace d3:=Ext.cell mO d3;replace d4:=Ext.cell mO d4;have HP:=zH (qhQ (k:=(k,i,o)) hlt);have bQ:=Jl (xs.take n) (k,i,o);rw[List.length_take] at bQ;generalize qA (xs.take n) (k,i,o)=pl at *;generalize xs[n]=x at *;go_wp2_with fail;generalize lg:(World.alloc wr _)=wa;have xa:Ext wr wa:=by rw[<-lg];exact zN _ _
   clear lg;refine(vK x.k x.i x.o k i o wa).mono ?_;rintro e wl ⟨rfl,hB⟩;have xl:Ext w1 wl:=xr.trans (xa.trans hB);clear kn kk d0 d1 d2 d3 d4;rcases hls:Jh x.k x.i x.o k i o with _|_
   ·have hz:qA (xs.take (n+1)) (k,i,o)=pl:=by rw[HP.out,if_neg (show ¬qM (qo x) (k,i,o)=true from (fun h=>by rw[show qM (qo x) (k,i,o)=false from hls] at h;cases h))];rfl
    replace hz:=zH hz;go_wp2_with fail;refine⟨⟨n+1,hlt,rfl,by rw[hz.out],xl⟩,?_⟩;simp[intOf];omega
   ·have hz:qA (xs.take (n+1)) (k,i,o)=pl+1:=by rw[HP.out,if_pos (show qM (qo x) (k,i,o)=true from hls)]
    replace hz:=zH hz;go_wp2_with fail;refine⟨⟨n+1,hlt,rfl,by rw[hz.out];rfl,xl⟩,?_⟩;simp[intOf];omega
  ·obtain rfl:n=xs.length:=zO;rw[List.take_length];have bQ:=Jl xs (k,i,o);go_wp2_with fail;by_cases hp:qA xs (k,i,o)<xs.length
   ·have hia:=kI hp;obtain⟨b,off,rfl,hb⟩:=hA zO;obtain⟨A',c',d0,d1,d2,-,-,-⟩:=HI.out.item _ hp;replace d0:=Ext.cell mO d0;replace d1:=Ext.cell mO d1;replace d2:=Ext.cell mO d2;generalize xs[qA xs (k,i,o)]=x at *;generalize qA xs (k,i,o)=pl at *;generalize mf:KX xs (k,i,o)=ie at *;have gN:∀ W,qj.r wr W->∀ i,W.cell? ⟨w.heap.size,i,none⟩=#[.int .i64 lvl,.slice (some ⟨b,off,none⟩) xs.length c][i]?:=fun W h=>qa (qb (qb rn xr) h);have gK:∀ W,qj.r wr W->∀ j,W.cell? ⟨w.heap.size+1,j,none⟩=#[.int .u8 k,.int .u32 i,.int .u32 o][j]?:=fun W h=>qa (qb (qb rk xr) h);have gD:∀ W,qj.r wr W->W.cell? ⟨b,off+pl*5,none⟩=some (.int .u8 x.k)/\W.cell? ⟨b,off+pl*5+1,none⟩=some (.int .u32 x.i)/\W.cell? ⟨b,off+pl*5+2,none⟩=some (.int .u32 x.o):=fun W h=>⟨Ext.cell h d0,Ext.cell h d1,Ext.cell h d2⟩
    have gD0:=fun W h=>(gD W h).1;have gD1:=fun W h=>(gD W h).2.1;have gD2:=fun W h=>(gD W h).2.2;replace hia:=zH hia;clear d0 d1 d2 gD;refine qp zQ ?_;refine qQ (w:=wr) qj (qH []) [true,true,true,true,true,true,true,true,true,true,true,true,true,true,true,true,true] 1 zQ zQ zQ zQ zQ zQ zQ ?st (Rel.drew _ _) ?walk
    case st=>exact qk (fun _ h=>by cases h)
    case walk =>
     intro K hK;dsimp only[qt];repeat ((first|(refine qd ?_ zA0 zA0 (fun W hW _=>⟨W,?_,Rel.refl _ W⟩) ?_;rotate_left;(go_simp<;>with_reducible rfl))|(refine qh zA0 ?_));try simp only[Act.put,ql,qg,qc,qf,zA,zB,zC])
     refine qd (.bool ie) zA0 zA0 (fun W hW _=>⟨W,?_,Rel.refl _ W⟩) ?_
     ·go_simp;rw[hia.out];exact key_if x k i o W
     simp only[Act.put,qg,qc,qf,zA,zB,zC];repeat ((first|(refine qd ?_ zA0 zA0 (fun W hW _=>⟨W,?_,Rel.refl _ W⟩) ?_;rotate_left;(go_simp<;>with_reducible rfl))|(refine qh zA0 ?_));try simp only[Act.put,ql,qg,qc,qf,zA,zB,zC])
     refine qv (hK _ _ fun W hW hF=>?_);clear hF hK gN gK gD0 gD1 gD2;have ak:Ext wr W:=hW;refine zB5 ?_;go_wp2;refine Qo ?_;go_wp2_with fail;exact qdh rfl rfl rfl ⟨rfl,mO.trans ak⟩
   ·have hia:=Xt hp;have gN:∀ W,qj.r wr W->∀ i,W.cell? ⟨w.heap.size,i,none⟩=#[.int .i64 lvl,.slice A xs.length c][i]?:=fun W h=>qa (qb (qb rn xr) h);generalize qA xs (k,i,o)=pl at *;generalize mf:KX xs (k,i,o)=ie at *;replace hia:=zH hia;refine qp zQ ?_;refine qQ (w:=wr) qj (qH []) [true,true,true,true,true,true,true,true,true,true,true,true,true,true,true,true,true] 1 zQ zQ zQ zQ zQ zQ zQ ?st (Rel.drew _ _) ?walk
    case st=>exact qk (fun _ h=>by cases h)
    case walk =>
     intro K hK;dsimp only[qt];repeat ((first|(refine qd ?_ zA0 zA0 (fun W hW _=>⟨W,?_,Rel.refl _ W⟩) ?_;rotate_left;(go_simp<;>with_reducible rfl))|(refine qh zA0 ?_));try simp only[Act.put,ql,qg,qc,qf,zA,zB,zC])
     refine qv (hK _ _ fun W hW hF=>?_);clear hF hK gN;have ak:Ext wr W:=hW;refine zB5 ?_;go_wp2;refine Qo ?_;go_wp2_with fail;exact qdh rfl rfl rfl ⟨by rw[hia.out];rfl,mO.trans ak⟩
theorem qdg (lvl:Int) (A:Option Addr) (c:Nat) (xs:List It) (k i o:Int) (lo:Nat) (w:World) (hl:xs.length<=5) (h:ZE lo w (.slice A xs.length c) xs):Calls prog 143 #[jE lvl A xs.length c,Tq k i o] w (Ret (.tuple #[.int .i64 ((qA xs (k,i,o):Nat):Int),.bool (KX xs (k,i,o))]) w):=qbu lvl A c xs k i o w hl h.its
def QJ:List Nat->List UInt8->Except Int (List UInt8)
 | [],t=>.ok t
 |a :: r,t=>if a=0 then QJ r t else if qZ t a=0 then .error 6 else QJ r (kZ t a)
theorem JD (r:List Nat) (t:List UInt8):QJ (0 :: r) t=QJ r t:=by simp[QJ]
theorem vk {a:Nat} (ha:a≠0) {t:List UInt8} (h:qZ t a=0) (r:List Nat):QJ (a :: r) t=.error 6:=by simp only[QJ];rw[if_neg ha,if_pos h]
theorem JC {a:Nat} (ha:a≠0) {t:List UInt8} (h:qZ t a≠0) (r:List Nat):QJ (a :: r) t=QJ r (kZ t a):=by simp only[QJ];rw[if_neg ha,if_neg h]
theorem Ji:∀ (l r:List Nat) (t:List UInt8),QJ (l++r) t=match QJ l t with
  | .error e=>.error e
  | .ok t'=>QJ r t'
 | [],_,_=>rfl
 |a :: l,r,t=>by
  by_cases ha:a=0
  ·subst ha;rw[List.cons_append,JD,JD];exact Ji l r t
  ·by_cases h:qZ t a=0
   ·rw[List.cons_append,vk ha h,vk ha h]
   ·rw[List.cons_append,JC ha h,JC ha h];exact Ji l r _
def Vb (S:Sto):Nat->Int->List UInt8->Nat->Option (List UInt8)
 |0,_,_,_=>none
 |h+1,lvl,t,a=>if qZ t a=0 then none else if 1<qZ t a then some (kZ t a) else
  match qu S a with
  |none=>none
  |some (l,xs)=>if 0<=lvl/\l≠lvl then none else if 0<l then (qT xs).foldl (fun acc r=>acc.bind fun t=>Vb S h (l-1) t r) (some (t.set a 0)) else
   match QJ (qT xs) (t.set a 0) with
   | .error _=>none
   | .ok t'=>some t'
theorem vJ (S:Sto) (h:Nat) (lvl:Int) (t:List UInt8) (a:Nat):Vb S (h+1) lvl t a=if qZ t a=0 then none else if 1<qZ t a then some (kZ t a) else
  match qu S a with
  |none=>none
  |some (l,xs)=>if 0<=lvl/\l≠lvl then none else if 0<l then (qT xs).foldl (fun acc r=>acc.bind fun t=>Vb S h (l-1) t r) (some (t.set a 0)) else
   match QJ (qT xs) (t.set a 0) with
   | .error _=>none
   | .ok t'=>some t':=rfl
theorem GN (S:Sto):∀ (h:Nat) (lvl:Int) (t:List UInt8) (a:Nat),0<=lvl->lvl<h->Vb S (h+1) lvl t a=Vb S h lvl t a
 |0,lvl,t,a,h0,h1=>zO
 |h+1,lvl,t,a,h0,h1=>by
  rw[vJ,vJ];split
  ·rfl
  ·split
   ·rfl
   ·split
    ·rfl
    ·rename_i l xs _;split
     ·rfl
     ·rename_i hl;have e:l=lvl:=by
       by_cases h:l=lvl
       ·exact h
       ·exact absurd ⟨h0,h⟩ hl
      subst e;split
      ·rename_i hp;congr 1;funext acc r;congr 1;funext t;exact GN S h (l-1) t r zO zO
      ·rfl
theorem jl {S:Sto} {a:Nat} {lvl:Int} {xs:List It} (h:qu S a=some (lvl,xs)):0<=lvl/\lvl<6/\xs.length<=5:=by have:=jx (qN h).1;exact⟨this.1,this.2.1,this.2.2.1⟩
def QQ (S:Sto) (lvl:Int) (t:List UInt8) (a:Nat):Option (List UInt8):=Vb S 7 lvl t a
def Jt (S:Sto):List (Nat×Int)->List UInt8->Option (List UInt8)
 | [],t=>some t
 |x :: r,t=>match QQ S x.2 t x.1 with
  |none=>none
  |some t'=>Jt S r t'
theorem XQ (S:Sto):∀ (l r:List (Nat×Int)) (t:List UInt8),Jt S (l++r) t=match Jt S l t with
  |none=>none
  |some t'=>Jt S r t'
 | [],_,_=>rfl
 |x :: l,r,t=>by
  simp only[List.cons_append,Jt];cases QQ S x.2 t x.1 with
  |none=>rfl
  |some t'=>exact XQ S l r t'
theorem GO (S:Sto) (l:Int):∀ (rs:List Nat) (o:Option (List UInt8)),rs.foldl (fun acc r=>acc.bind fun t=>QQ S l t r) o=o.bind fun t=>Jt S (rs.map fun r=>(r,l)) t
 | [],o=>by cases o <;> rfl
 |a :: r,o=>by
  rw[List.foldl_cons,GO S l r];cases o with
  |none=>rfl
  |some t =>
   simp only[Option.bind_some,List.map_cons,Jt];cases QQ S l t a <;> rfl
theorem YX (S:Sto) (lvl:Int) (t:List UInt8) (a:Nat):QQ S lvl t a=if qZ t a=0 then none else if 1<qZ t a then some (kZ t a) else
  match qu S a with
  |none=>none
  |some (l,xs)=>if 0<=lvl/\l≠lvl then none else if 0<l then Jt S ((qT xs).map fun r=>(r,l-1)) (t.set a 0) else
   match QJ (qT xs) (t.set a 0) with
   | .error _=>none
   | .ok t'=>some t':=by
 obtain⟨h,hh⟩:∃ h,h=6:=⟨_,rfl⟩
 have L1:∀ lvl t a,QQ S lvl t a=Vb S (h+1) lvl t a:=fun lvl t a=>by rw[hh];rfl
 rw[L1,vJ];have key:∀ l xs,qu S a=some (l,xs)->0<l->(qT xs).foldl (fun acc r=>acc.bind fun t=>Vb S h (l-1) t r) (some (t.set a 0))=Jt S ((qT xs).map fun r=>(r,l-1)) (t.set a 0):=fun l xs hn h0=>by
  obtain⟨_,h6,_⟩:=jl hn;have e1:=GO S (l-1) (qT xs) (some (t.set a 0));rw[Option.bind_some] at e1;rw[<-e1];have e:(fun (acc:Option (List UInt8)) (r:Nat)=>acc.bind fun t=>Vb S h (l-1) t r)=fun acc r=>acc.bind fun t=>QQ S (l-1) t r:=by
   funext acc r;cases acc with
   |none=>rfl
   |some t =>
    simp only[Option.bind_some];rw[L1,GN S h (l-1) t r zO zO]
  rw[e]
 split
 ·rfl
 ·split
  ·rfl
  ·split
   ·rfl
   ·rename_i l xs hn;split
    ·rfl
    ·split
     ·rename_i h0;exact key l xs hn h0
     ·rfl
def qan (k:K3) (r:Nat):It:=⟨k.1,k.2.1,k.2.2,(r:Int),[]⟩
def kj (p:List It):K3:=match p with
 | []=>(0,0,0)
 |x :: _=>qo x
def jf (lvl:Int):List (List It)->Sto->Except Int (List It×Sto)
 | [],S=>.ok ([],S)
 |p :: r,S=>match Zz S lvl p with
  | .error e=>.error e
  | .ok (f,S')=>match jf lvl r S' with
   | .error e=>.error e
   | .ok (up,S'')=>.ok (qan (kj p) f :: up,S'')
def ZM (l:List It):List (List It):=if 5<l.length then [l.take 3,l.drop 3] else [l]
def QW (S:Sto) (lvl:Int) (l held:List It):Except Int (List It×Sto):=match jf lvl (ZM l) S with
 | .error e=>.error e
 | .ok (up,S')=>match QJ (qT held) S'.now with
  | .error e=>.error e
  | .ok t=>.ok (up,qy S' t)
def VL (xs:List It) (p many:Nat) (up:List It):List It:=xs.take p++up++xs.drop (p+many)
def km (S:Sto) (k:K3):Nat->List It->List (Nat×List It×Nat)
 |0,xs=>[(0,xs,qA xs k)]
 |h+1,xs=>(h+1,xs,if KX xs k=true then qA xs k else qA xs k-1) :: match xs[if KX xs k=true then qA xs k else qA xs k-1]? with
  |none=>[]
  |some y=>match qu S y.r.toNat with
   |none=>[]
   |some (_,ys)=>km S k h ys
def JE (k:K3) (lvl:Nat) (xs:List It):Nat:=if lvl=0/\KX xs k=false then 0 else 1
def jp (k:K3):List (Nat×List It×Nat)->List It->Sto->Except Int (List It×Sto)
 | [],up,S=>.ok (up,S)
 |(lvl,xs,p) :: r,up,S=>match QW S (lvl:Int) (VL xs p (JE k lvl xs) up) up with
  | .error e=>.error e
  | .ok (up',S')=>jp k r up' S'
def qab (k:K3) (l:List (Nat×List It×Nat)):Bool:=decide (l.length=6) && (l.all fun s=>!decide (s.2.1.length<5)) && !(match l.getLast? with
 |none=>false
 |some s=>KX s.2.1 k)
def putX (S:Sto) (L:Nat) (xs:List It) (root:Nat) (x:It):Except Int (Nat×Sto):=
 if qab (qo x) (km S (qo x) L xs)=true then .error 120 else
 match jp (qo x) (km S (qo x) L xs).reverse [x] S with
 | .error e=>.error e
 | .ok (up,S1)=>match (if 1<up.length then QW S1 ((km S (qo x) L xs).length:Int) up up else .ok (up,S1)) with
  | .error e=>.error e
  | .ok (up',S2)=>match QQ S2 (-1) S2.now root with
   |none=>.error 8
   |some t=>.ok (match up' with
    | []=>0
    |y :: _=>y.r.toNat,qy S2 t)
theorem Tryz.info_step:(Tryz.prog.info? 160).map (fun i=>(i.zero,i.size,i.bytes))=some (some (.agg #[.int .i64 0,.slice none 0 0,.int .i64 0]),3,40):=zQ
abbrev Stp:=Nat×List It×Nat
def jy:List (Stp×Value)->List Value
 | []=>[]
 |p :: r=>.int .i64 (p.1.1:Int) :: p.2 :: .int .i64 (p.1.2.2:Int) :: jy r
theorem qfc (ps:List (Stp×Value)) (p:Stp×Value):jy (ps++[p])=jy ps++[.int .i64 (p.1.1:Int),p.2,.int .i64 (p.1.2.2:Int)]:=by
 induction ps with
 |nil=>rfl
 |cons a r ih=>simp[jy,ih]
theorem Xq (ps:List (Stp×Value)):∀ i (h:i<ps.length),(jy ps)[i*3]?=some (.int .i64 (ps[i].1.1:Int))/\(jy ps)[i*3+1]?=some ps[i].2/\(jy ps)[i*3+2]?=some (.int .i64 (ps[i].1.2.2:Int)):=by
 induction ps with
 |nil=>intro i h;simp at h
 |cons p r ih =>
  intro i h;rcases i with _|i
  ·simp[jy]
  ·have:=ih i (by simpa using h);rw[show (i+1)*3=i*3+1+1+1 by omega];simpa [jy,Nat.add_assoc] using this
def OwnX (v:Value) (q:Nat):Prop:=v.ownBlock=some q
def OwnL (lo:Nat) (v:Value) (q:Nat):Prop:=v.ownBlock=some q\/q<lo
def UO (X:Nat->Prop) (w:World) (v:Value) (bC:List (It×Value)):Prop:=(∃ A c,v=.slice A bC.length c/\bC.length<=c/\c<=maxLen/\∀ C,Qh X w C->Rd C C.heap.size 5 A bC.length (qY bC)) /\
 ∀ p∈bC,(∃ A c,p.2=.slice A p.1.val.length c)/\∀ C,Qh X w C->Bys C C.heap.size p.2 p.1.val
theorem UO.its {X:Nat->Prop} {w:World} {v:Value} {bC:List (It×Value)} (h:UO X w v bC) {C:World} (hC:Qh X w C):Its C C.heap.size v (bC.map (·.1)):=by obtain⟨⟨A,c,e,h1,h2,hr⟩,hp⟩:=h;exact⟨bC,rfl,⟨A,c,by rw[List.length_map];exact e,by rw[List.length_map];exact h1,h2,by rw[List.length_map];exact hr C hC⟩,fun p af=>⟨(hp p af).1,(hp p af).2 C hC⟩⟩
theorem UO.trans {X Y:Nat->Prop} {w W:World} {v:Value} {bC:List (It×Value)} (h:UO X w v bC) (hk:Qh X w W) (hY:∀ k,k<w.heap.size->Y k->X k):UO Y W v bC:=by obtain⟨⟨A,c,e,h1,h2,hr⟩,hp⟩:=h;exact⟨⟨A,c,e,h1,h2,fun C hC=>hr C (hk.trans hC hY)⟩,fun p af=>⟨(hp p af).1,fun C hC=>(hp p af).2 C (hk.trans hC hY)⟩⟩
def Jr (lo:Nat) (w:World) (v:Value) (l:List Stp):Prop:=∃ ps:List (Stp×Value),ps.map (·.1)=l/\w.ownsRow lo 160 3 v l.length (jy ps)/\∀ p∈ps,∃ bC,bC.map (·.1)=p.1.2.1/\UO (OwnL lo v) w p.2 bC
def Ta (lo:Nat) (w:World) (v:Value) (l:List Stp):Prop:=∃ ps:List (Stp×Value),ps.map (·.1)=l/\(∃ A c,v=.slice A l.length c/\l.length<=c/\c<=maxLen/\∀ C,Qh (fun q=>q<lo) w C->Rd C C.heap.size 3 A l.length (jy ps))/\∀ p∈ps,∃ bC,bC.map (·.1)=p.1.2.1/\UO (fun q=>q<lo) w p.2 bC
def kV (B:Nat) (w:World) (v:Value) (l:List Stp):Prop:=∃ ps:List (Stp×Value),ps.map (·.1)=l/\(∃ A c,v=.slice A l.length c/\l.length<=c/\c<=maxLen/\Rd w B 3 A l.length (jy ps))/\∀ p∈ps,(∃ A c,p.2=.slice A p.1.2.1.length c)/\Its w B p.2 p.1.2.1
theorem Rd.keepFrom {X:Nat->Prop} {w C:World} {B size n lo:Nat} {A:Option Addr} {xs:List Value} (h:Rd w B size A n xs) (hs:0<size) (hf:∀ a,A=some a->lo<=a.block) (hk:Qh X w C) (hX:∀ q,lo<=q->¬X q):Rd C C.heap.size size A n xs:=⟨h.1,fun hn=>by
 obtain⟨b,off,e,hb,hc⟩:=h.2 hn;have h1:lo<=b:=hf _ e;have hl:0<xs.length:=by rw[h.1];exact Nat.mul_pos hn hs
 exact⟨b,off,e,World.block_lt_of_cell? C ⟨b,off+0,none⟩ (hk _ _ (hX b h1) (hc 0 _ (zL hl))),fun j u hu=>hk _ _ (hX b h1) (hc j u hu)⟩⟩
theorem Jr.toE {lo:Nat} {w:World} {v:Value} {l:List Stp} (h:Jr lo w v l):Ta lo w v l:=by obtain⟨ps,e,ho,hp⟩:=h;obtain⟨A,c,rfl,h1,h2⟩:=qz ho;have hf:=Zo.of_own ho;refine⟨ps,e,⟨A,c,rfl,h1,h2,fun C hC=>(Rd.of_own ho).keepFrom zO (fun a ha=>hf a _ _ (by rw[ha])) hC fun q hq hx=>zO⟩,fun p af=>?_⟩;obtain⟨bC,e1,hi⟩:=hp p af;exact⟨bC,e1,hi.trans (Qh.refl _ _) fun k _ hk=>.inr hk⟩
theorem Ta.mono {lo lo':Nat} {w:World} {v:Value} {l:List Stp} (h:Ta lo w v l) (hl:lo'<=lo):Ta lo' w v l:=by obtain⟨ps,e,⟨A,c,rfl,h1,h2,hr⟩,hp⟩:=h;have hm:∀ {C},Qh (fun q=>q<lo') w C->Qh (fun q=>q<lo) w C:=fun hC=>hC.mono fun q _ hq=>zO;refine⟨ps,e,⟨A,c,rfl,h1,h2,fun C hC=>hr C (hm hC)⟩,fun p af=>?_⟩;obtain⟨bC,e1,⟨A',c',f1,f2,f3,f4⟩,f5⟩:=hp p af;exact⟨bC,e1,⟨A',c',f1,f2,f3,fun C hC=>f4 C (hm hC)⟩,fun q hq=>⟨(f5 q hq).1,fun C hC=>(f5 q hq).2 C (hm hC)⟩⟩
theorem UO.shape {X:Nat->Prop} {w:World} {v:Value} {bC:List (It×Value)} {xs:List It} (h:UO X w v bC) (e:bC.map (·.1)=xs):∃ A c,v=.slice A xs.length c:=by obtain⟨⟨A,c,e1,_⟩,_⟩:=h;exact⟨A,c,by rw[e1,<-e,List.length_map]⟩
theorem Ta.read {lo:Nat} {w C:World} {v:Value} {l:List Stp} (h:Ta lo w v l) (hC:Qh (fun q=>q<lo) w C):kV C.heap.size C v l:=by obtain⟨ps,e,⟨A,c,rfl,h1,h2,hr⟩,hp⟩:=h;refine⟨ps,e,⟨A,c,rfl,h1,h2,hr C hC⟩,fun p af=>?_⟩;obtain⟨bC,e1,hi⟩:=hp p af;exact⟨hi.shape e1,by rw[<-e1];exact hi.its hC⟩
theorem kV.below {B:Nat} {w w':World} {v:Value} {l:List Stp} (h:kV B w v l) (hb:Below B w w'):kV B w' v l:=by obtain⟨ps,e,⟨A,c,e1,e2,e3,hr⟩,hp⟩:=h;exact⟨ps,e,⟨A,c,e1,e2,e3,hr.below hb⟩,fun p h=>⟨(hp p h).1,(hp p h).2.below hb⟩⟩
theorem kV.more {B B':Nat} {w:World} {v:Value} {l:List Stp} (h:kV B w v l) (hb:B<=B'):kV B' w v l:=by obtain⟨ps,e,⟨A,c,e1,e2,e3,hr⟩,hp⟩:=h;exact⟨ps,e,⟨A,c,e1,e2,e3,hr.more hb⟩,fun p h=>⟨(hp p h).1,(hp p h).2.more hb⟩⟩
theorem Jr.nil (lo:Nat) (w:World):Jr lo w (.slice none 0 0) []:=⟨[],rfl,World.ownsRow_nil _ _ _ _,fun p h=>by cases h⟩
theorem Jr.ext {lo:Nat} {w w':World} {v:Value} {l:List Stp} (h:Jr lo w v l) (hx:Ext w w'):Jr lo w' v l:=by obtain⟨ps,e,ho,hp⟩:=h;refine⟨ps,e,Zr ho fun q hq=>Below.block hx q (QM ho q hq).2,fun p af=>?_⟩;obtain⟨bC,e1,hi⟩:=hp p af;exact⟨bC,e1,hi.trans (Qh.of_ext hx) fun _ _ h=>h⟩
theorem Jr.push {lo:Nat} {w w':World} {v v':Value} {l:List Stp} {s:Stp} {u:Value} {ps:List (Stp×Value)} {bC:List (It×Value)} (aP:lo<=w.heap.size) (e:ps.map (·.1)=l) (hp:∀ p∈ps,∃ bC,bC.map (·.1)=p.1.2.1/\UO (OwnL lo v) w p.2 bC) (hu:bC.map (·.1)=s.2.1) (hs:UO (OwnL lo v) w u bC) (ho:w'.ownsRow lo 160 3 v' (l.length+1) (jy ps++[.int .i64 (s.1:Int),u,.int .i64 (s.2.2:Int)])) (hg:w.grownBy w' v.ownBlock) (fG:v'.ownBlock=v.ownBlock\/∃ g,v'.ownBlock=some g/\w.heap.size<=g):Jr lo w' v' (l++[s]):=by
 have hk:Qh (OwnL lo v) w w':=Qh.of_heap fun q hq hX=>hg.block q hq fun e=>hX (.inl e.symm);have hy:∀ q,q<w.heap.size->OwnL lo v' q->OwnL lo v q:=fun q hq hx=>by
  rcases hx with hx|hx
  ·rcases fG with e1|⟨g,e1,e2⟩
   ·left;rw[<-e1];exact hx
   ·rw[e1] at hx;cases hx;omega
  ·exact .inr hx
 refine⟨ps++[(s,u)],by simp[e],?_,fun p af=>?_⟩
 ·rw[List.length_append,List.length_singleton,qfc];exact ho
 ·rcases List.mem_append.1 af with af|af
  ·obtain⟨ips',e1,hi⟩:=hp p af;exact⟨ips',e1,hi.trans hk hy⟩
  ·obtain rfl:p=(s,u):=by simpa using af
   exact⟨bC,hu,hs.trans hk hy⟩
theorem ZE.toE {lo:Nat} {w:World} {v:Value} {xs:List It} (h:ZE lo w v xs) {X:Nat->Prop} (hX:∀ q,lo<=q->¬X q):∃ bC,bC.map (·.1)=xs/\UO X w v bC:=by
 obtain⟨ps,e1,⟨A,c,e2,e3,e4,hr⟩,hp,hf,hg⟩:=h;have el:xs.length=ps.length:=by rw[<-e1,List.length_map]
 rw[el] at e2 e3 hr;refine⟨ps,e1,⟨A,c,e2,e3,e4,fun C hC=>hr.keepFrom zO (fun a ha=>hf a _ _ (by rw[e2,ha])) hC hX⟩,fun p af=>⟨(hp p af).1,fun C hC=>?_⟩⟩;obtain⟨A',c',f1,f2,f3,f4⟩:=(hp p af).2;exact⟨A',c',f1,f2,f3,f4.keepFrom zO (fun a ha=>hg p af a _ _ (by rw[f1,ha])) hC hX⟩
theorem ZE.keepX {X:Nat->Prop} {w C:World} {lo:Nat} {v:Value} {xs:List It} (h:ZE lo w v xs) (hk:Qh X w C) (hX:∀ q,lo<=q->¬X q):Its C C.heap.size v xs:=by obtain⟨bC,rfl,hi⟩:=h.toE hX;exact hi.its hk
def Zi (xs:List It) (k:K3):Nat:=if KX xs k=true then qA xs k else qA xs k-1
theorem qbR (S:Sto) (k:K3) (xs:List It):km S k 0 xs=[(0,xs,qA xs k)]:=rfl
theorem UH {S:Sto} {k:K3} {h:Nat} {xs zs:List It} {y:It} {l:Int} (hy:xs[Zi xs k]?=some y) (hn:qu S y.r.toNat=some (l,zs)):km S k (h+1) xs=(h+1,xs,Zi xs k) :: km S k h zs:=by
 show (h+1,xs,Zi xs k) :: (match xs[Zi xs k]? with
  |none=>[]
  |some y=>match qu S y.r.toNat with
   |none=>[]
   |some (_,ys)=>km S k h ys)=_
 rw[hy];simp only;rw[hn]
theorem jY {xs:List It} {k:K3} (h:0<xs.length):Zi xs k<xs.length:=by
 unfold Zi;have:=Jl xs k;split
 ·rename_i hi;by_cases hl:qA xs k<xs.length
  ·exact hl
  ·rw[Xt hl] at hi;cases hi
 ·omega
theorem qaw {h:Nat} {xs:List It} (hm:Qb (h:Int) xs=true) (h1:0<h):0<xs.length:=by
 rcases Nat.eq_zero_or_pos xs.length with h0|h0
 ·exfalso;have hhd:ZR (h:Int) xs.length=true:=by unfold Qb at hm;simp only[Bool.and_eq_true] at hm;exact hm.1
  unfold ZR at hhd;simp only[decide_eq_true_eq] at hhd;exact hhd.2.2.2 zO h0
 ·exact h0
theorem qaG {S:Sto} {k:K3}:∀ (h:Nat) {xs:List It},Qb (h:Int) xs=true->(qD S h xs).isSome=true->(km S k h xs).length=h+1
 |0,xs,_,_=>rfl
 |h+1,xs,hm,hs=>by have hx:=qaw hm zO;obtain⟨b,e1,-,-,zs,e4,e5⟩:=ZZ (jv hs _ (List.getElem_mem (jY (k:=k) hx)));rw[UH (zL (jY hx)) (by rw[e1,Int.toNat_natCast];exact e4),List.length_cons,qaG h (qN e4).1 e5]
theorem qcp {P:Program} (w:World) (dT sT ty elem:TypeId) (g o dLen dCap:Nat) (a:Addr) (sLen sCap:Nat) (cur:Array Value) (t:TypeId) (cs:List Value) (k:Nat) (hu:P.underlying dT=some (.slice elem)) (hs:(P.info? elem).map (·.size)=some k) (hg:w.heap[g]?=some (.cells cur t (0,0))) (hn:cs.length=Nat.min sLen dLen*k) (ig:∀ j v,cs[j]?=some v->w.cell? (a.add j)=some v) (iE:o+cs.length<=cur.size) (h1:∀ v∈cs,v.oneCell'=true) : (Builtin.copy_ #[dT,sT] ty #[.slice (some ⟨g,o,none⟩) dLen dCap,.slice (some a) sLen sCap]).run P w =
   .ok (.int .i64 (Nat.min sLen dLen:Nat)) (w.setRow g (cur.toList.take o++cs++cur.toList.drop (o+cs.length)).toArray):=by
 have hl:=run_loadCells_list (P:=P) w a cs ig;have aI:=run_storeCells_at P g o t cs 0 cur w hg (by simpa using iE) h1;cases hq:P.info? elem with
 |none=>simp[hq] at hs
 |some i =>
  have hi:i.size=k:=by simpa [hq] using hs
  have hn':min sLen dLen*k=cs.length:=hn.symm;simp[Builtin.copy_,run_underlying hu,Builtin.lenOf,Builtin.firstCells,sizeOf,typeInfo,hq,hi,hn',hl,aI];rfl
theorem take_mid {A V R:List Value} {a b:Nat} (h:A.length+V.length=a+b):(A++V++R).take (a+b)=A++V:=by rw[<-h,<-List.length_append];exact List.take_left
structure RowI (g cap n:Nat) (xs:List Value) (w:World):Prop where
 ex:∃ cur:Array Value,w.heap[g]?=some (.cells cur 68 (0,0))/\cur.size=cap*5/\cur.toList.take (n*5)=xs
theorem RowI.own {lo g cap n:Nat} {xs:List Value} {w:World} (h:RowI g cap n xs w) (hl:xs.length=n*5) (aP:lo<=g) (hn:n<=cap) (hc:cap<=maxLen):w.ownsRow lo 68 5 (.slice (some ⟨g,0,none⟩) n cap) n xs:=by obtain⟨cur,h1,h2,h3⟩:=h.ex;exact⟨hl,.inr ⟨g,cap,cur,rfl,aP,h1,hn,hc,h2,h3⟩⟩
def spl (cur:Array Value) (o:Nat) (cs:List Value):Array Value:=(cur.toList.take (o*5)++cs++cur.toList.drop (o*5+cs.length)).toArray
theorem QY {cur:Array Value} {o k:Nat} {cs:List Value} (hl:cs.length=k*5) (h:(o+k)*5<=cur.size):(spl cur o cs).size=cur.size:=by unfold spl;simp only[List.size_toArray,List.length_append,List.length_take,List.length_drop,Array.length_toList];omega
theorem Jg {P:Program} {W:World} {g o k:Nat} {cur:Array Value} {cs:List Value} {dT sT ty:TypeId} {dLen dCap:Nat} {a:Addr} {sLen sCap:Nat} (hg:W.heap[g]?=some (.cells cur 68 (0,0))) (hl:cs.length=k*5) (h:(o+k)*5<=cur.size) (hu:P.underlying dT=some (.slice 68)) (hs:(P.info? 68).map (·.size)=some 5) (hk:Nat.min sLen dLen=k) (ig:∀ j v,cs[j]?=some v->W.cell? (a.add j)=some v) (h1:∀ v∈cs,v.oneCell'=true) : (Builtin.copy_ #[dT,sT] ty #[.slice (some ⟨g,o*5,none⟩) dLen dCap,.slice (some a) sLen sCap]).run P W=.ok (.int .i64 (k:Nat)) (W.setRow g (spl cur o cs)):=by
 have:=qcp (P:=P) W dT sT ty 68 g (o*5) dLen dCap a sLen sCap cur 68 cs 5 hu hs hg (by rw[hk,hl]) ig zO h1;rw[hk] at this;exact this
theorem XA {cur:Array Value} {o k:Nat} {A cs:List Value} (hA:cur.toList.take (o*5)=A) (hl:cs.length=k*5) (h:(o+k)*5<=cur.size):(spl cur o cs).toList.take ((o+k)*5)=A++cs:=by
 unfold spl;rw[List.toList_toArray,hA,Nat.add_mul];have:A.length=o*5:=by rw[<-hA,List.length_take,Array.length_toList];omega
 exact take_mid zO
theorem qkB {cur:Array Value} {n i m:Nat} {xs vs:List Value} (hc:cur.toList.take (n*5)=xs) (hx:xs.length=n*5) (hv:vs.length=m*5) (hi:i<=n) (h:(n+m)*5<=cur.size) : (spl (spl cur (i+m) (xs.drop (i*5))) i vs).toList.take ((n+m)*5)=xs.take (i*5)++vs++xs.drop (i*5):=by
 have hd:(xs.drop (i*5)).length=(n-i)*5:=by rw[List.length_drop];omega
 have e1:(spl cur (i+m) (xs.drop (i*5))).toList=cur.toList.take ((i+m)*5)++xs.drop (i*5)++cur.toList.drop ((i+m)*5+(xs.drop (i*5)).length):=by unfold spl;rw[List.toList_toArray]
 have pR:(cur.toList.take ((i+m)*5)).length=(i+m)*5:=by rw[List.length_take,Array.length_toList];omega
 have e2:(spl cur (i+m) (xs.drop (i*5))).toList.take (i*5)=xs.take (i*5):=by rw[e1,List.append_assoc,List.take_append_of_le_length zO,List.take_take,Nat.min_eq_left zO,<-hc,List.take_take,Nat.min_eq_left zO]
 have e3:(spl cur (i+m) (xs.drop (i*5))).toList.drop (i*5+vs.length)=xs.drop (i*5)++cur.toList.drop ((i+m)*5+(xs.drop (i*5)).length):=by rw[e1,List.append_assoc];have:i*5+vs.length=(cur.toList.take ((i+m)*5)).length:=zO;rw[this];exact List.drop_left
 generalize hY:spl cur (i+m) (xs.drop (i*5))=Y at *;unfold spl;rw[List.toList_toArray,e2,e3,<-List.append_assoc];have ht:(xs.take (i*5)).length=i*5:=by rw[List.length_take];omega
 have:(n+m)*5=(xs.take (i*5)++vs++xs.drop (i*5)).length:=by simp only[List.length_append];omega
 rw[this];exact List.take_left
set_option maxRecDepth 100000 in
theorem qfz (A:Option Addr) (n c:Nat) (us:List Value) (hn:n<1073741824) (h1:∀ u∈us,u.oneCell'=true) (w:World) (hr:Rd w w.heap.size 5 A n us):Calls prog 102 #[.slice A n c] w (Za (fun u w'=>w'.ownsRow w.heap.size 68 5 u n us) w):=by
 obtain⟨i0,hi,ag,aU,aW⟩:=info_parts Tryz.info_item;have qn:∀ (w:World) (a:Option Addr) (n c n' c':Nat),(binOp .eql 47 (.slice a n c) (.slice none n' c')).run prog w=.ok (.bool a.isNone) w:=fun w a n c n' c'=>Lib.run_eql_slice_nil w _ _ a n c n' c' underlying47;rcases A with _|⟨b,off,p⟩
 ·have h0:n=0:=by
   rcases Nat.eq_zero_or_pos n with h|h
   ·exact h
   ·obtain⟨b,off,h,_⟩:=hr.2 h;cases h
  subst h0;obtain rfl:us=[]:=List.eq_nil_of_length_eq_zero (by simpa using hr.1);go_enter func102,ntmps102;go_wp2;go_ret;exact⟨_,rfl,World.ownsRow_nil _ _ _ _,Below.refl _ _⟩
 ·go_enter func102,ntmps102;go_wp2_with (at_builtin;refine Qf ?_);refine QC.go (Qw _ rfl (.tmp 5) (.tmp 6) 47 rfl w.heap.size 68 i0 _ 5 48 underlying47 hi ag aU aW rfl zD _ 0 [] rfl ?_ w.heap.size _ n c us zE ?_ h1 zO zD zA2 ?_)
  ·exact World.ownsRow_lit w #[] 0 (zM _) (by simp[maxLen]) rfl
  ·exact hr.keep fun p hp=>World.cell?_alloc_lt w _ p hp
  ·intro v' w' aB _ hb _;simp only[Nat.zero_add,List.nil_append] at aB;go_wp2;go_ret;exact⟨_,rfl,aB,Below.trans ((Below.refl _ _).alloc (zM _) _) hb⟩
def YH (lo:Nat) (s:Value) (k:Nat) (ys:List Value) (w:World) (e:Ending) (W:World):Prop:=∃ v',e=.returned v'/\W.ownsRow lo 68 5 v' k ys/\Below lo w W/\∀ q,q<w.heap.size->s.ownBlock≠some q->W.heap[q]?=w.heap[q]?
theorem Zc {lo g:Nat} {w W:World} (h:Below lo w W) (aP:lo<=w.heap.size) (hg:lo<=g) (cur:Array Value):Below lo w (W.setRow g cur):=
 h.grown (UA W g cur) (by have:=h.size;omega) (fun k hk=>by cases hk;exact hg)
theorem qeL {w:World} {lo m c g:Nat} {e:TypeId} {vs:List Value} (h:w.ownsRow lo e 5 (.slice (some ⟨g,0,none⟩) m c) m vs):∀ j u,vs[j]?=some u->w.cell? ((⟨g,0,none⟩:Addr).add j)=some u:=fun j u hu=>by
 rcases h.2 with ⟨h0,_⟩|⟨g',cap,cur,hv,hb,hg,iI,_,hsz,oI⟩
 ·cases h0
 ·cases hv;rw[Addr.add_lit,Nat.zero_add,qa hg,<-Array.getElem?_toList];rw[<-oI,List.getElem?_take] at hu;split at hu
  ·exact hu
  ·cases hu
theorem Gy (ps:List (It×Value)):∀ k,qY (ps.drop k)=(qY ps).drop (k*5):=by
 induction ps with
 |nil=>intro k;simp[qY]
 |cons p r ih =>
  intro k;rcases k with _|k
  ·simp[qY]
  ·rw[List.drop_succ_cons,show (k+1)*5=k*5+1+1+1+1+1 by omega];simp only[qY,List.drop_succ_cons,ih k]
theorem qaP (ps:List (It×Value)) (h:∀ p∈ps,p.2.oneCell'=true):∀ u∈qY ps,u.oneCell'=true:=by
 induction ps with
 |nil=>intro u hu;cases hu
 |cons p r ih =>
  intro u hu;simp only[qY,List.mem_cons] at hu;rcases hu with rfl|rfl|rfl|rfl|rfl|hu
  ·rfl
  ·rfl
  ·rfl
  ·rfl
  ·exact h p List.mem_cons_self
  ·exact ih (fun q hq=>h q (List.mem_cons_of_mem _ hq)) u hu
theorem Its.take {w:World} {B b off n c:Nat} {xs:List It} (h:Its w B (.slice (some ⟨b,off,none⟩) n c) xs) {k:Nat} (hk:k<=xs.length):Its w B (.slice (some ⟨b,off,none⟩) k c) (xs.take k):=by
 obtain⟨ps,rfl,⟨A,c',e,h1,h2,hr⟩,hp⟩:=h;cases e;have hk':k<=ps.length:=by simpa using hk
 refine⟨ps.take k,by rw[List.map_take],⟨_,c,by rw[List.length_take,Nat.min_eq_left hk],by rw[List.length_take];omega,h2,?_⟩,fun p af=>hp p (List.mem_of_mem_take af)⟩;rw[List.length_take,Nat.min_eq_left hk];rw[<-Gz];refine⟨by rw[List.length_take,hr.1,List.length_map];omega,fun hn=>?_⟩;obtain⟨b',off',e,hb,hc⟩:=hr.2 zO;exact⟨b',off',e,hb,fun j u hu=>hc j u (by rw[List.getElem?_take] at hu;split at hu;exact hu;cases hu)⟩
theorem Its.drop {w:World} {B b off n c:Nat} {xs:List It} (h:Its w B (.slice (some ⟨b,off,none⟩) n c) xs) {k:Nat} (hk:k<xs.length):Its w B (.slice (some ⟨b,off+k*5,none⟩) (n-k) (c-k)) (xs.drop k):=by
 obtain⟨ps,rfl,⟨A,c',e,h1,h2,hr⟩,hp⟩:=h;cases e;have hk':k<ps.length:=by simpa using hk
 refine⟨ps.drop k,by rw[List.map_drop],⟨_,c-k,by rw[List.length_drop],by rw[List.length_drop];omega,zO,?_⟩,fun p af=>hp p (List.mem_of_mem_drop af)⟩;rw[List.length_drop,Gy];refine⟨by rw[List.length_drop,hr.1,List.length_map];omega,fun hn=>?_⟩;obtain⟨b',off',e,hb,hc⟩:=hr.2 zO;cases e;exact⟨b,off+k*5,rfl,hb,fun j u hu=>by rw[List.getElem?_drop] at hu;rw[Nat.add_assoc];exact hc _ _ hu⟩
theorem kh.take {X:Nat->Prop} {w:World} {b off n c:Nat} {xs:List It} (h:kh X w (.slice (some ⟨b,off,none⟩) n c) xs) {k:Nat} (hk:k<=xs.length):kh X w (.slice (some ⟨b,off,none⟩) k c) (xs.take k):=fun C hC=>(h C hC).take hk
theorem kh.drop {X:Nat->Prop} {w:World} {b off n c:Nat} {xs:List It} (h:kh X w (.slice (some ⟨b,off,none⟩) n c) xs) {k:Nat} (hk:k<xs.length):kh X w (.slice (some ⟨b,off+k*5,none⟩) (n-k) (c-k)) (xs.drop k):=fun C hC=>(h C hC).drop hk
theorem Bch.notB3 {D:Nat->Prop} {B lo b g:Nat} {k:Option Nat} {S:Sto} {w:World} (h:Bch D B lo b g k S w) {q:Nat} {cs:Array Value} {ty:TypeId} {fr:Nat×Nat} (hr:w.heap[q]?=some (.cells cs ty fr)) (h1:ty≠191) (h2:ty≠5) (h3:ty≠130):¬B3 b g k q:=fun hx=>by
 obtain⟨A1,n1,c1,v2,c3,A4,c4,xO,ho,⟨ps,_,hw,_⟩,_,_⟩:=h.ex;rcases hx with e|e|e
 ·subst e;rw[hr] at xO;simp only[Option.some.injEq,Obj.cells.injEq] at xO;exact h1 xO.2.1
 ·subst e;obtain⟨cur,hg⟩:=ja ho (q:=q) rfl;rw[hr] at hg;simp only[Option.some.injEq,Obj.cells.injEq] at hg;exact h2 hg.2.1
 ·rcases hw with ⟨e1,_⟩|⟨q',e1,e2,how⟩
  ·rw[e1] at e;cases e
  ·rw[e1] at e;cases e;obtain⟨cur,hg⟩:=ja how e2;rw[hr] at hg;simp only[Option.some.injEq,Obj.cells.injEq] at hg;exact h3 hg.2.1
def upV (ups:List It):List (It×Value):=ups.map fun x=>(x,.slice none 0 0)
theorem upV_item (ups:List It) (x:It):qY (upV (ups++[x]))=qY (upV ups)++[.int .u8 x.k,.int .u32 x.i,.int .u32 x.o,.int .i64 x.r,.slice none 0 0]:=by unfold upV;rw[List.map_append,vw];rfl
theorem qib {t:List UInt8} {a:Nat} {e:Int} (h:JR t a=.error e):e≠0:=by
 unfold JR at h;split at h
 ·cases h
 ·split at h
  ·cases h;decide
  ·split at h
   ·cases h;decide
   ·cases h
theorem qbI:∀ {l:List Nat} {t:List UInt8} {e:Int},ZC l t=.error e->e≠0
 | [],t,e,h=>by cases h
 |a :: l,t,e,h=>by
  simp only[ZC] at h;split at h
  ·rename_i e' h';cases h;exact qib h'
  ·exact qbI h
theorem Xu {S:Sto} {lvl:Int} {its:List It} {e:Int} (h:Zz S lvl its=.error e):e≠0:=by
 unfold Zz at h;split at h
 ·split at h
  ·rename_i e' h';cases h;exact qbI h'
  ·split at h
   ·cases h;decide
   ·cases h
 ·cases h;decide
theorem Yc (lvl:Int):∀ (ps qs:List (List It)) (S:Sto),jf lvl (ps++qs) S=match jf lvl ps S with
  | .error e=>.error e
  | .ok (up,S')=>match jf lvl qs S' with
   | .error e=>.error e
   | .ok (up',S'')=>.ok (up++up',S'')
 | [],qs,S=>by simp only[List.nil_append,jf];rcases jf lvl qs S with e|⟨up,S'⟩ <;> rfl
 |p :: ps,qs,S=>by
  simp only[List.cons_append,jf];rcases Zz S lvl p with e|⟨f,S'⟩
  ·rfl
  ·simp only;rw[Yc lvl ps qs S'];rcases jf lvl ps S' with e|⟨up,S''⟩
   ·rfl
   ·simp only;rcases jf lvl qs S'' with e|⟨up',S3⟩ <;> rfl
theorem qkb (lvl:Int) (p:List It) (S:Sto):jf lvl [p] S=match Zz S lvl p with
  | .error e=>.error e
  | .ok (f,S')=>.ok ([qan (kj p) f],S'):=by
 simp only[jf] <;> (rcases Zz S lvl p with e|⟨f,S'⟩ <;> rfl)
theorem qka {lvl:Int} {ps:List (List It)} {j:Nat} (hj:j<ps.length) {S S':Sto} {up:List It} {e:Int} (h:jf lvl (ps.take j) S=.ok (up,S')) (h1:Zz S' lvl ps[j]=.error e):jf lvl ps S=.error e:=by
 have:ps=ps.take j++(ps[j] :: ps.drop (j+1)):=by rw[<-List.drop_eq_getElem_cons hj,List.take_append_drop]
 rw[this,Yc,h];simp only[jf];rw[h1]
theorem qhD {lvl:Int} {ps:List (List It)} {j:Nat} (hj:j<ps.length) {S S' S'':Sto} {up:List It} {f:Nat} (h:jf lvl (ps.take j) S=.ok (up,S')) (h1:Zz S' lvl ps[j]=.ok (f,S'')):jf lvl (ps.take (j+1)) S=.ok (up++[qan (kj ps[j]) f],S''):=by rw[List.take_succ_eq_append_getElem hj,Yc,h];simp only;rw[qkb,h1]
theorem qhC {its:List It} (k:Nat):qT its=qT (its.take k)++qT (its.drop k):=by unfold qT;rw[<-List.map_append,List.take_append_drop]
theorem qbe {its:List It} {k:Nat} (hk:k<its.length) {t t':List UInt8} (h:QJ (qT (its.take k)) t=.ok t') (h0:its[k].r.toNat≠0) (h1:qZ t' its[k].r.toNat=0):QJ (qT its) t=.error 6:=by rw[qhC (its:=its) k,Ji,h];simp only;rw[List.drop_eq_getElem_cons hk];exact vk h0 h1 _
theorem GP {its:List It} {k:Nat} (hk:k<its.length) {t t':List UInt8} (h:QJ (qT (its.take k)) t=.ok t') (h0:its[k].r.toNat≠0) (h1:qZ t' its[k].r.toNat≠0):QJ (qT (its.take (k+1))) t=.ok (kZ t' its[k].r.toNat):=by rw[kM hk,Ji,h];simp only;rw[JC h0 h1];rfl
theorem GQ {its:List It} {k:Nat} (hk:k<its.length) {t t':List UInt8} (h:QJ (qT (its.take k)) t=.ok t') (h0:its[k].r.toNat=0):QJ (qT (its.take (k+1))) t=.ok t':=by rw[kM hk,Ji,h];simp only;rw[h0,JD];rfl
structure SM (S S':Sto):Prop where
 node:∀ r nd,qu S r=some nd->qu S' r=some nd
 pos:∀ r:Nat,0<(S.now[r]?.getD 0).toNat->0<(S'.now[r]?.getD 0).toNat
theorem To {one one':It->Option (K3×K3)} (h:∀ y p,one y=some p->one' y=some p):∀ (xs:List It) (a:Option (Option (K3×K3))) (q:Option (K3×K3)),xs.foldl (jF one) a=some q->xs.foldl (jF one') a=some q
 | [],_,_,e=>e
 |x :: r,a,q,e=>by
  simp only[List.foldl_cons] at e ⊢;have hs:=(UU one r (jF one a x) (by rw[e];rfl)).1;have e2:jF one' a x=jF one a x:=by
   unfold jF at hs ⊢;rcases a with _|a
   ·rfl
   ·rcases hx:one x with _|p
    ·rw[hx] at hs;cases hs
    ·rw[h x p hx]
  rw[e2];exact To h r _ q e
section
variable {S S':Sto}
theorem SM.one (hm:SM S S'):∀ (h:Nat) (y:It) (p:K3×K3),jr S h y=some p->jr S' h y=some p
 |0,y,p,e=>by
  unfold jr at e ⊢;split at e
  ·rename_i hc;rw[if_pos (hc.imp id (hm.pos _))];exact e
  ·cases e
 |h+1,y,p,e=>by
  rw[Vv] at e ⊢;unfold Va at e ⊢;split at e
  ·rename_i hr;rw[if_pos hr];rcases hn:qu S y.r.toNat with _|⟨lvl,xs⟩
   ·rw[hn] at e;cases e
   ·rw[hn] at e;rw[hm.node _ _ hn];simp only at e ⊢;split at e
    ·rename_i hl;rw[if_pos hl];rcases hs:qD S h xs with _|q
     ·rw[hs] at e;cases e
     ·rw[hs] at e;have h2:qD S' h xs=some q:=To (SM.one hm h) xs _ q hs;rw[h2];exact e
    ·cases e
  ·cases e
theorem SM.span (hm:SM S S') {h:Nat} {xs:List It} {q:Option (K3×K3)} (e:qD S h xs=some q):qD S' h xs=some q:=To (hm.one h) xs _ q e
theorem SM.spanOk (hm:SM S S') {h:Nat} {xs:List It} (e:(qD S h xs).isSome=true):(qD S' h xs).isSome=true:=by obtain⟨q,hq⟩:=Option.isSome_iff_exists.1 e;rw[hm.span hq];rfl
theorem SM.okL (hm:SM S S') {L r:Int} (e:okL S L r=true):okL S' L r=true:=by
 unfold Go.Proofs.YtpbniokljofedaaGreat.okL at e ⊢;split at e
 ·rename_i hr;rw[if_pos hr];rcases hn:qu S r.toNat with _|⟨lvl,xs⟩
  ·rw[hn] at e;cases e
  ·rw[hn] at e;rw[hm.node _ _ hn];simp only[Bool.and_eq_true] at e ⊢;exact⟨hm.spanOk e.1,e.2⟩
 ·cases e
theorem SM.items (hm:SM S S'):∀ (h:Nat) (xs:List It),(qD S h xs).isSome=true->qC S' h xs=qC S h xs
 |0,_,_=>rfl
 |h+1,xs,e=>by unfold qC;rw[List.flatMap_def,List.flatMap_def];congr 1;refine List.map_congr_left fun y hy=>?_;obtain⟨b,hb,_,_,ys,hn,hs⟩:=ZZ (jv e y hy);rw[hb,Int.toNat_natCast,hm.node _ _ hn,hn];exact SM.items hm h ys hs
theorem SM.vols (hm:SM S S') {root next:Int} {vs:List Vol} (ht:Go.Proofs.YtpbniokljofedaaGreat.okL S (-1) root=true) (e:vt S root next=some vs):vt S' root next=some vs:=by
 unfold vt at e ⊢;unfold Go.Proofs.YtpbniokljofedaaGreat.okL at ht;split at ht
 ·rcases hn:qu S root.toNat with _|⟨lvl,xs⟩
  ·rw[hn] at e;cases e
  ·rw[hn] at e ht;rw[hm.node _ _ hn];simp only[Bool.and_eq_true] at e ht ⊢;rw[hm.items _ _ ht.1];exact e
 ·cases ht
end
def qds (S:Sto) (root next:Int) (dead:List Int) (w:World) (e:Ending) (w':World):Prop:=Below w.heap.size w w' /\
 ((e=.returned (.int .i64 8)/\∀ vs,Qg S root next dead vs->∃ refs nodes,qX S (Qs root dead vs) refs nodes/\¬QF S refs) \/
  (e=.returned (.int .i64 0)/\∃ vs refs nodes,Qg S root next dead vs/\qX S (Qs root dead vs) refs nodes/\QF S refs))
theorem qbt {R:Ending->World->Prop} {a:Act} {W:World} {u:Value} (h2:a.tmps[2]?.getD undef=u) (hd:a.defers=[]) (hR:R (.returned u) W):bodyPost prog Tryz.f20 R .ret a W:=by refine bodyPost_ret (v:=u) ?_ hd hR;simp[results,results20,go_sem,h2]
set_option maxRecDepth 100000 in
theorem qhP (A1:Option Addr) (n1 c1:Nat) (A2:Option Addr) (n2 c2:Nat) (A3:Option Addr) (n3 c3:Nat) (A4:Option Addr) (n4 c4:Nat) (gen root next:Int) (A5:Option Addr) (c5:Nat) (S:Sto) (dead:List Int) (w:World) (h:qU w w.heap.size (.slice A1 n1 c1) (.slice A2 n2 c2) (.slice A3 n3 c3) (.slice A4 n4 c4) S) (hd:Zw w w.heap.size (.slice A5 dead.length c5) dead):Calls prog 20 #[.agg (qF (.slice A1 n1 c1) (.slice A2 n2 c2) (.slice A3 n3 c3) (.slice A4 n4 c4) gen root next (.slice A5 dead.length c5))] w (qds S root next dead w):=by
 have HT:=zH (fun W (hx:Ext w W)=>KB A1 n1 c1 A2 n2 c2 A3 n3 c3 A4 n4 c4 gen root next A5 c5 S dead W (h.ext hx) (by obtain⟨A,c,e,q1,q2,q3⟩:=hd;exact⟨A,c,e,q1,q2,(q3.below hx).more hx.size⟩));clear h hd;go_enter func20,ntmps20;go_wp2_with fail;generalize aA:World.alloc w _=w1;have x1:Ext w w1:=by rw[<-aA];exact zN _ _
 clear aA;refine(HT.out w1 x1).mono ?_;rintro e w2 ⟨hB,hQ⟩;have x2:Below w.heap.size w w2:=Ext.trans x1 hB;rcases hQ with ⟨rfl,aX⟩|⟨vs,refs,nodes,cb,ca,vv,rfl,hT⟩
 ·have HB:qds S root next dead w (.returned (.int .i64 8)) w2:=⟨x2,.inl ⟨rfl,aX⟩⟩
  replace HB:=zH HB;clear aX hB;go_wp2_with fail;exact qbt rfl rfl HB.out
 ·have HB:qds S root next dead w (.returned (.int .i64 0)) w2:=⟨x2,.inr ⟨rfl,vs,refs,nodes,hT.pool,hT.cnt,hT.enough⟩⟩
  replace HB:=zH HB;clear hT hB;go_wp2_with fail;exact qbt rfl rfl HB.out
theorem rowI_one (l:List Int):∀ u∈Gj l,u.oneCell'=true:=by intro u hu;obtain⟨a,_,rfl⟩:=List.mem_map.1 hu;rfl
theorem Zw.of_own {w:World} {base:Nat} {v:Value} {l:List Int} (h:w.ownsRow base 3 1 v l.length (Gj l)):Zw w w.heap.size v l:=by
 obtain⟨A,c,rfl,hc,hm⟩:=qz h;refine⟨A,c,rfl,hc,hm,zA2,fun hn=>?_⟩;rcases h.2 with ⟨_,h0⟩|⟨g,cap,cur,e,_,hr,_⟩
 ·omega
 ·simp only[Value.slice.injEq] at e;obtain⟨rfl,-,rfl⟩:=e;exact⟨g,0,rfl,(zG.1 hr).1,fun j u hu=>by have h5:=h.cells (g:=g) rfl j u hu;rw[Nat.zero_add];unfold Addr.add at h5;split at h5 <;> simp_all⟩
theorem Zw.more {w:World} {B B':Nat} {v:Value} {l:List Int} (h:Zw w B v l) (hb:B<=B'):Zw w B' v l:=by obtain⟨A,c,e,hc,hm,hr⟩:=h;exact⟨A,c,e,hc,hm,hr.more hb⟩
theorem Zw.ext_ {w W:World} {v:Value} {l:List Int} (h:Zw w w.heap.size v l) (hx:Ext w W):Zw W W.heap.size v l:=by obtain⟨A,c,e,hc,hm,hr⟩:=h;exact⟨A,c,e,hc,hm,(hr.below hx).more hx.size⟩
set_option maxRecDepth 100000 in
theorem qhm (v:Value) (l:List Int) (hl:l.length<1073741824) (w:World) (h:Zw w w.heap.size v l):Calls prog 56 #[v] w (Za (fun u w'=>w'.ownsRow w.heap.size 3 1 u l.length (Gj l)) w):=by
 obtain⟨i0,hi,ag,aU,aW⟩:=info_parts Tryz.info_int;obtain⟨A,c,rfl,hc,hm,hr⟩:=h;have qn:∀ (w:World) (a:Option Addr) (n c n' c':Nat),(binOp .eql 30 (.slice a n c) (.slice none n' c')).run prog w=.ok (.bool a.isNone) w:=fun w a n c n' c'=>Lib.run_eql_slice_nil w _ _ a n c n' c' underlying30;rcases A with _|⟨b,off,p⟩
 ·have h0:l=[]:=by
   rcases l with _|⟨x,r⟩
   ·rfl
   ·obtain⟨b,off,h,_⟩:=hr.2 zA2;cases h
  subst h0;go_enter func56,ntmps56;go_wp2;go_ret;exact⟨_,rfl,World.ownsRow_nil _ _ _ _,Below.refl _ _⟩
 ·go_enter func56,ntmps56;go_wp2_with (at_builtin;refine Qf ?_);refine QC.go (Qw _ rfl (.tmp 5) (.tmp 6) 30 rfl w.heap.size 3 i0 (.int .i64 0) 1 8 underlying30 hi ag aU aW rfl zD _ 0 [] rfl ?_ w.heap.size _ l.length c (Gj l) zE ?_ (rowI_one l) zO zD zA2 ?_)
  ·exact World.ownsRow_lit w #[] 0 (zM _) (by simp[maxLen]) rfl
  ·exact hr.keep fun p hp=>World.cell?_alloc_lt w _ p hp
  ·intro v' w' aB _ hb _;simp only[Nat.zero_add,List.nil_append] at aB;go_wp2;go_ret;exact⟨_,rfl,aB,Below.trans ((Below.refl _ _).alloc (zM _) _) hb⟩
theorem ints_at (l:List Nat) {k:Nat} (hk:k<l.length):(Ja l)[k]?=some (.int .i64 (l[k]:Int)):=by unfold Ja;rw[List.getElem?_map,zL hk];rfl
def IxP (l:List Nat) (x:Nat) (u:Value):Prop:=(x∈l/\∃ j:Nat,j<l.length/\u=.int .i64 (j:Int))\/(x∉l/\u=.int .i64 (-1))
theorem ix_ret {R:Ending->World->Prop} {a:Act} {W:World} {u:Value} (h4:a.tmps[4]?.getD undef=u) (hd:a.defers=[]) (hR:R (.returned u) W):bodyPost prog Tryz.f164 R .ret a W:=by refine bodyPost_ret (v:=u) ?_ hd hR;simp[results,results164,go_sem,h4]
set_option maxRecDepth 100000 in
theorem qjT (A:Option Addr) (c:Nat) (l:List Nat) (hl:l.length<=1000000) (x:Nat) (w:World) (h:Rd w w.heap.size 1 A l.length (Ja l)):Calls prog 164 #[.slice A l.length c,.int .i64 (x:Int)] w (fun e W=>∃ u,e=.returned u/\IxP l x u/\W=w):=by
 replace h:=zH h;go_enter func164,ntmps164;go_wp2_with fail;go_loopw [8] (fun i wr=>∃ k:Nat,k<=l.length/\i=.int .i64 (k:Int)/\wr=w/\∀ j (hj:j<l.length),j<k->l[j]≠x) (fun i _=>l.length-(intOf i).toNat)
 case atStart=>exact⟨0,Nat.zero_le _,rfl,rfl,fun j _ hj=>absurd hj (Nat.not_lt_zero _)⟩
 case round =>
  obtain⟨k,hk,rfl,rfl,aX⟩:=hrel;replace aX:=zH aX;by_cases hlt:k<l.length
  ·obtain⟨b,o,rfl,hb,aC⟩:=h.out.2 zO;have hc:=aC k _ (ints_at l hlt);have HNO:=zH (fun (he:l[k]≠x) j (hj:j<l.length) (hjk:j<k+1)=>by
    rcases Nat.lt_or_ge j k with h1|h1
    ·exact aX.out j hj h1
    ·obtain rfl:j=k:=zO;exact he)
   have HY:=zH (fun (he:l[k]=x)=>(⟨he ▸ List.getElem_mem hlt,k,hlt,rfl⟩:x∈l/\∃ j:Nat,j<l.length/\(Value.int .i64 (k:Int))=.int .i64 (j:Int)));have hw:=zH (IntWalk.wrap64_in ((k:Int)+1) zO);generalize l[k]=y at *;clear aC;by_cases he:y=x
   ·have z1:((x:Int) == (y:Int))=true:=by rw[beq_iff_eq];omega
    have hQ:=zH (HY.out he);clear HNO HY;replace he:=zH he;go_wp2_with fail;exact ix_ret rfl rfl ⟨_,rfl,.inl hQ.out,rfl⟩
   ·have z1:((x:Int) == (y:Int))=false:=by rw[beq_eq_false_iff_ne];omega
    have hQ:=zH (HNO.out he);clear HNO HY;replace he:=zH he;have hw':=hw.out;go_wp2_with fail;refine⟨⟨k+1,hlt,rfl,trivial,fun j hj hjk=>hQ.out j hj hjk⟩,?_⟩;simp[intOf];omega
  ·obtain rfl:k=l.length:=zO;have hQ:x∉l:=fun hx=>by obtain⟨j,hj,e⟩:=List.mem_iff_getElem.1 hx;exact aX.out j hj hj e
   replace hQ:=zH hQ;go_wp2_with fail;exact ix_ret rfl rfl ⟨_,rfl,.inr ⟨hQ.out,rfl⟩,rfl⟩
set_option maxRecDepth 100000 in
theorem has_any (A:Option Addr) (c:Nat) (l:List Nat) (hl:l.length<=1000000) (x:Nat) (w:World) (h:Rd w w.heap.size 1 A l.length (Ja l)):Calls prog 128 #[.slice A l.length c,.int .i64 (x:Int)] w (fun e W=>e=.returned (.bool (decide (x∈l)))/\W=w):=by
 have HI:=zH (qjT A c l hl x w h);clear h;go_enter func128,ntmps128;go_wp2_with fail;refine HI.out.mono ?_;clear HI;rintro e W ⟨u,rfl,hu,rfl⟩;rcases hu with ⟨h1,j,hj,rfl⟩|⟨h1,rfl⟩
 ·have z1:decide ((j:Int)≥0)=true:=decide_eq_true zO;replace h1:=zH h1;go_wp2_with fail;go_ret;exact⟨by rw[decide_eq_true h1.out];rfl,rfl⟩
 ·replace h1:=zH h1;go_wp2_with fail;go_ret;exact⟨by rw[decide_eq_false h1.out];rfl,rfl⟩
def qdJ (S:Sto) (refs:Nat->Nat):Bool:=(List.range 256).all fun a=>decide (refs a<=(S.now[a]?.getD 0).toNat)
theorem qfs (S:Sto) (refs:Nat->Nat):qdJ S refs=true↔QF S refs:=by unfold qdJ QF;rw[List.all_eq_true];exact⟨fun h a ha=>of_decide_eq_true (h a (List.mem_range.2 ha)),fun h a ha=>decide_eq_true (h a (List.mem_range.1 ha))⟩
theorem Qg.same {S:Sto} {root next:Int} {dead:List Int} {vs vs':List Vol} (h:Qg S root next dead vs) (h':Qg S root next dead vs'):vs=vs':=by have:=h.vols;rw[h'.vols] at this;cases this;rfl
end Go.Proofs.YtpbniokljofedaaGreat
