/- Lemmas of the proof. -/
import Derived.Test.YtmeadnlmepcmbaaGreatZS26
set_option linter.all false
set_option maxHeartbeats 8000000
open Go.Proofs.Tryz
open Go.Value renaming slice→E,int→I,tuple→Od
open Option renaming some→F,none→M
open Bool renaming true→J,false→Oe
open Go.World renaming setCell→O,alloc→Z
open Go.IntKind renaming u32→U,i64→Jx
open Go renaming Value→Oa,World→Of
open Go.Obj renaming cells→Ob
open Go.Ending renaming returned→Oc
namespace Go.Proofs.YtmeadnlmepcmbaaGreat
open Go.RowKit
variable {o:Option (Nat×Sto)}{R:Ending->World->Prop}{a:Act}{W W' w w':World}{x0 x1 x2 u v:Value}{lo B B' n:Nat}{S:Sto}{root next id er er0:Int}{dead:List Int}{e:Ending}{ls:List (List UInt8)}{X:Vol->Prop}{vs:List Vol}
section
variable {S:Sto} {gen root next:Int} {dead:List Int}
theorem QS.notC{vs:List Vol}{met refs:List Nat}(h:XK S root next dead=F (vs,met,refs))(hb:QS S root next dead):False:=QS.not hb h
def setC(S:Sto)(root next:Int)(dead:List Int)(v:Vol):Option (Nat×Sto×List Vol):=match XK S root next dead with
 |none=>M
 |some (vs,_,refs)=>if jC S next v vs (λb=>refs.count b)=0 then match setE S root v with
   |.error _=>M
   |.ok (r,S')=>match XK S' (r:Int) next dead with
    |none=>M
    |some (vs',_,_)=>F (r,S',vs')
  else M
theorem qlr{v:Vol}{r:Nat}{S':Sto}{vs':List Vol}(h:setC S root next dead v=F (r,S',vs')):∃vs met refs met' refs',XK S root next dead=F (vs,met,refs)/\jC S next v vs (λb=>refs.count b)=0/\setE S root v=.ok (r,S')/\XK S' (r:Int) next dead=F (vs',met',refs'):=by
 unfold setC at h;split at h
 ·cases h
 ·rename_i vs met refs hp;split at h
  ·rename_i hf;split at h
   ·cases h
   ·rename_i r1 S1 he;split at h
    ·cases h
    ·rename_i vs1 met1 refs1 hp1;cases h;exact⟨vs,met,refs,met1,refs1,hp,hf,he,hp1⟩
  ·cases h
theorem qiH{v:Vol}{r:Nat}{S':Sto}{vs':List Vol}(h:setC S root next dead v=F (r,S',vs')){er:Int}(hne:er≠0)(hE:UL S root next dead v er):False:=by
 obtain⟨vs,met,refs,met',refs',hp,hf,he,hp'⟩:=qlr h;obtain⟨h1,h2,h3⟩:=YL hp;rcases hE with⟨_,hb⟩|⟨vs1,refs1,nodes1,k1,k2,k3,hE⟩
 ·exact hb.not hp
 ·obtain⟨rfl,rfl,-⟩:=Qy.unique h1 h2 k1 k2;rcases hE with e|⟨_,e|⟨_,r2,S2,e,hb⟩⟩
  ·rw[hf]at e;exact hne e.symm
  ·rw[he]at e;cases e
  ·rw[he]at e;cases e;exact hb.not hp'
theorem qcf{v:Vol}{r r1:Nat}{S' S1:Sto}{vs' vs1:List Vol}(h:setC S root next dead v=F (r,S',vs'))(hO:qaV S root next dead v r1 S1 vs1):r1=r/\S1=S'/\vs1=vs':=by obtain⟨vs,met,refs,met',refs',hp,hf,he,hp'⟩:=qlr h;obtain⟨_,_,_,_,_,_,_,e,refs9,nodes9,k1,k2,_⟩:=hO;rw[he]at e;cases e;obtain⟨h1,h2,h3⟩:=YL hp';obtain⟨rfl,_,_⟩:=Qy.unique h1 h2 k1 k2;exact⟨rfl,rfl,rfl⟩
def qbY(S:Sto)(root next:Int)(dead:List Int):Option (Nat×Sto):=match XK S root next dead with
 |none=>M
 |some (vs,_,_)=>if vs.length<16/\next<4294967295 then match Xo S with
   |.error _=>M
   |.ok (ra,S1)=>match setC S1 root (next+1) dead (newV next ra) with
    |none=>M
    |some (r,S2,_)=>if jc S2=0 then F (r,S2)else M
  else M
theorem qjr{r:Nat}{S2:Sto}(h:qbY S root next dead=F (r,S2)){w w':Of}{e:Ending}(hQ:CreQ S gen root next dead w e w'):Below w.heap.size w w'/\∃u,e=Oc (Od #[u,I U next,I Jx 0])/\Jp w.heap.size S2 gen (r:Int) (next+1) dead u w':=by
 unfold qbY at h;split at h
 ·cases h
 ·rename_i vs met refs hp;split at h
  ·rename_i hl;split at h
   ·cases h
   ·rename_i ra S1 hn;split at h
    ·cases h
    ·rename_i r1 S3 vs3 hs;split at h
     ·rename_i hr;cases h;obtain⟨h1,h2,h3⟩:=YL hp;refine⟨hQ.1,?_⟩;rcases hQ.2 with⟨er,hne,_,hE⟩|⟨vs1,refs1,nodes1,ra1,T1,r9,T2,vs9,u,k1,k2,k3,k4,k5,k6,k7,k8,rfl,k9⟩
      ·exfalso;rcases hE with⟨_,hb⟩|⟨vs1,refs1,nodes1,k1,k2,k3,hE⟩
       ·exact hb.not hp
       ·obtain⟨rfl,rfl,-⟩:=Qy.unique h1 h2 k1 k2;rcases hE with⟨_,e|e⟩|e|⟨ra1,T1,e,hE⟩
        ·omega
        ·omega
        ·rw[hn]at e;cases e
        ·rw[hn]at e;cases e;rcases hE with hE|⟨r9,T2,vs9,hO,e⟩
         ·exact qiH hs hne hE
         ·obtain⟨rfl,rfl,rfl⟩:=qcf hs hO;exact hne (e.symm.trans hr)
      ·rw[hn]at k6;cases k6;obtain⟨rfl,rfl,rfl⟩:=qcf hs k7;exact⟨u,rfl,k9⟩
     ·cases h
  ·cases h
def vputC(S:Sto)(root next:Int)(dead:List Int)(id:Int)(x:It):Option (Nat×Sto):=match XK S root next dead with
 |none=>M
 |some (vs,_,_)=>match zF vs id with
  |none=>M
  |some v=>if v.fz=Oe/\itB x.r x.val.length=J/\x.r=0/\zY S v.root=0 then match Um (Zf S v.root) v.root.toNat x with
    |.error _=>M
    |.ok (r2,S2)=>match setC S2 root next dead (TG v r2) with
     |none=>M
     |some (r3,S3,_)=>match jX S3 v.root with
      |.error _=>M
      |.ok S4=>if jc S4=0 then F (r3,S4)else M
   else M
theorem vputC_ok{id:Int}{x:It}{r:Nat}{S4:Sto}(h:vputC S root next dead id x=F (r,S4)){w w':Of}{e:Ending}(hQ:qgR S gen root next dead id x w e w'):Below w.heap.size w w'/\∃u,e=Oc (Od #[u,I Jx 0])/\Jp w.heap.size S4 gen (r:Int) next dead u w':=by
 unfold vputC at h;split at h
 ·cases h
 ·rename_i vs met refs hp;split at h
  ·cases h
  ·rename_i v hv;split at h
   ·rename_i hc;obtain⟨c1,c2,c3,c4⟩:=hc;split at h
    ·cases h
    ·rename_i r2 S2 hq;split at h
     ·cases h
     ·rename_i r3 S3 vs3 hs;split at h
      ·cases h
      ·rename_i S5 hl;split at h
       ·rename_i hr;cases h;obtain⟨h1,h2,h3⟩:=YL hp;refine⟨hQ.1,?_⟩;rcases hQ.2 with⟨er,hne,_,hE⟩|⟨r9,T4,u,⟨vs1,refs1,nodes1,v1,k1,k2,k3,k4,k5,k6,k7,q2,T2,T3,vs9,k8,k9,k10,k11,k12⟩,rfl,k13⟩
        ·exfalso;rcases hE with⟨_,hb⟩|⟨vs1,refs1,nodes1,k1,k2,k3,hE⟩
         ·exact hb.not hp
         ·obtain⟨rfl,rfl,-⟩:=Qy.unique h1 h2 k1 k2;rcases hE with⟨_,e⟩|⟨v1,e,hE⟩
          ·rw[hv]at e;cases e
          ·rw[hv]at e;cases e;rcases hE with⟨_,e⟩|⟨_,hE⟩
           ·rw[c1]at e;cases e
           ·rcases hE with⟨_,e⟩|⟨_,hE⟩
            ·rw[c2]at e;cases e
            ·rcases hE with⟨_,e,_⟩|⟨_,hE⟩
             ·exact e c3
             ·rcases hE with e|⟨_,e|⟨q2,T2,e,hE⟩⟩
              ·exact hne (e.symm.trans c4)
              ·rw[hq]at e;cases e
              ·rw[hq]at e;cases e;rcases hE with hE|⟨r9,T3,vs9,hO,hE⟩
               ·exact qiH hs hne hE
               ·obtain⟨rfl,rfl,rfl⟩:=qcf hs hO;rcases hE with e|⟨T4,e,e2⟩
                ·rw[hl]at e;cases e
                ·rw[hl]at e;cases e;exact hne (e2.symm.trans hr)
        ·obtain⟨rfl,rfl,-⟩:=Qy.unique h1 h2 k1 k2;rw[hv]at k4;cases k4;rw[hq]at k9;cases k9;obtain⟨rfl,rfl,rfl⟩:=qcf hs k10;rw[hl]at k11;cases k11;exact⟨u,rfl,k13⟩
       ·cases h
   ·cases h
end
def cS(o:Option (Nat×Sto)):Sto:=match o with
 |some (_,S)=>S
 |none=>Qf
def cIs(o:Option (Nat×Sto))(r:Nat):Bool:=match o with
 |some (n,_)=>decide (n=r)
 |none=>Oe
theorem qhh{r:Nat}(h:cIs o r=J):o=F (r,cS o):=by
 rcases o with _|⟨n,S⟩
 ·cases h
 ·simp only[cIs,decide_eq_true_eq]at h;subst h;rfl
section
variable {S S':Sto} {gen root next:Int} {dead:List Int} {vs:List Vol} {met refs:List Nat} {w w':World} {e:Ending}
theorem qaq.knownC{id:Int}{K:K3}(h:qaq S root next dead id K w e w')(hk:XK S root next dead=F (vs,met,refs)):∃u,e=Oc u/\match zF vs id with
   |none=>u=Od #[.agg To,I Jx 6]
   |some v=>qgN w.heap.size (KY S v.root K) u w':=by
 obtain⟨h1,h2,h3⟩:=YL hk;rcases h.2 with⟨_,hb⟩|⟨vs',u,⟨refs',nodes',hp,hc,_⟩,e,hm⟩
 ·exact(QS.notC hk hb).elim
 ·obtain⟨rfl,-,-⟩:=Qy.unique h1 h2 hp hc;exact⟨u,e,hm⟩
end
def x17:It:=⟨2,0,2,0,[7]⟩
def u1:Sto:=cS (qbY Qf 8 1 [])
theorem u1_cre:qbY Qf 8 1 []=F (10,u1):=qhh (by decide +kernel)
def u2:Sto:=cS (vputC u1 10 2 [] 1 x17)
theorem u2_put:vputC u1 10 2 [] 1 x17=F (11,u2):=qhh (by decide +kernel)
def va17:Vol:=⟨1,8,Oe,0⟩
theorem u2_pool:XK u2 11 2 []=F ([va17],[8,11],[11,8]):=by decide +kernel
theorem u2_find:KY u2 8 (2,0,2)=F x17:=by decide +kernel
abbrev Xw:Array Oa:=qQ (E M 0 0) (E M 0 0) (E M 0 0) (E M 0 0) 0 0 0 (E M 0 0)
section
variable {W W':World} {B p:Nat} {ty:TypeId}
theorem Rd.skipC{sz n:Nat}{A:OA}{vs:List Oa}{cs:Array Oa}(h:Rd W B sz A n vs)(hp:W.heap[p]?=F (Ob cs ty (0,0)))(hk:∀k,k≠p->W'.heap[k]?=W.heap[k]?)(hn:0<n->∀o:Nat,∃j u,vs[j]?=F u/\cs[o+j]?≠F u):Rd W' B sz A n vs:=by
 refine⟨h.1,λh0=>?_⟩;obtain⟨b,o,e,hb,hc⟩:=h.2 h0;have hbp:b≠p:=λe=>by subst e;obtain⟨j,u,hu,hne⟩:=hn h0 o;have:=hc j u hu;rw[qa hp]at this;exact hne this
 exact⟨b,o,e,hb,λj u hu=>(World.cell?_of_block (w:=W) (hk b hbp)).trans (hc j u hu)⟩
theorem qdl:∀(o:Nat)(u:Oa),Xw[o]?=F u->o<8/\(u=E M 0 0\/u=I U 0\/(o=5/\u=I Jx 0)):=λo u h=>by rcases o with _|_|_|_|_|_|_|_|o<;>simp[Xw,qQ]at h<;>subst h<;>simp
theorem Bys.skip{v:Oa}{l:List UInt8}(h:Bys W B v l)(hp:W.heap[p]?=F (Ob Xw ty (0,0)))(hk:∀k,k≠p->W'.heap[k]?=W.heap[k]?):Bys W' B v l:=by obtain⟨A,c,e,h1,h2,hr⟩:=h;refine⟨A,c,e,h1,h2,hr.skipC hp hk λh0 o=>⟨0,bv (l[0]'h0),by rw[List.getElem?_map,zL h0];rfl,λh=>?_⟩⟩;rcases(qdl _ _ h).2 with h|h|⟨-,h⟩<;>cases h
theorem Qi.skip{v1 v2 v3 v4:Oa}{S:Sto}(h:Qi W B v1 v2 v3 v4 S)(hp:W.heap[p]?=F (Ob Xw ty (0,0)))(hk:∀k,k≠p->W'.heap[k]?=W.heap[k]?)(h8:8<S.bs.length):Qi W' B v1 v2 v3 v4 S:=by
 refine⟨?_,?_,h.now.skip hp hk,h.last.skip hp hk⟩
 ·obtain⟨vs,A,c,e,h1,h2,hr,hl⟩:=h.bs;refine⟨vs,A,c,e,h1,h2,hr.skipC hp hk λh0 o=>?_,λi u l hu hb=>(hl i u l hu hb).skip hp hk⟩;have hv:8<vs.length:=by have:=hr.1;omega
  refine⟨8,vs[8],zL hv,λh=>?_⟩;have:=(qdl _ _ h).1;omega
 ·obtain⟨ps,e,⟨A,c,e1,e2,e3,hr⟩,hq⟩:=h.ws;refine⟨ps,e,⟨A,c,e1,e2,e3,hr.skipC hp hk λh0 o=>?_⟩,λq hm=>⟨(hq q hm).1,(hq q hm).2.skip hp hk⟩⟩;obtain⟨q,qs,rfl⟩:∃q qs,ps=q::qs:=by
   cases ps with
   |nil=>rw[<-e]at h0;simp at h0
   |cons q qs=>exact⟨q,qs,rfl⟩
  by_cases hx:Xw[o]?=F (I Jx q.1.1)
  ·refine⟨1,q.2,rfl,λh=>?_⟩;rcases(qdl _ _ hx).2 with h1|h1|⟨ho,h1⟩
   ·cases h1
   ·cases h1
   ·subst ho;obtain⟨A,c,e⟩:=(hq q List.mem_cons_self).1;rw[e]at h;simp[Xw,qQ]at h
  ·exact⟨0,I Jx q.1.1,rfl,hx⟩
end
theorem qmf{b:Nat}(h4:a.tmps[2]?.getD undef=.pointer (F ⟨b,0,M⟩))(hd:a.defers=[])(hAH:W.heap[b]?=F (Ob #[x0,x1,x2] 49 (0,0)))(hR:R (Oc (.agg #[x0,x1,x2])) W):bodyPost prog Tryz.f33 R .ret a W:=by
 refine bodyPost_ret (v:=.agg #[x0,x1,x2]) ?_ hd hR;have k:=qa hAH;simp[results,results33,go_sem,h4,k]
theorem qeO(n:Int)(w:Of):Calls prog 33 #[I U n] w (Ret (Xk 2 0 n) w):=by go_enter func33,ntmps33;go_wp2;exact qmf (b:=w.heap.size) rfl rfl (zI _ _ _ rfl) ⟨rfl,zN _ _⟩
def outPl(lo:Nat)(S:Sto)(gen root next:Int)(dead:List Int):Qd:=⟨PV,λp=>Od #[.agg p.cs,I Jx 0],λp W=>Jp lo S gen root next dead (.agg p.cs) W⟩
theorem jH(lo:Nat)(S:Sto)(gen root next:Int)(dead:List Int)(p:PV):(outPl lo S gen root next dead).f p=Od #[.agg p.cs,I Jx 0]:=rfl
theorem qgk(lo:Nat)(S:Sto)(gen root next:Int)(dead:List Int):∀p,qU qp ((outPl lo S gen root next dead).φ p):=λp W W' he h=>by have he:Ext W W':=he;exact Jp.keep h (zM _) he.size λb _ hb=>he.block b hb
theorem Jp.pv{gen:Int}(h:Jp lo S gen root next dead u W):∃p:PV,u=.agg p.cs:=by obtain⟨E1,e1,E2,e2,E3,e3,E4,e4,E5,e5,rfl,-⟩:=_root_.id h;exact⟨⟨E1,_,e1,E2,_,e2,E3,_,e3,E4,_,e4,gen,root,next,E5,_,e5⟩,rfl⟩
def qgh(x:It):Qd:=⟨OA×Nat,λp=>Od #[.agg (qaB x p.1 p.2),I Jx 0],λp W=>Bys W W.heap.size (E p.1 x.val.length p.2) x.val⟩
theorem ZL(x:It)(A:OA)(c:Nat):(qgh x).f (A,c)=Od #[.agg (qaB x A c),I Jx 0]:=rfl
theorem qec(x:It):∀p,qU qp ((qgh x).φ p):=λp W W' he h=>by have he:Ext W W':=he;have h:Bys W W.heap.size (E p.1 x.val.length p.2) x.val:=h;exact(h.below he).more he.size
def HasPl(S:Sto)(gen root next:Int)(u:Oa)(W:Of):Prop:=∃A1 c1 A2 c2 A3 c3 A4 c4 A5 c5,u=.agg (qQ (E A1 S.bs.length c1) (E A2 S.ws.length c2) (E A3 S.now.length c3) (E A4 S.last.length c4) gen root next (E A5 0 c5))/\Qi W W.heap.size (E A1 S.bs.length c1) (E A2 S.ws.length c2) (E A3 S.now.length c3) (E A4 S.last.length c4) S/\ZM W W.heap.size (E A5 0 c5) []
theorem ZM.nil_of(h:ZM W B v []):ZM W' B' v []:=by obtain⟨A,c,e,h1,h2,-⟩:=h;exact⟨A,c,e,h1,h2,rfl,λh=>absurd h zA3⟩
theorem u2_bs:8<u2.bs.length:=by decide +kernel
theorem qkA{b:Nat}{x3 x4 x5 x6 x7:Oa}(h4:a.tmps[0]?.getD undef=.pointer (F ⟨b,0,M⟩))(h5:a.tmps[1]?.getD undef=v)(hd:a.defers=[])(hAH:W.heap[b]?=F (Ob #[x0,x1,x2,x3,x4,x5,x6,x7] 32 (0,0)))(hR:R (Oc (Od #[.agg #[x0,x1,x2,x3,x4,x5,x6,x7],v])) W):bodyPost prog Tryz.f31 R .ret a W:=by
 refine bodyPost_ret (v:=Od #[.agg #[x0,x1,x2,x3,x4,x5,x6,x7],v]) ?_ hd hR;have k:=qa hAH;simp[results,results31,go_sem,h4,h5,k]
set_option maxRecDepth 100000 in
theorem qkz(w:Of):Calls prog 31 #[] w (zv (λu W=>∃v,u=Od #[v,.bool J]/\HasPl u2 0 11 2 v W) w):=by
 go_enter func31,ntmps31;go_wp2_with fail;generalize hw1:Z _ _=w1;have x1:Ext w w1:=by rw[<-hw1];exact zN _ _
 have q1:w1.heap[w.heap.size]?=F (Ob (qQ (E M 0 0) (E M 0 0) (E M 0 0) (E M 0 0) 0 0 0 (E M 0 0)) 32 (0,0)):=by rw[<-hw1];exact zI _ _ _ zA3
 clear hw1;refine(fnew_any w1).mono ?_;rintro e w2 ⟨u,rfl,hp,hB⟩;have x12:Ext w1 w2:=hB;have x2:Ext w w2:=x1.trans x12;have q2:=qb q1 x12;obtain⟨A1,c1,A2,c2,A3,c3,A4,c4,rfl,hS⟩:=hp.sto;obtain⟨l1,l2,l3,l4⟩:=Tf;have HC:=zH (λW (hx:Ext w2 W)=>qiP A1 256 c1 A2 1 c2 A3 256 c3 A4 256 c4 0 8 1 M 0 Qf [] zA1 zA1 W (hS.ext hx) (ZM.nil_ _ _));clear hS hp l1 l2 l3 l4 hB x1 q1 x12;go_wp2_with fail;refine(HC.out w2 (Ext.refl _)).mono ?_;clear HC;intro e w3 hq;obtain⟨hB,u,rfl,hN⟩:=qjr u1_cre hq;have x23:Ext w2 w3:=hB;have x3:Ext w w3:=x2.trans x23;have q3:=qb q2 x23;obtain⟨A1',c1',A2',c2',A3',c3',A4',c4',A5,c5,rfl,hS,hI⟩:=hN.sto;clear hN hq hB q2 x2 x23;go_wp2_with fail;generalize hw4:Z w3 _=w4;have x34:Ext w3 w4:=by rw[<-hw4];exact zN _ _
 have p4:w4.heap[w3.heap.size]?=F (Ob (qQ (E A1' u1.bs.length c1') (E A2' u1.ws.length c2') (E A3' u1.now.length c3') (E A4' u1.last.length c4') 0 10 2 (E A5 0 c5)) 32 (0,0)):=by rw[<-hw4];exact zI _ _ _ zA3
 have q4:=qb q3 x34;clear hw4 q3;have gP:∀W,qp.r w4 W->∀i,W.cell? ⟨w3.heap.size,i,M⟩=(qQ (E A1' u1.bs.length c1') (E A2' u1.ws.length c2') (E A3' u1.now.length c3') (E A4' u1.last.length c4') 0 10 2 (E A5 0 c5))[i]?:=λW h=>qa (qb p4 h);have HP:=zH (λW (hx:Ext w4 W) A c (hb:Bys W W.heap.size (E A 1 c) x17.val)=>qfz A1' _ c1' A2' _ c2' A3' _ c3' A4' _ c4' 0 10 2 A5 c5 u1 [] 1 x17 (λ_=>by refine⟨⟨?_,?_⟩,⟨?_,?_⟩,⟨?_,?_⟩,⟨?_,?_⟩,?_⟩<;>decide) A c W (hS.ext (x34.trans hx)) (hI.ext_ (x34.trans hx)) hb);clear hS hI;go_upto_region 2 with fail;refine qw zQ ?_;refine Yw 10 8 zE zQ rfl rfl zQ zQ zQ zQ ?_;dsimp only[JA,Array.push,List.push_toArray,List.concat_eq_append];refine Qb (w:=w4) qp (qV [(2,one (Xk 2 0 2)),(3,ZY w4.heap.size 1 5 #[I .u8 7]),(5,outPl w4.heap.size u2 0 11 2 []),(9,jx w4.heap.size 32 Xw)]) (List.replicate 10 J) 2 zQ zQ zQ zQ zQ zQ zQ ?st (Rel.drew _ _) ?walk
 case st=>exact ql (by simp only[List.forall_mem_cons];exact⟨Tu _,λp=>QA (jw _ _ _ _ p),qgk _ _ _ _ _ _,λp=>QA (Zt _ _ _ p),λ_ h=>by cases h⟩)
 case walk=>
  intro K hK;dsimp only[qA,List.replicate];refine zD1 ?_;refine qH (one (Xk 2 0 2)) zA0 zA0 (λW hW _=>?_) (λ(p:Unit)=>?_)
  ·refine Qh ?_ ((qeO 2 W).mono λe w' h=>?_)
   ·go_simp
   exact⟨(),h.1,trivial,h.2⟩
  refine zD1 ?_;refine qH (ZY w4.heap.size 1 5 #[I .u8 7]) zA0 zA0 (λW hW _=>?_) (λ(p3:Nat)=>?_)
  ·have hW:Ext w4 W:=hW;unfold Qw;go_simp;exact⟨W.heap.size,rfl,⟨zI _ _ _ rfl,hW.size⟩,zN _ _⟩
  refine zD1 ?_;refine qH (outPl w4.heap.size u2 0 11 2 []) zA0 zA0 (λW hW hp=>?_) (λ(p5:PV)=>?_)
  ·have hW:Ext w4 W:=hW;obtain⟨f3,_⟩:W.heap[p3]?=F (Ob #[I .u8 7] 5 (0,0))/\w4.heap.size<=p3:=((hp 4 zA1).2 3 zA1).1;refine Qh ?_ ((HP.out W hW (F ⟨p3,0,M⟩) 1 (Bys.lit (l:=[7]) f3 (by simp[maxLen]))).mono λe w' hq=>?_)
   ·go_simp;exact⟨rfl,rfl,rfl,rfl,rfl⟩
   obtain⟨hB,u,rfl,hN⟩:=vputC_ok u2_put hq;obtain⟨p,rfl⟩:=hN.pv;exact⟨p,rfl,hN.keep hW.size (zM _) (λ_ _ _=>rfl),hB⟩
  obtain⟨E1,m1,e1,E2,m2,e2,E3,m3,e3,E4,m4,e4,g5,t5,n5,E5,m5,e5⟩:=p5;refine zD1 ?_;refine qH (jx w4.heap.size 32 Xw) zA0 zA0 (λW hW _=>?_) (λ(p9:Nat)=>?_)
  ·refine jl ?_ (Below.size hW);go_simp
  refine zD1 ?_;refine qF (hK _ _ λW hW hF=>?_);have hN5:Jp w4.heap.size u2 0 11 2 [] (.agg (qQ (E E1 m1 e1) (E E2 m2 e2) (E E3 m3 e3) (E E4 m4 e4) g5 t5 n5 (E E5 m5 e5))) W:=(hF 5).1;obtain⟨f9,hlo⟩:W.heap[p9]?=F (Ob Xw 32 (0,0))/\w4.heap.size<=p9:=(hF 9).1;clear hF hK gP HP;have hW:Ext w4 W:=hW;have q5:=qb q4 hW;have x5:Ext w W:=(x3.trans x34).trans hW;refine zB8 ?_;have k9:=qa f9;have h9:=qd f9;have z9:=(zG.1 f9).1;go_wp2;refine Qt ?_;have r9:=VV f9 (E E1 m1 e1) (E E2 m2 e2) (E E3 m3 e3) (E E4 m4 e4) (I U g5) (I Jx t5) (I U n5) (E E5 m5 e5);have b9:=jM (w0:=w4) (B:=w4.heap.size) hW hlo (E E1 m1 e1) (E E2 m2 e2) (E E3 m3 e3) (E E4 m4 e4) (I U g5) (I Jx t5) (I U n5) (E E5 m5 e5);have o9:=λk (hk:k≠p9)=>jY (w:=W) hk (E E1 m1 e1) (E E2 m2 e2) (E E3 m3 e3) (E E4 m4 e4) (I U g5) (I Jx t5) (I U n5) (E E5 m5 e5);generalize hw9:O (O (O (O (O (O (O (O W _ _) _ _) _ _) _ _) _ _) _ _) _ _) _ _=w9 at*;have zw4:=(x3.trans x34).size;have zq5:=(zG.1 q4).1;have z4W:=hW.size;have hne:w.heap.size≠p9:=zO;have q9:=(o9 w.heap.size hne).trans q5;have hz9:w9.heap.size=W.heap.size:=by rw[<-hw9];simp
  have k9':=qa r9;have kq:=qa q9;have fq:=qd q9;have zq:w.heap.size<w9.heap.size:=zO;have z9':p9<w9.heap.size:=zO;obtain⟨B1,d1,B2,d2,B3,d3,B4,d4,B5,d5,e5',hS5,hI5⟩:=hN5.sto;have hS9:=(hS5.skip f9 (λk hk=>o9 k hk) u2_bs).more (show W.heap.size<=w9.heap.size by omega);simp only[Value.agg.injEq,Array.mk.injEq,List.cons.injEq,Value.slice.injEq,Value.int.injEq,and_true,true_and]at e5';obtain⟨⟨rfl,rfl,rfl⟩,⟨rfl,rfl,rfl⟩,⟨rfl,rfl,rfl⟩,⟨rfl,rfl,rfl⟩,rfl,rfl,rfl,rfl,rfl,rfl⟩:=e5';replace hS9:=zH hS9;replace hI5:=zH hI5;clear hw9 k9 h9 f9 q5 q4 p4 hN5 hS5;go_wp2_with fail;have hsk:=λk (hk:k≠w.heap.size)=>jY (w:=w9) hk (E E1 u2.bs.length e1) (E E2 u2.ws.length e2) (E E3 u2.now.length e3) (E E4 u2.last.length e4) (I U 0) (I Jx 11) (I U 2) (E E5 0 e5);refine qkA (b:=w.heap.size) rfl rfl rfl (VV q9 _ _ _ _ _ _ _ _) ⟨_,rfl,⟨_,rfl,E1,e1,E2,e2,E3,e3,E4,e4,E5,e5,rfl,(hS9.out.skip q9 hsk u2_bs).more (by rw[size8];exact zM _),hI5.out.nil_of⟩,?_⟩;exact jM (Below.trans (x3.trans x34) (Below.mono b9 zw4)) (zM _) _ _ _ _ _ _ _ _
theorem qgV(h0:a.tmps[0]?.getD undef=v)(hd:a.defers=[])(hR:R (Oc v) W):bodyPost prog Tryz.f30 R .ret a W:=by refine bodyPost_ret (v:=v) ?_ hd hR;simp[results,results30,go_sem,h0]
abbrev qfU:Array Oa:=#[I .u8 0,I U 0,I U 0,I Jx 0,E M 0 0]
set_option maxRecDepth 100000 in
theorem find17(h:qaq u2 11 2 [] 1 (2,0,2) w e w'):Below w.heap.size w w'/\∃A c,e=Oc (Od #[.agg (qaB x17 A c),I Jx 0])/\Bys w' w'.heap.size (E A 1 c) [7]:=by obtain⟨u,rfl,hm⟩:=h.knownC u2_pool;have e1:zF [va17] 1=F va17:=rfl;have e2:KY u2 va17.root (2,0,2)=F x17:=u2_find;rw[e1]at hm;simp only[e2]at hm;obtain⟨A,c,rfl,hb,-⟩:=hm;exact⟨h.1,A,c,rfl,hb⟩
set_option maxRecDepth 100000 in
theorem qgU(w:Of):Calls prog 30 #[] w (Ret (.bool J) w):=by
 go_enter func30,ntmps30;go_wp2_with fail;refine(qkz w).mono ?_;rintro e w1 ⟨u,rfl,⟨v,rfl,A1,c1,A2,c2,A3,c3,A4,c4,A5,c5,rfl,hS,hI⟩,hB⟩;have x1:Ext w w1:=hB;have HF:=zH (λW (hx:Ext w1 W)=>qfw A1 _ c1 A2 _ c2 A3 _ c3 A4 _ c4 0 11 2 A5 c5 u2 [] 1 2 0 2 W (hS.ext hx) (hI.ext_ hx));clear hS hI hB;go_upto_region 2 with fail;generalize hw2:Z w1 _=w2;have x12:Ext w1 w2:=by rw[<-hw2];exact zN _ _
 have r2:w2.heap[w1.heap.size]?=F (Ob (qQ (E A1 u2.bs.length c1) (E A2 u2.ws.length c2) (E A3 u2.now.length c3) (E A4 u2.last.length c4) 0 11 2 (E A5 0 c5)) 32 (0,0)):=by rw[<-hw2];exact zI _ _ _ rfl
 clear hw2;have gP:∀W,qp.r w2 W->∀i,W.cell? ⟨w1.heap.size,i,M⟩=(qQ (E A1 u2.bs.length c1) (E A2 u2.ws.length c2) (E A3 u2.now.length c3) (E A4 u2.last.length c4) 0 11 2 (E A5 0 c5))[i]?:=λW h=>qa (qb r2 h);refine qw zQ ?_;refine Yw 7 5 zE zQ rfl rfl zQ zQ zQ zQ ?_;dsimp only[JA,Array.push,List.push_toArray,List.concat_eq_append];refine Qb (w:=w2) qp (qV [(1,one (Xk 2 0 2)),(2,qgh x17),(6,jx w2.heap.size 51 qfU)]) (List.replicate 7 J) 2 zQ zQ zQ zQ zQ zQ zQ ?st (Rel.drew _ _) ?walk
 case st=>exact ql (by simp only[List.forall_mem_cons];exact⟨Tu _,qec _,λp=>QA (Zt _ _ _ p),λ_ h=>by cases h⟩)
 case walk=>
  intro K hK;dsimp only[qA,List.replicate];refine zD1 ?_;refine qH (one (Xk 2 0 2)) zA0 zA0 (λW hW _=>?_) (λ(p:Unit)=>?_)
  ·refine Qh ?_ ((qeO 2 W).mono λe w' h=>?_)
   ·go_simp
   exact⟨(),h.1,trivial,h.2⟩
  refine zD1 ?_;refine qH (qgh x17) zA0 zA0 (λW hW _=>?_) (λp=>?_)
  ·have hW:Ext w2 W:=hW;refine Qh ?_ ((HF.out W (x12.trans hW)).mono λe w' h=>?_)
   ·go_simp
   obtain⟨hB,A,c,rfl,hb⟩:=find17 h;exact⟨(A,c),rfl,hb,hB⟩
  obtain⟨A7,c7⟩:=p;refine zD1 ?_;refine qH (jx w2.heap.size 51 qfU) zA0 zA0 (λW hW _=>?_) (λ(p6:Nat)=>?_)
  ·refine jl ?_ (Below.size hW);go_simp
  refine zD1 ?_;refine qF (hK _ _ λW hW hF=>?_);have hb7:Bys W W.heap.size (E A7 1 c7) [7]:=(hF 2).1;obtain⟨f6,hlo⟩:W.heap[p6]?=F (Ob qfU 51 (0,0))/\w2.heap.size<=p6:=(hF 6).1;clear hF hK gP HF;have hW:Ext w2 W:=hW;refine zB8 ?_;have hi:qaB x17 A7 c7=#[I .u8 2,I U 0,I U 2,I Jx 0,E A7 1 c7]:=rfl;rw[hi];have k6:=qa f6;have h6:=qd f6;have z6:=(zG.1 f6).1;go_wp2;refine Qt ?_;have r9:=row5 f6 (I .u8 2) (I U 0) (I U 2) (I Jx 0) (E A7 1 c7);have b9:=Tb (w0:=w2) (B:=w2.heap.size) hW hlo (I .u8 2) (I U 0) (I U 2) (I Jx 0) (E A7 1 c7);have o9:∀k,k≠p6->(((((W.setCell ⟨p6,0,M⟩ (I .u8 2)).setCell ⟨p6,1,M⟩ (I U 0)).setCell ⟨p6,2,M⟩ (I U 2)).setCell ⟨p6,3,M⟩ (I Jx 0)).setCell ⟨p6,4,M⟩ (E A7 1 c7)).heap[k]?=W.heap[k]?:=λk hk=>by rw[zJ _ _ _ _ hk,zJ _ _ _ _ hk,zJ _ _ _ _ hk,zJ _ _ _ _ hk,zJ _ _ _ _ hk]
  generalize hw9:O (O (O (O (O W _ _) _ _) _ _) _ _) _ _=w9 at*;have z9:p6<w9.heap.size:=(zG.1 r9).1;have hby:Bys w9 W.heap.size (E A7 1 c7) [7]:=by obtain⟨A,c,e,h1,h2,hr⟩:=hb7;refine⟨A,c,e,h1,h2,hr.skipC f6 o9 λ_ o=>⟨0,bv 7,rfl,λh=>?_⟩⟩;rcases o with _|_|_|_|_|o<;>simp[qfU,bv]at h
  have hbs:bstr [7]=⟨#[7]⟩:=rfl;have hv:(convert 26 9 (E A7 1 c7)).run prog w9=.ok (.string ⟨#[7]⟩) w9:=by have h0:=kF (P:=prog) hby 26 9 5 underlying26 underlying5 underlying9;rw[hbs]at h0;exact h0
  have k9:=qa r9;have x9:=zH ((x1.trans x12).trans b9);clear hw9 hby hb7 f6 k6 h6 z6 r9 o9 b9 hbs hW r2;go_wp2_with fail;exact qgV rfl rfl ⟨rfl,x9.out⟩
def VX(ls:List (List UInt8)):Nat:=(ls.map λl=>min l.length 1000000).sum
theorem qdA{ls:List (List UInt8)}{k:Nat}(h:k<ls.length):VX (ls.take (k+1))=VX (ls.take k)+min ls[k].length 1000000:=by unfold VX;rw[List.take_succ_eq_append_getElem h,List.map_append,List.sum_append];simp
theorem sizeL_le(ls:List (List UInt8)):VX ls<=ls.length*1000000:=by
 induction ls with
 |nil=>simp[VX]
 |cons l r ih=>simp only[VX,List.map_cons,List.sum_cons,List.length_cons]at ih⊢;omega
theorem UA(h:ls.length<=n)(k:Nat):VX (ls.take k)<=n*1000000:=by
 have h1:=sizeL_le (ls.take k);have h2:(ls.take k).length<=n:=by rw[List.length_take];omega
 have h3:(ls.take k).length*1000000<=n*1000000:=Nat.mul_le_mul_right _ h2;exact Nat.le_trans h1 h3
def qhL(n m:Nat):Bool:=decide (300<n\/5000<m\/(600<m/\m<4096))
def Tk(bs:List (List UInt8))(ws:List (Int×List UInt8)):Bool:=qhL bs.length ws.length||decide (800000<VX bs+VX (ws.map (·.2)))
set_option maxRecDepth 100000 in
theorem qjE(A1 n1 c1 A2 n2 c2)(bs:List (List UInt8))(ws:List (Int×List UInt8))(w:Of)(hb:Bls w w.heap.size (E A1 n1 c1) bs)(hw:Wrs w w.heap.size (E A2 n2 c2) ws):Calls prog 107 #[Te A1 n1 c1 A2 n2 c2] w (Ret (.bool (Tk bs ws)) w):=by
 obtain⟨e1,hc1,hm1,hA1⟩:=hb.at_;obtain⟨e2,hc2,hm2,hA2⟩:=hw.at_;subst e1;subst e2;by_cases hh:qhL bs.length ws.length=J
 case pos=>
  have hM:Tk bs ws=J:=by unfold Tk;rw[hh];rfl
  rw[hM];have hh':300<bs.length\/5000<ws.length\/(600<ws.length/\ws.length<4096):=by simpa [qhL]using hh
  clear hM hb hw hA1 hA2 hh;generalize bs.length=n1 at*;generalize ws.length=n2 at*;go_enter func107,ntmps107;go_wp2;all_goals try simp only[beq_iff_eq,beq_eq_false_iff_ne,ne_eq,bne_iff_ne,bne_eq_false_iff_eq]at*
  all_goals first|(exfalso;omega)|skip
  all_goals go_ret
  all_goals exact⟨rfl,zA5⟩
 case neg=>
  have hM:Tk bs ws=decide (800000<VX bs+VX (ws.map (·.2))):=by unfold Tk;rw[show qhL bs.length ws.length=Oe by simpa using hh];rfl
  have hh':¬(300<bs.length\/5000<ws.length\/(600<ws.length/\ws.length<4096)):=by simpa [qhL]using hh
  have hn1:bs.length<=300:=zO;have hn2:ws.length<=5000:=zO;have hn3:¬(600<ws.length/\ws.length<4096):=λh=>hh' (.inr (.inr h));rw[hM];clear hM hh hh';have HB:=zH hb;have HW:=zH hw;have HTB:=zH (λk h=>@qdA bs k h);have HTW:=zH (λk (h:k<(ws.map (·.2)).length)=>@qdA (ws.map (·.2)) k h);have HLB:=zH (λk=>UA hn1 k);have HLW:=zH (λk=>UA (ls:=ws.map (·.2)) (n:=5000) (by rw[List.length_map];exact hn2) k);have HE1:Hid (bs.take bs.length=bs):=zH (List.take_length);have HE2:Hid ((ws.map (·.2)).take ws.length=ws.map (·.2)):=zH (by rw[<-List.length_map (f:=(·.2))];exact List.take_length);clear hb hw;have hd1:decide ((bs.length:Int)>300)=Oe:=decide_eq_false zO;have hd2:decide ((ws.length:Int)>5000)=Oe:=decide_eq_false zO;go_enter func107,ntmps107;go_wp2;all_goals first|(exfalso;omega)|skip
  all_goals
   generalize hw1:(Z _ _)=w1;have x1:Ext w w1:=by rw[<-hw1];exact zN _ _
   have r1:w1.heap[w.heap.size]?=F (Ob #[E A1 bs.length c1,E A2 ws.length c2] 25 (0,0)):=by rw[<-hw1];exact zI _ _ _ rfl
   clear hw1;go_loopw [3,4] (λt i wr=>∃k:Nat,k<=bs.length/\i=I Jx (k:Int)/\t=I Jx (VX (bs.take k):Int)/\Ext w1 wr) (λ_ i _=>bs.length-(intOf i).toNat)
   case atStart=>exact⟨0,zO,rfl,rfl,Ext.refl _⟩
   case round=>
    obtain⟨k,hk,rfl,rfl,hE⟩:=hrel;have hEw:=x1.trans hE;have rr:=qb r1 hE;have kr:=qa rr;have hlb:=HLB.out k;by_cases hlt:k<bs.length
    ·have hBP:=hlt;obtain⟨b1,o1,rfl,hb1⟩:=hA1 zO;obtain⟨A',c',hc,hby⟩:=((HB.out.below hEw).more hEw.size).get k hlt;have hm64:=hby.at_.2.1;have wGK:=hby.at_.2.2.1;have ht:=HTB.out k hlt;replace ht:=zH ht;clear hby;unfold maxLen at wGK;generalize bs[k].length=m at*;generalize VX (bs.take k)=q at*;go_wp2;go_roundw
     case rel=>exact⟨k+1,zO,by go_num,by rw[ht.out];go_num,hE⟩
     case measure=>simp[intOf];omega
    ·obtain rfl:k=bs.length:=zO;rw[HE1.out]at hlb⊢;clear HB HTB HLB r1 hd1 hd2;go_wp2;clear kr;go_loopw [3,5] (λt i wq=>∃j:Nat,j<=ws.length/\i=I Jx (j:Int)/\t=I Jx ((VX bs+VX ((ws.map (·.2)).take j):Nat):Int)/\Ext wr wq) (λ_ i _=>ws.length-(intOf i).toNat)
     case atStart=>exact⟨0,zO,rfl,rfl,Ext.refl _⟩
     case round=>
      obtain⟨j,hj,rfl,rfl,hE2⟩:=hrel;have hEq:=hEw.trans hE2;have kr:=qa (qb rr hE2);have hlw:=HLW.out j;by_cases hlt2:j<ws.length
      ·have wLJ:=hlt2;obtain⟨b2,o2,rfl,hb2⟩:=hA2 zO;obtain⟨A',c',hca,hcb,hby⟩:=((HW.out.below hEq).more hEq.size).get j hlt2;have hm64:=hby.at_.2.1;have wGK:=hby.at_.2.2.1;have ht:=HTW.out j (by rw[List.length_map];exact hlt2);rw[List.getElem_map]at ht;replace ht:=zH ht;clear hby;unfold maxLen at wGK;generalize ws[j].2.length=m at*;generalize ws[j].1=a at*;generalize VX ((ws.map (·.2)).take j)=q at*;generalize VX bs=s0 at*;go_wp2;go_roundw
       case rel=>exact⟨j+1,zO,by go_num,by rw[ht.out];go_num,hE2⟩
       case measure=>simp[intOf];omega
      ·obtain rfl:j=ws.length:=zO;rw[HE2.out]at hlw⊢;go_wp2;go_ret;refine⟨VU ?_,hEq⟩;rw[Bool.eq_iff_iff];simp;omega
def qaz(S:Sto):Bool:=Tk S.bs S.ws||(decide (10000<S.now.length)||decide (10000<S.last.length))
abbrev poolV(A1:OA)(n1 c1:Nat)(A2:OA)(n2 c2:Nat)(A3:OA)(n3 c3:Nat)(A4:OA)(n4 c4:Nat)(g r x:Int)(A5:OA)(n5 c5:Nat):Oa:=
 .agg #[E A1 n1 c1,E A2 n2 c2,E A3 n3 c3,E A4 n4 c4,I U g,I Jx r,I U x,E A5 n5 c5]
set_option maxRecDepth 100000 in
theorem qjF(A1 n1 c1 A2 n2 c2 A3 n3 c3 A4 n4 c4)(S:Sto)(w:Of)(h:Qi w w.heap.size (E A1 n1 c1) (E A2 n2 c2) (E A3 n3 c3) (E A4 n4 c4) S):Calls prog 58 #[Qp A1 n1 c1 A2 n2 c2 A3 n3 c3 A4 n4 c4] w (Ret (.bool (qaz S)) w):=by
 have HD:=zH (λW (hW:Ext w W)=>qjE A1 n1 c1 A2 n2 c2 S.bs S.ws W (h.ext hW).bs (h.ext hW).ws);have e3:S.now.length=n3:=h.now.at_.1.symm;have e4:S.last.length=n4:=h.last.at_.1.symm;have hS:qaz S=(Tk S.bs S.ws||(decide (10000<n3)||decide (10000<n4))):=by unfold qaz;rw[e3,e4]
 rw[hS];clear hS h e3 e4;generalize Tk S.bs S.ws=d at*;go_enter func58,ntmps58;go_wp2_with fail;generalize hw1:(Z _ _)=w1;have x1:Ext w w1:=by rw[<-hw1];exact zN _ _
 have r1:w1.heap[w.heap.size]?=F (Ob #[E A1 n1 c1,E A2 n2 c2,E A3 n3 c3,E A4 n4 c4] 28 (0,0)):=by rw[<-hw1];exact zI _ _ _ rfl
 clear hw1;refine(HD.out _ x1).mono ?_;rintro e w2 ⟨rfl,hB⟩;have x2:=x1.trans hB;have r2:=qb r1 hB;have k2:=qa r2;clear hB r1 x1 HD;cases d;all_goals
  go_wp2;all_goals
   go_ret;refine⟨VU ?_,x2⟩;rw[Bool.eq_iff_iff];simp;try omega
def qjG(S:Sto)(dead:Nat):Bool:=qaz S||decide (1000<dead)
set_option maxRecDepth 100000 in
theorem qhH(A1 n1 c1 A2 n2 c2 A3 n3 c3 A4 n4 c4)(g r x:Int)(A5:OA)(n5 c5:Nat)(S:Sto)(w:Of)(h:Qi w w.heap.size (E A1 n1 c1) (E A2 n2 c2) (E A3 n3 c3) (E A4 n4 c4) S):Calls prog 16 #[poolV A1 n1 c1 A2 n2 c2 A3 n3 c3 A4 n4 c4 g r x A5 n5 c5] w (Ret (.bool (qjG S n5)) w):=by
 have HD:=zH (λW (hW:Ext w W)=>qjF A1 n1 c1 A2 n2 c2 A3 n3 c3 A4 n4 c4 S W (h.ext hW));have hS:qjG S n5=(qaz S||decide (1000<n5)):=rfl;rw[hS];clear hS h;generalize qaz S=d at*;go_enter func16,ntmps16;go_wp2_with fail;generalize hw1:(Z _ _)=w1;have x1:Ext w w1:=by rw[<-hw1];exact zN _ _
 have r1:w1.heap[w.heap.size]?=F (Ob #[E A1 n1 c1,E A2 n2 c2,E A3 n3 c3,E A4 n4 c4,I U g,I Jx r,I U x,E A5 n5 c5] 32 (0,0)):=by rw[<-hw1];exact zI _ _ _ rfl
 clear hw1;refine(HD.out _ x1).mono ?_;rintro e w2 ⟨rfl,hB⟩;have x2:=x1.trans hB;have r2:=qb r1 hB;have k2:=qa r2;clear hB r1 x1 HD;cases d;all_goals
  go_wp2;all_goals
   go_ret;refine⟨VU ?_,x2⟩;rw[Bool.eq_iff_iff];simp;try omega
theorem RefO.no(h:RefO S root next dead id X er)(hn:(er0=8/\QS S root next dead)\/(er0=6/\∃vs,Kl S root next dead vs/\zF vs id=M)):er=er0:=by
 rcases hn with⟨rfl,hb⟩|⟨rfl,vs,⟨refs,nodes,h1,h2,h3⟩,hv⟩
 ·rcases h with⟨rfl,_⟩|⟨vs,⟨refs,nodes,k1,k2,k3⟩,_⟩
  ·rfl
  ·exact(QS.no hb k1 k2 k3).elim
 ·rcases h with⟨_,hb⟩|⟨vs',⟨refs',nodes',k1,k2,k3⟩,h⟩
  ·exact(QS.no hb h1 h2 h3).elim
  ·obtain rfl:=Qy.same h1 k1;rcases h with⟨rfl,_⟩|⟨v,k4,_⟩
   ·rfl
   ·rw[hv]at k4;cases k4
theorem RefO.ok{v:Vol}(h:RefO S root next dead id X er)(hok:Kl S root next dead vs)(hv:zF vs id=F v):(er=170/\v.fz=J)\/(v.fz=Oe/\er≠170/\(er=0->X v)):=by
 obtain⟨refs,nodes,h1,h2,h3⟩:=hok;rcases h with⟨_,hb⟩|⟨vs',⟨refs',nodes',k1,k2,k3⟩,h⟩
 ·exact(QS.no hb h1 h2 h3).elim
 ·obtain rfl:=Qy.same h1 k1;rcases h with⟨_,k4⟩|⟨v',k4,h⟩
  ·rw[hv]at k4;cases k4
  ·rw[hv]at k4;cases k4;exact h
theorem KK(h4:a.tmps[8]?.getD undef=u)(hd:a.defers=[])(hR:R (Oc u) W):bodyPost prog Tryz.f8 R .ret a W:=by refine bodyPost_ret (v:=u) ?_ hd hR;simp[results,results8,go_sem,h4]
set_option maxRecDepth 100000 in
theorem vref_any (A1 n1 c1 A2 n2 c2 A3 n3 c3 A4 n4 c4) (gen root next:Int) (A5 c5) (S:Sto) (dead:List Int) (id:Int) (x:It) (hxo:itB x.r x.val.length=true->QW x) (Ax:OA) (cx:Nat) (k i o:Int) (w:World) (h:Qi w w.heap.size (.slice A1 n1 c1) (.slice A2 n2 c2) (.slice A3 n3 c3) (.slice A4 n4 c4) S) (hd:ZM w w.heap.size (.slice A5 dead.length c5) dead) (hxv:Bys w w.heap.size (.slice Ax x.val.length cx) x.val):Calls prog 8 #[.agg (qQ (.slice A1 n1 c1) (.slice A2 n2 c2) (.slice A3 n3 c3) (.slice A4 n4 c4) gen root next (.slice A5 dead.length c5)),.int .u32 id,itV x Ax cx,Xk k i o] w (Ret (.bool true) w):=by
 have HG:=zH (fun W (hx:Ext w W)=>qhH A1 n1 c1 A2 n2 c2 A3 n3 c3 A4 n4 c4 gen root next A5 dead.length c5 S W (h.ext hx));have HO:=zH (fun W (hx:Ext w W)=>qcC A1 n1 c1 A2 n2 c2 A3 n3 c3 A4 n4 c4 gen root next A5 c5 S dead id W (h.ext hx) (hd.ext_ hx));have HP:=zH (fun W (hx:Ext w W)=>qfz A1 n1 c1 A2 n2 c2 A3 n3 c3 A4 n4 c4 gen root next A5 c5 S dead id x hxo Ax cx W (h.ext hx) (hd.ext_ hx) ((hxv.below hx).more hx.size));have HD:=zH (fun W (hx:Ext w W)=>vdel_any A1 n1 c1 A2 n2 c2 A3 n3 c3 A4 n4 c4 gen root next A5 c5 S dead id k i o W (h.ext hx) (hd.ext_ hx));have HF:=zH (fun W (hx:Ext w W)=>qfw A1 n1 c1 A2 n2 c2 A3 n3 c3 A4 n4 c4 gen root next A5 c5 S dead id k i o W (h.ext hx) (hd.ext_ hx));have HI:=zH (fun W=>Jz x.k x.i x.o x.r Ax x.val.length cx W);clear h hd hxo hxv;go_enter func8,ntmps8;go_wp2_with fail;generalize hw1:World.alloc (World.alloc (World.alloc w _) _) _=w1;have x1:Ext w w1:=by rw[<-hw1];exact((zN _ _).trans (zN _ _)).trans (zN _ _)
 have rp1:w1.heap[w.heap.size]?=some (.cells (qQ (.slice A1 n1 c1) (.slice A2 n2 c2) (.slice A3 n3 c3) (.slice A4 n4 c4) gen root next (.slice A5 dead.length c5)) 32 (0,0)):=by rw[<-hw1];exact(zK _ _ _ zA4).trans ((zK _ _ _ zA3).trans (zI _ _ _ rfl))
 have rx1:w1.heap[w.heap.size+1]?=some (.cells #[.int .u8 x.k,.int .u32 x.i,.int .u32 x.o,.int .i64 x.r,.slice Ax x.val.length cx] 51 (0,0)):=by rw[<-hw1];exact(zK _ _ _ zA4).trans (zI _ _ _ zA3)
 have rk1:w1.heap[w.heap.size+2]?=some (.cells #[.int .u8 k,.int .u32 i,.int .u32 o] 49 (0,0)):=by rw[<-hw1];exact zI _ _ _ zA3
 clear hw1;refine(qgU w1).mono ?_;rintro e w2 ⟨rfl,hB⟩;have x2:Ext w w2:=x1.trans hB;have rp2:=qb rp1 hB;have rx2:=qb rx1 hB;have rk2:=qb rk1 hB;have kp2:=qa rp2;clear hB rp1 rx1 rk1 x1;go_wp2_with fail;refine(HG.out w2 x2).mono ?_;clear HG;rintro e w3 ⟨rfl,hB⟩;have x3:Ext w w3:=x2.trans hB;have rp3:=qb rp2 hB;have rx3:=qb rx2 hB;have rk3:=qb rk2 hB;have kp3:=qa rp3;have kx3:=qa rx3;clear hB rp2 rx2 rk2 x2 kp2;cases hgr:qjG S dead.length
 case true =>go_wp2_with fail;exact KK rfl rfl ⟨rfl,x3⟩
 case false =>
  by_cases h20:10000<x.val.length
  ·have h20':(10000:Int)<(x.val.length:Int):=zO;go_wp2_with fail;exact KK rfl rfl ⟨rfl,x3⟩
  ·have h20':¬(10000:Int)<(x.val.length:Int):=zO;clear hgr;replace h20:=zH h20;go_wp2_with fail;refine(HO.out w3 x3).mono ?_;clear HO;intro e w4 hq;have x4:Ext w w4:=x3.trans hq.1;have rp4:=qb rp3 hq.1;have rx4:=qb rx3 hq.1;have rk4:=qb rk3 hq.1;clear rp3 rx3 rk3 kp3 kx3 x3 h20';have hAP:∃ (er:Int) (u:Vol),e=.returned (.tuple #[Ve u,.int .i64 er])/\((er≠0/\((er=8/\QS S root next dead)\/(er=6/\∃ vs,Kl S root next dead vs/\zF vs id=none)))\/(er=0/\∃ vs,Kl S root next dead vs/\zF vs id=some u)):=by
    rcases hq.2 with ⟨rfl,hb⟩|⟨vs,refs,nodes,k1,k2,k3,rfl⟩
    ·exact⟨8,Un,rfl,.inl ⟨zA1,.inl ⟨rfl,hb⟩⟩⟩
    ·rcases hv:zF vs id with _|v
     ·exact⟨6,Un,rfl,.inl ⟨zA1,.inr ⟨rfl,vs,⟨refs,nodes,k1,k2,k3⟩,hv⟩⟩⟩
     ·exact⟨0,v,rfl,.inr ⟨rfl,vs,⟨refs,nodes,k1,k2,k3⟩,hv⟩⟩
   obtain⟨er,⟨ui,ur,uf,um⟩,rfl,hvo⟩:=hAP;replace hvo:=zH hvo;clear hq;unfold Ve;go_upto_region 5 with fail;generalize hw5:World.alloc w4 _=w5;have x45:Ext w4 w5:=by rw[<-hw5];exact zN _ _
   have x5:Ext w w5:=x4.trans x45;have rv5:w5.heap[w4.heap.size]?=some (.cells #[.int .u32 ui,.int .i64 ur,.bool uf,.int .u32 um] 36 (0,0)):=by rw[<-hw5];exact zI _ _ _ rfl
   have rp5:=qb rp4 x45;have rx5:=qb rx4 x45;have rk5:=qb rk4 x45;have kp5:=qa rp5;have kx5:=qa rx5;clear hw5 rp4 rx4 rk4 x45 x4;go_wp2_with fail;refine(HP.out w5 x5).mono ?_;clear HP;intro e w6 hq;obtain⟨hB6,P1,p1,d1,P2,p2,d2,P3,p3,d3,P4,p4,d4,pg,pt,pn,P5,p5,d5,f,rfl,hf0,hfR⟩:=hq.ref;replace hf0:=zH hf0;replace hfR:=zH hfR;have x6:Ext w w6:=x5.trans hB6;have rv6:=qb rv5 hB6;have rp6:=qb rp5 hB6;have rx6:=qb rx5 hB6;have rk6:=qb rk5 hB6;clear hq hB6 rv5 rp5 rx5 rk5 kp5 kx5 x5;go_upto_region 6 with fail;generalize hw7:World.alloc w6 _=w7;have x67:Ext w6 w7:=by rw[<-hw7];exact zN _ _
   have x7:Ext w w7:=x6.trans x67;have ra7:w7.heap[w6.heap.size]?=some (.cells (qQ (.slice P1 p1 d1) (.slice P2 p2 d2) (.slice P3 p3 d3) (.slice P4 p4 d4) pg pt pn (.slice P5 p5 d5)) 32 (0,0)):=by rw[<-hw7];exact zI _ _ _ rfl
   have rv7:=qb rv6 x67;have rp7:=qb rp6 x67;have rx7:=qb rx6 x67;have rk7:=qb rk6 x67;have kp7:=qa rp7;have kk7:=qa rk7;clear hw7 rv6 rp6 rx6 rk6 x67 x6;go_wp2_with fail;refine(HD.out w7 x7).mono ?_;clear HD;intro e w8 hq;obtain⟨hB8,Q1,q1,b1,Q2,q2,b2,Q3,q3,b3,Q4,q4,b4,qg,qt,qn,Q5,q5,b5,g,rfl,hg0,hgR⟩:=hq.ref;replace hg0:=zH hg0;replace hgR:=zH hgR;have x8:Ext w w8:=x7.trans hB8;have ra8:=qb ra7 hB8;have rv8:=qb rv7 hB8;have rp8:=qb rp7 hB8;have rx8:=qb rx7 hB8;have rk8:=qb rk7 hB8;clear hq hB8 ra7 rv7 rp7 rx7 rk7 kp7 kk7 x7;go_upto_region 7 with fail;generalize hw9:World.alloc w8 _=w9;have x89:Ext w8 w9:=by rw[<-hw9];exact zN _ _
   have x9:Ext w w9:=x8.trans x89;have rb9:w9.heap[w8.heap.size]?=some (.cells (qQ (.slice Q1 q1 b1) (.slice Q2 q2 b2) (.slice Q3 q3 b3) (.slice Q4 q4 b4) qg qt qn (.slice Q5 q5 b5)) 32 (0,0)):=by rw[<-hw9];exact zI _ _ _ rfl
   have ra9:=qb ra8 x89;have rv9:=qb rv8 x89;have rp9:=qb rp8 x89;have rx9:=qb rx8 x89;have rk9:=qb rk8 x89;have kp9:=qa rp9;have kk9:=qa rk9;clear hw9 ra8 rv8 rp8 rx8 rk8 x89 x8;go_wp2_with fail;refine(HF.out w9 x9).mono ?_;clear HF;intro e w10 hq;obtain⟨hEV,yk,yi,yo,yr,Y,yn,yc,hh,rfl,hh0,hhR⟩:=hq.ref;replace hh0:=zH hh0;replace hhR:=zH hhR;have x10:Ext w w10:=x9.trans hEV;have ra10:=qb ra9 hEV;have rb10:=qb rb9 hEV;have rv10:=qb rv9 hEV;have rx10:=qb rx9 hEV;clear hq hEV ra9 rb9 rv9 rp9 rx9 rk9 kp9 kk9 x9;go_upto_region 8 with fail;generalize hGS:World.alloc w10 _=w11;have x1011:Ext w10 w11:=by rw[<-hGS];exact zN _ _
   have x11:Ext w w11:=x10.trans x1011;have ry11:w11.heap[w10.heap.size]?=some (.cells #[.int .u8 yk,.int .u32 yi,.int .u32 yo,.int .i64 yr,.slice Y yn yc] 51 (0,0)):=by rw[<-hGS];exact zI _ _ _ rfl
   have ka:=qa (qb ra10 x1011);have kb:=qa (qb rb10 x1011);have kv:=qa (qb rv10 x1011);have kx:=qa (qb rx10 x1011);have ky:=qa ry11;replace x11:=zH x11;clear hGS ra10 rb10 rv10 rx10 ry11 x1011 x10;rcases hvo.out with ⟨hne,hno⟩|⟨rfl,vs,hok,hv⟩
   ·obtain rfl:=hfR.out.no hno;obtain rfl:=hgR.out.no hno;have hhe:hh=g:=by
     rcases hno with ⟨rfl,hb⟩|⟨rfl,vs,⟨refs,nodes,h1,h2,h3⟩,hv⟩
     ·rcases hhR.out with ⟨rfl,_⟩|⟨vs,⟨refs,nodes,k1,k2,k3⟩,_⟩
      ·rfl
      ·exact(QS.no hb k1 k2 k3).elim
     ·rcases hhR.out with ⟨_,hb⟩|⟨vs',⟨refs',nodes',k1,k2,k3⟩,⟨rfl,_⟩|⟨v,k4,_⟩⟩
      ·exact(QS.no hb h1 h2 h3).elim
      ·rfl
      ·obtain rfl:=Qy.same h1 k1;rw[hv] at k4;cases k4
    subst hhe;obtain rfl:=hf0.out hne;obtain rfl:=hg0.out hne;obtain rfl:=hh0.out hne;have hnb:(hh != 0)=true:=by rw[bne_iff_ne];exact hne
    have hnb2:(hh == hh)=true:=zA3;replace hne:=zH hne;clear hno hvo hfR hgR hhR hf0 hg0 hh0 HI;go_wp2_with fail;exact KK rfl rfl ⟨rfl,x11.out⟩
   ·have h1:=hfR.out.ok hok hv;have h2:=hgR.out.ok hok hv;have hhf:(KY S ur (k,i,o)).isSome=true->hh=0:=fun hf=>by
     obtain⟨refs,nodes,e1,e2,e3⟩:=hok;rcases hhR.out with ⟨_,hb⟩|⟨vs',⟨refs',nodes',k1,k2,k3⟩,⟨_,k4⟩|⟨v,k4,h5⟩⟩
     ·exact(QS.no hb e1 e2 e3).elim
     ·obtain rfl:=Qy.same e1 k1;rw[hv] at k4;cases k4
     ·obtain rfl:=Qy.same e1 k1;rw[hv] at k4;cases k4;exact h5 hf
    clear hvo hfR hgR hhR;rcases h1 with ⟨rfl,hz⟩|⟨hz,hf7,hfX⟩
    ·obtain rfl:uf=true:=hz;rcases h2 with ⟨rfl,-⟩|⟨h2,-⟩
     case inr=>cases h2
     obtain rfl:=hf0.out zA1;obtain rfl:=hg0.out zA1;clear hhf hf0 hg0 HI hok hv;by_cases hz:hh=0
     ·subst hz;clear hh0;go_wp2_with fail;exact KK rfl rfl ⟨rfl,x11.out⟩
     ·obtain rfl:=hh0.out hz;have hnb:(hh != 0)=true:=by rw[bne_iff_ne];exact hz
      replace hz:=zH hz;clear hh0;go_wp2_with fail;exact KK rfl rfl ⟨rfl,x11.out⟩
    ·obtain rfl:uf=false:=hz;rcases h2 with ⟨-,h2⟩|⟨-,hg7,hgX⟩
     case inl=>cases h2
     have f7:(f != 170)=true:=by rw[bne_iff_ne];exact hf7
     have g7:(g != 170)=true:=by rw[bne_iff_ne];exact hg7
     have hgh:g=0->hh=0:=fun e=>hhf (hgX e);replace hf7:=zH hf7;replace hg7:=zH hg7;replace hfX:=zH hfX;replace hgh:=zH hgh;clear hhf hgX hok hv;have fin:∀ W,Ext w11 W->Ext w W:=fun W hx=>x11.out.trans hx;replace fin:=zH fin;by_cases zf:f=0
     case' pos=>subst zf;have hit:=zH (hfX.out rfl);clear f7
     case' neg=>obtain rfl:=hf0.out zf;have nf:(f != 0)=true:=by rw[bne_iff_ne];exact zf
     case' neg=>replace zf:=zH zf
     all_goals
      clear hf0 hfX;by_cases zh:hh=0
      case' pos=>subst zh
      case' neg=>obtain rfl:=hh0.out zh;have nh:(hh != 0)=true:=by rw[bne_iff_ne];exact zh
      case' neg=>replace zh:=zH zh
      all_goals
       clear hh0;by_cases zg:g=0
       case' pos=>subst zg;clear g7
       case' neg=>obtain rfl:=hg0.out zg;have ng:(g != 0)=true:=by rw[bne_iff_ne];exact zg
       case' neg=>replace zg:=zH zg
       all_goals
        first
         |exact absurd (hgh.out rfl) zh.out
         |skip
       all_goals
        clear hg0 hgh;go_wp2_with fail;refine(HI.out _).mono ?_;rintro e w12 ⟨rfl,hB⟩;have x12:=zH (fin.out _ hB);clear HI hB;rcases hib:itB x.r x.val.length with _|_
        ·first
          |exact absurd (hit.out.symm.trans hib) zA1
          |(rw[show JQ false=8 from rfl];replace hib:=zH hib;go_wp2_with fail;exact KK rfl rfl ⟨rfl,x12.out⟩)
        ·rw[show JQ true=0 from rfl];replace hib:=zH hib;go_wp2_with fail;exact KK rfl rfl ⟨rfl,x12.out⟩
end Go.Proofs.YtmeadnlmepcmbaaGreat
namespace Go.Proofs.YtmeadnlmepcmbaaGreat
open Go.RowKit Go.ChangeShapes Go.WideShapes Go.ChangeAt
section
variable {H:Type} {enc:TypeId×Value->H} {P:Program} {W:World}
theorem qgd(zs:List Int)(h:∀n∈zs,(Lit.int .u8 n).wf=J):∃l:List UInt8,zs.map (Value.int .u8)=l.map bv:=by
 induction zs with
 |nil=>exact⟨[],rfl⟩
 |cons z r ih=>
  obtain⟨l,hl⟩:=ih (λn hn=>h n (List.mem_cons_of_mem _ hn));have hz:=h z (List.mem_cons_self);have hb:0<=z/\z<=255:=by simpa [Lit.wf,IntKind.min,IntKind.max,IntKind.signed,IntKind.bits]using hz
  refine⟨UInt8.ofNat z.toNat::l,?_⟩;simp only[List.map_cons,hl];congr 1;simp only[bv];congr 1;have:(UInt8.ofNat z.toNat).toNat=z.toNat%256:=zA3;rw[this];omega
theorem TC{a:Addr}{n c:Nat}{xs:List Oa}(hn:n<=c)(hlen:xs.length=n)(hb:∀x∈MemPlace.row a c,x.block<W.heap.size)(hc:∀i u,xs[i]?=F u->W.cell? (a.add i)=F u):Rd W W.heap.size 1 (F a) n xs:=by
 refine⟨zO,λh0=>?_⟩;obtain⟨u,hu⟩:∃u,xs[0]?=F u:=⟨_,zL zO⟩
 have h1:=hc 0 u hu;have hsp:a.spot=M:=by
  have:(a.add 0)=a:=by simp[Addr.add]
  rw[this]at h1;unfold World.cell? at h1;split at h1
  ·cases hs:a.spot with
   |none=>rfl
   |some s=>rw[hs]at h1;simp at h1
  ·cases h1
 obtain⟨b,off,sp⟩:=a;simp only at hsp;subst hsp;have hbl:b<W.heap.size:=by have:W.cell? ((⟨b,off,M⟩:Addr).add 0)=F u:=h1;have h2:=World.block_lt_of_cell? W _ this;simpa [Addr.add]using h2
 refine⟨b,off,rfl,hbl,λj v hv=>?_⟩;rw[<-hc j v hv];unfold Addr.add;split
 ·subst_vars;rfl
 ·rfl
theorem TA{t e:TypeId}{fuel:Nat}{cs:List Oa}{d:DataW H}{p:List MemPlace}(ht:P.underlying t=F (.slice e))(he:P.underlying e=F (.int .u8))(hc:P.cellsOf e=1)(h:DataW.trod enc P W 0 (λ_=>J) J fuel t cs=F (d,p))(hlt:∀x∈p,x.block<W.heap.size):∃A n c,cs=[E A n c]/\n<=c/\∃l:List UInt8,Bys W W.heap.size (E A n c) l/\l.length=n:=by
 rcases open_ints ht he hc h with⟨rfl,_⟩|⟨a,len,cap,zs,rfl,_,hl,hm,hz,hx,hAG,hwf⟩
 ·exact⟨M,0,0,rfl,zM _,[],Bys.nil W _,rfl⟩
 ·simp only[if_true]at hz;obtain⟨l,hl'⟩:=qgd (zs.take len) (λn hn=>hwf n (List.mem_of_mem_take hn));have hll:l.length=len:=by have:=congrArg List.length hl';simp only[List.length_map,List.length_take]at this;omega
  refine⟨F a,len,cap,rfl,hl,l,⟨F a,cap,by rw[hll],zO,hm,?_⟩,hll⟩;rw[hll];refine TC (c:=cap) hl (by simp[hll]) (λx hx'=>hlt x ?_) (λi u hu=>?_)
  ·have e2:p=MemPlace.row a zs.length:=by injection hx
   rw[e2,hz];exact hx'
  ·rw[<-hl']at hu;rw[List.getElem?_map,List.getElem?_take]at hu;split at hu
   ·rename_i hi;rw[hAG i zO];rw[<-hu];simp[zL (show i<zs.length by omega)]
   ·cases hu
theorem vK{t:TypeId}{fs:Array Field}{fuel:Nat}{cs:List Oa}{x:DataW H×List MemPlace}(ht:P.underlying t=F (.struct fs))(h:DataW.trod enc P W 0 (λ_=>J) J fuel t cs=F x):∃(xs:List (DataW H×List MemPlace))(n:Nat),cs.length=P.cellsOf t/\xs.length=fs.size/\x.2=xs.flatMap (·.2)/\∀(i:Nat)(T:TypeId)(off m:Nat),(fs[i]?).map (λf=>(f.type,f.offset))=F (T,off)->P.cellsOf T=m->DataW.trod enc P W 0 (λ_=>J) J n T ((cs.drop off).take m)=xs[i]?:=by
 obtain⟨xs,n,_,hx,hl,hxl,hf⟩:=DataW.trod_struct ht h;refine⟨xs,n,hl,hxl,by rw[hx],λi T off m hi hm=>?_⟩;obtain⟨f,hfi,he⟩:=Option.map_eq_some_iff.1 hi;have:=hf i f hfi;simp only[Prod.mk.injEq]at he;rw[he.1,he.2,hm]at this;exact this
end
section
variable {H:Type} {enc:TypeId×Value->H} {P:Program}
theorem UD(hl:laidOutB P=J){W W':Of}{sp:Nat->Bool}:∀(ts:List TypeId)(vs:List Oa)(ds:List (DataW H))(p:List MemPlace),DataW.TrodAll enc P W 0 (λ_=>J) J ts vs ds p -> (∀t∈ts,P.readableRec t=J/\t<P.types.size)->(∀x∈p,W.sameAt W' x)->(∀x∈p,sp x.block=J)->DataW.TrodAll enc P W' 0 sp J ts vs ds p
 |[],vs,ds,p,h,_,_,_=>by obtain⟨rfl,rfl,rfl⟩:=trodAll_nil h;exact trodAll_mk0
 |t::ts,vs,ds,p,h,ht,hs,hsp=>by
  obtain⟨v,vs',d,ds',p0,q0,rfl,rfl,rfl,h0,h1⟩:=trodAll_cons h;have e:=ht t (List.mem_cons_self);exact trodAll_cons_mk (WideElems.Trod_stays hl e.1 e.2 h0 (λx hx=>hs x (List.mem_append_left _ hx)) (λx hx=>hsp x (List.mem_append_left _ hx)))
   (UD hl ts vs' ds' q0 h1 (λt' h'=>ht t' (List.mem_cons_of_mem _ h')) (λx hx=>hs x (List.mem_append_right _ hx)) (λx hx=>hsp x (List.mem_append_right _ hx)))
theorem law_post{f:Func}{s:ChangeSpec}{W W':Of}{args:Array Oa}{ds gs:List (DataW H)}{before:List MemPlace}{b:TypeId}(hv:s.vars=[])(hl:laidOutB P=J)(hr:f.resultTypes=#[b])(hb:P.underlying b=F .bool)(ht:∀t∈f.params.toList,P.readableRec t=J/\t<P.types.size)(hW:DataW.Whole enc P f.params.toList s.vars Oe W args.toList ds gs before)(hs:s.fn H (ds++gs)={results:=[.lit (.bool J)],args:=ds,vars:=[]})(hB:Below W.heap.size W W'):s.post enc P f Oe J Oe Oe W args (.bool J) W':=by
 have hlt:∀x∈before,x.block<W.heap.size:=λx hx=>hW.lt x hx;have hW0:=hW;obtain⟨p,q,hA,hV,rfl,_,_⟩:=hW;have hq:q=[]:=by
  rw[hv]at hV;cases gs with
  |nil=>exact hV
  |cons g gs=>cases hV
 subst hq;refine⟨ds,gs,p++[],[],p,[],hW0,?_,?_,?_,?_,λh=>by cases h⟩
 ·rw[hs,hr];exact trodAll_cons_mk (shut_bool hb J) trodAll_mk0
 ·rw[hs];exact UD hl _ _ _ _ hA ht (λx hx=>hB.same (hlt x (by simpa using hx))) (λx hx=>by simpa using hlt x (by simpa using hx))
 ·rw[hs,hv];exact rfl
 ·exact World.keptBut_mono (λx hx=>⟨by simpa using hx,Or.inr (Or.inl hx)⟩) (hB.frame (· ∈ p))
end
end Go.Proofs.YtmeadnlmepcmbaaGreat
namespace Go.Proofs.YtmeadnlmepcmbaaGreat
open Go.RowKit Go.ChangeShapes Go.WideShapes Go.ChangeAt Go.Deep
theorem Tryz.cc_u8:Tryz.prog.cellsOf 5=1:=zQ
theorem Tryz.cc_u32:Tryz.prog.cellsOf 29=1:=zQ
theorem Tryz.cc_int:Tryz.prog.cellsOf 3=1:=zQ
theorem Tryz.cc_bytes:Tryz.prog.cellsOf 26=1:=zQ
theorem Tryz.cc_blocks:Tryz.prog.cellsOf 22=1:=zQ
theorem Tryz.cc_writes:Tryz.prog.cellsOf 23=1:=zQ
theorem Tryz.cc_ints:Tryz.prog.cellsOf 30=1:=zQ
theorem Tryz.cc_write:Tryz.prog.cellsOf 142=2:=zQ
theorem Tryz.cc_disk:Tryz.prog.cellsOf 25=2:=zQ
theorem Tryz.cc_store:Tryz.prog.cellsOf 28=4:=zQ
theorem Tryz.cc_pool:Tryz.prog.cellsOf 32=8:=zQ
section
variable {H:Type} {enc:TypeId×Value->H} {W:World}
theorem qgr{size:Nat}{a:Addr}{n:Nat}{xs:List Oa}(hlen:xs.length=n*size)(hz:0<size)(hb:∀x∈MemPlace.row a (n*size),x.block<W.heap.size)(hc:∀i u,xs[i]?=F u->W.cell? (a.add i)=F u):Rd W W.heap.size size (F a) n xs:=by
 refine⟨hlen,λh0=>?_⟩;have hEJ:0<xs.length:=by rw[hlen];exact Nat.mul_pos h0 hz
 obtain⟨u,hu⟩:∃u,xs[0]?=F u:=⟨_,zL hEJ⟩
 have h1:=hc 0 u hu;have hsp:a.spot=M:=by
  have:(a.add 0)=a:=by simp[Addr.add]
  rw[this]at h1;unfold World.cell? at h1;split at h1
  ·cases hs:a.spot with
   |none=>rfl
   |some s=>rw[hs]at h1;simp at h1
  ·cases h1
 obtain⟨b,off,sp⟩:=a;simp only at hsp;subst hsp;have hbl:b<W.heap.size:=by have:W.cell? ((⟨b,off,M⟩:Addr).add 0)=F u:=h1;have h2:=World.block_lt_of_cell? W _ this;simpa [Addr.add]using h2
 refine⟨b,off,rfl,hbl,λj v hv=>?_⟩;rw[<-hc j v hv];unfold Addr.add;split
 ·subst_vars;rfl
 ·rfl
theorem qmy{fuel:Nat}{cs:List Oa}{d:DataW H}{p:List MemPlace}(h:DataW.trod enc prog W 0 (λ_=>J) J fuel 22 cs=F (d,p))(hlt:∀x∈p,x.block<W.heap.size):∃A c bs,cs=[E A bs.length c]/\Bls W W.heap.size (E A bs.length c) bs:=by
 rcases open_slice1 underlying22 Tryz.cc_bytes h with⟨rfl,_⟩|⟨a,len,cap,m,n,V,D,Pl,rfl,_,hl,hm,hmm,hx,hel⟩
 ·exact⟨M,0,[],rfl,[],M,0,rfl,zM _,by simp[maxLen],Rd.none_,λi u l hu=>by simp at hu⟩
 ·simp only[if_true]at hmm;subst hmm;have hp:p=MemPlace.row a m++(List.range m).flatMap Pl:=congrArg Prod.snd hx;have hb:∀i,i<len->∃l:List UInt8,Bys W W.heap.size (V i) l:=λi hi=>by obtain⟨_,h2⟩:=hel i zO;obtain⟨A,n',c',e,_,l,hby,_⟩:=TA underlying26 underlying5 Tryz.cc_u8 h2 (λx hx'=>hlt x (by rw[hp];exact List.mem_append_right _ (List.mem_flatMap.2 ⟨i,List.mem_range.2 zO,hx'⟩)));simp only[List.cons.injEq,and_true]at e;exact⟨l,by rw[e];exact hby⟩
  obtain⟨L,hL⟩:=choose_lt (α:=List UInt8) (p:=λi l=>Bys W W.heap.size (V i) l) hb;refine⟨F a,m,(List.range len).map L,zA3,(List.range len).map V,F a,m,zA3,by simpa using hl,hm,?_,λi u l hu hll=>?_⟩
  ·rw[List.length_map,List.length_range];refine TC (c:=m) hl zA3 (λx hx'=>hlt x (by rw[hp];exact List.mem_append_left _ hx')) (λi u hu=>?_);have hi:i<len:=by have:=(List.getElem?_eq_some_iff.1 hu).1;simpa using this
   rw[List.getElem?_map,List.getElem?_range hi]at hu;cases hu;exact(hel i zO).1
  ·have hi:i<len:=by have:=(List.getElem?_eq_some_iff.1 hu).1;simpa using this
   rw[List.getElem?_map,List.getElem?_range hi]at hu hll;cases hu;cases hll;exact hL i hi
theorem rd_write{fuel:Nat}{cs:List Oa}{d:DataW H}{p:List MemPlace}(h:DataW.trod enc prog W 0 (λ_=>J) J fuel 142 cs=F (d,p))(hlt:∀x∈p,x.block<W.heap.size):∃a A l c,cs=[I Jx a,E A l.length c]/\Bys W W.heap.size (E A l.length c) l/\(Lit.int Jx a).wf=J:=by
 obtain⟨xs,n,hl,hxl,hp,hf⟩:=vK underlying142 h;rw[Tryz.cc_write]at hl
 match cs,hl with
 |[c0,c1],_=>
  match xs,hxl with
  |[y0,y1],_=>
   have g0:_=F y0:=hf 0 3 0 1 rfl Tryz.cc_int;have g1:_=F y1:=hf 1 26 1 1 rfl Tryz.cc_bytes;simp only[List.drop,List.take]at g0 g1;obtain⟨a,ea,_,wa⟩:=DataW.trod_int underlying3 g0;have hp2:p=y0.2++(y1.2++[]):=hp;obtain⟨d1,p1⟩:=y1;obtain⟨A,m,c,es,hmc,l,hb,hlen⟩:=TA underlying26 underlying5 Tryz.cc_u8 g1 (λx hx=>hlt x (by rw[hp2];simp[hx]));simp only[List.cons.injEq,and_true]at ea es;subst ea es hlen;exact⟨a,A,l,c,rfl,hb,wa⟩
theorem qmz{fuel:Nat}{cs:List Oa}{d:DataW H}{p:List MemPlace}(h:DataW.trod enc prog W 0 (λ_=>J) J fuel 23 cs=F (d,p))(hlt:∀x∈p,x.block<W.heap.size):∃A c ws,cs=[E A ws.length c]/\Wrs W W.heap.size (E A ws.length c) ws:=by
 rcases open_slice underlying23 h with⟨rfl,_⟩|⟨a,len,cap,m,n,D,Pl,rfl,_,hl,hm,hmm,hx,hel⟩
 ·exact⟨M,0,[],rfl,[],rfl,⟨M,0,rfl,zM _,by simp[maxLen],Rd.none_⟩,λp h=>by cases h⟩
 ·simp only[if_true]at hmm;subst hmm;rw[Tryz.cc_write]at hx hel;have hp:p=MemPlace.row a (m*2)++(List.range m).flatMap Pl:=congrArg Prod.snd hx;have hb:∀i,i<len->∃q:(Int×List UInt8)×Oa,(∃A c,q.2=E A q.1.2.length c)/\Bys W W.heap.size q.2 q.1.2/\W.cell? (a.add (i*2))=F (I Jx q.1.1)/\W.cell? (a.add (i*2+1))=F q.2:=λi hi=>by
   obtain⟨cs',h1,h2⟩:=hel i zO;obtain⟨_,_,h3⟩:=World.cells?_some h1;obtain⟨r,A,l,c,rfl,hby,_⟩:=rd_write h2 (λx hx'=>hlt x (by rw[hp];exact List.mem_append_right _ (List.mem_flatMap.2 ⟨i,List.mem_range.2 zO,hx'⟩)));have e0:=h3 0 zO;have e1:=h3 1 zO;have ea:∀j,(a.add (i*2)).add j=a.add (i*2+j):=λj=>by
    unfold Addr.add
    repeat' split
    all_goals simp_all
    all_goals omega
   rw[ea]at e0 e1;exact⟨((r,l),E A l.length c),⟨A,c,rfl⟩,hby,e0,e1⟩
  obtain⟨Q,hQ⟩:=choose_lt (α:=(Int×List UInt8)×Oa) (p:=λi q=>(∃A c,q.2=E A q.1.2.length c)/\Bys W W.heap.size q.2 q.1.2/\W.cell? (a.add (i*2))=F (I Jx q.1.1)/\W.cell? (a.add (i*2+1))=F q.2) hb;refine⟨F a,m,((List.range len).map Q).map (·.1),zA3,(List.range len).map Q,rfl,⟨F a,m,zA3,by simpa using hl,hm,?_⟩,λq hq=>?_⟩
  ·rw[List.length_map,List.length_map,List.length_range];refine qgr (by rw[YZ];simp) zO (λx hx'=>hlt x ?_) (λj u hu=>?_)
   ·rw[hp];refine List.mem_append_left _ ?_;unfold MemPlace.row at hx'⊢;rw[List.mem_map]at hx'⊢;obtain⟨k,hk,e⟩:=hx';exact⟨k,List.mem_range.2 (by have:=List.mem_range.1 hk;omega),e⟩
   ·have hj:j<len*2:=by have:=(List.getElem?_eq_some_iff.1 hu).1;rw[YZ]at this;simpa using this
    obtain⟨c0,c1⟩:=Yy ((List.range len).map Q) (j/2) zA2;obtain⟨_,_,q0,q1⟩:=hQ (j/2) zO;rcases(show j=j/2*2\/j=j/2*2+1 by omega)with e|e
    ·have hu':F u=F _:=(hu.symm.trans (congrArg (λt=>(jN ((List.range len).map Q))[t]?) e)).trans c0;cases hu';rw[show a.add j=a.add (j/2*2)from congrArg _ e,q0];simp
    ·have hu':F u=F _:=(hu.symm.trans (congrArg (λt=>(jN ((List.range len).map Q))[t]?) e)).trans c1;cases hu';rw[show a.add j=a.add (j/2*2+1)from congrArg _ e,q1];simp
  ·obtain⟨i,hi,rfl⟩:=List.mem_map.1 hq;obtain⟨q0,q1,_⟩:=hQ i (List.mem_range.1 hi);exact⟨q0,q1⟩
theorem rd_ints{fuel:Nat}{cs:List Oa}{d:DataW H}{p:List MemPlace}(h:DataW.trod enc prog W 0 (λ_=>J) J fuel 30 cs=F (d,p))(hlt:∀x∈p,x.block<W.heap.size):∃A c l,cs=[E A l.length c]/\ZM W W.heap.size (E A l.length c) l/\∀a∈l,(Lit.int Jx a).wf=J:=by
 rcases open_ints underlying30 underlying3 Tryz.cc_int h with⟨rfl,_⟩|⟨a,len,cap,zs,rfl,_,hl,hm,hz,hx,hAG,hwf⟩
 ·exact⟨M,0,[],rfl,⟨M,0,rfl,zM _,by simp[maxLen],Rd.none_⟩,λa h=>by cases h⟩
 ·simp only[if_true]at hz;have hp:p=MemPlace.row a zs.length:=congrArg Prod.snd hx;have hll:(zs.take len).length=len:=by rw[List.length_take];omega
  refine⟨F a,cap,zs.take len,by rw[hll],⟨F a,cap,rfl,zO,hm,?_⟩,λn hn=>hwf n (List.mem_of_mem_take hn)⟩;rw[hll];refine TC (c:=cap) hl zA2 (λx hx'=>hlt x (by rw[hp,hz];exact hx')) (λi u hu=>?_);rw[List.getElem?_map,List.getElem?_take]at hu;split at hu
  ·rename_i hi;rw[hAG i zO,<-hu];simp[zL (show i<zs.length by omega)]
  ·cases hu
theorem rd_disk{fuel:Nat}{cs:List Oa}{d:DataW H}{p:List MemPlace}(h:DataW.trod enc prog W 0 (λ_=>J) J fuel 25 cs=F (d,p))(hlt:∀x∈p,x.block<W.heap.size):∃A1 c1 A2 c2 bs ws,cs=[E A1 (List.length bs) c1,E A2 (List.length ws) c2]/\Bls W W.heap.size (E A1 bs.length c1) bs/\Wrs W W.heap.size (E A2 ws.length c2) ws:=by
 obtain⟨xs,n,hl,hxl,hp,hf⟩:=vK underlying25 h;rw[Tryz.cc_disk]at hl
 match cs,hl with
 |[c0,c1],_=>
  match xs,hxl with
  |[(d0,p0),(d1,p1)],_=>
   have g0:_=F (d0,p0):=hf 0 22 0 1 rfl Tryz.cc_blocks;have g1:_=F (d1,p1):=hf 1 23 1 1 rfl Tryz.cc_writes;simp only[List.drop,List.take]at g0 g1;have hp2:p=p0++(p1++[]):=hp;obtain⟨A1,k1,bs,e1,h1⟩:=qmy g0 (λx hx=>hlt x (by rw[hp2];simp[hx]));obtain⟨A2,k2,ws,e2,h2⟩:=qmz g1 (λx hx=>hlt x (by rw[hp2];simp[hx]));simp only[List.cons.injEq,and_true]at e1 e2;subst e1 e2;exact⟨A1,k1,A2,k2,bs,ws,rfl,h1,h2⟩
theorem rd_store{fuel:Nat}{cs:List Oa}{d:DataW H}{p:List MemPlace}(h:DataW.trod enc prog W 0 (λ_=>J) J fuel 28 cs=F (d,p))(hlt:∀x∈p,x.block<W.heap.size):∃A1 c1 A2 c2 A3 c3 A4 c4,∃S:Sto,cs=[E A1 S.bs.length c1,E A2 S.ws.length c2,E A3 S.now.length c3,E A4 S.last.length c4]/\Qi W W.heap.size (E A1 S.bs.length c1) (E A2 S.ws.length c2) (E A3 S.now.length c3) (E A4 S.last.length c4) S:=by
 obtain⟨xs,n,hl,hxl,hp,hf⟩:=vK underlying28 h;rw[Tryz.cc_store]at hl
 match cs,hl with
 |[c0,c1,c2,c3],_=>
  match xs,hxl with
  |[(d0,p0),(d1,p1),(d2,p2)],_=>
   have g0:_=F (d0,p0):=hf 0 25 0 2 rfl Tryz.cc_disk;have g1:_=F (d1,p1):=hf 1 26 2 1 rfl Tryz.cc_bytes;have g2:_=F (d2,p2):=hf 2 26 3 1 rfl Tryz.cc_bytes;simp only[List.drop,List.take]at g0 g1 g2;have hp2:p=p0++(p1++(p2++[])):=hp;obtain⟨A1,k1,A2,k2,bs,ws,e1,h1,h2⟩:=rd_disk g0 (λx hx=>hlt x (by rw[hp2];simp[hx]));obtain⟨A3,n3,k3,e3,_,l3,h3,q3⟩:=TA underlying26 underlying5 Tryz.cc_u8 g1 (λx hx=>hlt x (by rw[hp2];simp[hx]));obtain⟨A4,n4,k4,e4,_,l4,h4,q4⟩:=TA underlying26 underlying5 Tryz.cc_u8 g2 (λx hx=>hlt x (by rw[hp2];simp[hx]));simp only[List.cons.injEq,and_true]at e1 e3 e4;obtain⟨rfl,rfl⟩:=e1;subst e3 e4 q3 q4;exact⟨A1,k1,A2,k2,A3,k3,A4,k4,⟨bs,ws,l3,l4⟩,rfl,h1,h2,h3,h4⟩
theorem rd_pool{fuel:Nat}{cs:List Oa}{d:DataW H}{p:List MemPlace}(h:DataW.trod enc prog W 0 (λ_=>J) J fuel 32 cs=F (d,p))(hlt:∀x∈p,x.block<W.heap.size):∃A1 c1 A2 c2 A3 c3 A4 c4 gen root next A5 c5,∃(S:Sto)(dead:List Int),cs=(qQ (E A1 S.bs.length c1) (E A2 S.ws.length c2) (E A3 S.now.length c3) (E A4 S.last.length c4) gen root next (E A5 dead.length c5)).toList /\
   Qi W W.heap.size (E A1 S.bs.length c1) (E A2 S.ws.length c2) (E A3 S.now.length c3) (E A4 S.last.length c4) S/\ZM W W.heap.size (E A5 dead.length c5) dead /\
   (Lit.int U gen).wf=J/\(Lit.int Jx root).wf=J/\(Lit.int U next).wf=J/\∀a∈dead,(Lit.int Jx a).wf=J:=by
 obtain⟨xs,n,hl,hxl,hp,hf⟩:=vK underlying32 h;rw[Tryz.cc_pool]at hl
 match cs,hl with
 |[c0,c1,c2,c3,c4,c5,c6,c7],_=>
  match xs,hxl with
  |[(d0,p0),(d1,p1),(d2,p2),(d3,p3),(d4,p4)],_=>
   have g0:_=F (d0,p0):=hf 0 28 0 4 rfl Tryz.cc_store;have g1:_=F (d1,p1):=hf 1 29 4 1 rfl Tryz.cc_u32;have g2:_=F (d2,p2):=hf 2 3 5 1 rfl Tryz.cc_int;have g3:_=F (d3,p3):=hf 3 29 6 1 rfl Tryz.cc_u32;have g4:_=F (d4,p4):=hf 4 30 7 1 rfl Tryz.cc_ints;simp only[List.drop,List.take]at g0 g1 g2 g3 g4;have hp2:p=p0++(p1++(p2++(p3++(p4++[])))):=hp;obtain⟨A1,k1,A2,k2,A3,k3,A4,k4,S,e0,hS⟩:=rd_store g0 (λx hx=>hlt x (by rw[hp2];simp[hx]));obtain⟨gen,e1,_,w1⟩:=DataW.trod_int underlying29 g1;obtain⟨root,e2,_,w2⟩:=DataW.trod_int underlying3 g2;obtain⟨next,e3,_,w3⟩:=DataW.trod_int underlying29 g3;obtain⟨A5,k5,dead,e4,hd,w4⟩:=rd_ints g4 (λx hx=>hlt x (by rw[hp2];simp[hx]));simp only[List.cons.injEq,and_true]at e0 e1 e2 e3 e4;obtain⟨rfl,rfl,rfl,rfl⟩:=e0;subst e1 e2 e3 e4;exact⟨A1,k1,A2,k2,A3,k3,A4,k4,gen,root,next,A5,k5,S,dead,rfl,hS,hd,w1,w2,w3,w4⟩
end
end Go.Proofs.YtmeadnlmepcmbaaGreat
namespace Go.Proofs.YtmeadnlmepcmbaaGreat
open Go.RowKit Go.ChangeShapes Go.WideShapes Go.ChangeAt
theorem Tryz.c_u8:Tryz.prog.cellsOf 5=1:=zQ
theorem Tryz.c_u32:Tryz.prog.cellsOf 29=1:=zQ
theorem Tryz.c_int:Tryz.prog.cellsOf 3=1:=zQ
theorem Tryz.c_bytes:Tryz.prog.cellsOf 26=1:=zQ
theorem Tryz.c_key:Tryz.prog.cellsOf 49=3:=zQ
theorem Tryz.c_item:Tryz.prog.cellsOf 51=5:=zQ
section
variable {H:Type} {enc:TypeId×Value->H} {W:World}
theorem rd_key{fuel:Nat}{cs:List Oa}{x:DataW H×List MemPlace}(h:DataW.trod enc prog W 0 (λ_=>J) J fuel 49 cs=F x):∃a b c,cs=[I .u8 a,I U b,I U c]/\(Lit.int .u8 a).wf=J/\(Lit.int U b).wf=J/\(Lit.int U c).wf=J:=by
 obtain⟨xs,n,hl,hxl,_,hf⟩:=vK underlying49 h;rw[Tryz.c_key]at hl
 match cs,hl with
 |[c0,c1,c2],_=>
  have hx:∀i,i<3->∃y,xs[i]?=F y:=λi hi=>⟨_,zL (by rw[hxl];exact hi)⟩
  obtain⟨y0,e0⟩:=hx 0 zO;obtain⟨y1,e1⟩:=hx 1 zO;obtain⟨y2,e2⟩:=hx 2 zO;have g0:=(hf 0 5 0 1 rfl Tryz.c_u8).trans e0;have g1:=(hf 1 29 1 1 rfl Tryz.c_u32).trans e1;have g2:=(hf 2 29 2 1 rfl Tryz.c_u32).trans e2;simp only[List.drop,List.take]at g0 g1 g2;obtain⟨a,ea,_,wa⟩:=DataW.trod_int underlying5 g0;obtain⟨b,eb,_,wb⟩:=DataW.trod_int underlying29 g1;obtain⟨c,ec,_,wc⟩:=DataW.trod_int underlying29 g2;simp only[List.cons.injEq,and_true]at ea eb ec;subst ea eb ec;exact⟨a,b,c,rfl,wa,wb,wc⟩
theorem rd_item{fuel:Nat}{cs:List Oa}{d:DataW H}{p:List MemPlace}(h:DataW.trod enc prog W 0 (λ_=>J) J fuel 51 cs=F (d,p))(hlt:∀x∈p,x.block<W.heap.size):∃k i o r A n c,cs=[I .u8 k,I U i,I U o,I Jx r,E A n c]/\n<=c/\(∃l:List UInt8,Bys W W.heap.size (E A n c) l/\l.length=n)/\(Lit.int .u8 k).wf=J/\(Lit.int U i).wf=J/\(Lit.int U o).wf=J/\(Lit.int Jx r).wf=J:=by
 obtain⟨xs,n,hl,hxl,hp,hf⟩:=vK underlying51 h;rw[Tryz.c_item]at hl
 match cs,hl with
 |[c0,c1,c2,c3,c4],_=>
  match xs,hxl with
  |[y0,y1,y2],_=>
   have g0:_=F y0:=hf 0 49 0 3 rfl Tryz.c_key;have g1:_=F y1:=hf 1 3 3 1 rfl Tryz.c_int;have g2:_=F y2:=hf 2 26 4 1 rfl Tryz.c_bytes;simp only[List.drop,List.take]at g0 g1 g2;obtain⟨k,i,o,ek,w1,w2,w3⟩:=rd_key g0;obtain⟨r,er,_,w4⟩:=DataW.trod_int underlying3 g1;have hp2:p=y0.2++(y1.2++(y2.2++[])):=hp;obtain⟨d2,p2⟩:=y2;obtain⟨A,m,c,es,hmc,l,hb,hlen⟩:=TA underlying26 underlying5 Tryz.c_u8 g2 (λx hx=>hlt x (by rw[hp2];simp[hx]));simp only[List.cons.injEq,and_true]at ek er es;obtain⟨rfl,rfl,rfl⟩:=ek;subst er es;exact⟨k,i,o,r,A,m,c,rfl,hmc,⟨l,hb,hlen⟩,w1,w2,w3,w4⟩
end
end Go.Proofs.YtmeadnlmepcmbaaGreat
