/- Texts VolF2, TwinW, PCheck, Has, Refs, Nodes, AskR, PoolW, Data, Copy, HeapC, FreeC, Short, joined. -/
import Derived.WalkMore
import Derived.Laws.CopyRow
import Derived.Laws.IdiomCopy
import Derived.Test.YtpbniokljofedaaGreatZH11
set_option linter.unusedSimpArgs false
set_option linter.unusedVariables false
set_option maxHeartbeats 8000000
open Go.Proofs.Tryz
namespace Go.Proofs.YtpbniokljofedaaGreat
open Go.RowKit
def UI (S:Sto) (root next:Int) (dead:List Int) (id:Int) (w:World) (e:Ending) (w':World):Prop:=Below w.heap.size w w' /\
 ((e=.returned (.tuple #[vP vol0,.int .i64 8])/\∀ vs,Zd S root next dead vs->∃ refs nodes,Qv S (Zg root dead vs) refs nodes/\¬Zz S refs) \/
  ∃ vs refs nodes,Zd S root next dead vs/\Qv S (Zg root dead vs) refs nodes/\Zz S refs/\e=.returned (volQ (JN vs id)))
theorem UY {R:Ending->World->Prop} {a:Act} {W:World} {b:Nat} {u:Vol} {v:Value} (h4:a.tmps[4]?.getD undef=.pointer (some ⟨b,0,none⟩)) (h5:a.tmps[5]?.getD undef=v) (hd:a.defers=[]) (aC:W.heap[b]?=some (.cells #[.int .u32 u.id,.int .i64 u.root,.bool u.fz,.int .u32 u.frm] 40 (0,0))) (hR:R (.returned (.tuple #[vP u,v])) W):bodyPost prog Tryz.f18 R .ret a W:=by
 refine bodyPost_ret (v:=.tuple #[vP u,v]) ?_ hd hR;have k:=qa aC;simp[results,results18,go_sem,h4,h5,k]
set_option maxRecDepth 100000 in
theorem UX (A1:Option Addr) (n1 c1:Nat) (A2:Option Addr) (n2 c2:Nat) (A3:Option Addr) (n3 c3:Nat) (A4:Option Addr) (n4 c4:Nat) (gen root next:Int) (A5:Option Addr) (c5:Nat) (S:Sto) (dead:List Int) (id:Int) (w:World) (h:qX w w.heap.size (.slice A1 n1 c1) (.slice A2 n2 c2) (.slice A3 n3 c3) (.slice A4 n4 c4) S) (hd:Zs w w.heap.size (.slice A5 dead.length c5) dead):Calls prog 18 #[.agg (qH (.slice A1 n1 c1) (.slice A2 n2 c2) (.slice A3 n3 c3) (.slice A4 n4 c4) gen root next (.slice A5 dead.length c5)),.int .u32 id] w (UI S root next dead id w):=by
 have HT:=zH (fun W (hx:Ext w W)=>XT A1 n1 c1 A2 n2 c2 A3 n3 c3 A4 n4 c4 gen root next A5 c5 S dead W (h.ext hx) (by obtain⟨A,c,e,q1,q2,q3⟩:=hd;exact⟨A,c,e,q1,q2,(q3.below hx).more hx.size⟩));clear h hd;go_enter func18,ntmps18;go_wp2_with fail;generalize aA:(World.alloc (World.alloc (World.alloc w _) _) _)=w1;have x1:Ext w w1:=by rw[<-aA];exact((zN _ _).trans (zN _ _)).trans (zN _ _)
 have ri1:w1.heap[w.heap.size+1]?=some (.cells #[.int .u32 id] 29 (0,0)):=by rw[<-aA];exact(zK _ _ _ zA3).trans (zI _ _ _ zA3)
 have rv1:w1.heap[w.heap.size+2]?=some (.cells #[.int .u32 0,.int .i64 0,.bool false,.int .u32 0] 40 (0,0)):=by rw[<-aA];exact zI _ _ _ zA3
 clear aA;refine(HT.out w1 x1).mono ?_;clear HT;rintro e w2 ⟨hB,hQ⟩;have x2:Ext w w2:=Ext.trans x1 hB;have ri2:=qb ri1 hB;have uI:=qb rv1 hB;have z2:w.heap.size+2<w2.heap.size:=(zG.1 uI).1;have kv2:=qa uI;have fv2:=qe uI;rcases hQ with ⟨rfl,bQ⟩|⟨vs,refs,nodes,cb,ca,vv,rfl,hT⟩
 ·replace bQ:=zH bQ;clear hB x1 ri1 rv1;go_wp2_with fail;exact UY (b:=w.heap.size+2) (u:=vol0) rfl rfl rfl (Xd uI _ _ _ _) ⟨ZW x2 zO _ _ _ _,.inl ⟨rfl,bQ.out⟩⟩
 ·have hvs:vs.length<=16:=by
   have hv:=hT.pool.vols;unfold Tt at hv;split at hv
   ·cases hv
   ·exact vQ _ _ _ _ zA3 hv
  obtain⟨AV,cV,rfl,hIQ,hIR⟩:=qy hT.own;have oI:=Rd.of_own hT.own;have kc:w2.cell? ⟨cb,518,none⟩=some (.slice AV vs.length cV):=by rw[qa hT.row];exact hT.ar.vol
  have HIX:=zH (vidx_any AV cV vs hvs (w.heap.size+1) id w2 ri2 oI);have HR:=zH oI;replace hT:=zH hT;clear hB x1 ri1 rv1 oI;go_wp2_with fail;refine HIX.out.mono ?_;clear HIX;rintro e w3 ⟨u,rfl,hu,hB⟩;have x3:Ext w w3:=Ext.trans x2 hB;have rv3:=qb uI hB;have kv3:=qa rv3;have fv3:=qe rv3;have kc3:=Ext.cell hB kc;rcases hu with ⟨j,hj,rfl,hv⟩|⟨rfl,hv⟩
  ·obtain⟨bv,tH,rfl,hbv,aS⟩:=HR.out.2 zO;obtain⟨d0,d1,d2,d3⟩:=KX vs j hj;replace d0:=Ext.cell hB (aS _ _ d0);replace d1:=Ext.cell hB (aS _ _ d1);replace d2:=Ext.cell hB (aS _ _ d2);replace d3:=Ext.cell hB (aS _ _ d3);generalize vs[j]=u at *;rw[<-Nat.add_assoc] at d1 d2 d3;have hj1:decide ((j:Int)<0)=false:=decide_eq_false zO;replace hv:=zH hv;replace x3:=zH x3;clear aS kv2 fv2 uI ri2 kc x2 hB z2;go_wp2_with fail;exact UY (b:=w.heap.size+2) (u:=u) rfl rfl rfl (Xd rv3 _ _ _ _) ⟨ZW x3.out zO _ _ _ _,.inr ⟨vs,refs,nodes,hT.out.pool,hT.out.cnt,hT.out.enough,by rw[hv.out];rfl⟩⟩
  ·replace hv:=zH hv;replace x3:=zH x3;clear kv2 fv2 uI ri2 kc x2 hB z2;go_wp2_with fail;exact UY (b:=w.heap.size+2) (u:=vol0) rfl rfl rfl (Xd rv3 _ _ _ _) ⟨ZW x3.out zO _ _ _ _,.inr ⟨vs,refs,nodes,hT.out.pool,hT.out.cnt,hT.out.enough,by rw[hv.out];rfl⟩⟩
theorem Tryz.info_bytes:(Tryz.prog.info? 26).map (fun i=>(i.zero,i.size,i.bytes))=some (some (.slice none 0 0),1,24):=zQ
theorem Tryz.info_write:(Tryz.prog.info? 130).map (fun i=>(i.zero,i.size,i.bytes))=some (some (.agg #[.int .i64 0,.slice none 0 0]),2,32):=zQ
abbrev gB (_:List UInt8) (u:Value):List Value:=[u]
theorem Rd.keepN {w W:World} {B size lo n c:Nat} {A:Option Addr} {xs:List Value} (h:Rd w B size A n xs) (hf:Zb lo (.slice A n c)) (hk:∀ q:Addr,lo<=q.block->q.block<B->W.cell? q=w.cell? q):Rd W B size A n xs:=
 ⟨h.1,fun hn=>by obtain⟨b,off,e,hb,hc⟩:=h.2 hn;subst e;exact⟨b,off,rfl,hb,fun j u hu=>(hk ⟨b,off+j,none⟩ (hf ⟨b,off,none⟩ n c rfl) hb).trans (hc j u hu)⟩⟩
theorem Bys.keepN {w W:World} {B lo:Nat} {v:Value} {l:List UInt8} (h:Bys w B v l) (hf:Zb lo v) (hk:∀ q:Addr,lo<=q.block->q.block<B->W.cell? q=w.cell? q):Bys W B v l:=by obtain⟨A,c,e,hc,hm,hr⟩:=h;subst e;exact⟨A,c,rfl,hc,hm,hr.keepN hf hk⟩
def KT (S:Sto) (root next:Int) (dead:List Int) (w:World) (e:Ending) (w':World):Prop:=Below w.heap.size w w' /\
 ((e=.returned (.int .i64 8)/\∀ vs,Zd S root next dead vs->∃ refs nodes,Qv S (Zg root dead vs) refs nodes/\¬Zz S refs) \/
  (e=.returned (.int .i64 0)/\∃ vs refs nodes,Zd S root next dead vs/\Qv S (Zg root dead vs) refs nodes/\Zz S refs))
theorem Gz {R:Ending->World->Prop} {a:Act} {W:World} {u:Value} (h2:a.tmps[2]?.getD undef=u) (hd:a.defers=[]) (hR:R (.returned u) W):bodyPost prog Tryz.f20 R .ret a W:=by refine bodyPost_ret (v:=u) ?_ hd hR;simp[results,results20,go_sem,h2]
set_option maxRecDepth 100000 in
theorem Xc (A1:Option Addr) (n1 c1:Nat) (A2:Option Addr) (n2 c2:Nat) (A3:Option Addr) (n3 c3:Nat) (A4:Option Addr) (n4 c4:Nat) (gen root next:Int) (A5:Option Addr) (c5:Nat) (S:Sto) (dead:List Int) (w:World) (h:qX w w.heap.size (.slice A1 n1 c1) (.slice A2 n2 c2) (.slice A3 n3 c3) (.slice A4 n4 c4) S) (hd:Zs w w.heap.size (.slice A5 dead.length c5) dead):Calls prog 20 #[.agg (qH (.slice A1 n1 c1) (.slice A2 n2 c2) (.slice A3 n3 c3) (.slice A4 n4 c4) gen root next (.slice A5 dead.length c5))] w (KT S root next dead w):=by
 have HT:=zH (fun W (hx:Ext w W)=>XT A1 n1 c1 A2 n2 c2 A3 n3 c3 A4 n4 c4 gen root next A5 c5 S dead W (h.ext hx) (by obtain⟨A,c,e,q1,q2,q3⟩:=hd;exact⟨A,c,e,q1,q2,(q3.below hx).more hx.size⟩));clear h hd;go_enter func20,ntmps20;go_wp2_with fail;generalize aA:World.alloc w _=w1;have x1:Ext w w1:=by rw[<-aA];exact zN _ _
 clear aA;refine(HT.out w1 x1).mono ?_;rintro e w2 ⟨hB,hQ⟩;have x2:Below w.heap.size w w2:=Ext.trans x1 hB;rcases hQ with ⟨rfl,bQ⟩|⟨vs,refs,nodes,cb,ca,vv,rfl,hT⟩
 ·have HB:KT S root next dead w (.returned (.int .i64 8)) w2:=⟨x2,.inl ⟨rfl,bQ⟩⟩
  replace HB:=zH HB;clear bQ hB;go_wp2_with fail;exact Gz rfl rfl HB.out
 ·have HB:KT S root next dead w (.returned (.int .i64 0)) w2:=⟨x2,.inr ⟨rfl,vs,refs,nodes,hT.pool,hT.cnt,hT.enough⟩⟩
  replace HB:=zH HB;clear hT hB;go_wp2_with fail;exact Gz rfl rfl HB.out
theorem rowI_one (l:List Int):∀ u∈vS l,u.oneCell'=true:=by intro u hu;obtain⟨a,_,rfl⟩:=List.mem_map.1 hu;rfl
theorem Zs.of_own {w:World} {base:Nat} {v:Value} {l:List Int} (h:w.ownsRow base 3 1 v l.length (vS l)):Zs w w.heap.size v l:=by
 obtain⟨A,c,rfl,hc,hm⟩:=qy h;refine⟨A,c,rfl,hc,hm,zA3,fun hn=>?_⟩;rcases h.2 with ⟨_,h0⟩|⟨g,cap,cur,e,_,hr,_⟩
 ·omega
 ·simp only[Value.slice.injEq] at e;obtain⟨rfl,-,rfl⟩:=e;exact⟨g,0,rfl,(zG.1 hr).1,fun j u hu=>by have h5:=h.cells (g:=g) rfl j u hu;rw[Nat.zero_add];unfold Addr.add at h5;split at h5 <;> simp_all⟩
theorem Zs.more {w:World} {B B':Nat} {v:Value} {l:List Int} (h:Zs w B v l) (hb:B<=B'):Zs w B' v l:=by obtain⟨A,c,e,hc,hm,hr⟩:=h;exact⟨A,c,e,hc,hm,hr.more hb⟩
theorem Zs.ext_ {w W:World} {v:Value} {l:List Int} (h:Zs w w.heap.size v l) (hx:Ext w W):Zs W W.heap.size v l:=by obtain⟨A,c,e,hc,hm,hr⟩:=h;exact⟨A,c,e,hc,hm,(hr.below hx).more hx.size⟩
set_option maxRecDepth 100000 in
theorem Gb (v:Value) (l:List Int) (hl:l.length<1073741824) (w:World) (h:Zs w w.heap.size v l):Calls prog 56 #[v] w (QV (fun u w'=>w'.ownsRow w.heap.size 3 1 u l.length (vS l)) w):=by
 obtain⟨i0,hi,aX,aU,aV⟩:=info_parts Tryz.info_int;obtain⟨A,c,rfl,hc,hm,hr⟩:=h;have qn:∀ (w:World) (a:Option Addr) (n c n' c':Nat),(binOp .eql 30 (.slice a n c) (.slice none n' c')).run prog w=.ok (.bool a.isNone) w:=fun w a n c n' c'=>Lib.run_eql_slice_nil w _ _ a n c n' c' underlying30;rcases A with _|⟨b,off,p⟩
 ·have h0:l=[]:=by
   rcases l with _|⟨x,r⟩
   ·rfl
   ·obtain⟨b,off,h,_⟩:=hr.2 zA3;cases h
  subst h0;go_enter func56,ntmps56;go_wp2;go_ret;exact⟨_,rfl,World.ownsRow_nil _ _ _ _,Below.refl _ _⟩
 ·go_enter func56,ntmps56;go_wp2_with (at_builtin;refine qI ?_);refine Qh.go (Qq _ rfl (.tmp 5) (.tmp 6) 30 rfl w.heap.size 3 i0 (.int .i64 0) 1 8 underlying30 hi aX aU aV rfl zA1 _ 0 [] rfl ?_ w.heap.size _ l.length c (vS l) zE ?_ (rowI_one l) zO zA1 zA3 ?_)
  ·exact World.ownsRow_lit w #[] 0 (zM _) (by simp[maxLen]) rfl
  ·exact hr.keep fun p hp=>World.cell?_alloc_lt w _ p hp
  ·intro v' w' aB _ hb _;simp only[Nat.zero_add,List.nil_append] at aB;go_wp2;go_ret;exact⟨_,rfl,aB,Below.trans ((Below.refl _ _).alloc (zM _) _) hb⟩



def ZD (S:Sto) (a:Nat):Nat:=(S.now[a]?.getD 0).toNat
def ZO (S:Sto) (a:Int):Int:=if qm S=true then (if 8<=a/\a<256 then (if ZD S a.toNat=0 then 6 else 0) else 2) else 8
theorem qcA {S:Sto} (h:qm S=false) (a:Int):ZO S a=8:=by unfold ZO;rw[h];simp
theorem qcB {S:Sto} (h:qm S=true) {a:Int} (ha:¬(8<=a/\a<256)):ZO S a=2:=by unfold ZO;rw[if_pos h,if_neg ha]
theorem Xj {S:Sto} (h:qm S=true) {a:Nat} (ha:8<=a) (bK:a<256):ZO S (a:Int)=if ZD S a=0 then 6 else 0:=by unfold ZO;rw[if_pos h,if_pos zO,Int.toNat_natCast]
theorem qbp {S:Sto} {a:Int} (h:ZO S a=0):qm S=true/\∃ n:Nat,a=(n:Int)/\8<=n/\n<256/\ZD S n≠0:=by
 unfold ZO at h;split at h
 ·rename_i hm;split at h
  ·rename_i hr;split at h
   ·cases h
   ·rename_i hn;obtain⟨n,hna⟩:=Int.eq_ofNat_of_zero_le (show 0<=a by omega);subst hna;exact⟨hm,n,rfl,zO,zO,by simpa using hn⟩
  ·cases h
 ·cases h
theorem Gp {S:Sto} (hS:qm S=true) {w:World} {B:Nat} {v:Value} (h:Bys w B v S.now):∃ b o c,v=.slice (some ⟨b,o,none⟩) 256 c/\b<B/\∀ a,a<256->w.cell? ⟨b,o+a,none⟩=some (.int .u8 (ZD S a:Int)):=by obtain⟨-,-,hl,-⟩:=qR hS;obtain⟨A,c,e,hc,hm,hr⟩:=h;obtain⟨b,o,rfl,hb,aF⟩:=hr.2 zO;rw[hl] at e;exact⟨b,o,c,e,hb,fun a ha=>aF a _ (by rw[List.getElem?_map,zL zO];unfold ZD;rw[zL zO];rfl)⟩
set_option maxRecDepth 100000 in
theorem qfk (A1:Option Addr) (n1 c1:Nat) (A2:Option Addr) (n2 c2:Nat) (A3:Option Addr) (n3 c3:Nat) (A4:Option Addr) (n4 c4:Nat) (S:Sto) (a:Int) (w:World) (h:qX w w.heap.size (.slice A1 n1 c1) (.slice A2 n2 c2) (.slice A3 n3 c3) (.slice A4 n4 c4) S):Calls prog 48 #[Qe A1 n1 c1 A2 n2 c2 A3 n3 c3 A4 n4 c4,.int .i64 a] w (Ret (.int .i64 (ZO S a)) w):=by
 have HC:=zH (fun W (hx:Ext w W)=>jN A1 n1 c1 A2 n2 c2 A3 n3 c3 A4 n4 c4 S W (h.ext hx));replace h:=zH h;go_enter func48,ntmps48;go_wp2_with fail;generalize aA:(World.alloc w _)=w1;have x1:Ext w w1:=by rw[<-aA];exact zN _ _
 have r1:w1.heap[w.heap.size]?=some (.cells #[.slice A1 n1 c1,.slice A2 n2 c2,.slice A3 n3 c3,.slice A4 n4 c4] 28 (0,0)):=by rw[<-aA];exact zI _ _ _ rfl
 clear aA;refine(HC.out w1 x1).mono ?_;clear HC;rintro e w2 ⟨rfl,hB⟩;have x2:Ext w w2:=x1.trans hB;have r2:=qb r1 hB;clear hB r1 x1;rcases hS:qm S with _|_
 ·have hq:=zH (qcA hS a);replace hS:=zH hS;rw[jW rfl];go_wp2_with fail;go_ret;exact⟨by rw[hq.out];rfl,x2⟩
 ·rw[Jv rfl];by_cases hr:8<=a/\a<256
  ·obtain⟨n,hna⟩:=Int.eq_ofNat_of_zero_le (show 0<=a by omega);subst hna;have hn8:8<=n:=zO;have sK:n<256:=zO;have hq:=Xj hS hn8 sK;obtain⟨b,o,c,e3,hb,aF⟩:=Gp hS h.out.now;have nZ:=Ext.cell x2 (aF n sK);generalize ZD S n=nw at *;cases e3;have k2:=qa r2;have d1:decide ((n:Int)<8)=false:=decide_eq_false zO;have d2:decide ((n:Int)≥256)=false:=decide_eq_false zO;clear hr aF;replace hS:=zH hS;rcases Nat.eq_zero_or_pos nw with h0|h0
   ·have aU:((nw:Int) == 0)=true:=by rw[beq_iff_eq];omega
    have aV:decide (nw=0)=true:=decide_eq_true h0;rw[if_pos h0] at hq;replace hq:=zH hq;replace h0:=zH h0;go_wp2_with fail;go_ret;exact⟨by rw[hq.out];rfl,x2⟩
   ·have aU:((nw:Int) == 0)=false:=by rw[beq_eq_false_iff_ne];omega
    have aV:decide (nw=0)=false:=decide_eq_false zO;rw[if_neg zO] at hq;replace hq:=zH hq;replace h0:=zH h0;go_wp2_with fail;go_ret;exact⟨by rw[hq.out];rfl,x2⟩
  ·have hq:=zH (qcB hS hr);replace hS:=zH hS;by_cases h8:a<8
   ·have d1:decide (a<8)=true:=decide_eq_true h8;replace hr:=zH hr;go_wp2_with fail;go_ret;exact⟨by rw[hq.out];rfl,x2⟩
   ·have d1:decide (a<8)=false:=decide_eq_false h8;have d2:decide (a≥256)=true:=decide_eq_true zO;replace hr:=zH hr;go_wp2_with fail;go_ret;exact⟨by rw[hq.out];rfl,x2⟩
set_option maxRecDepth 100000 in
theorem qcZ (A1:Option Addr) (n1 c1:Nat) (A2:Option Addr) (n2 c2:Nat) (A3:Option Addr) (n3 c3:Nat) (A4:Option Addr) (n4 c4:Nat) (S:Sto) (a:Int) (w:World) (h:qX w w.heap.size (.slice A1 n1 c1) (.slice A2 n2 c2) (.slice A3 n3 c3) (.slice A4 n4 c4) S):Calls prog 129 #[Qe A1 n1 c1 A2 n2 c2 A3 n3 c3 A4 n4 c4,.int .i64 a] w (Ret (.int .i64 (ZO S a)) w):=by
 have HC:=zH (fun W (hx:Ext w W)=>jN A1 n1 c1 A2 n2 c2 A3 n3 c3 A4 n4 c4 S W (h.ext hx));replace h:=zH h;go_enter func129,ntmps129;go_wp2_with fail;generalize aA:(World.alloc w _)=w1;have x1:Ext w w1:=by rw[<-aA];exact zN _ _
 have r1:w1.heap[w.heap.size]?=some (.cells #[.slice A1 n1 c1,.slice A2 n2 c2,.slice A3 n3 c3,.slice A4 n4 c4] 28 (0,0)):=by rw[<-aA];exact zI _ _ _ rfl
 clear aA;refine(HC.out w1 x1).mono ?_;clear HC;rintro e w2 ⟨rfl,hB⟩;have x2:Ext w w2:=x1.trans hB;have r2:=qb r1 hB;clear hB r1 x1;rcases hS:qm S with _|_
 ·have hq:=zH (qcA hS a);replace hS:=zH hS;rw[jW rfl];go_wp2_with fail;go_ret;exact⟨by rw[hq.out];rfl,x2⟩
 ·rw[Jv rfl];by_cases hr:8<=a/\a<256
  ·obtain⟨n,hna⟩:=Int.eq_ofNat_of_zero_le (show 0<=a by omega);subst hna;have hn8:8<=n:=zO;have sK:n<256:=zO;have hq:=Xj hS hn8 sK;obtain⟨b,o,c,e3,hb,aF⟩:=Gp hS h.out.now;have nZ:=Ext.cell x2 (aF n sK);generalize ZD S n=nw at *;cases e3;have k2:=qa r2;have d1:decide ((n:Int)<8)=false:=decide_eq_false zO;have d2:decide ((n:Int)≥256)=false:=decide_eq_false zO;clear hr aF;replace hS:=zH hS;rcases Nat.eq_zero_or_pos nw with h0|h0
   ·have aU:((nw:Int) == 0)=true:=by rw[beq_iff_eq];omega
    have aV:decide (nw=0)=true:=decide_eq_true h0;rw[if_pos h0] at hq;replace hq:=zH hq;replace h0:=zH h0;go_wp2_with fail;go_ret;exact⟨by rw[hq.out];rfl,x2⟩
   ·have aU:((nw:Int) == 0)=false:=by rw[beq_eq_false_iff_ne];omega
    have aV:decide (nw=0)=false:=decide_eq_false zO;rw[if_neg zO] at hq;replace hq:=zH hq;replace h0:=zH h0;go_wp2_with fail;go_ret;exact⟨by rw[hq.out];rfl,x2⟩
  ·have hq:=zH (qcB hS hr);replace hS:=zH hS;by_cases h8:a<8
   ·have d1:decide (a<8)=true:=decide_eq_true h8;replace hr:=zH hr;go_wp2_with fail;go_ret;exact⟨by rw[hq.out];rfl,x2⟩
   ·have d1:decide (a<8)=false:=decide_eq_false h8;have d2:decide (a≥256)=true:=decide_eq_true zO;replace hr:=zH hr;go_wp2_with fail;go_ret;exact⟨by rw[hq.out];rfl,x2⟩
def qbC (S:Sto) (refs:Nat->Nat):Bool:=(List.range 256).all fun a=>decide (refs a<=(S.now[a]?.getD 0).toNat)
theorem qdb (S:Sto) (refs:Nat->Nat):qbC S refs=true↔Zz S refs:=by unfold qbC Zz;rw[List.all_eq_true];exact⟨fun h a ha=>of_decide_eq_true (h a (List.mem_range.2 ha)),fun h a ha=>decide_eq_true (h a (List.mem_range.1 ha))⟩
theorem Zd.same {S:Sto} {root next:Int} {dead:List Int} {vs vs':List Vol} (h:Zd S root next dead vs) (h':Zd S root next dead vs'):vs=vs':=by have:=h.vols;rw[h'.vols] at this;cases this;rfl

theorem XS (w:World) (g:Nat) (cs:Array Value):w.grownBy (w.setRow g cs) (some g):=
 ⟨rfl,rfl,rfl,zA3,fun k _ hk=>setRow_other w g k _ (fun e=>hk (by simp[e]))⟩
theorem XQ {P:Program} (W:World) {B:Nat} (dT sT ty elem:TypeId) (g o dLen dCap:Nat) (A:Option Addr) (c:Nat) (l:List UInt8) (cur:Array Value) (t:TypeId) (hu:P.underlying dT=some (.slice elem)) (hs:(P.info? elem).map (·.size)=some 1) (hg:W.heap[g]?=some (.cells cur t (0,0))) (h:Bys W B (.slice A l.length c) l) (hd:l.length<=dLen) (fV:o+l.length<=cur.size) : (Builtin.copy_ #[dT,sT] ty #[.slice (some ⟨g,o,none⟩) dLen dCap,.slice A l.length c]).run P W=.ok (.int .i64 (l.length:Int)) (W.setRow g (cur.toList.take o++l.map bv++cur.toList.drop (o+l.length)).toArray):=by
 obtain⟨A',c',e,hc,hm,hr⟩:=h;simp only[Value.slice.injEq,true_and] at e;obtain⟨rfl,rfl⟩:=e;rcases A with _|ad
 ·have h0:l.length=0:=by
   rcases Nat.eq_zero_or_pos l.length with h0|h0
   ·exact h0
   ·obtain⟨b,off,h,_⟩:=hr.2 h0;cases h
  obtain rfl:l=[]:=List.eq_nil_of_length_eq_zero h0;cases hq:P.info? elem with
  |none=>simp[hq] at hs
  |some i =>
   simp[Builtin.copy_,run_underlying hu,Builtin.lenOf,Builtin.firstCells,sizeOf,typeInfo,hq,storeCells];rw[setRow_self W g cur t (0,0) hg];exact⟨rfl,rfl⟩
 ·have iE:∀ j v,(l.map bv)[j]?=some v->W.cell? (ad.add j)=some v:=by
   intro j v hv;rcases Nat.eq_zero_or_pos l.length with h0|h0
   ·obtain rfl:l=[]:=List.eq_nil_of_length_eq_zero h0;simp at hv
   ·obtain⟨b,off,h,_⟩:=hr.2 h0;cases h;exact hr.adds h0 j v hv
  have:=run_copy_row P W dT sT ty elem g o dLen dCap ad l.length c cur t (l.map bv) hu hs hg (by simp[Nat.min_eq_left hd]) iE (by simpa using fV) (Xk l);rw[List.length_map] at this;exact this
def ZC (cur:Array Value) (o:Nat) (l:List UInt8):Array Value:=(cur.toList.take o++l.map bv++cur.toList.drop (o+l.length)).toArray
theorem TP {cur:Array Value} {o:Nat} {l:List UInt8} (h:o+l.length<=cur.size):(ZC cur o l).size=cur.size:=by simp[ZC];omega
theorem qeU {cur:Array Value} {o:Nat} {l:List UInt8} {j:Nat} (h:o+l.length<=cur.size) (hj:j<o\/o+l.length<=j):(ZC cur o l)[j]?=cur[j]?:=by
 unfold ZC;rw[List.getElem?_toArray];have bH:cur.toList.length=cur.size:=zA3;rcases hj with hj|hj
 ·rw[List.append_assoc,List.getElem?_append_left (by rw[List.length_take];omega),List.getElem?_take,if_pos hj];simp
 ·rw[List.getElem?_append_right (by rw[List.length_append,List.length_take,List.length_map];omega),List.getElem?_drop,List.length_append,List.length_take,List.length_map,bH];rw[show o+l.length+(j-(min o cur.size+l.length))=j by omega];simp
theorem qeT {cur:Array Value} {o:Nat} {l:List UInt8} {j:Nat} {u:Value} (h:o+l.length<=cur.size) (hu:(l.map bv)[j]?=some u):(ZC cur o l)[o+j]?=some u:=by
 have hj:j<l.length:=by have:=(List.getElem?_eq_some_iff.1 hu).1;simpa using this
 have bH:cur.toList.length=cur.size:=zA3;unfold ZC;rw[List.getElem?_toArray,List.append_assoc,List.getElem?_append_right (by rw[List.length_take];omega),List.length_take,bH,show o+j-min o cur.size=j by omega,List.getElem?_append_left (by rw[List.length_map];exact hj)];exact hu
structure qaD (hb g o n:Nat) (cur:Array Value) (w:World):Prop where
 box:w.heap[hb]?=some (.cells #[.slice (some ⟨g,o,none⟩) n n] 257 (0,0))
 row:w.heap[g]?=some (.cells cur 5 (0,0))
 ne:hb≠g
 fit:o+n<=cur.size
 few:n<1000000000000000
def CloneQ (hb g o n:Nat) (cur:Array Value) (l:List UInt8) (w:World) (e:Ending) (w':World):Prop:=∃ o',e=.returned (.slice (some ⟨g,o,none⟩) l.length l.length)/\(0<n-l.length->o'=o+l.length)/\(n-l.length=0->o'=o)/\qaD hb g o' (n-l.length) (ZC cur o l) w' /\
 (w'.heap.size=w.heap.size/\w'.os=w.os/\w'.tape=w.tape/\w'.output=w.output/\∀ b,b≠hb->b≠g->w'.heap[b]?=w.heap[b]?)
set_option maxRecDepth 100000 in
theorem Ga (hb g o n:Nat) (cur:Array Value) (A:Option Addr) (c:Nat) (l:List UInt8) (hl:l.length<=n) (w:World) (H:qaD hb g o n cur w) (h:Bys w w.heap.size (.slice A l.length c) l):Calls prog 180 #[.pointer (some ⟨hb,0,none⟩),.slice A l.length c] w (CloneQ hb g o n cur l w):=by
 have hsz:(Tryz.prog.info? 5).map (·.size)=some 1:=zQ;obtain⟨r1,r2,aN,fV,ry⟩:=H;have eP:=XQ (P:=prog) w 257 26 3 5 g o n n A c l _ _ underlying257 hsz r2 h hl zO;have e1:(List.take o cur.toList++List.map bv l++List.drop (o+l.length) cur.toList).toArray=ZC cur o l:=rfl;rw[e1] at eP;have r3:(w.setRow g (ZC cur o l)).heap[hb]?=some (.cells #[.slice (some ⟨g,o,none⟩) n n] 257 (0,0)):=(setRow_other w g hb _ aN).trans r1;have r4:=setRow_heap w g _ (ZC cur o l) _ _ r2;have h3:∀ b,b≠g->(w.setRow g (ZC cur o l)).heap[b]?=w.heap[b]?:=fun b hb=>setRow_other w g b _ hb;have s3:(w.setRow g (ZC cur o l)).heap.size=w.heap.size:=zA3;have o3:(w.setRow g (ZC cur o l)).os=w.os/\(w.setRow g (ZC cur o l)).tape=w.tape/\(w.setRow g (ZC cur o l)).output=w.output:=⟨rfl,rfl,rfl⟩
 generalize w.setRow g (ZC cur o l)=w3 at *;have k1:=qa r1;have k3:=qa r3;have f3:=qe r3;clear h r1 r2 hsz e1;replace h3:=zH h3;replace r4:=zH r4;replace o3:=zH o3;have hll:=zH hl;have dS:(l.length:Int)<=(n:Int):=zO;have fin:Hid (∀ o' n',n'=n-l.length->(0<n'->o'=o+l.length)->(n'=0->o'=o)->CloneQ hb g o n cur l w (.returned (.slice (some ⟨g,o,none⟩) l.length l.length)) (w3.setCell ⟨hb,0,none⟩ (.slice (some ⟨g,o',none⟩) n' n'))):=zH fun o' n' e h1 h2=>by
  subst e;refine⟨o',rfl,h1,h2,⟨qi r3 0 _,(zJ _ _ _ _ (fun e=>aN e.symm)).trans r4.out,aN,?_,zO⟩,by simpa using s3,o3.out.1,o3.out.2.1,o3.out.2.2,fun b hb yh=>(zJ _ _ _ _ hb).trans (h3.out b yh)⟩;rw[TP zO];rcases Nat.eq_zero_or_pos (n-l.length) with h0|h0
  ·have:=h2 h0;omega
  ·have:=h1 h0;omega
 clear r3 r4 h3 o3 fV;go_enter func180,ntmps180;go_wp2_with fail
 ·subst h;go_ret;exact fin.out o 0 zO (fun h=>zO) (fun _=>rfl)
 ·go_ret;exact fin.out (o+l.length) (n-l.length) rfl (fun _=>rfl) (fun h=>zO)
section
variable {R0 R:Rel} {c:Nat}
def preC (R0 R:Rel) (c i:Nat):Rel:=if i=c then R0 else R
def Uq (R0 R:Rel) (c i:Nat):Rel:=if i=c then R else R0
section
variable {P:Program} {ops:Array Oper} {w0:World}
def jg (R0 R:Rel) (c:Nat) (P:Program) (ops:Array Oper) (w0:World) (H:Nat->Option qS) (i:Nat) (o:Oper) (a:Act) (F:qJ) (h:qS):Prop:=
 (Region.wanted o (yielded ops a.tmps)=false/\h=one undef) \/
 (Region.wanted o (yielded ops a.tmps)=true/\H i=none/\∃ v,h=one v/\∀ W,(preC R0 R c i).r w0 W->(∀ k∈qE o,F k W)->JJ (Uq R0 R c i) P o a W v) \/
 (Region.wanted o (yielded ops a.tmps)=true/\H i=some h/\∀ W,(preC R0 R c i).r w0 W->(∀ k∈qE o,F k W)->QC (Uq R0 R c i) P o a W h)
def Tv (R0 R:Rel) (c:Nat) (w0:World) (listed:Array Bool) (F:qJ):Prop:=∃ W,R.r w0 W/\(listed.getD c true=false->R0.r w0 W)/\∀ k,F k W
def FOpC (R0 R:Rel) (c:Nat) (P:Program) (ops:Array Oper) (w0:World) (H:Nat->Option qS) (listed:Array Bool) (i:Nat) (o:Oper) (K:Act->qJ->Prop) (a:Act) (F:qJ):Prop:=
 ∃ h,jg R0 R c P ops w0 H i o a F h/\∀ p,Tv R0 R c w0 (listed.setIfInBounds i true) (upd F i o (h.φ p))->K (a.put o.dst (h.f p)) (upd F i o (h.φ p))
def jG (R0 R:Rel) (c:Nat) (P:Program) (ops:Array Oper) (w0:World) (H:Nat->Option qS) (Q:Act->qJ->Prop):List (Nat×Oper)->Array Bool->Act->qJ->Prop
 | [],_,a,F=>Q a F
 |(k,o) :: rest,listed,a,F=>FOpC R0 R c P ops w0 H listed k o (fun a' F'=>jG R0 R c P ops w0 H Q rest (listed.setIfInBounds k true) a' F') a F
def XV (R0 R:Rel) (c:Nat) (P:Program) (ops:Array Oper) (w0:World) (H:Nat->Option qS) (L:Array Bool) (Q:Act->qJ->Prop):Nat->Array Bool->Act->qJ->Prop
 |0,listed,a,F=>listed=L/\Q a F
 |fuel+1,listed,a,F=>Region.ready .any ops listed≠[]/\∀ i∈Region.ready .any ops listed,∀ o,ops[i]?=some o->FOpC R0 R c P ops w0 H listed i o (XV R0 R c P ops w0 H L Q fuel (listed.setIfInBounds i true)) a F
theorem qbZ {listed:Array Bool} {i:Nat} {W:World} (hi:listed.getD i true=false) (h:R.r w0 W) (h0:listed.getD c true=false->R0.r w0 W):(preC R0 R c i).r w0 W:=by
 unfold preC;split
 ·rename_i e;subst e;exact h0 hi
 ·exact h
theorem qgn (hle:∀ a b,R0.r a b->R.r a b) {i:Nat} {W W':World} (h:(Uq R0 R c i).r W W'):R.r W W':=by
 unfold Uq at h;split at h
 ·exact h
 ·exact hle _ _ h
theorem stpC_0 {listed:Array Bool} {i:Nat} {W W':World} (hi:listed.getD i true=false) (h:(Uq R0 R c i).r W W') (hc:(listed.setIfInBounds i true).getD c true=false):R0.r W W':=by
 unfold Uq at h;split at h
 ·rename_i e;subst e;exfalso;rcases Nat.lt_or_ge i listed.size with h'|h'
  ·simp[h'] at hc
  ·simp[Array.getElem?_eq_none h'] at hi
 ·exact h
theorem unset {listed:Array Bool} {i c:Nat} (hc:(listed.setIfInBounds i true).getD c true=false):listed.getD c true=false:=by
 by_cases e:i=c
 ·subst e;rcases Nat.lt_or_ge i listed.size with h'|h'
  ·simp[h'] at hc
  ·simp at hc
 ·rwa [getD_set_ne true e] at hc
def Void (c:Nat) (listed:Array Bool) (F:qJ):Prop:=listed.getD c true=false->∀ k W,F k W
theorem keepC {listed:Array Bool} {F:qJ} {i:Nat} {W W':World} (hi:listed.getD i true=false) (aH:∀ k,qB R0 (F k)) (hv:Void c listed F) (h:(Uq R0 R c i).r W W') (k:Nat) (hF:F k W):F k W':=by
 unfold Uq at h;split at h
 ·rename_i e;subst e;exact hv hi k W'
 ·exact aH k _ _ h hF
theorem jg.unique {H:Nat->Option qS} {listed:Array Bool} {i:Nat} {o:Oper} {a:Act} {F:qJ} {h h':qS} (hc:Tv R0 R c w0 listed F) (hi:listed.getD i true=false) (x:jg R0 R c P ops w0 H i o a F h) (y:jg R0 R c P ops w0 H i o a F h'):h=h':=by
 obtain⟨W,hW,oZ,hF⟩:=hc;have hW:=qbZ hi hW oZ;rcases x with ⟨x1,rfl⟩|⟨x1,x2,v,rfl,x3⟩|⟨x1,x2,x3⟩ <;> rcases y with ⟨y1,rfl⟩|⟨y1,y2,u,rfl,y3⟩|⟨y1,y2,y3⟩
 ·rfl
 ·rw[x1] at y1;cases y1
 ·rw[x1] at y1;cases y1
 ·rw[x1] at y1;cases y1
 ·obtain⟨w1,e1,_⟩:=x3 W hW fun k _=>hF k;obtain⟨w2,e2,_⟩:=y3 W hW fun k _=>hF k;rw[e1] at e2;cases e2;rfl
 ·rw[x2] at y2;cases y2
 ·rw[x1] at y1;cases y1
 ·rw[x2] at y2;cases y2
 ·rw[x2] at y2;cases y2;rfl
theorem jg.some_ (hle:∀ a b,R0.r a b->R.r a b) {H:Nat->Option qS} {listed:Array Bool} {i:Nat} {o:Oper} {a:Act} {F:qJ} {h:qS} (hc:Tv R0 R c w0 listed F) (hi:listed.getD i true=false) (aH:∀ k,qB R0 (F k)) (hv:Void c listed F) (x:jg R0 R c P ops w0 H i o a F h):∃ p,Tv R0 R c w0 (listed.setIfInBounds i true) (upd F i o (h.φ p)):=by
 obtain⟨W,hW,oZ,hF⟩:=hc;have fD:∀ (φ:World->Prop) W',(Uq R0 R c i).r W W'->φ W'->Tv R0 R c w0 (listed.setIfInBounds i true) (upd F i o φ):=fun φ W' he hφ=>⟨W',R.trans hW (qgn hle he),fun h=>R0.trans (oZ (unset h)) (stpC_0 hi he h),fun k=>by
  unfold upd;split
  ·exact⟨hφ,fun j _=>keepC hi aH hv he j (hF j)⟩
  ·exact keepC hi aH hv he k (hF k)⟩
 have hW:=qbZ hi hW oZ;rcases x with ⟨x1,rfl⟩|⟨x1,x2,v,rfl,x3⟩|⟨x1,x2,x3⟩
 ·exact⟨(),fD _ W (Rel.refl _ W) trivial⟩
 ·obtain⟨w',_,he⟩:=x3 W hW fun k _=>hF k;exact⟨(),fD _ w' he trivial⟩
 ·have h3:=x3 W hW fun k _=>hF k;unfold QC at h3;generalize (execOp a.eval o).run P W=r at h3;cases r with
  |ok n w' =>
   cases n <;> simp only[ZB] at h3
   case value u=>obtain⟨p,_,hp,he⟩:=h3;exact⟨p,fD _ w' he hp⟩
   case skip=>obtain⟨p,_,hp,he⟩:=h3;exact⟨p,fD _ w' he hp⟩
   case enter f args =>obtain⟨he,bH⟩:=h3;obtain⟨e,w'',fr,⟨p,_,hp,ig⟩,_⟩:=bH [];exact⟨p,fD _ w'' (Rel.trans _ he ig) hp⟩
  |halt x w'=>simp only[ZB] at h3
theorem jg.move {H:Nat->Option qS} {i j:Nat} {oi oj:Oper} {a:Act} {F:qJ} {h:qS} {v:Value} {φ:World->Prop} (eQ:oi.apart ops oj=true) (sZ:∀ cs b,oj.op≠.select cs b) (hn:i∉qE oj):jg R0 R c P ops w0 H j oj (a.put oi.dst v) (upd F i oi φ) h↔jg R0 R c P ops w0 H j oj a F h:=by
 obtain⟨h1,_,_⟩:=Oper.apart_spec eQ;have hF:∀ W,(∀ k∈qE oj,upd F i oi φ k W)↔∀ k∈qE oj,F k W:=fun W=>by
  constructor <;> intro hh k hk
  ·have:=hh k hk;unfold upd at this;rwa [if_neg (fun e=>hn (by rw[<-e];exact hk))] at this
  ·unfold upd;rw[if_neg (fun e=>hn (by rw[<-e];exact hk))];exact hh k hk
 unfold jg JJ QC;rw[wanted_put oj a oi.dst v h1,execOp_put oj sZ a oi.dst v h1];simp only[hF]
theorem jg.move' {H:Nat->Option qS} {i j:Nat} {oi oj:Oper} {a:Act} {F:qJ} {h:qS} {v:Value} {φ:World->Prop} (eQ:oi.apart ops oj=true) (uh:∀ cs b,oi.op≠.select cs b) (hn:j∉qE oi):jg R0 R c P ops w0 H i oi (a.put oj.dst v) (upd F j oj φ) h↔jg R0 R c P ops w0 H i oi a F h:=by
 obtain⟨_,_,h3⟩:=Oper.apart_spec eQ;have hF:∀ W,(∀ k∈qE oi,upd F j oj φ k W)↔∀ k∈qE oi,F k W:=fun W=>by
  constructor <;> intro hh k hk
  ·have:=hh k hk;unfold upd at this;rwa [if_neg (fun e=>hn (by rw[<-e];exact hk))] at this
  ·unfold upd;rw[if_neg (fun e=>hn (by rw[<-e];exact hk))];exact hh k hk
 unfold jg JJ QC;rw[wanted_put oi a oj.dst v h3,execOp_put oi uh a oj.dst v h3];simp only[hF]
theorem jg.stable {H:Nat->Option qS} (hH:∀ i h,H i=some h->∀ p,qB R0 (h.φ p)) {i:Nat} {o:Oper} {a:Act} {F:qJ} {h:qS} (x:jg R0 R c P ops w0 H i o a F h):∀ p,qB R0 (h.φ p):=by
 rcases x with ⟨_,rfl⟩|⟨_,_,v,rfl,_⟩|⟨_,x2,_⟩
 ·exact fun _ _ _ _ _=>trivial
 ·exact fun _ _ _ _ _=>trivial
 ·exact hH i h x2
theorem jg.void {H:Nat->Option qS} (hone:∀ i h,H i=some h->i=c) {listed:Array Bool} {i:Nat} {o:Oper} {a:Act} {F:qJ} {h:qS} (hv:Void c listed F) (x:jg R0 R c P ops w0 H i o a F h) (p:h.α):Void c (listed.setIfInBounds i true) (upd F i o (h.φ p)):=by
 intro hc k W;have bH:=hv (unset hc);unfold upd;split
 ·refine⟨?_,fun j _=>bH j W⟩;rcases x with ⟨_,rfl⟩|⟨_,_,v,rfl,_⟩|⟨_,x2,_⟩
  ·trivial
  ·trivial
  ·exfalso;have e:=hone i h x2;subst e;rcases Nat.lt_or_ge i listed.size with h'|h'
   ·simp[h'] at hc
   ·simp at hc
 ·exact bH k W
theorem qay (hle:∀ a b,R0.r a b->R.r a b) {H:Nat->Option qS} (hone:∀ i h,H i=some h->i=c) (hH:∀ i h,H i=some h->∀ p,qB R0 (h.φ p)) {A:Nat->Prop} {Cl:Array Bool->Prop} {L:Array Bool} {Q:Act->qJ->Prop} {i:Nat} {oi:Oper} (hi:ops[i]?=some oi) (him:A i) (gG:∀ (j:Nat) (o:Oper) cs b,ops[j]?=some o->o.op≠.select cs b) (bH:∀ listed j,Cl listed->j∈Region.ready .any ops listed->Cl (listed.setIfInBounds j true)) (bM:∀ (listed:Array Bool) (j:Nat),Cl listed->j∈Region.ready .any ops listed->L.getD j true=false->∀ k,A k->listed.getD k false=true) : ∀ (fuel:Nat) (listed:Array Bool) (a:Act) (F:qJ),Cl listed -> (∀ j oj,ops[j]?=some oj->j≠i->listed.getD j true=false->(∀ e∈oj.after,Region.binds .any e=true->e.on≠i)->oi.apart ops oj=true) ->
   i∈Region.ready .any ops listed->(∀ k,qB R0 (F k))->Tv R0 R c w0 listed F->Void c listed F->(∀ k,listed.getD k true=false->∀ W,F k W) ->
   FOpC R0 R c P ops w0 H listed i oi (XV R0 R c P ops w0 H L Q fuel (listed.setIfInBounds i true)) a F->XV R0 R c P ops w0 H L Q (fuel+1) listed a F:=by
 intro fuel;induction fuel with
 |zero =>
  intro listed a F wo _ hr aH hc lM _ dY;refine⟨fun h=>(by rw[h] at hr;cases hr),fun j hj oj dE=>?_⟩;by_cases hji:j=i
  ·subst hji;rw[hi] at dE;cases dE;exact dY
  ·exfalso;obtain⟨h,hok,hK⟩:=dY;obtain⟨p,eP⟩:=hok.some_ hle hc (mem_ready.1 hr).1 aH lM;have hmj:L.getD j true=false:=by rw[<-(hK p eP).1];exact(mem_ready.1 (ready_mono hj hji)).1
   have h1:=bM listed j wo hj hmj i him;have h0:=(mem_ready.1 hr).1;rcases Nat.lt_or_ge i listed.size with h'|h'
   ·simp[h'] at h0 h1;rw[h0] at h1;cases h1
   ·simp[Array.getElem?_eq_none h'] at h1
 |succ fuel ih =>
  intro listed a F wo dH hr aH hc lM iU dY;refine⟨fun h=>(by rw[h] at hr;cases hr),fun j hj oj dE=>?_⟩;by_cases hji:j=i
  ·subst hji;rw[hi] at dE;cases dE;exact dY
  ·obtain⟨bY,oj',iC,ay⟩:=mem_ready.1 hj;rw[dE] at iC;cases iC;obtain⟨lX,oi',lh,fQ⟩:=mem_ready.1 hr;rw[hi] at lh;cases lh;have bad:∀ k,listed.getD k true=false->listed.getD k false=true->False:=fun k h0 h1=>by
    rcases Nat.lt_or_ge k listed.size with h'|h'
    ·simp[h'] at h0 h1;rw[h0] at h1;cases h1
    ·simp[Array.getElem?_eq_none h'] at h1
   have lZ:∀ e∈oj.after,Region.binds .any e=true->e.on≠i:=fun e he hb nH=>bad i lX (nH ▸ ay e he hb);have lg:∀ e∈oi.after,Region.binds .any e=true->e.on≠j:=fun e he hb nH=>bad j bY (nH ▸ fQ e he hb);have gW:i∉qE oj:=fun hin=>by obtain⟨e,he,nG⟩:=List.mem_map.1 hin;rw[List.mem_filter] at he;exact lZ e (by simpa using he.1) he.2 nG
   have pJ:j∉qE oi:=fun hin=>by obtain⟨e,he,nG⟩:=List.mem_map.1 hin;rw[List.mem_filter] at he;exact lg e (by simpa using he.1) he.2 nG
   have eQ:=dH j oj dE hji bY lZ;have uh:∀ cs b,oi.op≠.select cs b:=fun cs b=>gG i oi cs b hi;have sZ:∀ cs b,oj.op≠.select cs b:=fun cs b=>gG j oj cs b dE;obtain⟨h2,_⟩:=(Oper.apart_spec eQ).2;obtain⟨hI,okI,yU⟩:=dY;obtain⟨p0,ru⟩:=okI.some_ hle hc lX aH lM;obtain⟨hJ,uo,_⟩:=(yU p0 ru).2 j (ready_mono hj hji) oj dE;have uC:jg R0 R c P ops w0 H j oj a F hJ:=(jg.move eQ sZ gW).1 uo;refine⟨hJ,uC,fun q hcq=>?_⟩;have stJ:=uC.stable hH q;have fH:∀ k ok,ops[k]?=some ok->k≠i->(listed.setIfInBounds j true).getD k true=false ->
     (∀ e∈ok.after,Region.binds .any e=true->e.on≠i)->oi.apart ops ok=true:=fun k ok hk eF mF bQ=>by
    refine dH k ok hk eF ?_ bQ;by_cases hjk:j=k
    ·subst hjk;exact bY
    ·rw[getD_set_ne true hjk] at mF;exact mF
   refine ih (listed.setIfInBounds j true) _ _ (bH _ _ wo hj) fH (ready_mono hr (Ne.symm hji)) (Zr aH j oj stJ) hcq (uC.void hone lM q) ?_ ?_
   ·intro k hk W;by_cases hjk:j=k
    ·subst hjk;exfalso;have hlt:j<listed.size:=by
      rcases Nat.lt_or_ge j listed.size with h'|h'
      ·exact h'
      ·simp[Array.getElem?_eq_none h'] at bY
     simp[hlt] at hk
    ·rw[getD_set_ne true hjk] at hk;have:=iU k hk W;unfold upd;rw[if_neg (fun e=>hjk e.symm)];exact this
   ·refine⟨hI,(jg.move' eQ uh pJ).2 okI,fun p eP=>?_⟩;have uM:Tv R0 R c w0 (listed.setIfInBounds i true) (upd F i oi (hI.φ p)):=by
     by_cases hjc:j=c
     ·have hNY:∃ v,hI=one v:=by
       rcases okI with ⟨_,e⟩|⟨_,_,v,e,_⟩|⟨_,e,_⟩
       ·exact⟨_,e⟩
       ·exact⟨_,e⟩
       ·exact absurd ((hone _ _ e).trans hjc.symm) (Ne.symm hji)
      obtain⟨v,rfl⟩:=hNY;exact ru
     ·obtain⟨W,hW,oZ,hF⟩:=eP;refine⟨W,hW,fun h=>oZ ?_,fun k=>?_⟩
      ·rw[Array.setIfInBounds_comm _ _ hji,getD_set_ne true hjc];exact h
      have hk:=hF k;by_cases eF:k=i
      ·subst eF;unfold upd at hk ⊢;rw[if_pos rfl] at hk ⊢;refine⟨hk.1,fun l hl=>?_⟩;have:=hk.2 l hl
       rwa [if_neg (fun e=>pJ (by rw[<-e];exact hl))] at this
      ·by_cases hkj:k=j
       ·subst hkj;unfold upd;rw[if_neg eF];exact iU k bY W
       ·unfold upd at hk ⊢;rw[if_neg eF,if_neg hkj] at hk;rw[if_neg eF];exact hk
    obtain⟨yT,um,uJ⟩:=(yU p uM).2 j (ready_mono hj hji) oj dE;have mJ:jg R0 R c P ops w0 H j oj a F yT:=(jg.move eQ sZ gW).1 um;have e:=mJ.unique hc bY uC;subst e;have hq:=uJ q (by rw[JM F _ _ (Ne.symm hji) gW pJ,Array.setIfInBounds_comm _ _ (fun e=>hji e.symm)];exact eP);rw[Array.setIfInBounds_comm _ _ (fun e=>hji e.symm),Act.put_comm a (hI.f p) (yT.f q) h2,JM F _ _ (Ne.symm hji) gW pJ] at hq;exact hq
theorem Uj (hle:∀ a b,R0.r a b->R.r a b) {H:Nat->Option qS} (hone:∀ i h,H i=some h->i=c) (hH:∀ i h,H i=some h->∀ p,qB R0 (h.φ p)) {Cl:Array Bool->Prop} {L:Array Bool} {ks:List Nat} {Q:Act->qJ->Prop} (hs:Region.noSelect ops=true) (bH:∀ listed j,Cl listed->j∈Region.ready .any ops listed->Cl (listed.setIfInBounds j true)) (bM:∀ (listed:Array Bool) (j:Nat),Cl listed->j∈Region.ready .any ops listed->L.getD j true=false->∀ k,k∈ks->listed.getD k false=true):∀ (l:List (Nat×Oper)) (listed:Array Bool) (a:Act) (F:qJ),Cl listed->(∀ x∈l,ops[x.1]?=some x.2/\x.1∈ks) ->
  Zp ops L (l.map (·.1)) listed=true->(∀ k,qB R0 (F k))->Tv R0 R c w0 listed F->Void c listed F->(∀ j,listed.getD j true=false->∀ W,F j W)->jG R0 R c P ops w0 H Q l listed a F->XV R0 R c P ops w0 H L Q l.length listed a F
 | [],listed,a,F,_,_,hB,_,_,_,_,h=>⟨by simpa [Zp] using hB,h⟩
 |(k,o) :: l,listed,a,F,wo,hl,hB,aH,hc,lM,iU,h=>by
  obtain⟨h0,xU⟩:=hl (k,o) (List.mem_cons_self);simp only[List.map_cons,Zp,Bool.and_eq_true] at hB;obtain⟨⟨hr,hf⟩,gQ⟩:=hB;have xn:k∈Region.ready .any ops listed:=by simpa using hr
  have uT:=(mem_ready.1 xn).1;refine qay hle hone (A:=fun k=>k∈ks) hH h0 xU (Region.noSelect_spec hs) bH bM l.length listed a F wo (Region.free_spec h0 hf) xn aH hc lM iU ?_;obtain⟨hh,hok,hK⟩:=h;refine⟨hh,hok,fun p eP=>?_⟩;refine Uj hle hone hH hs bH bM l _ _ _ (bH _ _ wo xn) (fun x hx=>hl x (List.mem_cons_of_mem _ hx)) gQ (Zr aH k o (hok.stable hH p)) eP (hok.void hone lM p) (fun j hj W=>?_) (hK p eP);by_cases hjk:k=j
  ·subst hjk;have hlt:k<listed.size:=by
    rcases Nat.lt_or_ge k listed.size with h'|h'
    ·exact h'
    ·simp[Array.getElem?_eq_none h'] at uT
   simp[hlt] at hj
  ·rw[getD_set_ne true hjk] at hj;have:=iU j hj W;unfold upd;rw[if_neg (fun e=>hjk e.symm)];exact this
theorem qaB (hle:∀ a b,R0.r a b->R.r a b) {H:Nat->Option qS} {i:Nat} {o:Oper} {a:Act} {F:qJ} {K:Act->qJ->Prop} {K':Act->World->Prop} {Q':Exit->Act->World->Prop} {W:World} {listed:Array Bool} (hli:listed.getD i true=false) (hi:ops[i]?=some o) (hone:∀ i h,H i=some h->i=c) (hH:∀ i h,H i=some h->∀ p,qB R0 (h.φ p)) (aH:∀ k,qB R0 (F k)) (lM:Void c listed F) (hW:R.r w0 W) (oZ:listed.getD c true=false->R0.r w0 W) (hF:∀ k,F k W) (hK:∀ a' F' W',K a' F'->(∀ k,qB R0 (F' k))->Void c (listed.setIfInBounds i true) F'->R.r w0 W'->((listed.setIfInBounds i true).getD c true=false->R0.r w0 W')->(∀ k,F' k W')->K' a' W') (h:FOpC R0 R c P ops w0 H listed i o K a F):wpOp P ops Q' i K' a W:=by
 obtain⟨hh,hok,hn⟩:=h;have go:∀ p W',(Uq R0 R c i).r W W'->hh.φ p W'->K' (a.put o.dst (hh.f p)) W':=fun p W' he0 hφ=>by
  have he:=qgn hle he0;have h0:(listed.setIfInBounds i true).getD c true=false->R0.r w0 W':=fun h=>R0.trans (oZ (unset h)) (stpC_0 hli he0 h);have lQ:∀ k,upd F i o (hh.φ p) k W':=fun k=>by
   unfold upd;split
   ·exact⟨hφ,fun j _=>keepC hli aH lM he0 j (hF j)⟩
   ·exact keepC hli aH lM he0 k (hF k)
  exact hK _ _ W' (hn p ⟨W',R.trans hW he,h0,lQ⟩) (Zr aH i o (hok.stable hH p)) (hok.void hone lM p) (R.trans hW he) h0 lQ
 have hWp:=qbZ (c:=c) hli hW oZ;unfold wpOp;simp only[hi];rcases hok with ⟨x1,rfl⟩|⟨x1,x2,v,rfl,x3⟩|⟨x1,x2,x3⟩
 ·simp only[x1,Bool.false_eq_true,if_false];exact go () W (Rel.refl _ W) trivial
 ·simp only[x1,if_true];obtain⟨w',hr,he⟩:=x3 W hWp fun k _=>hF k;refine .inl ?_;unfold Oper.wp;rw[hr];exact go () w' he trivial
 ·simp only[x1,if_true];have h3:=x3 W hWp fun k _=>hF k;refine .inl ?_;unfold QC at h3;unfold Oper.wp;generalize (execOp a.eval o).run P W=r at *;cases r with
  |ok n w' =>
   cases n <;> simp only[ZB] at h3 <;> simp only[Oper.upon]
   case value u =>obtain⟨p,rfl,hp,he⟩:=h3;exact go p w' he hp
   case skip =>obtain⟨p,hu,hp,he⟩:=h3;rw[hu];exact go p w' he hp
   case enter f args =>obtain⟨he,bH⟩:=h3;refine bH.mono fun e w'' ⟨p,he1,hp,ig⟩=>?_;subst he1;exact go p w'' (Rel.trans _ he ig) hp
  |halt x w'=>simp only[ZB] at h3
theorem KS (hle:∀ a b,R0.r a b->R.r a b) {H:Nat->Option qS} (hone:∀ i h,H i=some h->i=c) (hH:∀ i h,H i=some h->∀ p,qB R0 (h.φ p)) {L:Array Bool} {t:Nat} {Q:Act->qJ->Prop} {Q':Exit->Act->World->Prop} (hQ:∀ a F W,Q a F->R.r w0 W->(∀ k,F k W)->wpAny P .any ops Q' t L a W) : ∀ (fuel:Nat) (listed:Array Bool) (a:Act) (F:qJ) (W:World),(∀ k,qB R0 (F k))->Void c listed F->R.r w0 W->(listed.getD c true=false->R0.r w0 W)->(∀ k,F k W)->XV R0 R c P ops w0 H L Q fuel listed a F->wpAny P .any ops Q' (fuel+t) listed a W
 |0,listed,a,F,W,_,_,hW,_,hF,h=>by rw[h.1,Nat.zero_add];exact hQ a F W h.2 hW hF
 |fuel+1,listed,a,F,W,aH,lM,hW,oZ,hF,h=>by rw[show fuel+1+t=fuel+t+1 by omega];refine⟨fun h0=>absurd h0 h.1,fun i hi=>?_⟩;obtain⟨hli,o,ho,_⟩:=mem_ready.1 hi;exact qaB hle hli ho hone hH aH lM hW oZ hF (fun a' F' W' hk gJ hvd' ax hW0' lQ=>KS hle hone hH hQ fuel _ a' F' W' gJ hvd' ax hW0' lQ hk) (h.2 i hi o ho)
theorem qaF {l:List Oper} {Q:Exit->Act->World->Prop} {fuel:Nat} {listed:Array Bool} {a:Act} {w W:World} (R0 R:Rel) (c:Nat) (hle:∀ a b,R0.r a b->R.r a b) (H:Nat->Option qS) (M:List Bool) (t:Nat) (hs:Region.noSelect l.toArray=true) (ht:qdY l.toArray (QK l.length (l.length-t)) ((qp 0 l M).map (·.1))=true) (dC:KY l.toArray listed=true) (hB:Zp l.toArray (QK l.length (l.length-t)) ((qp 0 l M).map (·.1)) listed=true) (lu:Ts l.toArray t (l.length-t) (QK l.length (l.length-t))=true) (hfu:fuel=(qp 0 l M).length+t) (nS:(l.drop (l.length-t)).length=t) (hH:∀ i h,H i=some h->∀ p,qB R0 (h.φ p)) (hone:∀ i h,H i=some h->i=c) (hW:R0.r w W) (h:∀ K:Act->qJ->Prop,(∀ a' F',(∀ W,R.r w W->(∀ k,F' k W)->wpList P l.toArray Q (l.drop (l.length-t)) a' W)->K a' F')->jG R0 R c P l.toArray w H K (qp 0 l M) listed a (fun _ _=>True)):wpAny P .any l.toArray Q fuel listed a W:=by
 have h:=h _ (fun a' F' hh=>hh);subst hfu;have key:=Uj hle hone (w0:=w) hH hs (fun _ _ h=>h.step) (Xe ht) (qp 0 l M) listed a (fun _ _=>True) (JX dC) (fun x hx=>by obtain⟨j,h1,h2⟩:=JZ l M 0 x hx;refine⟨?_,List.mem_map.2 ⟨x,hx,rfl⟩⟩;rw[h1,Nat.zero_add];simpa using h2) hB (fun _ _ _ _ _=>trivial) ⟨W,hle _ _ hW,fun _=>hW,fun _=>trivial⟩ (fun _ _ _=>trivial) (fun _ _ _=>trivial) h;refine KS hle hone (w0:=w) hH (t:=t) (Q':=Q) (fun a F W hq hW hF=>?_) _ _ _ _ W (fun _ _ _ _ _=>trivial) (fun _ _ _=>trivial) (hle _ _ hW) (fun _=>hW) (fun _=>trivial) key;have:=VV (l.drop (l.length-t)) (l.length-t) _ a W (fun j _=>by rw[List.getElem?_drop];simp) (by rw[nS];exact lu) (hq W hW hF)
 rwa [nS] at this
/-! ### the steps of the walk -/
section
variable {H:Nat->Option qS} {Q:Act->qJ->Prop} {k:Nat} {o:Oper} {rest:List (Nat×Oper)} {a:Act} {F:qJ} {listed:Array Bool}
theorem qaK (h:Q a F):jG R0 R c P ops w0 H Q [] listed a F:=h
theorem qdd (v:Value) (hw:Region.wanted o (yielded ops a.tmps)=true) (hH:H k=none) (hv:∀ W,(preC R0 R c k).r w0 W->(∀ j∈qE o,F j W)->JJ (Uq R0 R c k) P o a W v) (h:jG R0 R c P ops w0 H Q rest (listed.setIfInBounds k true) (a.put o.dst v) (upd F k o fun _=>True)):jG R0 R c P ops w0 H Q ((k,o) :: rest) listed a F:=
 ⟨one v,.inr (.inl ⟨hw,hH,v,rfl,hv⟩),fun _ _=>h⟩
theorem jj (hle:∀ a b,R0.r a b->R.r a b) (v:Value) (hw:Region.wanted o (yielded ops a.tmps)=true) (hH:H k=none) (hv:∀ W,R.r w0 W->(∀ j∈qE o,F j W)->(execOp a.eval o).run P W=.ok (.value v) W) (h:jG R0 R c P ops w0 H Q rest (listed.setIfInBounds k true) (a.put o.dst v) (upd F k o fun _=>True)):jG R0 R c P ops w0 H Q ((k,o) :: rest) listed a F:=
 qdd v hw hH (fun W hW hF=>⟨W,hv W (by unfold preC at hW;split at hW;exact hle _ _ hW;exact hW) hF,Rel.refl _ W⟩) h
theorem Jl (hw:Region.wanted o (yielded ops a.tmps)=false) (h:jG R0 R c P ops w0 H Q rest (listed.setIfInBounds k true) (a.put o.dst undef) (upd F k o fun _=>True)):jG R0 R c P ops w0 H Q ((k,o) :: rest) listed a F:=
 ⟨one undef,.inl ⟨hw,rfl⟩,fun _ _=>h⟩
theorem UW (hh:qS) (hw:Region.wanted o (yielded ops a.tmps)=true) (hH:H c=some hh) (hv:∀ W,R0.r w0 W->(∀ j∈qE o,F j W)->QC R P o a W hh) (h:∀ p,jG R0 R c P ops w0 H Q rest (listed.setIfInBounds c true) (a.put o.dst (hh.f p)) (upd F c o (hh.φ p))):jG R0 R c P ops w0 H Q ((c,o) :: rest) listed a F:=
 ⟨hh,.inr (.inr ⟨hw,hH,fun W hW hF=>by unfold preC at hW;unfold Uq;rw[if_pos rfl] at hW ⊢;exact hv W hW hF⟩),fun p _=>h p⟩
end
end
end
structure Xh (S:Sto):Prop where
 bs:S.bs.length<1000000
 ws:S.ws.length<1000000
 be:∀ l∈S.bs,l.length<1000000
 we:∀ p∈S.ws,p.2.length<1000000
 now:S.now.length<1000000
 last:S.last.length<1000000
end Go.Proofs.YtpbniokljofedaaGreat
