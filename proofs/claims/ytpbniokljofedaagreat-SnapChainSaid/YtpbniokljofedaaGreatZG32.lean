/- Texts Snap, IterW, Iter, Iter1, joined. -/
import Derived.RangeFuncKeeps
import Derived.RangeFuncBound
import Derived.RangeFuncLeaves
import Derived.Shelf.Abstract
import Derived.OwnWalkIn
import Derived.TacticsInMore
import Derived.Test.YtpbniokljofedaaGreatZG23
import Derived.Test.YtpbniokljofedaaGreatZG31
set_option linter.unusedSimpArgs false
set_option linter.unusedVariables false
set_option maxHeartbeats 8000000
open Go.Proofs.Tryz
namespace Go.Proofs.YtpbniokljofedaaGreat
open Go.RowKit
section
variable {gb:Nat} {c0 c1 c2 c3 c4 c5 c6 c7:Value} {er:Int}
theorem ghold_no (lu:er≠0) (v:Vol) (w:World) (hr:w.heap[gb]?=some (.cells #[c0,c1,c2,c3,c4,c5,c6,c7,.int .i64 er] 105 (0,0))):Calls prog 62 #[.pointer (some ⟨gb,0,none⟩),jB v] w (Ret (.tuple #[]) w):=by
 have zg:=(zG.1 hr).1;have kr:=qa hr;have hb:(er == 0)=false:=by rw[beq_eq_false_iff_ne];exact lu
 clear lu hr;go_enter func62,ntmps62;go_wp2_with fail;go_end0;exact⟨rfl,zN _ _⟩
theorem qiN (lu:er≠0) (v:Vol) (w:World) (hr:w.heap[gb]?=some (.cells #[c0,c1,c2,c3,c4,c5,c6,c7,.int .i64 er] 105 (0,0))):Calls prog 63 #[.pointer (some ⟨gb,0,none⟩),jB v] w (Ret (.tuple #[]) w):=by
 have zg:=(zG.1 hr).1;have kr:=qa hr;have hb:(er == 0)=false:=by rw[beq_eq_false_iff_ne];exact lu
 clear lu hr;go_enter func63,ntmps63;go_wp2_with fail;go_end0;exact⟨rfl,zN _ _⟩
end
theorem eight {W C:World} {b:Nat} {u0 u1 u2 u3 u4 u5 u6 u7 x0 x1 x2 x3 x4 x5 x6 x7:Value} {ty:TypeId} (rp:W.heap[b]?=some (.cells #[u0,u1,u2,u3,u4,u5,u6,u7] ty (0,0))) (hC:(((((((W.setCell ⟨b,0,none⟩ x0).setCell ⟨b,1,none⟩ x1).setCell ⟨b,2,none⟩ x2).setCell ⟨b,3,none⟩ x3).setCell ⟨b,4,none⟩ x4).setCell ⟨b,5,none⟩ x5).setCell ⟨b,6,none⟩ x6).setCell ⟨b,7,none⟩ x7=C):C.heap[b]?=some (.cells #[x0,x1,x2,x3,x4,x5,x6,x7] ty (0,0))/\(∀ k,k≠b->C.heap[k]?=W.heap[k]?)/\C.heap.size=W.heap.size/\∀ {B:Nat} {w0:World},B<=b->Below B w0 W->Below B w0 C:=by
 subst hC;exact⟨jG rp _ _ _ _ _ _ _ _,fun k hk=>jz hk _ _ _ _ _ _ _ _,zA2,fun hb h0=>zl h0 hb _ _ _ _ _ _ _ _⟩
def JS (next:Int) (v:Vol) (fz:Bool) (id:Int):Vol:=⟨next,v.root,fz,id⟩
def kA (S:Sto) (root next:Int) (dead:List Int) (id:Int) (fz:Bool) (er:Int):Prop:=(er=8/\zj S root next dead)\/∃ vs refs nodes,Qg S root next dead vs/\qX S (Qs root dead vs) refs nodes/\QF S refs /\
 ((er=6/\Qr vs id=none)\/∃ v,Qr vs id=some v/\((er=9/\(16<=vs.length\/next=4294967295))\/QO S v.root=er\/(QO S v.root=0/\(YJ (QE S v.root) root (next+1) dead (JS next v fz id) er\/∃ r S' vs',kz (QE S v.root) root (next+1) dead (JS next v fz id) r S' vs'/\er=9/\zt S'≠0))))
def UQ (S:Sto) (root next:Int) (dead:List Int) (id:Int) (fz:Bool) (r:Nat) (S':Sto):Prop:=∃ vs refs nodes v vs',Qg S root next dead vs/\qX S (Qs root dead vs) refs nodes/\QF S refs /\
 Qr vs id=some v/\vs.length<16/\next<4294967295/\QO S v.root=0/\kz (QE S v.root) root (next+1) dead (JS next v fz id) r S' vs'/\zt S'=0
def SnapQ (S:Sto) (gen root next:Int) (dead:List Int) (id:Int) (fz:Bool) (w:World) (e:Ending) (w':World):Prop:=Below w.heap.size w w' /\
 ((∃ er,er≠0/\e=.returned (.tuple #[JG,.int .u32 0,.int .i64 er])/\kA S root next dead id fz er) \/
  ∃ r S' u,UQ S root next dead id fz r S'/\e=.returned (.tuple #[u,.int .u32 next,.int .i64 0])/\Jf w.heap.size S' gen (r:Int) (next+1) dead u w')
theorem VP {R:Ending->World->Prop} {a:Act} {W:World} {b:Nat} {x0 x1 x2 x3 x4 x5 x6 x7 u v:Value} (h4:a.tmps[6]?.getD undef=.pointer (some ⟨b,0,none⟩)) (h7:a.tmps[7]?.getD undef=u) (h5:a.tmps[8]?.getD undef=v) (hd:a.defers=[]) (aF:W.heap[b]?=some (.cells #[x0,x1,x2,x3,x4,x5,x6,x7] 32 (0,0))) (hR:R (.returned (.tuple #[.agg #[x0,x1,x2,x3,x4,x5,x6,x7],u,v])) W):bodyPost prog Tryz.f28 R .ret a W:=by
 refine bodyPost_ret (v:=.tuple #[.agg #[x0,x1,x2,x3,x4,x5,x6,x7],u,v]) ?_ hd hR;have k:=qa aF;simp[results,results28,go_sem,h4,h7,h5,k]
set_option maxRecDepth 100000 in
theorem Gp (A1:Option Addr) (n1 c1:Nat) (A2:Option Addr) (n2 c2:Nat) (A3:Option Addr) (n3 c3:Nat) (A4:Option Addr) (n4 c4:Nat) (gen root next:Int) (A5:Option Addr) (c5:Nat) (S:Sto) (dead:List Int) (id:Int) (fz:Bool) (hid:0<=id/\id<4294967296) (cZ:0<=next/\next<4294967296) (w:World) (h:qU w w.heap.size (.slice A1 n1 c1) (.slice A2 n2 c2) (.slice A3 n3 c3) (.slice A4 n4 c4) S) (hd:Zw w w.heap.size (.slice A5 dead.length c5) dead):Calls prog 28 #[.agg (qF (.slice A1 n1 c1) (.slice A2 n2 c2) (.slice A3 n3 c3) (.slice A4 n4 c4) gen root next (.slice A5 dead.length c5)),.int .u32 id,.bool fz] w (SnapQ S gen root next dead id fz w):=by
 have HV:=zH (fun W (hx:Ext w W)=>UV A1 n1 c1 A2 n2 c2 A3 n3 c3 A4 n4 c4 gen root next A5 c5 S dead W (h.ext hx) (hd.ext_ hx));have hNQ:Hid (next<4294967295->IntKind.u32.wrap (next+1)=next+1):=zH fun h1=>by simp only[IntKind.wrap,IntKind.bits,IntKind.signed,Bool.false_and,Bool.false_eq_true,if_false];omega
 have hnxH:=zH cZ;have sN:Hid (∀ v:Vol,vD v->vD (JS next v fz id)):=zH fun v hv=>⟨cZ,hv.2.1,hid⟩
 replace h:=zH h;replace hd:=zH hd;go_enter func28,ntmps28;go_wp2_with fail;generalize aA:World.alloc (World.alloc (World.alloc w _) _) _=w1;have x1:Ext w w1:=by rw[<-aA];exact((zN _ _).trans (zN _ _)).trans (zN _ _)
 have lQ:w1.heap[w.heap.size]?=some (.cells (qF (.slice A1 n1 c1) (.slice A2 n2 c2) (.slice A3 n3 c3) (.slice A4 n4 c4) gen root next (.slice A5 dead.length c5)) 32 (0,0)):=by rw[<-aA];exact(zK _ _ _ zA3).trans ((zK _ _ _ zA3).trans (zI _ _ _ rfl))
 have iP:w1.heap[w.heap.size+1]?=some (.cells Kl 32 (0,0)):=by rw[<-aA];exact(zK _ _ _ zA3).trans (zI _ _ _ zA2)
 have wC:w1.heap[w.heap.size+1+1]?=some (.cells (jM (.slice A1 n1 c1) (.slice A2 n2 c2) (.slice A3 n3 c3) (.slice A4 n4 c4) gen root next (.slice A5 dead.length c5) 0) 105 (0,0)):=by rw[<-aA];exact zI _ _ _ zA2
 have s1:w1.heap.size=w.heap.size+3:=by rw[<-aA];simp
 clear aA;refine(qjP (w.heap.size+1+1) A1 n1 c1 A2 n2 c2 A3 n3 c3 A4 n4 c4 gen root next A5 c5 S dead id 0 w1 wC (h.out.ext x1) (hd.out.ext_ x1)).mono ?_;rintro e w2 ⟨u,er,rfl,hu,ht2,rg2⟩;have x2:Ext w w2:=ht2.below x1 zO zO;have eP:=ht2.row lQ zO;have dA:=ht2.row iP zO;have s2:=ht2.size;clear lQ iP wC ht2;obtain⟨ui,ur,uf,um⟩:=u;unfold jB;have uy:=qa eP;have zp2:=(zG.1 eP).1;go_wp2_with fail;generalize aO:World.alloc w2 _=w3;have dO:Ext w2 w3:=by rw[<-aO];exact zN _ _
 have x3:Ext w w3:=x2.trans dO;have rv3:w3.heap[w2.heap.size]?=some (.cells #[.int .u32 ui,.int .i64 ur,.bool uf,.int .u32 um] 40 (0,0)):=by rw[<-aO];exact zI _ _ _ zA2
 have nX:=qb eP dO;have dY:=qb dA dO;have rg3:=qb rg2 dO;clear aO eP dA rg2 dO uy zp2;refine(HV.out w3 x3).mono ?_;clear HV;rintro e w4 ⟨hB,hQ⟩;have x4:Ext w w4:=x3.trans hB;have pJ:=qb rv3 hB;have nY:=qb nX hB;have fE:=qb dY hB;have rg4:=qb rg3 hB;have kv4:=qa pJ;have kp4:=qa nY;have ko4:=qa fE;have kg4:=qa rg4;have fo4:=qe fE;have fg4:=qe rg4;have zg4:w.heap.size+1+1<w4.heap.size:=(zG.1 rg4).1;clear hB rv3 nX dY rg3;by_cases h0:er=0
 case neg =>
  have hE:Hid (kA S root next dead id fz er):=zH (by
   rcases hu with ⟨e1,_,hb⟩|⟨vs,refs,nodes,hp,hc,he,⟨e1,_,hv⟩|⟨e1,_⟩⟩
   ·exact .inl ⟨e1,hb⟩
   ·exact .inr ⟨vs,refs,nodes,hp,hc,he,.inl ⟨e1,hv⟩⟩
   ·exact absurd e1 h0)
  obtain⟨AV,nV,cV,ev,rfl⟩:∃ AV nV cV ev,e=.returned (.tuple #[.slice AV nV cV,.int .i64 ev]):=by
   rcases hQ with ⟨rfl,_⟩|⟨vs,refs,nodes,cb,ca,vv,lo,rfl,aP,hT⟩
   ·exact⟨none,0,0,8,rfl⟩
   ·obtain⟨AV,cV,rfl,-,-⟩:=qz hT.own;exact⟨AV,_,cV,0,rfl⟩
  have b1:(er == 0)=false:=by rw[beq_eq_false_iff_ne];exact h0
  have b2:(er != 0)=true:=by rw[bne_iff_ne];exact h0
  have iV:=zH h0;clear hQ hu h0;go_wp2_with fail;refine(ghold_no iV.out ⟨ui,ur,uf,um⟩ w4 rg4).mono ?_;rintro e w5 ⟨rfl,hB⟩;have x5:Ext w w5:=x4.trans hB;have yI:=qb pJ hB;have sS:=qb nY hB;have xg:=qb fE hB;have rg5:=qb rg4 hB;have kv5:=qa yI;have kp5:=qa sS;have kg5:=qa rg5;have fg5:=qe rg5;clear hB pJ nY fE rg4 kv4 kp4 ko4 kg4 fo4 fg4;go_wp2_with fail;generalize ik:World.setCell w5 _ _=w6;have x6:Ext w w6:=by rw[<-ik];exact Below.setCell x5 (p:=⟨w.heap.size+1+1,6,none⟩) zA1 _
  have rg6:=qi rg5 6 (.int .u32 ((next+1) % 4294967296));rw[ik] at rg6;have o6:∀ k,k≠w.heap.size+1+1->w6.heap[k]?=w5.heap[k]?:=fun k hk=>by rw[<-ik];exact zJ _ _ _ _ hk
  have gJ:=(o6 _ zO).trans xg;clear ik kv5 kp5 kg5 fg5 rg5 sS yI o6;refine(qiN iV.out ⟨next,ur,fz,id⟩ w6 rg6).mono ?_;rintro e w7 ⟨rfl,hB⟩;have x7:Ext w w7:=x6.trans hB;have ro7:=qb gJ hB;have rg7:=qb rg6 hB;clear hB gJ rg6;go_wp2_with fail;refine(TO (w.heap.size+1+1) ⟨A1,n1,c1,A2,n2,c2,A3,n3,c3,A4,n4,c4,gen,root,(next+1) % 4294967296,A5,dead.length,c5⟩ er S w7 rg7 (fun h=>absurd h iV.out)).mono ?_;rintro e we ⟨rfl,ni⟩;have xe:Ext w we:=x7.trans ni;have rH:=qb ro7 ni;have koe:=qa rH;have foe:=qe rH;rw[(show Yz ⟨A1,n1,c1,A2,n2,c2,A3,n3,c3,A4,n4,c4,gen,root,(next+1) % 4294967296,A5,dead.length,c5⟩ er S=.tuple #[JG,.int .i64 er] by unfold Yz;rw[if_pos iV.out])];clear ni;go_wp2_with fail;exact VP (b:=w.heap.size+1) rfl rfl rfl rfl (jG (jG rH _ _ _ _ _ _ _ _) _ _ _ _ _ _ _ _) ⟨zl (zl xe zO _ _ _ _ _ _ _ _) zO _ _ _ _ _ _ _ _,.inl ⟨er,iV.out,rfl,hE.out⟩⟩
 case pos =>
  subst h0;obtain⟨vs,refs,nodes,hp,hc,he,hv⟩:∃ vs refs nodes,Qg S root next dead vs/\qX S (Qs root dead vs) refs nodes/\QF S refs/\Qr vs id=some ⟨ui,ur,uf,um⟩:=by
   rcases hu with ⟨h,_⟩|⟨vs,refs,nodes,hp,hc,he,⟨h,_⟩|⟨_,hv⟩⟩
   ·cases h
   ·cases h
   ·exact⟨vs,refs,nodes,hp,hc,he,hv⟩
  clear hu;rcases hQ with ⟨rfl,ae⟩|⟨vs',refs',nodes',cb,ca,vv,lo,rfl,aP,hT⟩
  case inl=>exact(zj.no ae hp hc he).elim
  case inr =>
   obtain⟨rfl,rfl,-⟩:=Qg.unique hp hc hT.pool hT.cnt;obtain⟨AV,cV,rfl,-,-⟩:=qz hT.own;have hE:Hid (∀ er,((er=9/\(16<=vs'.length\/next=4294967295))\/QO S ur=er\/(QO S ur=0/\(YJ (QE S ur) root (next+1) dead ⟨next,ur,fz,id⟩ er\/∃ r S' vs',kz (QE S ur) root (next+1) dead ⟨next,ur,fz,id⟩ r S' vs'/\er=9/\zt S'≠0)))->kA S root next dead id fz er):=zH fun er hh=>.inr ⟨vs',refs',nodes,hp,hc,he,.inr ⟨_,hv,hh⟩⟩;have hvk:Hid (vD ⟨next,ur,fz,id⟩):=zH (sN.out _ (UG hp _ (JI hv)));have pq:Hid (okL S (-1) ur=true):=zH (hp.ok ur (by unfold Zl;exact List.mem_append_right _ (List.mem_map.2 ⟨_,JI hv,rfl⟩)));replace hp:=zH hp;replace hc:=zH hc;replace he:=zH he;replace hv:=zH hv;clear hT aP sN;by_cases hl:16<=vs'.length
   ·have hE9:Hid (kA S root next dead id fz 9):=zH (hE.out 9 (.inl ⟨rfl,.inl hl⟩));have d1:decide ((vs'.length:Int)≥16)=true:=decide_eq_true zO;replace hl:=zH hl;go_wp2_with fail;exact VP (b:=w.heap.size+1) rfl rfl rfl rfl (jG fE _ _ _ _ _ _ _ _) ⟨zl x4 zO _ _ _ _ _ _ _ _,.inl ⟨9,zD,rfl,hE9.out⟩⟩
   ·have d1:decide ((vs'.length:Int)≥16)=false:=decide_eq_false zO;have uQ:Hid (vs'.length<16):=zH zO;replace hl:=zH hl;by_cases hm:next=4294967295
    ·have hE9:Hid (kA S root next dead id fz 9):=zH (hE.out 9 (.inl ⟨rfl,.inr hm⟩));have d3:(next == 4294967295)=true:=by rw[beq_iff_eq];exact hm
     replace hm:=zH hm;go_wp2_with fail;exact VP (b:=w.heap.size+1) rfl rfl rfl rfl (jG fE _ _ _ _ _ _ _ _) ⟨zl x4 zO _ _ _ _ _ _ _ _,.inl ⟨9,zD,rfl,hE9.out⟩⟩
    ·have d3:(next == 4294967295)=false:=by rw[beq_eq_false_iff_ne];exact hm
     have hnl:next<4294967295:=by have:=hnxH.out;omega
     have aA:=hNQ.out hnl;replace hm:=zH hm;replace hnl:=zH hnl;go_wp2_with fail;refine(qjR (w.heap.size+1+1) A1 n1 c1 A2 n2 c2 A3 n3 c3 A4 n4 c4 gen root next (.slice A5 dead.length c5) S ⟨ui,ur,uf,um⟩ w4 rg4 (h.out.ext x4)).mono ?_;rintro e w5 ⟨rfl,ht5,hQ⟩;have x5:Ext w w5:=ht5.below x4 zO x4.size;have yI:=ht5.row pJ zO;have sS:=ht5.row nY zO;have xg:=ht5.row fE zO;have kv5:=qa yI;have kp5:=qa sS;clear ht5 pJ nY fE rg4 kv4 kp4 ko4 kg4 fo4 fg4;by_cases h0:QO S ur=0
     case neg =>
      have hq:TQ S ur=.error (QO S ur):=by unfold TQ;rw[if_neg h0]
      simp only[hq] at hQ;have ny:Hid (kA S root next dead id fz (QO S ur)):=zH (hE.out _ (.inr (.inl rfl)));generalize QO S ur=er at *;have kg5:=qa hQ;have fg5:=qe hQ;have iV:=zH h0;clear h0 hq;go_wp2_with fail;generalize ik:World.setCell w5 _ _=w6;have x6:Ext w w6:=by rw[<-ik];exact Below.setCell x5 (p:=⟨w.heap.size+1+1,6,none⟩) zA1 _
      have rg6:=qi hQ 6 (.int .u32 (next+1));rw[ik] at rg6;have o6:∀ k,k≠w.heap.size+1+1->w6.heap[k]?=w5.heap[k]?:=fun k hk=>by rw[<-ik];exact zJ _ _ _ _ hk
      have gJ:=(o6 _ zO).trans xg;clear ik kv5 kp5 kg5 fg5 hQ sS yI o6;refine(qiN iV.out ⟨next,ur,fz,id⟩ w6 rg6).mono ?_;rintro e w7 ⟨rfl,hB⟩;have x7:Ext w w7:=x6.trans hB;have ro7:=qb gJ hB;have rg7:=qb rg6 hB;clear hB gJ rg6;go_wp2_with fail;refine(TO (w.heap.size+1+1) ⟨none,0,0,none,0,0,none,0,0,none,0,0,gen,root,next+1,A5,dead.length,c5⟩ er S w7 rg7 (fun h=>absurd h iV.out)).mono ?_;rintro e we ⟨rfl,ni⟩;have xe:Ext w we:=x7.trans ni;have rH:=qb ro7 ni;have koe:=qa rH;have foe:=qe rH;rw[(show Yz ⟨none,0,0,none,0,0,none,0,0,none,0,0,gen,root,next+1,A5,dead.length,c5⟩ er S=.tuple #[JG,.int .i64 er] by unfold Yz;rw[if_pos iV.out])];have hneb:(er != 0)=true:=by rw[bne_iff_ne];exact iV.out
      clear ni;go_wp2_with fail;exact VP (b:=w.heap.size+1) rfl rfl rfl rfl (jG (jG rH _ _ _ _ _ _ _ _) _ _ _ _ _ _ _ _) ⟨zl (zl xe zO _ _ _ _ _ _ _ _) zO _ _ _ _ _ _ _ _,.inl ⟨er,iV.out,rfl,ny.out⟩⟩
     case pos =>
      have hq:TQ S ur=.ok (QE S ur):=by unfold TQ;rw[if_pos h0]
      simp only[hq] at hQ;obtain⟨y0,y1,y2,y3,rg5,hTw⟩:=hQ;obtain⟨hSm,hsm,tu⟩:=qdM h0;obtain⟨BB,WW,gg,B3,tY,B4,d4',e9,-⟩:=_root_.id hTw;simp only[Value.agg.injEq,Array.mk.injEq,List.cons.injEq,and_true] at e9;obtain⟨rfl,rfl,rfl,rfl⟩:=e9;have pX:=zH (Vu (hTw.newSto (zu tu)));have dW:=zH (hsm.okL pq.out);have kg5:=qa rg5;have fg5:=qe rg5;have zg5:w.heap.size+1+1<w5.heap.size:=(zG.1 rg5).1;have iV:=zH h0;clear h0 hq hTw hSm hsm tu;go_wp2_with fail;generalize ik:World.setCell w5 _ _=w6;have x6:Ext w w6:=by rw[<-ik];exact Below.setCell x5 (p:=⟨w.heap.size+1+1,6,none⟩) zA1 _
      have rg6:=qi rg5 6 (.int .u32 (next+1));rw[ik] at rg6;have z6:w6.heap.size=w5.heap.size:=by rw[<-ik];simp
      have o6:∀ k,k≠w.heap.size+1+1->w6.heap[k]?=w5.heap[k]?:=fun k hk=>by rw[<-ik];exact zJ _ _ _ _ hk
      have gJ:=(o6 _ zO).trans xg;have rp6:=(o6 _ zO).trans sS;have hEG:=(pX.out w6 (JH fun k h1 h2=>o6 k zO)).more (show w5.heap.size<=w6.heap.size by omega);refine(gset_any (w.heap.size+1+1) (some ⟨BB,0,none⟩) (QE S ur).bs.length (QE S ur).bs.length (some ⟨WW,0,none⟩) (QE S ur).ws.length ((QE S ur).ws.length+1) B3 (QE S ur).now.length tY B4 (QE S ur).last.length d4' gen root (next+1) A5 c5 (QE S ur) dead ⟨next,ur,fz,id⟩ hvk.out (fun _ _ _=>dW.out) w6 rg6 hEG (hd.out.ext_ x6)).mono ?_;rintro e w7 ⟨rfl,ht7,p,er,rg7,hR⟩;have x7:Ext w w7:=ht7.below x6 zO x6.size;have ro7:=ht7.row gJ zO;have rp7:=ht7.row rp6 zO;clear ik kv5 kp5 kg5 fg5 rg5 sS yI o6 pX ht7 gJ rp6 rg6 hEG dW;go_wp2_with fail;rcases hR with ⟨aG,rfl,hSE⟩|⟨rfl,r,S9,vs9,hO,hN⟩
      ·have ny:Hid (kA S root next dead id fz er):=zH (hE.out er (.inr (.inr ⟨iV.out,.inl hSE⟩)));have hneb:(er != 0)=true:=by rw[bne_iff_ne];exact aG
       refine(TO (w.heap.size+1+1) PV.zero er S w7 rg7 (fun h=>absurd h aG)).mono ?_;have rq:=zH aG;have hev:Yz PV.zero er S=.tuple #[JG,.int .i64 er]:=by unfold Yz;rw[if_pos aG]
       rw[hev];clear hev hSE aG;rintro e we ⟨rfl,ni⟩;have xe:Ext w we:=x7.trans ni;have rH:=qb ro7 ni;have koe:=qa rH;have foe:=qe rH;clear ni;go_wp2_with fail;exact VP (b:=w.heap.size+1) rfl rfl rfl rfl (jG (jG rH _ _ _ _ _ _ _ _) _ _ _ _ _ _ _ _) ⟨zl (zl xe zO _ _ _ _ _ _ _ _) zO _ _ _ _ _ _ _ _,.inl ⟨er,rq.out,rfl,ny.out⟩⟩
      ·obtain⟨E1,m1,e1,E2,m2,e2,E3,m3,e3,E4,m4,e4,g9,t9,n9,E5,m5,e5⟩:=p;obtain⟨F1,f1,F2,f2,F3,f3,F4,f4,F5,f5,ee,aI,hin⟩:=hN.sto;simp only[PV.cs,qF,Value.agg.injEq,Array.mk.injEq,List.cons.injEq,Value.slice.injEq,Value.int.injEq,true_and,and_true] at ee;obtain⟨⟨rfl,rfl,rfl⟩,⟨rfl,rfl,rfl⟩,⟨rfl,rfl,rfl⟩,⟨rfl,rfl,rfl⟩,rfl,rfl,rfl,rfl,rfl,rfl⟩:=ee;refine(TO (w.heap.size+1+1) _ 0 S9 w7 rg7 (fun _=>aI)).mono ?_;replace hO:=zH hO;replace hN:=zH hN;clear aI hin;by_cases hrm:zt S9=0
       case neg =>have ny:Hid (kA S root next dead id fz 9):=zH (hE.out 9 (.inr (.inr ⟨iV.out,.inr ⟨_,S9,vs9,hO.out,rfl,hrm⟩⟩)));rw[show Yz _ 0 S9=.tuple #[JG,.int .i64 9] by unfold Yz;rw[if_neg zA2,if_neg hrm]];replace hrm:=zH hrm;rintro e we ⟨rfl,ni⟩;have xe:Ext w we:=x7.trans ni;have rH:=qb ro7 ni;have koe:=qa rH;have foe:=qe rH;clear ni;go_wp2_with fail;exact VP (b:=w.heap.size+1) rfl rfl rfl rfl (jG (jG rH _ _ _ _ _ _ _ _) _ _ _ _ _ _ _ _) ⟨zl (zl xe zO _ _ _ _ _ _ _ _) zO _ _ _ _ _ _ _ _,.inl ⟨9,zD,rfl,ny.out⟩⟩
       case pos =>
        rw[show Yz _ 0 S9=.tuple #[.agg (PV.cs _),.int .i64 0] by unfold Yz;rw[if_neg zA2,if_pos hrm]];have hrm':=zH hrm;clear hrm;rintro e we ⟨rfl,ni⟩;have xe:Ext w we:=x7.trans ni;have x7e:Ext w7 we:=ni;have rH:=qb ro7 ni;have rpe:=qb rp7 ni;have koe:=qa rH;have foe:=qe rH;have se:=ni.size;clear ni ro7 rp7 rg7;simp only[PV.cs];go_upto_region 12 with fail;generalize hw8:World.setCell (World.setCell (World.setCell (World.setCell (World.setCell (World.setCell (World.setCell (World.setCell we _ _) _ _) _ _) _ _) _ _) _ _) _ _) _ _=w8;obtain⟨ro8,o8,s8,b8⟩:=eight rH hw8;have x8:Ext w w8:=b8 zO xe;have rp8:=(o8 w.heap.size zO).trans rpe;clear hw8 koe foe rH rpe b8;have gO:∀ W,qj.r w8 W->_:=fun W h=>qa (qb ro8 h);have gP:∀ W,qj.r w8 W->_:=fun W h=>qa (qb rp8 h);refine qp zQ ?_;refine qQ (w:=w8) qj (qH [(3,ZL)]) (List.replicate 4 true) 2 zQ zQ zQ zQ zQ zQ zQ ?st (Rel.drew _ _) ?walk
        case st=>exact qk (by simp only[List.forall_mem_cons];exact⟨ZA,fun _ h=>by cases h⟩)
        case walk =>
         intro K hK;dsimp only[qt,List.replicate];repeat ((first|(refine qd ?_ zA0 zA0 (fun W hW _=>⟨W,?_,Rel.refl _ W⟩) ?_;rotate_left;(go_simp<;>with_reducible rfl))|(refine qh zA0 ?_));try simp only[Act.put,ql,qg,qc,qf,Qj,zA,zB,zC])
         refine qw ZL zA0 zA0 (fun W hW _=>?_) (fun (p:Unit)=>?_)
         ·have hW:Ext w8 W:=hW;have r8:=qb ro8 hW;have k8:=qa r8;have f8:=qe r8;refine jO ?_ (same8 r8);clear gO gP;go_simp
         simp only[Act.put,qg,qc,qf,Qj,zA,zB,zC];repeat ((first|(refine qd ?_ zA0 zA0 (fun W hW _=>⟨W,?_,Rel.refl _ W⟩) ?_;rotate_left;(go_simp<;>with_reducible rfl))|(refine qh zA0 ?_));try simp only[Act.put,ql,qg,qc,qf,Qj,zA,zB,zC])
         refine qv (hK _ _ fun W hW hF=>?_);clear hF hK gO gP;have hW:Ext w8 W:=hW;refine zC4 ?_;have x9:Ext w W:=x8.trans hW;have ro9:=qb ro8 hW;have s9:=hW.size;have hk:∀ k,w6.heap.size<=k->k<w7.heap.size->W.heap[k]?=w7.heap[k]?:=fun k h1 h2=>(Below.block hW k zO).trans ((o8 k zO).trans (Below.block x7e k h2));replace hk:=zH hk;clear o8;go_wp2;refine Qo ?_;go_wp2_with fail;exact VP (b:=w.heap.size+1) rfl rfl rfl rfl ro9 ⟨x9,.inr ⟨_,S9,_,⟨vs',refs',nodes,_,vs9,hp.out,hc.out,he.out,hv.out,uQ.out,hnl.out,iV.out,hO.out,hrm'.out⟩,rfl,hN.out.keep x6.size zO hk.out⟩⟩
abbrev X3:Type:=It×Option Addr×Nat
abbrev Jo (x:X3):Value:=.slice x.2.1 x.1.val.length x.2.2
abbrev encX (x:X3):Value:=.agg (VC x.1 x.2.1 x.2.2)
structure ZG (M:World->Nat->Prop) (W W':World):Prop where
 os:W'.os=W.os
 tape:W'.tape=W.tape
 output:W'.output=W.output
 size:W.heap.size<=W'.heap.size
 same:∀ b,b<W.heap.size->¬M W b->W'.heap[b]?=W.heap[b]?/\¬M W' b
theorem ZG.refl (M:World->Nat->Prop) (W:World):ZG M W W:=⟨rfl,rfl,rfl,zM _,fun _ _ h=>⟨rfl,h⟩⟩
theorem ZG.trans {M:World->Nat->Prop} {A B C:World} (h:ZG M A B) (k:ZG M B C):ZG M A C:=
 ⟨k.os.trans h.os,k.tape.trans h.tape,k.output.trans h.output,Nat.le_trans h.size k.size,fun b hb hm=>by obtain⟨e1,m1⟩:=h.same b hb hm;obtain⟨e2,m2⟩:=k.same b (Nat.lt_of_lt_of_le hb h.size) m1;exact⟨e2.trans e1,m2⟩⟩
theorem ZG.row {M:World->Nat->Prop} {W W':World} (h:ZG M W W') {b:Nat} {o:Obj} (hm:¬M W b) (hr:W.heap[b]?=some o):W'.heap[b]?=some o:=(h.same b (zG.1 hr).1 hm).1.trans hr
theorem ZG.cell {M:World->Nat->Prop} {W W':World} (h:ZG M W W') {p:Addr} (hb:p.block<W.heap.size) (hm:¬M W p.block):W'.cell? p=W.cell? p:=World.cell?_of_block (h.same _ hb hm).1
theorem ZG.below {M:World->Nat->Prop} {W W':World} {B:Nat} (h:ZG M W W') (hB:B<=W.heap.size) (hl:∀ b,b<B->¬M W b):Below B W W':=⟨h.os,h.tape,h.output,h.size,fun k hk=>(h.same k zO (hl k hk)).1⟩
structure FctX (M:World->Nat->Prop) (lo:Nat) (x:X3) (W:World):Prop where
 by_:Bys W W.heap.size (Jo x) x.1.val
 fr:Zo lo (Jo x)
 own:∀ b o,x.2.1=some ⟨b,o,none⟩->0<x.1.val.length->¬M W b
 nz:Nz W (Jo x)
theorem FctX.kept {M:World->Nat->Prop} {lo:Nat} {x:X3} {W W':World} (h:FctX M lo x W) (hk:ZG M W W'):FctX M lo x W':=by
 have hblk:∀ b o,x.2.1=some ⟨b,o,none⟩->0<x.1.val.length->b<W.heap.size:=fun b o e hp=>by obtain⟨A,c,e1,e2,e3,hr⟩:=h.by_;obtain⟨b',off,e4,e5,-⟩:=hr.2 hp;simp only[Jo,Value.slice.injEq] at e1;rw[e,e4] at e1;simp only[Option.some.injEq,Addr.mk.injEq] at e1;omega
 refine⟨?_,h.fr,fun b o e hp=>(hk.same b (hblk b o e hp) (h.own b o e hp)).2,fun a n c e hn=>?_⟩
 case refine_2 =>
  obtain⟨cs,ty,hr⟩:=h.nz a n c e hn;obtain⟨A,c',e1,e2,e3,h4⟩:=h.by_;simp only[Jo,Value.slice.injEq] at e e1;obtain⟨b',off,e4,-,-⟩:=h4.2 zO;have e5:a=⟨b',off,none⟩:=by
   have:some a=some ⟨b',off,none⟩:=by rw[<-e.1,e1.1,e4]
   exact Option.some.inj this
  subst e5;exact⟨cs,ty,(hk.row (h.own b' off e.1 zO) hr)⟩
 obtain⟨A,c,e1,e2,e3,hr⟩:=h.by_;refine⟨A,c,e1,e2,e3,hr.1,fun hp=>?_⟩;obtain⟨b',off,e4,e5,e6⟩:=hr.2 hp;have e7:x.2.1=A:=by simp only[Jo,Value.slice.injEq] at e1;exact e1.1
 refine⟨b',off,e4,by have:=hk.size;omega,fun j u hu=>?_⟩;rw[hk.cell (p:=⟨b',off+j,none⟩) e5 (h.own b' off (e7.trans e4) hp)];exact e6 j u hu
structure TF (lo:Nat) (M:World->Nat->Prop) (J Jx:List X3->World->Prop) (l N:Nat):Prop where
 low:∀ W b,M W b->lo<=b
 lt:∀ pre W b,J pre W->M W b->b<W.heap.size
 ext:∀ pre W W',J pre W->Ext W W'->J pre W'/\∀ b,M W' b->M W b
 yld:∀ m pre x W,J pre W->FctX M lo x W->pre.length<N->YieldAt Fence.wide m prog l #[encX x] W fun e W'=>(e=.returned (.bool true)/\J (pre++[x]) W'/\ZG M W W')\/(e=.returned (.bool false)/\Jx (pre++[x]) W')
theorem TF.kept {lo l N:Nat} {M:World->Nat->Prop} {J Jx:List X3->World->Prop} (H:TF lo M J Jx l N) {pre:List X3} {W W':World} (hJ:J pre W) (hx:Ext W W'):ZG M W W':=
 ⟨hx.os,hx.tape,hx.output,hx.size,fun b hb hm=>⟨hx.block b hb,fun h=>hm ((H.ext pre W W' hJ hx).2 b h)⟩⟩
theorem TF.new {lo l N:Nat} {M:World->Nat->Prop} {J Jx:List X3->World->Prop} (H:TF lo M J Jx l N) {pre:List X3} {W W':World} (hJ:J pre W) (hx:Ext W W') {b:Nat} (hb:W.heap.size<=b):¬M W' b:=fun h=>by have:=H.lt pre W b hJ ((H.ext pre W W' hJ hx).2 b h);omega
structure EnvX (S:Sto) (K:K3) (M:World->Nat->Prop) (l bB bF bY bD bb:Nat) (v1 v2 v3 v4:Value) (W:World):Prop where
 b:W.heap[bB]?=some (.cells #[.pointer (some ⟨bb,0,none⟩)] 80 (0,0))
 f:W.heap[bF]?=some (.cells #[.int .u8 K.1,.int .u32 K.2.1,.int .u32 K.2.2] 66 (0,0))
 y:W.heap[bY]?=some (.cells #[.func (.yield l) #[] #[]] 231 (0,0))
 d:W.heap[bD]?=some (.cells #[.func (.func 158) #[] #[.pointer (some ⟨bB,0,none⟩),.pointer (some ⟨bF,0,none⟩),.pointer (some ⟨bY,0,none⟩),.pointer (some ⟨bD,0,none⟩)]] 232 (0,0))
 on:OnB 0 bb v1 v2 v3 v4 S W
def qeA (M:World->Nat->Prop) (J Jx:List X3->World->Prop) (pre:List X3) (zs:List It) (W:World) (e:Ending) (W':World):Prop:=
 (e=.returned (.bool true)/\∃ ys:List X3,ys.map (·.1)=zs/\J (pre++ys) W'/\ZG M W W')\/(e=.returned (.bool false)/\∃ (ys:List X3) (rest:List It),ys.map (·.1)++rest=zs/\Jx (pre++ys) W')
def DownC (S:Sto) (K:K3) (M:World->Nat->Prop) (J Jx:List X3->World->Prop) (N bB bF bY bD:Nat) (E:World->Prop) (h:Nat):Prop:=
 ∀ (a:Nat) (xs:List It) (pre:List X3) (W:World),8<=a->a<256->qu S a=some ((h:Int),xs)->(qD S h xs).isSome=true->J pre W->E W->pre.length+(QR S h K xs).length<=N ->
  Calls prog 158 #[.int .i64 (a:Int),.pointer (some ⟨bB,0,none⟩),.pointer (some ⟨bF,0,none⟩),.pointer (some ⟨bY,0,none⟩),.pointer (some ⟨bD,0,none⟩)] W (qeA M J Jx pre (QR S h K xs) W)
theorem qjK (S:Sto) (K:K3) (x:It):QR S 0 K [x]=if qM (qo x) K=true then [] else [x]:=by
 unfold QR;show [x].filter _=_;by_cases h:qM (qo x) K=true
 ·rw[if_pos h];simp[h]
 ·rw[if_neg h];simp[h]
theorem qjL {S:Sto} {K:K3} {h:Nat} {x:It} {lvl:Int} {ys:List It} (hn:qu S x.r.toNat=some (lvl,ys)):QR S (h+1) K [x]=QR S h K ys:=by unfold QR;rw[zo];simp[hn]
theorem qjN {S:Sto} {h:Nat} {K:K3} {xs:List It} {k:Nat} (hk:k<xs.length):QR S h K (xs.take (k+1))=QR S h K (xs.take k)++QR S h K [xs[k]]:=by rw[List.take_succ_eq_append_getElem hk,GF]
theorem qhh {S:Sto} {h:Nat} {K:K3} {xs:List It} (k:Nat):∃ r,QR S h K (xs.take k)++r=QR S h K xs:=⟨QR S h K (xs.drop k),by rw[<-GF,List.take_append_drop]⟩
theorem from_nil (S:Sto) (h:Nat) (K:K3):QR S h K []=[]:=by unfold QR;rw[JB];rfl
theorem its_fct {w:World} {lo b off n c:Nat} {xs:List It} (h:ZE lo w (.slice (some ⟨b,off,none⟩) n c) xs) (hz:NzI w (.slice (some ⟨b,off,none⟩) n c)) (i:Nat) (hi:i<xs.length) : ∃ A' c',ItAt w w.heap.size b (off+i*5) xs[i] A' c'/\Zo lo (.slice A' xs[i].val.length c')/\Nz w (.slice A' xs[i].val.length c'):=by
 have hn:n=xs.length:=h.its.at_.1;obtain⟨ps,rfl,⟨A,c1,e,_,_,hr⟩,hp,hf,hg⟩:=h;cases e;have fV:i<ps.length:=by simpa using hi
 obtain⟨b',off',e,hb,hc⟩:=hr.2 zO;cases e;obtain⟨c0,c1,c2,c3,c4⟩:=ve ps i fV;have hgi:=hg ps[i] (List.getElem_mem fV);obtain⟨⟨A',c',e5⟩,aQ⟩:=hp ps[i] (List.getElem_mem fV);rw[e5] at c4 aQ hgi;simp only[List.getElem_map];have gy:=hc _ _ c4;rw[<-Nat.add_assoc] at gy;refine⟨A',c',⟨hc _ _ c0,?_,?_,?_,gy,aQ⟩,hgi,hz b off _ _ i _ rfl zO gy⟩
 ·rw[Nat.add_assoc];exact hc _ _ c1
 ·rw[Nat.add_assoc];exact hc _ _ c2
 ·rw[Nat.add_assoc];exact hc _ _ c3
end Go.Proofs.YtpbniokljofedaaGreat
namespace Go.Proofs.YtpbniokljofedaaGreat
open Go.RowKit Go.Shelf
attribute [local go_sem] Oper.semAt_some
theorem TN {R:Ending->World->Prop} {a:Act} {W:World} {b:Bool} (h6:a.tmps[6]?.getD undef=.bool b) (hd:a.defers=[]) (hR:R (.returned (.bool b)) W):bodyPost prog Tryz.f158 R .ret a W:=by refine bodyPost_ret (v:=.bool b) ?_ hd hR;simp[results,results158,go_sem,h6]
theorem qkL {k j:Nat} (hj:j=k+1) (hk:k<1000):wrap64 ((k:Int)+1)=(j:Int)/\IntKind.i64.wrap ((k:Int)+1)=(j:Int):=
 ⟨by rw[IntWalk.wrap64_in _ zO,hj];rfl,by rw[IntWalk.i64_in _ zO,hj];rfl⟩
set_option maxRecDepth 100000 in
theorem qfp (S:Sto) (hS:qm S=true) (k i o:Int) (lo l N bB bF bY bD bb:Nat) (M:World->Nat->Prop) (J Jx:List X3->World->Prop) (A1:Option Addr) (n1 c1:Nat) (A2:Option Addr) (n2 c2:Nat) (A3:Option Addr) (n3 c3:Nat) (A4:Option Addr) (n4 c4:Nat) (E:World->Prop) (HC:TF lo M J Jx l N) (HE:∀ W,E W->EnvX S (k,i,o) M l bB bF bY bD bb (.slice A1 n1 c1) (.slice A2 n2 c2) (.slice A3 n3 c3) (.slice A4 n4 c4) W) (HEk:∀ W W',E W->ZG M W W'->E W') (HEl:∀ W,E W->lo<=W.heap.size) (h:Nat) (HW:∀ h':Nat,h=h'+1->DownC S (k,i,o) M J Jx N bB bF bY bD E h'):DownC S (k,i,o) M J Jx N bB bF bY bD E h:=by
 intro a xs pre w ha aj hn aN hJ hE hN;have mP:=HE w hE;have su:=qaN 0 bb A1 n1 c1 A2 n2 c2 A3 n3 c3 A4 n4 c4 S hS a ha aj w mP.on;rw[hn] at su;obtain⟨hm1,lJ,-⟩:=qN hn;have hyl:xs.length<=5:=by unfold Qb ZR at hm1;simp at hm1;omega
 have kB:=qa mP.b;have HP:=zH (fun j (hj:j+1<xs.length) (hl:qM (k,i,o) (qo xs[j+1])=false)=>qjM aN hj hl);have HT:=zH (fun h' (e:h=h'+1) y (hy:y∈xs)=>ZZ (S:=S) (h:=h') (y:=y) (by have:=jv aN y hy;rw[e] at this;exact this));replace aN:=zH aN;replace HC:=zH HC;replace HE:=zH HE;replace HEk:=zH HEk;replace HEl:=zH (HEl w hE);replace HW:=zH HW;replace hJ:=zH hJ;replace hE:=zH hE;replace hN:=zH hN;clear hm1 lJ hn mP;go_enter func158,ntmps158;go_wp2_with fail;refine su.mono ?_;clear su kB;rintro e w1 ⟨u,rfl,⟨A9,c9,rfl,aJ,nzi⟩,hB⟩;have x1:Ext w w1:=hB;have hA:=aJ.its.at_.2.2.2;have hDF:∀ b off n c,Value.slice A9 xs.length c9=.slice (some ⟨b,off,none⟩) n c->0<n->b<w1.heap.size:=fun b off n c e hn=>by simp only[Value.slice.injEq] at e;obtain⟨b6,o6,e6,e7⟩:=hA zO;rw[e.1] at e6;simp only[Option.some.injEq,Addr.mk.injEq] at e6;omega
 replace hDF:=zH hDF;replace nzi:=zH nzi;replace aJ:=zH aJ;replace x1:=zH x1;clear hB;go_wp2_with fail;generalize bT:(World.alloc w1 _)=w2;have x2:Ext w w2:=by rw[<-bT];exact x1.out.trans (zN _ _)
 have rn2:w2.heap[w1.heap.size]?=some (.cells #[.int .i64 h,.slice A9 xs.length c9] 49 (0,0)):=by rw[<-bT];exact zI _ _ _ rfl
 have uO:ZE w.heap.size w2 (.slice A9 xs.length c9) xs:=by rw[<-bT];exact aJ.out.ext (zN _ _)
 have hOB:NzI w2 (.slice A9 xs.length c9):=by rw[<-bT];exact nzi.out.ext (zN _ _) hDF.out
 have hsz:w.heap.size<=w1.heap.size:=x1.out.size;have aW:w2.heap.size=w1.heap.size+1:=by rw[<-bT];simp
 have J2:=zH ((HC.out.ext _ _ _ hJ.out x2).1);have K2:=zH (HC.out.kept hJ.out x2);have E2:=zH (HEk.out _ _ hE.out K2.out);have N2:=zH (fun b (hb:w.heap.size<=b)=>HC.out.new hJ.out x2 hb);have kn2:=qa rn2;replace uO:=zH uO;replace hOB:=zH hOB;replace hsz:=zH hsz;replace aW:=zH aW;replace rn2:=zH rn2;replace x2:=zH x2;clear bT;go_wp2_with fail;go_loopw [21] (fun iv wr=>∃ (kk:Nat) (ys:List X3),kk<=xs.length/\iv=.int .i64 (kk:Int)/\ys.map (·.1)=QR S h (k,i,o) (xs.take kk)/\J (pre++ys) wr/\E wr/\ZG M w2 wr) (fun iv _=>xs.length-(intOf iv).toNat)
 case atStart=>exact⟨0,[],zO,rfl,by rw[List.take_zero,from_nil];rfl,by rw[List.append_nil];exact J2.out,E2.out,ZG.refl _ _⟩
 case round =>
  obtain⟨kk,ys,hk,rfl,eX,wZ,ny,yQ⟩:=hrel;clear kn2;by_cases hlt:kk<xs.length
  ·have aH:=hlt;obtain⟨b,off,rfl,hb⟩:=hA zO;have dJ:w.heap.size<=b:=YW uO.out b off xs.length c9 0 rfl zO;have lL:=N2.out b dJ;have uD:b<w2.heap.size:=by have:=aW.out;omega
   obtain⟨A',c',⟨d0,d1,d2,d3,d4,aQ⟩,hfr,lV⟩:=its_fct uO.out hOB.out kk aH;have ai:∀ j,wr.cell? ⟨b,j,none⟩=w2.cell? ⟨b,j,none⟩:=fun j=>yQ.cell (p:=⟨b,j,none⟩) uD lL;rw[<-ai] at d0 d1 d2 d3 d4;have hF:FctX M lo (xs[kk],A',c') wr:=FctX.kept ⟨aQ,hfr.mono HEl.out,fun b' o' e _=>N2.out b' (hfr ⟨b',o',none⟩ _ _ (by rw[show A'=some ⟨b',o',none⟩ from e])),lV⟩ yQ;have hrn:=yQ.row (N2.out _ hsz.out) rn2.out;have mP:=HE.out wr ny;have mG:=qjN (S:=S) (h:=h) (K:=(k,i,o)) aH;obtain⟨rest,iK⟩:=qhh (S:=S) (h:=h) (K:=(k,i,o)) (xs:=xs) (kk+1);have hlen:=hN.out;rw[<-iK,mG,List.length_append,List.length_append,<-eX,List.length_map] at hlen;have hTx:=fun h' e=>HT.out h' e xs[kk] (List.getElem_mem aH);have hPx:=HP.out kk;have kn:=qa hrn;have kf:=qa mP.f;have zn:w1.heap.size<wr.heap.size:=(zG.1 hrn).1;have zf:bF<wr.heap.size:=(zG.1 mP.f).1;replace mP:=zH mP;have HCL:=zH ai;clear ai aQ hfr lV lL uD dJ;replace hTx:=zH hTx;replace hPx:=zH hPx;replace mG:=zH mG;replace iK:=zH iK;replace hlen:=zH hlen;replace hF:=zH hF;replace eX:=zH eX;replace wZ:=zH wZ;replace ny:=zH ny;replace yQ:=zH yQ;replace hrn:=zH hrn;rcases Nat.eq_zero_or_pos h with h0|h0
   ·have hh1:((h:Int) == 0)=true:=by rw[beq_iff_eq];omega
    have hone:=qjK S (k,i,o) xs[kk];rw[<-h0] at hone;clear hPx hTx HW HP HT;generalize xs[kk]=x at *;replace hone:=zH hone;replace h0:=zH h0;have hkx:qM (qo x) (k,i,o)=Jh x.k x.i x.o k i o:=rfl;rw[hkx] at hone;have HLS:=zH (fun W=>vK x.k x.i x.o k i o W);refine(wpIn_wide (n:=3)).1 ?_;generalize Jh x.k x.i x.o k i o=L at *;cases L
    ·replace hone:=zH hone
     gi_wp2_with fail
     refine⟨trivial,(callsIn_wide.2 (HLS.out _)).mono ?_⟩;rintro e w4 ⟨rfl,bV⟩;have xr4:Ext wr w4:=(zN _ _).trans bV;have ky:=qa (qb mP.out.y xr4);have kx:=qa (qb (zI wr _ _ rfl) bV);have J4:=(HC.out.ext _ _ _ wZ.out xr4).1;have K4:=HC.out.kept wZ.out xr4;obtain⟨fn,tm,asg,bdy,hy,hR⟩:=HC.out.yld (3-1) (pre++ys) (x,A',c') w4 J4 (hF.out.kept K4) (by have:=hlen.out;rw[hone.out] at this;simp at this ⊢;omega);replace J4:=zH J4;replace K4:=zH K4
     gi_wp2_with fail
     refine hR.mono ?_;clear hR hy;rintro e w5 (⟨rfl,xu,hk5⟩|⟨rfl,mW⟩)
     ·have iH:=K4.out.trans hk5;have E5:=HEk.out _ _ ny.out iH;have hy5:(ys++[(x,A',c')]).map (·.1)=QR S h (k,i,o) (xs.take (kk+1)):=by rw[mG.out,hone.out,List.map_append,eX.out];simp
      have iM:=zH (IntWalk.wrap64_in ((kk:Int)+1) zO);rw[List.append_assoc] at xu;replace xu:=zH xu;replace E5:=zH E5;replace hy5:=zH hy5;replace iH:=zH iH;clear hk5
      gi_wp2_with fail
      refine⟨⟨kk+1,ys++[(x,A',c')],aH,rfl,hy5.out,xu.out,E5.out,yQ.out.trans iH.out⟩,?_⟩;simp[intOf];omega
     ·rw[List.append_assoc] at mW;have fQ:qeA M J Jx pre (QR S h (k,i,o) xs) w (.returned (.bool false)) w5:=.inr ⟨rfl,ys++[(x,A',c')],rest,by rw[<-iK.out,mG.out,hone.out,List.map_append,eX.out];simp,mW⟩;replace fQ:=zH fQ;clear mW
      gi_wp2_with fail
      exact TN rfl rfl fQ.out
    ·replace hone:=zH hone
     gi_wp2_with fail
     refine⟨trivial,(callsIn_wide.2 (HLS.out _)).mono ?_⟩;rintro e w4 ⟨rfl,bV⟩;have xr4:Ext wr w4:=(zN _ _).trans bV;have J4:=zH ((HC.out.ext _ _ _ wZ.out xr4).1);have K4:=zH (HC.out.kept wZ.out xr4);have E4:=zH (HEk.out _ _ ny.out K4.out);have hy4:ys.map (·.1)=QR S h (k,i,o) (xs.take (kk+1)):=by rw[mG.out,hone.out,eX.out];simp
     replace hy4:=zH hy4
     gi_wp2_with fail
     refine⟨fun _ h=>(by cases h),?_⟩
     gi_wp2_with fail
     refine⟨⟨kk+1,ys,aH,rfl,hy4.out,J4.out,E4.out,yQ.out.trans K4.out⟩,?_⟩;simp[intOf];omega
   ·have hh1:((h:Int) == 0)=false:=by rw[beq_eq_false_iff_ne];omega
    obtain⟨h',hh⟩:∃ h',h=h'+1:=⟨h-1,zO⟩
    obtain⟨r,hr,pg,pY,zs,hHM,hsz2⟩:=hTx.out h' hh;have hnr:qu S xs[kk].r.toNat=some ((h':Int),zs):=by rw[hr,Int.toNat_natCast];exact hHM
    have hone:=qjL (S:=S) (K:=(k,i,o)) (h:=h') hnr;rw[<-hh] at hone;obtain⟨j,hj⟩:∃ j,j=kk+1:=⟨_,rfl⟩
    have hww:=zH (qkL hj zO);have HDN:=zH (fun W (yO:J (pre++ys) W) (hE':E W) (hl:(pre++ys).length+(QR S h' (k,i,o) zs).length<=N)=>HW.out h' hh r zs (pre++ys) W pg pY hHM hsz2 yO hE' hl);have hll:(pre++ys).length+(QR S h' (k,i,o) zs).length<=N:=by have:=hlen.out;rw[hone] at this;rw[List.length_append];omega
    generalize hxx:xs[kk]=x at *;rw[hr] at d3;replace hone:=zH hone;replace h0:=zH h0;replace hh:=zH hh;replace hxx:=zH hxx;replace hll:=zH hll;replace hr:=zH hr;replace hHM:=zH hHM;clear hTx HW HT HP hnr hsz2;go_wp2_with fail;generalize lg:(World.alloc wr _)=wa;have xa:Ext wr wa:=by rw[<-lg];exact zN _ _
    have ra:wa.heap[wr.heap.size]?=some (.cells #[.int .u8 x.k,.int .u32 x.i,.int .u32 x.o,.int .i64 r,.slice A' x.val.length c'] 68 (0,0)):=by rw[<-lg];exact zI _ _ _ rfl
    have rna:=qb hrn.out xa;have rfa:=qb mP.out.f xa;have rda:=zH (qb mP.out.d xa);have gN:∀ W,Ext wa W->W.cell? ⟨w1.heap.size,1,none⟩=some (.slice (some ⟨b,off,none⟩) xs.length c9):=fun W h=>by rw[qa (qb rna h)];rfl
    have gF:∀ W,Ext wa W->∀ i',W.cell? ⟨bF,i',none⟩=#[.int .u8 k,.int .u32 i,.int .u32 o][i']?:=fun W h=>qa (qb rfa h);replace ra:=zH ra;by_cases hl:j<xs.length
    ·obtain⟨A2',c2',g0,g1,g2,-⟩:=uO.out.its.item j hl;rw[<-HCL.out] at g0 g1 g2;have yE:qM (k,i,o) (qo xs[j])=false->QR S h (k,i,o) [x]=[]:=fun hq=>by have:=hPx.out zO (by simpa only[<-hj] using hq);rw[hxx.out] at this;exact this
     have hkp:qM (k,i,o) (qo xs[j])=Jh k i o xs[j].k xs[j].i xs[j].o:=rfl;rw[hkp] at yE;generalize xs[j]=y at *;clear hkp;have HL:=zH (fun W=>vK k i o y.k y.i y.o W);generalize Jh k i o y.k y.i y.o=L at *;have p0:∀ W,Ext wa W->W.cell? ⟨b,off+j*5,none⟩=some (.int .u8 y.k):=fun W h=>Ext.cell (xa.trans h) g0;have p1:∀ W,Ext wa W->W.cell? ⟨b,off+j*5+1,none⟩=some (.int .u32 y.i):=fun W h=>Ext.cell (xa.trans h) g1;have p2:∀ W,Ext wa W->W.cell? ⟨b,off+j*5+2,none⟩=some (.int .u32 y.o):=fun W h=>Ext.cell (xa.trans h) g2;replace xa:=zH xa;replace yE:=zH yE;replace hj:=zH hj;clear g0 g1 g2 lg rna rfa kn kf;refine QZ (qH [(15,one (.bool L))]) 18 zQ zQ zQ zD zQ zQ ?st ?walk
     case st=>exact zm (by simp only[List.forall_mem_cons];exact⟨Zn _,fun _ h=>by cases h⟩)
     case walk =>
      intro K hK;dsimp only[List.take];have hNK:=hww.out.2;repeat ((first|(refine qI ?_ zA0 zA0 (fun W hW _=>⟨W,?_,Ext.refl W⟩) ?_;rotate_left;(go_simp<;>with_reducible rfl))|(refine qV zA0 ?_));try simp only[Act.put,ql,qg,qc,qf,zA,zB,zC])
      clear hNK
      first
       |(refine qI (.pointer (some ⟨b,off+j*5,none⟩)) zA0 zA0 (fun W hW _=>⟨W,?_,Ext.refl W⟩) ?_
         ·go_simp;rw[IntWalk.i64_in (j:Int) zO,if_pos zO];simp
         simp only[Act.put,ql,qg,qc,qf,zA,zB,zC])
       |skip
      repeat ((first|(refine qI ?_ zA0 zA0 (fun W hW _=>⟨W,?_,Ext.refl W⟩) ?_;rotate_left;(go_simp<;>with_reducible rfl))|(refine qV zA0 ?_));try simp only[Act.put,ql,qg,qc,qf,zA,zB,zC])
      refine QA (one (.bool L)) zA0 zA0 (fun W hW _=>?_) (fun p=>?_)
      ·refine QT ?_ ((HL.out W).mono fun e w' h=>⟨(),h.1,trivial,h.2⟩);go_simp
      cases p;simp only[Act.put,ql,qc,qf,zA,zB,zC];clear p0 p1 p2 HL;cases L
      ·repeat ((first|(refine qI ?_ zA0 zA0 (fun W hW _=>⟨W,?_,Ext.refl W⟩) ?_;rotate_left;(go_simp<;>with_reducible rfl))|(refine qV zA0 ?_));try simp only[Act.put,ql,qg,qc,qf,zA,zB,zC])
       refine Zg (hK _ _ fun W hW hF=>?_);clear hF hK;dsimp only[List.drop];have JW:=zH ((HC.out.ext _ _ _ wZ.out (xa.out.trans hW)).1);have KW:=zH (HC.out.kept wZ.out (xa.out.trans hW));have EW:=zH (HEk.out _ _ ny.out KW.out);have hyW:ys.map (·.1)=QR S h (k,i,o) (xs.take (kk+1)):=by rw[mG.out,yE.out rfl,eX.out];simp
       replace hyW:=zH hyW;clear hW gN gF;go_wp2_with fail;refine⟨⟨kk+1,ys,aH,rfl,hyW.out,JW.out,EW.out,yQ.out.trans KW.out⟩,?_⟩;have:=hj.out;simp[intOf];omega
      ·repeat ((first|(refine qI ?_ zA0 zA0 (fun W hW _=>⟨W,?_,Ext.refl W⟩) ?_;rotate_left;(go_simp<;>with_reducible rfl))|(refine qV zA0 ?_));try simp only[Act.put,ql,qg,qc,qf,zA,zB,zC])
       refine Zg (hK _ _ fun W hW hF=>?_);clear hF hK;dsimp only[List.drop];have JW:=zH ((HC.out.ext _ _ _ wZ.out (xa.out.trans hW)).1);have KW:=zH (HC.out.kept wZ.out (xa.out.trans hW));have EW:=zH (HEk.out _ _ ny.out KW.out);have kd:=qa (qb rda.out hW);have kx:=qa (qb ra.out hW);clear hW gN gF;go_wp2_with fail;refine(HDN.out W JW.out EW.out hll.out).mono ?_;rintro e w5 (⟨rfl,zs',aU,xu,hk5⟩|⟨rfl,zs',rest',aU,mW⟩)
       ·have iH:=KW.out.trans hk5;have E5:=HEk.out _ _ ny.out iH;have hy5:(ys++zs').map (·.1)=QR S h (k,i,o) (xs.take (kk+1)):=by rw[mG.out,hone.out,List.map_append,eX.out,aU]
        rw[List.append_assoc] at xu;replace xu:=zH xu;replace E5:=zH E5;replace hy5:=zH hy5;replace iH:=zH iH;replace aU:=zH aU;clear hk5 kd kx;go_wp2_with fail;refine⟨⟨kk+1,ys++zs',aH,rfl,hy5.out,xu.out,E5.out,yQ.out.trans iH.out⟩,?_⟩;have:=hj.out;simp[intOf];omega
       ·rw[List.append_assoc] at mW;have fQ:qeA M J Jx pre (QR S h (k,i,o) xs) w (.returned (.bool false)) w5:=.inr ⟨rfl,ys++zs',rest'++rest,by rw[<-iK.out,mG.out,hone.out,List.map_append,eX.out,<-aU];simp,mW⟩;replace fQ:=zH fQ;replace aU:=zH aU;clear mW kd kx;go_wp2_with fail;exact TN rfl rfl fQ.out
    ·replace xa:=zH xa;replace hj:=zH hj;clear lg rna rfa kn kf;refine QZ (qH []) 18 zQ zQ zQ zD zQ zQ ?st ?walk
     case st=>exact zm (fun _ h=>by cases h)
     case walk =>
      intro K hK;dsimp only[List.take];have hNK:=hww.out.2;repeat ((first|(refine qI ?_ zA0 zA0 (fun W hW _=>⟨W,?_,Ext.refl W⟩) ?_;rotate_left;(go_simp<;>with_reducible rfl))|(refine qV zA0 ?_));try simp only[Act.put,ql,qg,qc,qf,zA,zB,zC])
      clear hNK;refine Zg (hK _ _ fun W hW hF=>?_);clear hF hK;dsimp only[List.drop];have JW:=zH ((HC.out.ext _ _ _ wZ.out (xa.out.trans hW)).1);have KW:=zH (HC.out.kept wZ.out (xa.out.trans hW));have EW:=zH (HEk.out _ _ ny.out KW.out);have kd:=qa (qb rda.out hW);have kx:=qa (qb ra.out hW);clear hW gN gF;go_wp2_with fail;refine(HDN.out W JW.out EW.out hll.out).mono ?_;rintro e w5 (⟨rfl,zs',aU,xu,hk5⟩|⟨rfl,zs',rest',aU,mW⟩)
      ·have iH:=KW.out.trans hk5;have E5:=HEk.out _ _ ny.out iH;have hy5:(ys++zs').map (·.1)=QR S h (k,i,o) (xs.take (kk+1)):=by rw[mG.out,hone.out,List.map_append,eX.out,aU]
       rw[List.append_assoc] at xu;replace xu:=zH xu;replace E5:=zH E5;replace hy5:=zH hy5;replace iH:=zH iH;replace aU:=zH aU;clear hk5 kd kx;go_wp2_with fail;refine⟨⟨kk+1,ys++zs',aH,rfl,hy5.out,xu.out,E5.out,yQ.out.trans iH.out⟩,?_⟩;have:=hj.out;simp[intOf];omega
      ·rw[List.append_assoc] at mW;have fQ:qeA M J Jx pre (QR S h (k,i,o) xs) w (.returned (.bool false)) w5:=.inr ⟨rfl,ys++zs',rest'++rest,by rw[<-iK.out,mG.out,hone.out,List.map_append,eX.out,<-aU];simp,mW⟩;replace fQ:=zH fQ;replace aU:=zH aU;clear mW kd kx;go_wp2_with fail;exact TN rfl rfl fQ.out
  ·obtain rfl:kk=xs.length:=zO;rw[List.take_length] at eX;have fQ:qeA M J Jx pre (QR S h (k,i,o) xs) w (.returned (.bool true)) wr:=.inl ⟨rfl,ys,eX,wZ,K2.out.trans yQ⟩;replace fQ:=zH fQ;replace eX:=zH eX;replace wZ:=zH wZ;replace ny:=zH ny;replace yQ:=zH yQ;go_wp2_with fail;exact TN rfl rfl fQ.out
theorem qfo (S:Sto) (hS:qm S=true) (k i o:Int) (lo l N bB bF bY bD bb:Nat) (M:World->Nat->Prop) (J Jx:List X3->World->Prop) (A1:Option Addr) (n1 c1:Nat) (A2:Option Addr) (n2 c2:Nat) (A3:Option Addr) (n3 c3:Nat) (A4:Option Addr) (n4 c4:Nat) (E:World->Prop) (HC:TF lo M J Jx l N) (HE:∀ W,E W->EnvX S (k,i,o) M l bB bF bY bD bb (.slice A1 n1 c1) (.slice A2 n2 c2) (.slice A3 n3 c3) (.slice A4 n4 c4) W) (HEk:∀ W W',E W->ZG M W W'->E W') (HEl:∀ W,E W->lo<=W.heap.size):∀ h:Nat,DownC S (k,i,o) M J Jx N bB bF bY bD E h
 |0=>qfp S hS k i o lo l N bB bF bY bD bb M J Jx A1 n1 c1 A2 n2 c2 A3 n3 c3 A4 n4 c4 E HC HE HEk HEl 0 fun _ e=>zO
 |h+1=>qfp S hS k i o lo l N bB bF bY bD bb M J Jx A1 n1 c1 A2 n2 c2 A3 n3 c3 A4 n4 c4 E HC HE HEk HEl (h+1) fun h' e=>by obtain rfl:h=h':=zO;exact qfo S hS k i o lo l N bB bF bY bD bb M J Jx A1 n1 c1 A2 n2 c2 A3 n3 c3 A4 n4 c4 E HC HE HEk HEl h
end Go.Proofs.YtpbniokljofedaaGreat
namespace Go.Proofs.YtpbniokljofedaaGreat
open Go.RowKit
set_option maxRecDepth 100000 in
theorem qhq (S:Sto) (hS:qm S=true) (k i o:Int) (lo l N:Nat) (M:World->Nat->Prop) (J Jx:List X3->World->Prop) (A1:Option Addr) (n1 c1:Nat) (A2:Option Addr) (n2 c2:Nat) (A3:Option Addr) (n3 c3:Nat) (A4:Option Addr) (n4 c4:Nat) (HC:TF lo M J Jx l N) (bS bF bR:Nat) (w:World) (aP:lo<=w.heap.size) (aI:qU w lo (.slice A1 n1 c1) (.slice A2 n2 c2) (.slice A3 n3 c3) (.slice A4 n4 c4) S) (hs:w.heap[bS]?=some (.cells #[.slice A1 n1 c1,.slice A2 n2 c2,.slice A3 n3 c3,.slice A4 n4 c4] 28 (0,0))) (hf:w.heap[bF]?=some (.cells #[.int .u8 k,.int .u32 i,.int .u32 o] 66 (0,0))) (a lvl:Nat) (xs:List It) (hr:w.heap[bR]?=some (.cells #[.int .i64 (a:Int)] 3 (0,0))) (hnf:¬M w bF) (ha:8<=a) (aj:a<256) (hn:qu S a=some ((lvl:Int),xs)) (aN:(qD S lvl xs).isSome=true) (hN:(QR S lvl (k,i,o) xs).length<=N) (hJ:J [] w):Calls prog 157 #[.func (.yield l) #[] #[],.pointer (some ⟨bS,0,none⟩),.pointer (some ⟨bF,0,none⟩),.pointer (some ⟨bR,0,none⟩)] w fun e W'=>(∃ v,e=.returned v)/\((∃ ys:List X3,ys.map (·.1)=QR S lvl (k,i,o) xs/\J ys W')\/∃ (ys:List X3) (rest:List It),ys.map (·.1)++rest=QR S lvl (k,i,o) xs/\Jx ys W'):=by
 have HON:=zH (fun W (hx:Ext w W)=>qdU A1 n1 c1 A2 n2 c2 A3 n3 c3 A4 n4 c4 S (by have:=(Qc hS).2.2.1;omega) W ((aI.more aP).ext hx));have lY:qU w lo (.slice A1 n1 c1) (.slice A2 n2 n2) (.slice A3 n3 c3) (.slice A4 n4 c4) S:=⟨aI.bs,aI.ws.clip,aI.now,aI.last⟩
 have ks:=qa hs;have zs:bS<w.heap.size:=(zG.1 hs).1;have zr:bR<w.heap.size:=(zG.1 hr).1;replace aI:=zH lY;replace hf:=zH hf;replace hr:=zH hr;replace hnf:=zH hnf;replace hn:=zH hn;replace aN:=zH aN;replace hN:=zH hN;replace hJ:=zH hJ;replace HC:=zH HC;replace hS:=zH hS;clear lY;go_enter func157,ntmps157;go_wp2_with fail;generalize aA:(World.alloc w _)=w1;have x1:Ext w w1:=by rw[<-aA];exact zN _ _
 have ry1:w1.heap[w.heap.size]?=some (.cells #[.func (.yield l) #[] #[]] 231 (0,0)):=by rw[<-aA];exact zI _ _ _ rfl
 clear aA;refine(HON.out w1 x1).mono ?_;clear HON;rintro e w2 ⟨u,rfl,⟨bb,A3',c3',rfl,wu,hfr3⟩,hB⟩;have x2:Ext w w2:=x1.trans hB;have ry2:=zH (qb ry1 hB);have hfr:=zH (hfr3.mono x1.size);have hbb:=zH (Nat.le_trans x1.size wu.1);replace wu:=zH wu;have kr2:=qa (qb hr.out x2);have zr2:bR<w2.heap.size:=Nat.lt_of_lt_of_le zr x2.size;clear hB ry1 x1 ks hfr3;go_wp2_with fail;generalize aO:(World.alloc (World.alloc w2 _) _)=w3;have dO:Ext w2 w3:=by rw[<-aO];exact(zN _ _).trans (zN _ _)
 have uz:w3.heap[w2.heap.size]?=some (.cells #[.pointer (some ⟨bb,0,none⟩)] 80 (0,0)):=by rw[<-aO];exact(zK _ _ _ zA2).trans (zI _ _ _ rfl)
 have tV:w3.heap[w2.heap.size+1]?=some (.cells #[.func (.func 158) #[] #[.pointer (some ⟨w2.heap.size,0,none⟩),.pointer (some ⟨bF,0,none⟩),.pointer (some ⟨w.heap.size,0,none⟩),.pointer (some ⟨w2.heap.size+1,0,none⟩)]] 232 (0,0)):=by rw[<-aO];exact zI _ _ _ zA2
 have x3:Ext w w3:=x2.trans dO;have hw2s:=x2.size;have NW:∀ b,w.heap.size<=b->¬M w3 b:=fun b hb=>HC.out.new hJ.out x3 hb;have hB0:∀ W,ZG M w3 W->Below lo w3 W:=fun W hk=>hk.below (Nat.le_trans aP x3.size) fun b hb hm=>absurd (HC.out.low _ _ hm) zO;have hEF:=aI.out.below (Below.mono x3 aP);have yu:Bys w3 w3.heap.size (.slice A3' n3 c3') S.now:=(wu.out.2.2.now.below dO).more dO.size;have hbb3:=qb wu.out.2.1 dO;have ry3:=qb ry2.out dO;have rf3:=qb hf.out x3;have hnf3:¬M w3 bF:=fun h=>hnf.out ((HC.out.ext _ _ _ hJ.out x3).2 _ h);have HE:∀ W,ZG M w3 W->EnvX S (k,i,o) M l w2.heap.size bF w.heap.size (w2.heap.size+1) bb (.slice A1 n1 c1) (.slice A2 n2 n2) (.slice A3' n3 c3') (.slice A4 n4 c4) W:=fun W hk=>by
  have hS4:=hEF.below (hB0 W hk);have hsz:lo<=W.heap.size:=by have:=hk.size;have:=x3.size;omega
  refine⟨hk.row (NW _ zO) uz,hk.row hnf3 rf3,hk.row (NW _ (zM _)) ry3,hk.row (NW _ zO) tV,Nat.zero_le _,hk.row (NW _ hbb.out) hbb3,hS4.bs.more hsz,hS4.ws.more hsz,?_,hS4.last.more hsz⟩;exact(yu.keepF fun q hq ⟨A,n,c,e,hb⟩=>hk.cell hq (NW _ (by rw[hb];exact hfr.out A n c e))).more hk.size
 have HD:=qfo S hS.out k i o lo l N w2.heap.size bF w.heap.size (w2.heap.size+1) bb M J Jx A1 n1 c1 A2 n2 n2 A3' n3 c3' A4 n4 c4 (ZG M w3) HC.out HE (fun W W' h1 h2=>h1.trans h2) (fun W hk=>by have:=hk.size;have:=x3.size;omega) lvl
  a xs [] w3 ha aj hn.out aN.out (HC.out.ext _ _ _ hJ.out x3).1 (ZG.refl _ _) (by simpa using hN.out)
 refine HD.mono ?_;clear HD HE NW hB0 hEF yu hbb3 ry3 rf3 hnf3 uz tV aO;rintro e w4 (⟨rfl,ys,hy,hJ4,-⟩|⟨rfl,ys,rest,hy,hJ4⟩)
 ·rw[List.nil_append] at hJ4;replace hJ4:=zH hJ4;replace hy:=zH hy;go_wp2_with fail;go_end0;exact⟨⟨_,rfl⟩,.inl ⟨ys,hy.out,hJ4.out⟩⟩
 ·rw[List.nil_append] at hJ4;replace hJ4:=zH hJ4;replace hy:=zH hy;go_wp2_with fail;go_end0;exact⟨⟨_,rfl⟩,.inr ⟨ys,rest,hy.out,hJ4.out⟩⟩
end Go.Proofs.YtpbniokljofedaaGreat
