/- Lemmas of the proof. -/
import Derived.OrdersIn
import Derived.TacticsIn
import Derived.CallsIn
import Derived.RangeFuncKeeps
import Derived.Sort.CutIn
import Derived.Test.YtmeadnlmepcmbaaGreatZN11
set_option linter.all false
set_option maxHeartbeats 8000000
open Go.Proofs.Tryz
namespace Go.Proofs.YtmeadnlmepcmbaaGreat
open Go.RowKit
set_option maxRecDepth 100000 in
theorem up_any (A n c) (t:List UInt8) (a:Int) (w:World) (h:Bys w w.heap.size (.slice A n c) t):Calls prog 156 #[.slice A n c,.int .i64 a] w (zF (qfn t a 1 255 w.heap.size) w):=by
 have HT:=zH (turn_any A n c t a 1 255 w h);clear h;go_enter func156,ntmps156;go_wp2_with fail;refine HT.out.mono ?_;clear HT;rintro e w2 ⟨u,rfl,hu,hB⟩;rcases hu with ⟨h1,rfl⟩|⟨h1,A',c',rfl,hBQ⟩
 ·have hB':Ext w w2:=hB;have hQ:=zH (⟨_,rfl,.inl ⟨h1,rfl⟩,hB'⟩:zF (qfn t a 1 255 w.heap.size) w (.returned (.tuple #[.slice none 0 0,.int .i64 (YG t a 255)])) w2);generalize YG t a 255=er at *;replace h1:=zH h1;go_wp2_with fail;refine bodyPost_ret (v:=.tuple #[.slice none 0 0,.int .i64 er]) ?_ rfl hQ.out;simp[results,results156,go_sem]
 ·have hB':Ext w w2:=hB;have hQ:=zH (⟨_,rfl,.inr ⟨h1,A',c',rfl,hBQ⟩,hB'⟩:zF (qfn t a 1 255 w.heap.size) w (.returned (.tuple #[.slice A' 256 c',.int .i64 0])) w2);replace h1:=zH h1;go_wp2_with fail;refine bodyPost_ret (v:=.tuple #[.slice A' 256 c',.int .i64 0]) ?_ rfl hQ.out;simp[results,results156,go_sem]
abbrev qy (S:Sto) (t:List UInt8):Sto:=⟨S.bs,S.ws,t,S.last⟩
abbrev sto0:Value:=Qk none 0 0 none 0 0 none 0 0 none 0 0
def Zn (S:Sto) (a:Int):Int:=if jt S a≠0 then jt S a else if Zo S a.toNat=255 then 70 else 0
def StoQ (e:Int) (S:Sto) (lo:Nat) (u:Value) (W:World):Prop:=(e≠0/\u=.tuple #[sto0,.int .i64 e])\/(e=0/\∃ v,u=.tuple #[v,.int .i64 0]/\zl lo S v W)
theorem QS {S:Sto} (h:ql S=true):XY S:=by
 obtain⟨h1,h2,h3,h4⟩:=qX h;have hd:QM S.bs S.ws=true:=by unfold ql at h;simp at h;exact h.1
 obtain⟨d1,d2,d3,d4⟩:=jN hd;exact⟨d1,d2,d3,d4,zO,zO⟩
theorem qiz {S:Sto} (h:ql S=true):Qt S.now=true:=by unfold ql at h;simp at h;exact h.2.1
theorem GE {R:Ending->World->Prop} {a:Act} {W:World} {b:Nat} {x0 x1 x2 x3 v:Value} (h4:a.tmps[4]?.getD undef=.pointer (some ⟨b,0,none⟩)) (h5:a.tmps[5]?.getD undef=v) (hd:a.defers=[]) (hCA:W.heap[b]?=some (.cells #[x0,x1,x2,x3] 28 (0,0))) (hR:R (.returned (.tuple #[.agg #[x0,x1,x2,x3],v])) W):bodyPost prog Tryz.f103 R .ret a W:=by
 refine bodyPost_ret (v:=.tuple #[.agg #[x0,x1,x2,x3],v]) ?_ hd hR;have k:=qa hCA;simp[results,results103,go_sem,h4,h5,k]
set_option maxRecDepth 100000 in
theorem qir (A1 n1 c1 A2 n2 c2 A3 n3 c3 A4 n4 c4) (S:Sto) (a:Int) (w:World) (h:qZ w w.heap.size (.slice A1 n1 c1) (.slice A2 n2 c2) (.slice A3 n3 c3) (.slice A4 n4 c4) S):Calls prog 103 #[Qk A1 n1 c1 A2 n2 c2 A3 n3 c3 A4 n4 c4,.int .i64 a] w (zF (StoQ (Zn S a) (qy S (jj S.now a.toNat 1)) w.heap.size) w):=by
 have HA:=zH (fun W (hx:Ext w W)=>qbY A1 n1 c1 A2 n2 c2 A3 n3 c3 A4 n4 c4 S a W (h.ext hx));have HU:=zH (fun W (hx:Ext w W)=>up_any A3 n3 c3 S.now a W (h.ext hx).now);replace h:=zH h;go_enter func103,ntmps103;go_wp2_with fail;generalize hw1:(World.alloc (World.alloc w _) _)=w1;have x1:Ext w w1:=by rw[<-hw1];exact(zN _ _).trans (zN _ _)
 have rs1:w1.heap[w.heap.size]?=some (.cells #[.slice A1 n1 c1,.slice A2 n2 c2,.slice A3 n3 c3,.slice A4 n4 c4] 28 (0,0)):=by rw[<-hw1];exact(zK _ _ _ zA2).trans (zI _ _ _ rfl)
 have ro1:w1.heap[w.heap.size+1]?=some (.cells #[.slice none 0 0,.slice none 0 0,.slice none 0 0,.slice none 0 0] 28 (0,0)):=by rw[<-hw1];exact zI _ _ _ zA2
 clear hw1;refine(HA.out w1 x1).mono ?_;clear HA;rintro e w2 ⟨rfl,hB⟩;have x2:Ext w w2:=x1.trans hB;have rs2:=qb rs1 hB;have ro2:=qb ro1 hB;clear hB rs1 ro1 x1;by_cases h0:jt S a=0
 ·obtain⟨hS,m,rfl,hm8,hNV,hnz⟩:=Vt h0;have hE:Zn S (m:Int)=if Zo S m=255 then 70 else 0:=by unfold Zn;rw[if_neg (by simpa using h0),Int.toNat_natCast]
  have hT:YG S.now (m:Int) 255=if Zo S m=255 then 70 else 0:=qhc (qiz hS) hm8 hNV 255
  have hsh:=zH (QS hS);rw[h0];have ks2:=qa rs2;replace h0:=zH h0;replace hS:=zH hS;rw[<-hE] at hT;replace hE:=zH hE;clear hnz;go_wp2_with fail;refine(HU.out w2 x2).mono ?_;clear HU;rintro e w3 ⟨u,rfl,hu,hB⟩;have x3:Ext w w3:=x2.trans hB;have rs3:=qb rs2 hB;have ro3:=qb ro2 hB;have ks3:=qa rs3;have z23:=hB.size;clear hB rs2 ro2 ks2;unfold qfn at hu;rw[hT] at hu;rcases hu with ⟨h1,rfl⟩|⟨h1,A',c',rfl,hBQ⟩
  ·generalize Zn S (m:Int)=er at *;have he:(er != 0)=true:=by rw[bne_iff_ne];exact h1
   have hq:=zH h1;have ko3:=qa ro3;have fo3:=qd ro3;clear h1 hT;go_wp2_with fail;exact GE (b:=w.heap.size+1) rfl rfl rfl (Vn ro3 _ _ _ _) ⟨_,rfl,.inl ⟨hq.out,rfl⟩,zm x3 zO _ _ _ _⟩
  ·have hby:=Bys.of_own hBQ;have HTW:=qdU A1 n1 c1 A2 n2 c2 A' 256 c' A4 n4 c4 (qy S (jj S.now m 1)) ⟨hsh.out.bs,hsh.out.ws,hsh.out.be,hsh.out.we,by rw[qcp];exact hsh.out.now,hsh.out.last⟩ w3 ⟨(h.out.ext x3).bs,(h.out.ext x3).ws,hby,(h.out.ext x3).last⟩;replace hby:=zH hby;replace hBQ:=zH hBQ;replace h1:=zH h1;go_wp2_with fail;refine HTW.mono ?_;clear HTW;rintro e w4 ⟨u,rfl,hu,hB⟩;have x4:Ext w w4:=x3.trans hB;have ro4:=qb ro3 hB;have ko4:=qa ro4;have fo4:=qd ro4;have zo3:w.heap.size+1<w3.heap.size:=(zG.1 ro3).1;obtain⟨BB,WW,g,B3,d3,B4,d4,rfl,hD,hN,hL⟩:=hu;have hK:=fun (x0 x1 x2 x3':Value)=>zl.keep (lo':=w.heap.size) (⟨BB,WW,g,B3,d3,B4,d4,rfl,hD,hN,hL⟩:zl w3.heap.size (qy S (jj S.now m 1)) _ w4) (W2:=(((w4.setCell ⟨w.heap.size+1,0,none⟩ x0).setCell ⟨w.heap.size+1,1,none⟩ x1).setCell ⟨w.heap.size+1,2,none⟩ x2).setCell ⟨w.heap.size+1,3,none⟩ x3') zO zA2 (fun b hb _=>(zJ _ _ _ _ zA1).trans ((zJ _ _ _ _ zA1).trans ((zJ _ _ _ _ zA1).trans (zJ _ _ _ _ zA1))));replace hK:=zH hK;clear hB hD hN hL ks3 rs3 ro3;go_wp2_with fail;exact GE (b:=w.heap.size+1) rfl rfl rfl (Vn ro4 _ _ _ _) ⟨_,rfl,.inr ⟨h1.out,_,rfl,hK.out _ _ _ _⟩,zm x4 zO _ _ _ _⟩
 ·have hE:Zn S a=jt S a:=by unfold Zn;rw[if_pos h0]
  generalize jt S a=er at *;have he:(er != 0)=true:=by rw[bne_iff_ne];exact h0
  have hq:=zH h0;have ko2:=qa ro2;have fo2:=qd ro2;replace hE:=zH hE;clear h0;go_wp2_with fail;exact GE (b:=w.heap.size+1) rfl rfl rfl (Vn ro2 _ _ _ _) ⟨_,rfl,.inl ⟨by rw[hE.out];exact hq.out,by rw[hE.out];rfl⟩,zm x2 zO _ _ _ _⟩
def ju (t:List UInt8) (a:Nat):List UInt8:=t.set a (UInt8.ofNat (qL t a-1))
theorem qfV (t:List UInt8) (a:Nat):(ju t a).length=t.length:=by unfold ju;simp
theorem qfa {n:Nat} (h:0<n) (h2:n<256):IntKind.u8.wrap ((n:Int)-1)=(((UInt8.ofNat (n-1)).toNat:Nat):Int):=by rw[<-qfb];congr 1;omega
theorem Tu {R:Ending->World->Prop} {a:Act} {W:World} {v:Value} (h4:a.tmps[4]?.getD undef=v) (hd:a.defers=[]) (hR:R (.returned v) W):bodyPost prog Tryz.f141 R .ret a W:=by refine bodyPost_ret (v:=v) ?_ hd hR;simp[results,results141,go_sem,h4]
set_option maxRecDepth 100000 in
theorem qhv (b lo:Nat) (v1 v2 v4:Value) (g c3:Nat) (t:List UInt8) (a:Nat) (ha:a<256) (w:World) (hr:w.heap[b]?=some (.cells #[v1,v2,.slice (some ⟨g,0,none⟩) 256 c3,v4] 223 (0,0))) (ho:w.ownsRow lo 5 1 (.slice (some ⟨g,0,none⟩) 256 c3) 256 (t.map bv)) (hbg:b≠g) (h0:0<qL t a):Calls prog 141 #[.pointer (some ⟨b,0,none⟩),.int .i64 (a:Int)] w fun e W=>e=.returned (.int .i64 0)/\Below lo w W/\(∀ k,k≠g->W.heap[k]?=w.heap[k]?)/\W.heap.size=w.heap.size/\W.ownsRow lo 5 1 (.slice (some ⟨g,0,none⟩) 256 c3) 256 ((ju t a).map bv):=by
 obtain⟨hk,hf,hlg,hzg⟩:=Za ho;have hka:=hk a ha;have hfa:=hf a;have kr:=qa hr;have hTC:=zH (XG ho ha (UInt8.ofNat (qL t a-1)));have hc:qL t a=(t[a]?.getD 0).toNat:=rfl;have hc2:=(t[a]?.getD 0).toNat_lt;rw[<-hc] at hka hc2;have hT:Hid (ju t a=t.set a (UInt8.ofNat (qL t a-1))):=rfl;have hwv:=qfa h0 hc2;generalize qL t a=nv at *;have hz1:((nv:Int) == 0)=false:=by rw[beq_eq_false_iff_ne];omega
 clear hk hf hc hc2 ho;go_enter func141,ntmps141;go_wp2_with fail;refine Tu rfl rfl ⟨rfl,Below.setCell (Below.refl _ _) (p:=⟨g,a,none⟩) hlg _,fun k hk=>zJ _ _ _ _ hk,zA2,?_⟩;rw[hT.out];exact hTC.out
theorem Gh {R:Ending->World->Prop} {a:Act} {W:World} {b:Nat} {x0 x1 x2 x3 v:Value} (h4:a.tmps[4]?.getD undef=.pointer (some ⟨b,0,none⟩)) (h5:a.tmps[5]?.getD undef=v) (hd:a.defers=[]) (hCA:W.heap[b]?=some (.cells #[x0,x1,x2,x3] 28 (0,0))) (hR:R (.returned (.tuple #[.agg #[x0,x1,x2,x3],v])) W):bodyPost prog Tryz.f139 R .ret a W:=by
 refine bodyPost_ret (v:=.tuple #[.agg #[x0,x1,x2,x3],v]) ?_ hd hR;have k:=qa hCA;simp[results,results139,go_sem,h4,h5,k]
theorem qbg {R:Ending->World->Prop} {a:Act} {W:World} {b:Nat} {x0 x1 x2 x3 v:Value} (h4:a.tmps[4]?.getD undef=.pointer (some ⟨b,0,none⟩)) (h5:a.tmps[5]?.getD undef=v) (hd:a.defers=[]) (hCA:W.heap[b]?=some (.cells #[x0,x1,x2,x3] 28 (0,0))) (hR:R (.returned (.tuple #[.agg #[x0,x1,x2,x3],v])) W):bodyPost prog Tryz.f75 R .ret a W:=by
 refine bodyPost_ret (v:=.tuple #[.agg #[x0,x1,x2,x3],v]) ?_ hd hR;have k:=qa hCA;simp[results,results75,go_sem,h4,h5,k]
theorem zl.set4 {lo lo' b:Nat} {S:Sto} {u:Value} {W:World} (h:zl lo S u W) (hl:lo'<=lo) (hb:b<lo) (x0 x1 x2 x3:Value):zl lo' S u ((((W.setCell ⟨b,0,none⟩ x0).setCell ⟨b,1,none⟩ x1).setCell ⟨b,2,none⟩ x2).setCell ⟨b,3,none⟩ x3):=
 h.keep hl zA2 fun b' hb' _=>(zJ _ _ _ _ zA1).trans ((zJ _ _ _ _ zA1).trans ((zJ _ _ _ _ zA1).trans (zJ _ _ _ _ zA1)))
set_option maxRecDepth 100000 in
theorem qfT (bat b lo:Nat) (v1 v2 v4:Value) (g c3:Nat) (t:List UInt8) (a:Nat) (ha:a<256) (w:World) (hat:w.heap[bat]?=some (.cells #[.int .i64 (a:Int)] 3 (0,0))) (hr:w.heap[b]?=some (.cells #[v1,v2,.slice (some ⟨g,0,none⟩) 256 c3,v4] 223 (0,0))) (ho:w.ownsRow lo 5 1 (.slice (some ⟨g,0,none⟩) 256 c3) 256 (t.map bv)) (hbg:b≠g) (h0:0<qL t a):Calls prog 140 #[.pointer (some ⟨b,0,none⟩),.pointer (some ⟨bat,0,none⟩)] w fun e W=>e=.returned (.int .i64 0)/\Below lo w W/\(∀ k,k≠g->W.heap[k]?=w.heap[k]?)/\W.heap.size=w.heap.size/\W.ownsRow lo 5 1 (.slice (some ⟨g,0,none⟩) 256 c3) 256 ((ju t a).map bv):=by
 have HB:=zH (qhv b lo v1 v2 v4 g c3 t a ha w hr ho hbg h0);have ka:=qa hat;clear hr ho h0;go_enter func140,ntmps140;go_wp2_with fail;refine HB.out.mono ?_;clear HB;rintro e W ⟨rfl,h1,h2,h3,h4⟩;replace h1:=zH h1;replace h2:=zH h2;replace h3:=zH h3;replace h4:=zH h4;go_wp2_with fail;go_ret;exact⟨rfl,h1.out,h2.out,h3.out,h4.out⟩
set_option maxRecDepth 100000 in
theorem qjP (A1 n1 c1 A2 n2 c2 A3 n3 c3 A4 n4 c4) (S:Sto) (hS:ql S=true) (a:Nat) (ha:a<256) (h0:0<qL S.now a) (bat:Nat) (w:World) (hat:w.heap[bat]?=some (.cells #[.int .i64 (a:Int)] 3 (0,0))) (h:qZ w w.heap.size (.slice A1 n1 c1) (.slice A2 n2 c2) (.slice A3 n3 c3) (.slice A4 n4 c4) S):Calls prog 139 #[Qk A1 n1 c1 A2 n2 c2 A3 n3 c3 A4 n4 c4,.func (.func 140) #[] #[.pointer (some ⟨bat,0,none⟩)]] w (zF (fun u W=>∃ v,u=.tuple #[v,.int .i64 0]/\zl w.heap.size (qy S (ju S.now a)) v W) w):=by
 obtain⟨hl1,hl2,hl3,hl4⟩:=qX hS;have HON:=zH (fun W (hx:Ext w W)=>qbL A1 n1 c1 A2 n2 c2 A3 n3 c3 A4 n4 c4 S zO W (h.ext hx));have hn3:n3=256:=by have:=h.now.at_.1;omega
 have wAH:qZ w w.heap.size (.slice A1 n1 c1) (.slice A2 n2 n2) (.slice A3 n3 c3) (.slice A4 n4 c4) S:=⟨h.bs,h.ws.clip,h.now,h.last⟩
 have hsh:=zH (QS hS);have hst:=zH wAH;subst hn3;clear h wAH hl1 hl2 hl3 hl4;replace hS:=zH hS;go_enter func139,ntmps139;go_wp2_with fail;generalize hw1:(World.alloc (World.alloc w _) _)=w1;have x1:Ext w w1:=by rw[<-hw1];exact(zN _ _).trans (zN _ _)
 have ro1:w1.heap[w.heap.size+1]?=some (.cells #[.slice none 0 0,.slice none 0 0,.slice none 0 0,.slice none 0 0] 28 (0,0)):=by rw[<-hw1];exact zI _ _ _ zA2
 clear hw1;refine(HON.out w1 x1).mono ?_;clear HON;rintro e w2 ⟨u,rfl,⟨bb,A3',c3',rfl,hbl,hrb,hBQ⟩,hB⟩;have x2:Ext w w2:=x1.trans hB;have ro2:=qb ro1 hB;have hs1:w.heap.size+1<w1.heap.size:=(zG.1 ro1).1;have hAu:∃ g,A3'=some ⟨g,0,none⟩:=by
  rcases hBQ.2 with ⟨e,h0⟩|⟨g,cap,cur,e,_⟩
  ·cases e
  ·cases e;exact⟨g,rfl⟩
 obtain⟨g,rfl⟩:=hAu;obtain⟨hk,hf,hlg,hgz⟩:=Za hBQ;have hbg:bb≠g:=by
  rintro rfl;rcases hBQ.2 with ⟨e,h0⟩|⟨g',cap,cur,e,hg',hrg,hc1,hc2,hc3,hc4⟩
  ·cases e
  ·cases e;rw[hrb] at hrg;simp only[Option.some.injEq,Obj.cells.injEq] at hrg;exact absurd hrg.2.1 zD
 have HL:=qfT bat bb w1.heap.size (.slice A1 n1 c1) (.slice A2 n2 n2) (.slice A4 n4 c4) g c3' S.now a ha w2 (qb hat x2) hrb hBQ hbg h0;clear hB ro1 x1 hk hf;replace hBQ:=zH hBQ;replace hrb:=zH hrb;go_wp2_with fail;refine HL.mono ?_;clear HL;rintro e w3 ⟨rfl,hB3,hk3,hs3,hNX⟩;have ro3:=(hk3 (w.heap.size+1) zO).trans ro2;have hrb3:=(hk3 bb hbg).trans hrb.out;have x3:Ext w w3:=Below.trans x2 (Below.mono hB3 zO);have wNK:=(hst.out.below x3).more x3.size;have HST:=VP bb A1 n1 c1 A2 n2 n2 (some ⟨g,0,none⟩) 256 c3' A4 n4 c4 (qy S (ju S.now a)) ⟨hsh.out.bs,hsh.out.ws,hsh.out.be,hsh.out.we,by rw[qfV];exact hsh.out.now,hsh.out.last⟩ w3 hrb3 ⟨wNK.bs,wNK.ws,Bys.of_own hNX,wNK.last⟩;have zo3:w.heap.size+1<w3.heap.size:=(zG.1 ro3).1;clear hB3 hk3 hNX wNK ro2 x2 hrb3;go_wp2_with fail;refine HST.mono ?_;clear HST;rintro e w4 ⟨u,rfl,hu,hB⟩;have x4:Ext w w4:=x3.trans hB;have ro4:=qb ro3 hB;have ko4:=qa ro4;have fo4:=qd ro4;have hK:=fun x0 x1 x2 x3'=>hu.set4 (b:=w.heap.size+1) (show w.heap.size<=w3.heap.size by omega) zo3 x0 x1 x2 x3';obtain⟨BB,WW,gg,B3,d3,B4,d4,rfl,hD,hN,hL⟩:=hu;replace hK:=zH hK;clear hB hD hN hL ro3 x3;go_wp2_with fail;exact Gh (b:=w.heap.size+1) rfl rfl rfl (Vn ro4 _ _ _ _) ⟨_,rfl,⟨_,rfl,hK.out _ _ _ _⟩,zm x4 zO _ _ _ _⟩
set_option maxRecDepth 100000 in
theorem qhF (A1 n1 c1 A2 n2 c2 A3 n3 c3 A4 n4 c4) (S:Sto) (a:Int) (w:World) (h:qZ w w.heap.size (.slice A1 n1 c1) (.slice A2 n2 c2) (.slice A3 n3 c3) (.slice A4 n4 c4) S):Calls prog 75 #[Qk A1 n1 c1 A2 n2 c2 A3 n3 c3 A4 n4 c4,.int .i64 a] w (zF (StoQ (jt S a) (qy S (ju S.now a.toNat)) w.heap.size) w):=by
 have HA:=zH (fun W (hx:Ext w W)=>GU A1 n1 c1 A2 n2 c2 A3 n3 c3 A4 n4 c4 S a W (h.ext hx));replace h:=zH h;go_enter func75,ntmps75;go_wp2_with fail;generalize hw1:(World.alloc (World.alloc (World.alloc w _) _) _)=w1;have x1:Ext w w1:=by rw[<-hw1];exact((zN _ _).trans (zN _ _)).trans (zN _ _)
 have rs1:w1.heap[w.heap.size]?=some (.cells #[.slice A1 n1 c1,.slice A2 n2 c2,.slice A3 n3 c3,.slice A4 n4 c4] 28 (0,0)):=by rw[<-hw1];exact(zK _ _ _ (by simp;try omega)).trans ((zK _ _ _ zA2).trans (zI _ _ _ rfl))
 have ra1:w1.heap[w.heap.size+1]?=some (.cells #[.int .i64 a] 3 (0,0)):=by rw[<-hw1];exact(zK _ _ _ zA2).trans (zI _ _ _ zA2)
 have ro1:w1.heap[w.heap.size+2]?=some (.cells #[.slice none 0 0,.slice none 0 0,.slice none 0 0,.slice none 0 0] 28 (0,0)):=by rw[<-hw1];exact zI _ _ _ zA2
 have kk1:=qa ra1;have ks1:=qa rs1;clear hw1;go_wp2_with fail;refine(HA.out w1 x1).mono ?_;clear HA;rintro e w2 ⟨rfl,hB⟩;have x2:Ext w w2:=x1.trans hB;have rs2:=qb rs1 hB;have ra2:=qb ra1 hB;have ro2:=qb ro1 hB;clear hB rs1 ro1 x1 ks1 kk1 ra1;by_cases h0:jt S a=0
 ·obtain⟨hS,m,rfl,hm8,hNV,hnz⟩:=Vt h0;have HD:=qjP A1 n1 c1 A2 n2 c2 A3 n3 c3 A4 n4 c4 S hS m hNV (Nat.pos_of_ne_zero hnz) (w.heap.size+1) w2 ra2 (h.out.ext x2);have ks2:=qa rs2;have h0':=zH h0;rw[h0];replace hS:=zH hS;clear hnz h0;go_wp2_with fail;refine HD.mono ?_;clear HD;rintro e w3 ⟨u,rfl,⟨v,rfl,hT⟩,hB⟩;have x3:Ext w w3:=x2.trans hB;have ro3:=qb ro2 hB;have zo2:w.heap.size+2<w2.heap.size:=(zG.1 ro2).1;have hK:=fun x0 x1 x2 x3'=>hT.set4 (b:=w.heap.size+2) (show w.heap.size<=w2.heap.size by omega) zo2 x0 x1 x2 x3';obtain⟨BB,WW,gg,B3,d3,B4,d4,rfl,hD,hN,hL⟩:=hT;have ko3:=qa ro3;have fo3:=qd ro3;replace hK:=zH hK;clear hB hD hN hL ks2 rs2 ra2 ro2 x2;go_wp2_with fail;exact qbg (b:=w.heap.size+2) rfl rfl rfl (Vn ro3 _ _ _ _) ⟨_,rfl,.inr ⟨h0'.out,_,rfl,hK.out _ _ _ _⟩,zm x3 zO _ _ _ _⟩
 ·have hq:=zH h0;have hE:Hid (jt S a=jt S a):=rfl;obtain⟨er,her⟩:∃ er,jt S a=er:=⟨_,rfl⟩
  rw[her] at h0 ⊢;have he:(er != 0)=true:=by rw[bne_iff_ne];exact h0
  have ko2:=qa ro2;have fo2:=qd ro2;replace her:=zH her;clear h0;go_wp2_with fail;exact qbg (b:=w.heap.size+2) rfl rfl rfl (Vn ro2 _ _ _ _) ⟨_,rfl,.inl ⟨hq.out,by rw[her.out];rfl⟩,zm x2 zO _ _ _ _⟩
def Ql (X:Nat->Prop) (w C:World):Prop:=∀ (q:Addr) (v:Value),¬X q.block->w.cell? q=some v->C.cell? q=some v
section
variable {X Y:Nat->Prop} {w W C:World}
theorem Ql.refl (X:Nat->Prop) (w:World):Ql X w w:=fun _ _ _ h=>h
theorem Ql.of_ext (h:Ext w C):Ql X w C:=fun _ _ _ hv=>Ext.cell h hv
theorem Ql.trans (h:Ql X w W) (h':Ql Y W C) (hY:∀ k,k<w.heap.size->Y k->X k):Ql X w C:=fun q v hX hv=>h' q v (fun hy=>hX (hY _ (World.block_lt_of_cell? w q hv) hy)) (h q v hX hv)
theorem Ql.mono (h:Ql X w C) (hX:∀ k,k<w.heap.size->X k->Y k):Ql Y w C:=fun q v hY hv=>h q v (fun hx=>hY (hX _ (World.block_lt_of_cell? w q hv) hx)) hv
theorem Ql.of_heap (h:∀ k,k<w.heap.size->¬X k->C.heap[k]?=w.heap[k]?):Ql X w C:=fun q v hX hv=>(World.cell?_of_block (h _ (World.block_lt_of_cell? w q hv) hX)).trans hv
theorem Rd.keepX {B size n:Nat} {A:OA} {xs:List Value} (h:Rd w B size A n xs) (hs:0<size) (hk:Ql X w C) (hX:∀ k,k<B->¬X k):Rd C C.heap.size size A n xs:=⟨h.1,fun hn=>by
 obtain⟨b,off,e,hb,hc⟩:=h.2 hn;refine⟨b,off,e,?_,fun j u hu=>hk _ _ (hX b hb) (hc j u hu)⟩;have hl:0<xs.length:=by rw[h.1];exact Nat.mul_pos hn hs
 exact World.block_lt_of_cell? C ⟨b,off+0,none⟩ (hk _ _ (hX b hb) (hc 0 _ (zL hl)))⟩
theorem Bys.keepX {B:Nat} {v:Value} {l:List UInt8} (h:Bys w B v l) (hk:Ql X w C) (hX:∀ k,k<B->¬X k):Bys C C.heap.size v l:=by obtain⟨A,c,e,hc,hm,hr⟩:=h;exact⟨A,c,e,hc,hm,hr.keepX zO hk hX⟩
end
def kL (X:Nat->Prop) (w:World) (v:Value) (xs:List It):Prop:=∀ C,Ql X w C->Its C C.heap.size v xs
theorem kL.now {X:Nat->Prop} {w:World} {v:Value} {xs:List It} (h:kL X w v xs):Its w w.heap.size v xs:=h w (Ql.refl _ _)
theorem kL.trans {X Y:Nat->Prop} {w W:World} {v:Value} {xs:List It} (h:kL X w v xs) (hk:Ql X w W) (hY:∀ k,k<w.heap.size->Y k->X k):kL Y W v xs:=fun C hC=>h C (hk.trans hC hY)
theorem ZC {w w':World} {base size n:Nat} {e:TypeId} {v:Value} {xs:List Value} (h:w.ownsRow base e size v n xs) (hk:∀ q,v.ownBlock=some q->w'.heap[q]?=w.heap[q]?):w'.ownsRow base e size v n xs:=
 ⟨h.1,h.2.imp id fun ⟨g,cap,cur,e1,h3,h4,h5⟩=>⟨g,cap,cur,e1,h3,(hk g (by rw[e1];rfl)).trans h4,h5⟩⟩
theorem jr {w:World} {base size n:Nat} {e:TypeId} {v:Value} {xs:List Value} (h:w.ownsRow base e size v n xs) {q:Nat} (hq:v.ownBlock=some q):∃ cur,w.heap[q]?=some (.cells cur e (0,0)):=by
 rcases h.2 with ⟨e1,_⟩|⟨g,cap,cur,e1,_,hg,_⟩
 ·rw[e1] at hq;cases hq
 ·rw[e1] at hq;cases hq;exact⟨cur,hg⟩
def B3 (b g:Nat) (k:Option Nat) (q:Nat):Prop:=q=b\/q=g\/k=some q
def To (B:Nat) (D:Nat->Prop) (q:Nat):Prop:=B<=q/\¬D q
theorem To.keep {B:Nat} {D:Nat->Prop} {w W:World} (h:∀ q,q<w.heap.size->q<B\/D q->W.heap[q]?=w.heap[q]?):Ql (To B D) w W:=Ql.of_heap fun q hq hX=>h q hq (by
 by_cases hB:q<B
 ·exact .inl hB
 ·right;by_cases hD:D q
  ·exact hD
  ·exact absurd ⟨zO,hD⟩ hX)
def YH (n:Nat) (D D':Nat->Prop):Prop:=∀ q,D' q->D q\/n<=q
theorem YH.refl (n:Nat) (D:Nat->Prop):YH n D D:=fun _ h=>.inl h
theorem YH.mono {n n':Nat} {D D':Nat->Prop} (h:YH n D D') (hn:n'<=n):YH n' D D':=fun q hq=>(h q hq).imp id fun h=>zO
theorem YH.trans {n n':Nat} {D D' D'':Nat->Prop} (h:YH n D D') (h':YH n' D' D'') (hn:n<=n'):YH n D D'':=fun q hq=>(h' q hq).elim (fun h1=>h q h1) fun h1=>.inr zO
structure Qf (lo b g:Nat) (k:Option Nat) (w W:World):Prop where
 below:Below lo w W
 rows:∀ q,q<w.heap.size->¬B3 b g k q->W.heap[q]?=w.heap[q]?
def ZK (n:Nat) (k k':Option Nat):Prop:=∀ q,k'=some q->k=some q\/n<=q
theorem ZK.refl (n:Nat) (k:Option Nat):ZK n k k:=fun _ h=>.inl h
theorem ZK.mono {n n':Nat} {k k':Option Nat} (h:ZK n k k') (hn:n'<=n):ZK n' k k':=fun q hq=>(h q hq).imp id fun h=>zO
theorem ZK.trans {n n':Nat} {k k' k'':Option Nat} (h:ZK n k k') (h':ZK n' k' k'') (hn:n<=n'):ZK n k k'':=fun q hq=>(h' q hq).elim (fun h1=>h q h1) fun h1=>.inr zO
section
variable {lo b g:Nat} {k k':Option Nat} {w W C:World}
theorem Qf.refl (lo b g:Nat) (k:Option Nat) (w:World):Qf lo b g k w w:=⟨Below.refl _ _,fun _ _ _=>rfl⟩
theorem Qf.of_ext (h:Ext w W) (hl:lo<=w.heap.size):Qf lo b g k w W:=⟨Below.mono h hl,fun q hq _=>Below.block h q hq⟩
theorem Qf.trans (h:Qf lo b g k w W) (h':Qf lo b g k' W C) (hk:ZK w.heap.size k k'):Qf lo b g k w C:=⟨h.below.trans h'.below,fun q hq hn=>(h'.rows q (by have:=h.below.size;omega) fun hx=>hn (by
 rcases hx with e|e|e
 ·exact .inl e
 ·exact .inr (.inl e)
 ·exact(hk q e).elim (fun h=>.inr (.inr h)) fun h=>zO)).trans (h.rows q hq hn)⟩
theorem Qf.keepX (h:Qf lo b g k w W):Ql (B3 b g k) w W:=Ql.of_heap fun q hq hX=>h.rows q hq hX
theorem Qf.own (h:Qf lo b g k w W) {base n size:Nat} {e:TypeId} {v:Value} {xs:List Value} (ho:w.ownsRow base e size v n xs) (hn:∀ q,v.ownBlock=some q->¬B3 b g k q):W.ownsRow base e size v n xs:=ZC ho fun q hq=>h.rows q (QZ ho q hq).2 (hn q hq)
theorem Qf.row (h:Qf lo b g k w W) {q:Nat} {o:Obj} (hr:w.heap[q]?=some o) (hn:¬B3 b g k q):W.heap[q]?=some o:=(h.rows q (zG.1 hr).1 hn).trans hr
theorem B3.of_new (hk:ZK w.heap.size k k'):∀ q,q<w.heap.size->B3 b g k' q->B3 b g k q:=fun q hq hx=>by
 rcases hx with e|e|e
 ·exact .inl e
 ·exact .inr (.inl e)
 ·exact(hk q e).elim (fun h=>.inr (.inr h)) fun h=>zO
end
def WsB (D:Nat->Prop) (B lo b g:Nat) (k:Option Nat) (v:Value) (ws:List (Int×List UInt8)) (w:World):Prop:=∃ ps:List ((Int×List UInt8)×Value),ps.map (·.1)=ws /\
 ((k=none/\ws.length<=maxLen/\∃ A,v=.slice A ws.length ws.length/\Rd w B 2 A ws.length (zu ps))\/(∃ q,k=some q/\v.ownBlock=some q/\w.ownsRow lo 142 2 v ws.length (zu ps))) /\
 ∀ p∈ps,(∃ A c,p.2=.slice A p.1.2.length c)/\∀ C,Ql (To B D) w C->Bys C C.heap.size p.2 p.1.2
theorem WsB.ext {D:Nat->Prop} {B lo b g:Nat} {k:Option Nat} {v:Value} {ws:List (Int×List UInt8)} {w W:World} (h:WsB D B lo b g k v ws w) (hx:Ext w W) (hB:B<=w.heap.size):WsB D B lo b g k v ws W:=by
 obtain⟨ps,e,hw,hp⟩:=h;refine⟨ps,e,?_,fun p hpm=>⟨(hp p hpm).1,fun C hC=>(hp p hpm).2 C ((Ql.of_ext hx).trans hC fun _ _ h=>h)⟩⟩;rcases hw with ⟨e,hm,A,e2,hr⟩|⟨q,e,e2,how⟩
 ·exact .inl ⟨e,hm,A,e2,hr.below (Below.mono hx hB)⟩
 ·exact .inr ⟨q,e,e2,ZC how fun q' hq'=>Below.block hx q' (QZ how q' hq').2⟩
theorem WsB.mono {D D':Nat->Prop} {B lo b g:Nat} {k:Option Nat} {v:Value} {ws:List (Int×List UInt8)} {w:World} (h:WsB D B lo b g k v ws w) (hD:∀ q,D q->D' q):WsB D' B lo b g k v ws w:=by obtain⟨ps,e,hw,hp⟩:=h;exact⟨ps,e,hw,fun p hpm=>⟨(hp p hpm).1,fun C hC=>(hp p hpm).2 C (hC.mono fun q _ hx=>⟨hx.1,fun h=>hx.2 (hD q h)⟩)⟩⟩
structure Bch (D:Nat->Prop) (B lo b g:Nat) (k:Option Nat) (S:Sto) (w:World):Prop where
 lob:lo<=b
 blo:B<=lo
 dB:∀ q,D q->lo<=q/\q<w.heap.size/\¬B3 b g k q
 ex:∃ A1 n1 c1 v2 c3 A4 c4,w.heap[b]?=some (.cells #[.slice A1 n1 c1,v2,.slice (some ⟨g,0,none⟩) 256 c3,.slice A4 256 c4] 223 (0,0))/\w.ownsRow lo 5 1 (.slice (some ⟨g,0,none⟩) 256 c3) 256 (S.now.map bv) /\
  WsB D B lo b g k v2 S.ws w/\Bls w B (.slice A1 n1 c1) S.bs/\Bys w B (.slice A4 256 c4) S.last
section
variable {D:Nat->Prop} {B lo b g:Nat} {k:Option Nat} {S:Sto} {w W:World}
theorem Bch.size (h:Bch D B lo b g k S w):lo<=b/\b<w.heap.size/\lo<=g/\g<w.heap.size/\g≠b/\lo<=w.heap.size/\∀ q,k=some q->lo<=q/\q<w.heap.size/\q≠b/\q≠g:=by
 have h1:=h.lob;obtain⟨A1,n1,c1,v2,c3,A4,c4,hr,ho,⟨ps,_,hw,_⟩,_,_⟩:=h.ex;have hb:=(zG.1 hr).1;obtain⟨_,_,hlg,hzg⟩:=Za ho;obtain⟨cur,hg⟩:=jr ho (q:=g) rfl;refine⟨h1,hb,hlg,hzg,qR hg hr zD,zO,fun q hq=>?_⟩;rcases hw with ⟨e,_⟩|⟨q',e,e2,how⟩
 ·rw[e] at hq;cases hq
 ·rw[e] at hq;cases hq;obtain⟨cur2,hq2⟩:=jr how e2;have:=QZ how _ e2;exact⟨this.1,this.2,qR hq2 hr zD,qR hq2 hg zD⟩
theorem Bch.b3 (h:Bch D B lo b g k S w):∀ q,B3 b g k q->lo<=q/\q<w.heap.size:=fun q hq=>by
 obtain⟨h1,h2,h3,h4,_,_,h5⟩:=h.size;rcases hq with rfl|rfl|e
 ·exact⟨h1,h2⟩
 ·exact⟨h3,h4⟩
 ·exact⟨(h5 q e).1,(h5 q e).2.1⟩
theorem Bch.off (h:Bch D B lo b g k S w):∀ q,q<B->¬B3 b g k q:=fun q hq hx=>by have h1:=h.blo;have:=(h.b3 q hx).1;omega
theorem Bch.offk (h:Bch D B lo b g k S w):∀ q,B3 b g k q->¬(q<B\/D q):=fun q hx hq=>hq.elim (fun h1=>h.off q h1 hx) fun h1=>(h.dB q h1).2.2 hx
theorem Bch.keep (h:Bch D B lo b g k S w) (hB:Below B w W) (hr:∀ q,B3 b g k q\/D q->W.heap[q]?=w.heap[q]?):Bch D B lo b g k S W:=by
 have hs:=hB.size;have hx:Ql (To B D) w W:=To.keep fun q hq h1=>h1.elim (fun h1=>hB.block q h1) fun h1=>hr q (.inr h1);obtain⟨A1,n1,c1,v2,c3,A4,c4,hro,ho,⟨ps,e,hw,hp⟩,h1,h4⟩:=h.ex;refine⟨h.lob,h.blo,fun q hq=>⟨(h.dB q hq).1,by have:=(h.dB q hq).2.1;omega,(h.dB q hq).2.2⟩,A1,n1,c1,v2,c3,A4,c4,(hr _ (.inl (.inl rfl))).trans hro,ZC ho (fun q hq=>by cases hq;exact hr _ (.inl (.inr (.inl rfl)))),⟨ps,e,?_,fun p hpm=>⟨(hp p hpm).1,fun C hC=>(hp p hpm).2 C (hx.trans hC fun _ _ h=>h)⟩⟩,h1.below hB,h4.below hB⟩;rcases hw with ⟨e,hm,A,e2,hr⟩|⟨q,e,e2,how⟩
 ·exact .inl ⟨e,hm,A,e2,hr.below hB⟩
 ·exact .inr ⟨q,e,e2,ZC how fun q' hq'=>by rw[e2] at hq';cases hq';exact hr q (.inl (.inr (.inr e)))⟩
theorem Bch.ext (h:Bch D B lo b g k S w) (hx:Ext w W):Bch D B lo b g k S W:=by have h6:=h.size.2.2.2.2.2.1;have h1:=h.blo;exact h.keep (Below.mono hx zO) fun q hq=>Below.block hx q (hq.elim (fun h2=>(h.b3 q h2).2) fun h2=>(h.dB q h2).2.1)
theorem Bch.keepX {X:Nat->Prop} (h:Bch D B lo b g k S w) (hB:Below B w W) (hr:∀ q,q<w.heap.size->¬X q->W.heap[q]?=w.heap[q]?) (hX:∀ q,B3 b g k q\/D q->¬X q):Bch D B lo b g k S W:=
 h.keep hB fun q hq=>hr q (hq.elim (fun h2=>(h.b3 q h2).2) fun h2=>(h.dB q h2).2.1) (hX q hq)
theorem Bch.mono {D':Nat->Prop} (h:Bch D B lo b g k S w) (hD:∀ q,D q->D' q) (hB:∀ q,D' q->lo<=q/\q<w.heap.size/\¬B3 b g k q):Bch D' B lo b g k S w:=by obtain⟨A1,n1,c1,v2,c3,A4,c4,hro,ho,hw,h1,h4⟩:=h.ex;exact⟨h.lob,h.blo,hB,A1,n1,c1,v2,c3,A4,c4,hro,ho,hw.mono hD,h1,h4⟩
theorem Bch.count (h:Bch D B lo b g k S w) {a:Nat} (ha:a<256) (x:UInt8):Bch D B lo b g k (qy S (S.now.set a x)) (w.setCell ⟨g,a,none⟩ (bv x))/\Qf lo b g k w (w.setCell ⟨g,a,none⟩ (bv x)):=by
 obtain⟨hlb,_,hlg,_,hgb,_,h5⟩:=h.size;have hbl:=h.blo;have hkd:=h.offk;obtain⟨A1,n1,c1,v2,c3,A4,c4,hr,ho,⟨ps,e,hw,hp⟩,h1,h4⟩:=h.ex;have hK:Qf lo b g k w (w.setCell ⟨g,a,none⟩ (bv x)):=⟨Below.setCell (Below.refl _ _) (p:=⟨g,a,none⟩) hlg _,fun q _ hn=>zJ _ _ _ _ fun e=>hn (.inr (.inl e))⟩
 have hX:Ql (To B D) w (w.setCell ⟨g,a,none⟩ (bv x)):=To.keep fun q _ hq=>zJ _ _ _ _ fun e=>hkd g (.inr (.inl rfl)) (by have e':q=g:=e;exact e' ▸ hq);have hB:Below B w (w.setCell ⟨g,a,none⟩ (bv x)):=Below.setCell (Below.refl _ _) (p:=⟨g,a,none⟩) (by show B<=g;omega) _;refine⟨⟨hlb,hbl,fun q hq=>by simpa using h.dB q hq,A1,n1,c1,v2,c3,A4,c4,(zJ _ _ _ _ fun e=>hgb e.symm).trans hr,XG ho ha x,⟨ps,e,?_,fun p hpm=>⟨(hp p hpm).1,fun C hC=>(hp p hpm).2 C (hX.trans hC fun _ _ h=>h)⟩⟩,h1.below hB,h4.below hB⟩,hK⟩;rcases hw with ⟨e,hm,A,e2,hr⟩|⟨q,e,e2,how⟩
 ·exact .inl ⟨e,hm,A,e2,hr.below hB⟩
 ·exact .inr ⟨q,e,e2,ZC how fun q' hq'=>by rw[e2] at hq';cases hq';exact zJ _ _ _ _ (h5 q e).2.2.2⟩
theorem qfH (ps:List ((Int×List UInt8)×Value)) (p:(Int×List UInt8)×Value):zu (ps++[p])=zu ps++[.int .i64 p.1.1,p.2]:=by
 induction ps with
 |nil=>rfl
 |cons a r ih=>simp[zu,ih]
theorem Bch.sto (h:Bch D B lo b g k S w):∃ A1 n1 c1 A2 n2 c2 c3 A4 c4,w.heap[b]?=some (.cells #[.slice A1 n1 c1,.slice A2 n2 c2,.slice (some ⟨g,0,none⟩) 256 c3,.slice A4 256 c4] 223 (0,0))/\qZ w w.heap.size (.slice A1 n1 c1) (.slice A2 n2 c2) (.slice (some ⟨g,0,none⟩) 256 c3) (.slice A4 256 c4) S:=by
 have h6:=h.size.2.2.2.2.2.1;have hbl:=h.blo;obtain⟨A1,n1,c1,v2,c3,A4,c4,hr,ho,⟨ps,e,hw,hp⟩,h1,h4⟩:=h.ex;have hv:∃ A2 n2 c2,v2=.slice A2 n2 c2/\Wrs w w.heap.size (.slice A2 n2 c2) S.ws:=by
  rcases hw with ⟨_,hm,A,rfl,hrd⟩|⟨q,_,_,how⟩
  ·exact⟨A,_,_,rfl,ps,e,⟨A,_,rfl,zM _,hm,hrd.more zO⟩,fun p hpm=>⟨(hp p hpm).1,(hp p hpm).2 w (Ql.refl _ _)⟩⟩
  ·obtain⟨A,c,rfl,hc1,hc2⟩:=qB how;exact⟨A,_,_,rfl,ps,e,⟨A,c,rfl,hc1,hc2,Rd.of_own how⟩,fun p hpm=>⟨(hp p hpm).1,(hp p hpm).2 w (Ql.refl _ _)⟩⟩
 obtain⟨A2,n2,c2,rfl,hW⟩:=hv;exact⟨A1,n1,c1,A2,n2,c2,c3,A4,c4,hr,h1.more zO,hW,Bys.of_own ho,h4.more zO⟩
end
set_option maxRecDepth 100000 in
theorem qhT (x:It) (hx:zy x) (hb:itB x.r x.val.length=true) (A c) (w:World) (h:Bys w w.heap.size (.slice A x.val.length c) x.val):Calls prog 203 #[Kc x.k x.i x.o x.r A x.val.length c] w (zF (IsB0 w.heap.size (12+x.val.length) (ZB x)) w):=by
 have HC:=zH (fun W=>JL x.k x.i x.o x.r A x.val.length c W);rw[hb,show Jz true=0 from rfl] at HC;obtain⟨kk,ki,ko,kr,l⟩:=x;obtain⟨⟨hk1,hk2⟩,⟨hi1,hi2⟩,⟨ho1,ho2⟩,⟨hr1,hr2⟩,hl⟩:=hx;dsimp only at *;clear hb;obtain⟨k,rfl⟩:=Int.eq_ofNat_of_zero_le hk1;obtain⟨i,rfl⟩:=Int.eq_ofNat_of_zero_le hi1;obtain⟨o,rfl⟩:=Int.eq_ofNat_of_zero_le ho1;obtain⟨r,rfl⟩:=Int.eq_ofNat_of_zero_le hr1;have HB:Hid (ZB ⟨k,i,o,r,l⟩=[[UInt8.ofNat k],qH i 4,qH o 4,qH r 2,[UInt8.ofNat l.length],l].flatten):=by refine zH ?_;simp[ZB]
 have hkb:bv (UInt8.ofNat k)=.int .u8 (k:Int):=by simp[bv];omega
 have hlb:bv (UInt8.ofNat l.length)=.int .u8 ((l.length:Nat):Int):=by simp[bv];omega
 have HL:Hid ([[UInt8.ofNat k],qH i 4,qH o 4,qH r 2,[UInt8.ofNat l.length],l].flatten.length=12+l.length):=by refine zH ?_;simp[QK];omega
 have hcv:IntKind.u8.wrap ((l.length:Nat):Int)=((l.length:Nat):Int):=by simp[IntKind.wrap,IntKind.bits,IntKind.signed];omega
 replace hkb:=zH hkb;replace hlb:=zH hlb;replace h:=zH h;rw[HB.out];clear HB;generalize hFL:[[UInt8.ofNat k],qH i 4,qH o 4,qH r 2,[UInt8.ofNat l.length],l]=FL at *;go_enter func203,ntmps203;go_wp2_with fail;generalize hw1:World.alloc w _=w1;have x1:Ext w w1:=by rw[<-hw1];exact zN _ _
 have r1:w1.heap[w.heap.size]?=some (.cells #[.int .u8 k,.int .u32 i,.int .u32 o,.int .i64 r,.slice A l.length c] 51 (0,0)):=by rw[<-hw1];exact zI _ _ _ rfl
 clear hw1;refine(HC.out w1).mono ?_;rintro e w2 ⟨rfl,hB⟩;have x2:Ext w w2:=Ext.trans x1 hB;have r2:=qb r1 hB;have k2:=qa r2;clear hB r1 x1 HC;go_wp2_with fail;refine(qeZ r zO _).mono ?_;rintro e w3 ⟨u,rfl,⟨u2,rfl,A2,c2,rfl,hb2,hf2⟩,hB⟩;have x3:Ext w w3:=Ext.trans x2 hB;have r3:=qb r2 hB;clear hB k2 r2 x2;go_wp2_with fail;have hE:∀ W,Ext w3 W->∀ j,W.cell? ⟨w.heap.size,j,none⟩=#[.int .u8 k,.int .u32 i,.int .u32 o,.int .i64 r,.slice A l.length c][j]?:=fun W h=>qa (qb r3 h);refine zj (qM [(3,jh w3.heap.size 1 5 #[.int .u8 k]),(7,YK w3.heap.size 4 (qH i 4)),(11,YK w3.heap.size 4 (qH o 4)),(17,jh w3.heap.size 1 5 #[.int .u8 (l.length:Nat)]),(20,Vw w3.heap.size 6 26 (vW FL)),(21,YK w3.heap.size (12+l.length) FL.flatten)]) 22 zQ zQ zQ zD zQ zQ ?st ?walk
 case st=>exact zv (by simp only[List.forall_mem_cons];exact⟨jP _ _ _ _,Je _ _ _,Je _ _ _,jP _ _ _ _,VX (vW.stable _),Je _ _ _,fun _ h=>by cases h⟩)
 case walk =>
  intro K hK;dsimp only[List.take];refine zC2 ?_;refine QC (jh w3.heap.size 1 5 #[.int .u8 k]) zA0 zA0 (fun W hW _=>?_) (fun (p3:Nat)=>?_)
  ·refine KZ ?_ hW.size;go_simp
  refine zC2 ?_;refine QC (YK w3.heap.size 4 (qH i 4)) zA0 zA0 (fun W hW _=>?_) (fun p7=>?_)
  ·refine QP ?_ ((YX i zO W).mono fun e w' h=>?_)
   ·go_simp
   obtain⟨u,rfl,⟨A,c,rfl,h1,h2⟩,h3⟩:=h;exact⟨(A,c),rfl,⟨h1,h2.mono hW.size⟩,h3⟩
  obtain⟨A7,c7⟩:=p7;refine zC2 ?_;refine QC (YK w3.heap.size 4 (qH o 4)) zA0 zA0 (fun W hW _=>?_) (fun p11=>?_)
  ·refine QP ?_ ((YX o zO W).mono fun e w' h=>?_)
   ·go_simp
   obtain⟨u,rfl,⟨A,c,rfl,h1,h2⟩,h3⟩:=h;exact⟨(A,c),rfl,⟨h1,h2.mono hW.size⟩,h3⟩
  obtain⟨A11,c11⟩:=p11;refine zC2 ?_;refine QC (jh w3.heap.size 1 5 #[.int .u8 (l.length:Nat)]) zA0 zA0 (fun W hW _=>?_) (fun (p17:Nat)=>?_)
  ·refine KZ ?_ hW.size;go_simp
  refine zC2 ?_;refine QC (Vw w3.heap.size 6 26 (vW FL)) zA0 zA0 (fun W hW hp=>?_) (fun (p20:Nat)=>?_)
  ·obtain⟨f3,_⟩:W.heap[p3]?=some (.cells #[.int .u8 k] 5 (0,0))/\w3.heap.size<=p3:=(hp 3 zD).1;obtain⟨f7,_⟩:Bys W W.heap.size (.slice A7 4 c7) (qH i 4)/\_:=(hp 7 zD).1;obtain⟨f11,_⟩:Bys W W.heap.size (.slice A11 4 c11) (qH o 4)/\_:=(hp 11 zD).1;obtain⟨f17,_⟩:W.heap[p17]?=some (.cells #[.int .u8 (l.length:Nat)] 5 (0,0))/\w3.heap.size<=p17:=(hp 17 zD).1;have hR:vW FL [.slice (some ⟨p3,0,none⟩) 1 1,.slice A7 4 c7,.slice A11 4 c11,.slice A2 2 c2,.slice (some ⟨p17,0,none⟩) 1 1,.slice A l.length c] W:=by
    subst hFL;rw[<-hkb.out] at f3;rw[<-hlb.out] at f17;refine⟨rfl,fun j v m hv hl=>?_⟩;rcases j with _|_|_|_|_|_|j
    ·cases hv;cases hl;exact Bys.lit (l:=[UInt8.ofNat k]) f3 (by simp[maxLen])
    ·cases hv;cases hl;exact f7
    ·cases hv;cases hl;exact f11
    ·cases hv;cases hl;exact(hb2.below hW).more hW.size
    ·cases hv;cases hl;exact Bys.lit (l:=[UInt8.ofNat l.length]) f17 (by simp[maxLen])
    ·cases hv;cases hl;exact(h.out.below (Ext.trans x3 hW)).more (Ext.trans x3 hW).size
    ·simp at hv
   refine Xa (cs:=#[.slice (some ⟨p3,0,none⟩) 1 1,.slice A7 4 c7,.slice A11 4 c11,.slice A2 2 c2,.slice (some ⟨p17,0,none⟩) 1 1,.slice A l.length c]) ?_ hW.size rfl ?_
   ·go_simp
   ·exact vW.stable _ _ _ _ (zN _ _) hR
  simp only[Act.put,qf,qc,qg,qv,Qr,zA,zB,zC];refine QC (YK w3.heap.size (12+l.length) FL.flatten) zA0 zA0 (fun W hW hp=>?_) (fun p21=>?_)
  ·obtain⟨_,cs,hcs,hCA,hR⟩:=(hp 20 zD).1;have hFn:FL.length=6:=by rw[<-hFL];rfl
   refine QP ?_ ((kV (some ⟨p20,0,none⟩) 6 6 cs.toList FL (by simpa using hcs) hFn W (Rd.row hCA 6 hcs) (fun i v l h1 h2=>hR.2 i v l h1 h2) zO (by rw[HL.out];omega)).mono fun e w' h=>?_)
   ·go_simp
   rw[HL.out] at h;exact Xj h hW.size
  obtain⟨A21,c21⟩:=p21;refine zC2 ?_;refine Zz (hK _ _ fun W hW hF=>?_);obtain⟨f21,g21⟩:Bys W W.heap.size (.slice A21 (12+l.length) c21) FL.flatten/\Zv w3.heap.size (.slice A21 (12+l.length) c21):=(hF 21).1;clear hF hK hE;have x4:Ext w W:=x3.trans hW;dsimp only[List.drop];go_wp2;refine bodyPost_ret (v:=.tuple #[.slice A21 (12+l.length) c21,.int .i64 0]) (by simp[results,results203,go_sem]) rfl ⟨_,rfl,⟨_,rfl,A21,c21,rfl,f21,g21.mono (by have:=x3.size;omega)⟩,x4⟩
def Jh (n:Nat) (b:List UInt8):List UInt8:=b++List.replicate (n-b.length) 0
theorem VZ {n:Nat} {b:List UInt8} (h:b.length<=n):(Jh n b).length=n:=by simp[Jh];omega
theorem qjp (n:Nat) (b:List UInt8):List.take 0 (List.map bv (List.replicate n 0)).toArray.toList++List.map bv b++List.drop (0+b.length) (List.map bv (List.replicate n 0)).toArray.toList=(Jh n b).map bv:=by simp[Jh,List.map_replicate,List.drop_replicate]
def Zg (b:List UInt8):List UInt8:=qH (crc (Jh 124 b)) 4++Jh 124 b
theorem vK {b:List UInt8} (h:b.length<=124):(Zg b).length=128:=by unfold Zg;rw[List.length_append,QK,VZ h]
set_option maxRecDepth 100000 in
theorem seal_any (A c) (b:List UInt8) (hl:b.length<=124) (w:World) (h:Bys w w.heap.size (.slice A b.length c) b):Calls prog 204 #[.slice A b.length c] w (zF (IsB0 w.heap.size 128 (Zg b)) w):=by
 have hmk:∀ w,(Instr.makeSlice 26 (.int .i64 124) (.int .i64 124)).run prog w=.ok (.slice (some ⟨w.heap.size,0,none⟩) 124 124) (w.alloc (.cells ((List.replicate 124 (0:UInt8)).map bv).toArray 5)):=fun _=>zQ;have hsz:(Tryz.prog.info? 5).map (·.size)=some 1:=zQ;have hcr:crc (Jh 124 b)<4294967296:=qhB _;have hd:decide ((b.length:Int)>124)=false:=decide_eq_false zO;replace h:=zH h;go_enter func204,ntmps204;go_wp2_with fail;generalize hw1:World.alloc w _=w1;have x1:Ext w w1:=by rw[<-hw1];exact zN _ _
 have r1:w1.heap[w.heap.size]?=some (.cells ((List.replicate 124 (0:UInt8)).map bv).toArray 5 (0,0)):=by rw[<-hw1];exact zI _ _ _ rfl
 clear hw1 hmk;have hcp:=Yu (P:=prog) w1 26 26 3 5 w.heap.size 0 124 124 A c b _ _ underlying26 hsz r1 (h.out.below x1) hl zA1;rw[hcp];clear hcp;have r2:=setRow_heap w1 w.heap.size _ (List.take 0 (List.map bv (List.replicate 124 0)).toArray.toList++List.map bv b++List.drop (0+b.length) (List.map bv (List.replicate 124 0)).toArray.toList).toArray _ _ r1;have x2:Below w.heap.size w (w1.setRow w.heap.size (List.take 0 (List.map bv (List.replicate 124 0)).toArray.toList++List.map bv b++List.drop (0+b.length) (List.map bv (List.replicate 124 0)).toArray.toList).toArray):=
  Below.grown x1 (Yv _ _ _) x1.size (fun g e=>by cases e;exact zM _)
 generalize hw2:w1.setRow w.heap.size (List.take 0 (List.map bv (List.replicate 124 0)).toArray.toList++List.map bv b++List.drop (0+b.length) (List.map bv (List.replicate 124 0)).toArray.toList).toArray=w2 at *;rw[qjp] at r2;have hp:∀ W,Ext w2 W->Bys W W.heap.size (.slice (some ⟨w.heap.size,0,none⟩) 124 124) (Jh 124 b):=fun W hW=>by
  refine⟨_,124,by rw[VZ hl],Nat.le_of_eq (VZ hl),zA6,by rw[VZ hl];simp[VZ hl],fun _=>⟨w.heap.size,0,rfl,?_,fun j u hu=>?_⟩⟩
  ·have:=(zG.1 (qb r2 hW)).1;omega
  ·rw[Nat.zero_add,qa (qb r2 hW)];simpa using hu
 clear hw2 r1 x1;have HO:=zH (fun W (hW:Ext w2 W)=>qdY _ (Jh 124 b) W (hp W hW) (by rw[VZ hl];omega));replace hp:=zH hp;replace r2:=zH r2;go_wp2_with fail;refine(HO.out _ (Ext.refl _)).mono ?_;rintro e w3 ⟨rfl,hB3⟩;have x3:Ext w2 w3:=hB3;clear hB3;have HF:=zH (YX (crc (Jh 124 b)) hcr w3);go_wp2_with fail;refine HF.out.mono ?_;rintro e w4 ⟨u4,rfl,⟨A4,c4,rfl,hu4,hf4⟩,hB4⟩;have x4:Ext w2 w4:=x3.trans hB4;clear HF hB4;go_wp2_with fail;generalize hw5:World.alloc w4 _=w5;have x45:Ext w4 w5:=by rw[<-hw5];exact zN _ _
 have r5:w5.heap[w4.heap.size]?=some (.cells #[.slice A4 4 c4,.slice (some ⟨w.heap.size,0,none⟩) 124 124] 26 (0,0)):=by rw[<-hw5];exact zI _ _ _ rfl
 clear hw5;have x5:=x4.trans x45;have hfl:[qH (crc (Jh 124 b)) 4,Jh 124 b].flatten=Zg b:=by simp[Zg]
 have HC:=kV (some ⟨w4.heap.size,0,none⟩) 2 2 [.slice A4 4 c4,.slice (some ⟨w.heap.size,0,none⟩) 124 124] [qH (crc (Jh 124 b)) 4,Jh 124 b] rfl rfl w5 ⟨rfl,fun _=>⟨w4.heap.size,0,rfl,(zG.1 r5).1,fun j u hu=>by rw[Nat.zero_add,qa r5];simpa using hu⟩⟩
  (fun i v l hv hl'=>by
   rcases i with _|_|i
   ·cases hv;cases hl';exact(hu4.below x45).more x45.size
   ·cases hv;cases hl';exact hp.out w5 x5
   ·simp at hv) zO (by rw[hfl,vK hl];omega)
 rw[hfl,vK hl] at HC;replace HC:=zH HC;replace hu4:=zH hu4;go_wp2_with fail;refine HC.out.mono ?_;rintro e w6 ⟨u6,rfl,hBQ,hB6⟩;have x6:Below w.heap.size w w6:=x2.trans (Below.mono (Ext.trans x5 hB6) x2.size);have HI:=zH ((IsB.of_own hBQ));go_wp2_with fail;refine bodyPost_ret (v:=.tuple #[u6,.int .i64 0]) (by simp[results,results204,go_sem]) rfl ⟨_,rfl,⟨u6,rfl,?_⟩,x6⟩;obtain⟨A',c',h1,h2,h3⟩:=HI.out;exact⟨A',c',h1,h2,h3.mono (by have:=x2.size;have:=x5.size;omega)⟩
def vO (lvl:Int) (n:Nat) (xs:List It) (k:Nat):List UInt8:=78 :: UInt8.ofNat lvl.toNat :: UInt8.ofNat n :: QT (xs.take k)
theorem qha (lvl:Int) (n:Nat) {xs:List It} {k:Nat} (hk:k<xs.length):vO lvl n xs (k+1)=vO lvl n xs k++ZB xs[k]:=by unfold vO QT;rw[List.take_succ_eq_append_getElem hk,List.flatMap_append];simp only[List.flatMap_cons,List.flatMap_nil,List.append_nil,List.cons_append]
theorem Yy (lvl:Int) (xs:List It):vO lvl xs.length xs xs.length=Qv lvl xs:=by unfold vO Qv;rw[List.take_length]
theorem Yz (lvl:Int) (n:Nat) {xs:List It} (k:Nat) (h:∀ x∈xs,zy x) (hl:xs.length<=5):(vO lvl n xs k).length<=123:=by
 have h1:=Yc (xs.take k) (fun x hx=>h x (List.mem_of_mem_take hx));have h2:(xs.take k).length<=xs.length:=by rw[List.length_take];omega
 unfold vO;simp only[List.length_cons];omega
theorem jO {lvl:Int} {xs:List It} (h:Qn lvl xs=true):0<=lvl/\lvl<6/\xs.length<=5/\∀ x∈xs,itB x.r x.val.length=true:=by unfold Qn at h;rw[Bool.and_eq_true] at h;have h1:0<=lvl/\lvl<6/\xs.length<=5/\(0<lvl->xs.length≠0):=of_decide_eq_true h.1;refine⟨h1.1,h1.2.1,h1.2.2.1,fun x hx=>?_⟩;obtain⟨i,hi,rfl⟩:=List.getElem_of_mem hx;have h2:=List.all_eq_true.1 h.2 i (List.mem_range.2 hi);unfold GT at h2;rw[zL hi] at h2;simp only[Bool.and_eq_true] at h2;exact h2.1.1
theorem qbK {R:Ending->World->Prop} {a:Act} {W:World} {u v:Value} (h2:a.tmps[2]?.getD undef=u) (h3:a.tmps[3]?.getD undef=v) (hd:a.defers=[]) (hR:R (.returned (.tuple #[u,v])) W):bodyPost prog Tryz.f195 R .ret a W:=by refine bodyPost_ret (v:=.tuple #[u,v]) ?_ hd hR;simp[results,results195,go_sem,h2,h3]
structure NWr (lvl:Int) (xs:List It) (w2:World) (v i:Value) (wr:World):Prop where
 ex:∃ k:Nat,k<=xs.length/\i=.int .i64 (k:Int)/\wr.ownsRow w2.heap.size 5 1 v (vO lvl xs.length xs k).length ((vO lvl xs.length xs k).map bv)/\Ext w2 wr
theorem qii (lvl:Int) (A n c) (xs:List It) (w:World) (hx:Its w w.heap.size (.slice A n c) xs) (hm:Qn lvl xs=false):Calls prog 195 #[jU lvl A n c] w (Ret (.tuple #[.slice none 0 0,.int .i64 8]) w):=by
 have HC:=zH (fun W (hW:Ext w W)=>VV lvl A n c xs W (hx.ext hW));rw[hm,show Jz false=8 from rfl] at HC;clear hx;go_enter func195,ntmps195;go_wp2_with fail;generalize hw1:World.alloc w _=w1;have x1:Ext w w1:=by rw[<-hw1];exact zN _ _
 clear hw1;refine(HC.out w1 x1).mono ?_;rintro e w2 ⟨rfl,hB⟩;have x2:Below w.heap.size w w2:=Ext.trans x1 hB;clear hB;go_wp2;exact qbK rfl rfl rfl ⟨rfl,x2⟩
set_option maxRecDepth 100000 in
theorem qbJ (lvl:Int) (A n c) (xs:List It) (w:World) (hx:Its w w.heap.size (.slice A n c) xs) (hm:Qn lvl xs=true) (ho:∀ x∈xs,zy x):Calls prog 195 #[jU lvl A n c] w (zF (IsB0 w.heap.size 128 (Zg (Qv lvl xs))) w):=by
 have HC:=zH (fun W (hW:Ext w W)=>VV lvl A n c xs W (hx.ext hW));rw[hm,show Jz true=0 from rfl] at HC;obtain⟨hl1,hl2,hl5,hib⟩:=jO hm;obtain⟨hn,hcn,hcm,hA⟩:=hx.at_;subst hn;obtain⟨L,rfl⟩:=Int.eq_ofNat_of_zero_le hl1;have hcv:IntKind.u8.wrap ((xs.length:Nat):Int)=((xs.length:Nat):Int):=by simp[IntKind.wrap,IntKind.bits,IntKind.signed];omega
 have hcl:IntKind.u8.wrap (L:Int)=(L:Int):=by simp[IntKind.wrap,IntKind.bits,IntKind.signed];omega
 have hLT:(vO (L:Int) xs.length xs 0).map bv=[.int .u8 78,.int .u8 (L:Int),.int .u8 (xs.length:Nat)]:=by simp[vO,QT,bv];omega
 have hX:=zH hx;have hO:=zH ho;have hI:=zH hib;clear hx ho hib hm;go_enter func195,ntmps195;go_wp2_with fail;generalize hw1:World.alloc w _=w1;have x1:Ext w w1:=by rw[<-hw1];exact zN _ _
 have r1:w1.heap[w.heap.size]?=some (.cells #[.int .i64 L,.slice A xs.length c] 113 (0,0)):=by rw[<-hw1];exact zI _ _ _ rfl
 clear hw1;refine(HC.out w1 x1).mono ?_;rintro e w2 ⟨rfl,hB⟩;have x2:Below w.heap.size w w2:=Ext.trans x1 hB;have r2:=qb r1 hB;have k2:=qa r2;clear hB r1 x1 HC;go_upto_region 5 with fail;generalize hw3:World.alloc w2 _=w3;have x3:Ext w2 w3:=by rw[<-hw3];exact zN _ _
 have o3:w3.ownsRow w2.heap.size 5 1 (.slice (some ⟨w2.heap.size,0,none⟩) 3 3) (vO (L:Int) xs.length xs 0).length ((vO (L:Int) xs.length xs 0).map bv):=by rw[hLT,<-hw3];exact World.ownsRow_lit (base:=w2.heap.size) (e:=5) (size:=1) w2 #[.int .u8 78,.int .u8 (L:Int),.int .u8 (xs.length:Nat)] 3 (zM _) zA6 rfl
 have r3:=qb r2 x3;have k3:=qa r3;clear hw3 k2 hLT;have I0:NWr (L:Int) xs w2 (.slice (some ⟨w2.heap.size,0,none⟩) 3 3) (.int .i64 0) w3:=⟨0,Nat.zero_le _,rfl,o3,x3⟩
 replace I0:=zH I0;clear o3;go_wp2_with fail;clear k3 r3;go_loopw [5,26] (fun v i wr=>NWr (L:Int) xs w2 v i wr) (fun _ i _=>xs.length-(intOf i).toNat)
 case atStart=>exact I0.out
 case round =>
  obtain⟨k,hk,rfl,own,xr⟩:=hrel.ex;clear hrel I0;by_cases hlt:k<xs.length
  ·have hCJ:=hlt;obtain⟨b,off,rfl,hb⟩:=hA zO;have xw:Ext w wr:=Ext.trans x2 xr;obtain⟨A',c',d0,d1,d2,d3,d4,hby⟩:=(hX.out.ext xw).item k hCJ;have hok:=hO.out xs[k] (List.getElem_mem hCJ);have hib:=hI.out xs[k] (List.getElem_mem hCJ);have hsu:=zH (qha (L:Int) xs.length hCJ);have htl:=Yz (L:Int) xs.length k hO.out hl5;have hvl:xs[k].val.length<=12:=hok.2.2.2.2;have HW:=zH (fun W (hW:Ext wr W)=>qhT xs[k] hok hib A' c' W ((hby.below hW).more hW.size));generalize xs[k]=x at *;replace own:=zH own;replace htl:=zH htl;clear hby hok hib;go_wp2_with fail;generalize hw4:World.alloc wr _=w4;have x4:Ext wr w4:=by rw[<-hw4];exact zN _ _
   clear hw4 d0 d1 d2 d3 d4;refine(HW.out w4 x4).mono ?_;rintro e w5 ⟨u,rfl,⟨u5,rfl,A5,c5,rfl,hb5,hf5⟩,hB⟩;have x5:Ext wr w5:=x4.trans hB;have own5:=QR own.out x5;clear hB x4 own;obtain⟨i0,hi,hz0,hz1,hz2⟩:=info_parts Tryz.info_u8;obtain⟨A6,c6,e6,hc6,hm6,hr6⟩:=hb5;simp only[Value.slice.injEq] at e6;obtain⟨rfl,e7,rfl⟩:=e6;go_wp2_with (at_builtin;refine Qg ?_);refine QI.go (QF _ rfl (.tmp 35) (.tmp 36) 26 rfl w2.heap.size 5 i0 (.int .u8 0) 1 1 underlying26 hi hz0 hz1 hz2 rfl zD _ _ _ rfl own5 w5.heap.size A5 _ c5 ((ZB x).map bv) rfl hr6 (TX _) (by have:=htl.out;omega) zD (Nat.le_trans xr.size x5.size) ?_);intro v8 w8 own8 _ hB8 _;have IR:NWr (L:Int) xs w2 v8 (.int .i64 ((k:Int)+1)) w8:=⟨k+1,hCJ,rfl,by rw[hsu.out,List.map_append,List.length_append];exact own8,Below.trans (Ext.trans xr x5) hB8⟩
   replace IR:=zH IR;clear own8 hB8 hi hz0 hz1 hz2 own5;go_wp2_with fail;refine⟨IR.out,?_⟩;simp[intOf];omega
  ·obtain rfl:k=xs.length:=zO;rw[Yy] at own;have hl3:(Qv (L:Int) xs).length<=124:=by have:=Yz (L:Int) xs.length xs.length hO.out hl5;rw[Yy] at this;omega
   obtain⟨A6,c6,e6,hc6,hm6,hr6⟩:=Bys.of_own own;have hby:=Bys.of_own own;subst e6;have HS:=zH (seal_any A6 c6 (Qv (L:Int) xs) hl3 wr hby);have xw:Below w.heap.size w wr:=Ext.trans x2 xr;clear hby hr6 own;replace xr:=zH xr;go_wp2_with fail;refine HS.out.mono ?_;rintro e w7 ⟨u,rfl,⟨u7,rfl,hI7⟩,hB⟩;have x7:Below w.heap.size w w7:=xw.trans (Below.mono hB xw.size);have hI8:IsB0 w.heap.size 128 (Zg (Qv (L:Int) xs)) (.tuple #[u7,.int .i64 0]) w7:=by obtain⟨A',c',q1,q2,q3⟩:=hI7;exact⟨u7,rfl,A',c',q1,q2,q3.mono xw.size⟩
   clear hB hI7;replace hI8:=zH hI8;go_wp2_with fail;exact qbK rfl rfl rfl ⟨_,rfl,hI8.out,x7⟩
structure GL (F:Fence):Prop where
 fn:∀ f,F.fn f
 depth:¬F.depth.isSome=true
 call:∀ {n:Nat} {P:Program} {f:FuncId} {args:Array Value} {w:World} {R:Ending->World->Prop},Calls P f args w R->CallsIn F n P f args w R
theorem wideF:GL Fence.wide:=⟨fun _=>trivial,fun h=>(by cases h),fun h=>callsIn_wide.2 h⟩
theorem Jk (l:Nat):GL (Fence.wide.inRound l):=⟨fun _=>trivial,fun h=>(by cases h),fun h=>CallsIn.inRound l (callsIn_wide.2 h)⟩
def Yi (ops:Array Oper):Bool:=ops.toList.all fun o=>match o.op with | .defer _=>false|_=>true
theorem Vv {ops:Array Oper} (h:Yi ops=true) {i:Nat} {o:Oper} (ho:ops[i]?=some o):∀ c,o.op≠.defer c:=by intro c hc;have h1:=List.all_eq_true.1 h o (by have:=Array.mem_of_getElem? ho;simpa using this);rw[hc] at h1;cases h1
section
variable {F:Fence} {P:Program} {ops:Array Oper} {n:Nat}
theorem Xt {Q':Exit->Act->World->Prop}:∀ (l:List Oper) (k:Nat) (listed:Array Bool) (a:Act) (W:World),(∀ j,j<l.length->l[j]?=ops[k+j]?)->UN ops l.length k listed=true->wpListIn F n P ops Q' l a W->wpAnyIn F n P .any ops Q' l.length listed a W
 | [],_,_,_,_,_,hB,h=>⟨by simpa [UN] using hB,h⟩
 |o :: l,k,listed,a,W,hl,hB,h=>by
  simp only[List.length_cons,UN,Bool.and_eq_true] at hB;obtain⟨hr,hB'⟩:=hB;have hr':Region.ready .any ops listed=[k]:=by simpa using hr
  have h0:ops[k]?=some o:=by simpa using (hl 0 zA2).symm
  refine⟨fun e=>(by rw[hr'] at e;cases e),fun i hi=>?_⟩;rw[hr'] at hi;obtain rfl:i=k:=by simpa using hi
  have hl':∀ j,j<l.length->l[j]?=ops[i+1+j]?:=fun j hj=>by have:=hl (j+1) (by simpa using hj);simpa [Nat.add_assoc,Nat.add_comm 1 j] using this
  refine wpOpIn_mono (fun a w hw=>Xt l (i+1) _ a w hl' hB' hw) ?_;unfold wpOpIn;simp only[h0];exact h
end
section
variable {F0:Fence} {R:Rel} {P:Program} {ops:Array Oper} {w0:World} {n:Nat}
theorem qaG (HF:GL F0) (HN:Yi ops=true) {H:Nat->Option Qe} {i:Nat} {o:Oper} {a:Act} {F:qS} {K:Act->qS->Prop} {K':Act->World->Prop} {Q':Exit->Act->World->Prop} {W:World} (hi:ops[i]?=some o) (hH:∀ i h,H i=some h->∀ p,qJ R (h.φ p)) (hst:∀ k,qJ R (F k)) (hW:R.r w0 W) (hF:∀ k,F k W) (hK:∀ a' F' W',K a' F'->(∀ k,qJ R (F' k))->R.r w0 W'->(∀ k,F' k W')->K' a' W') (h:FOpG R P ops w0 H i o K a F):wpOpIn F0 n P ops Q' i K' a W:=by
 obtain⟨hh,hok,hn⟩:=h;have go:∀ p W',R.r W W'->hh.φ p W'->K' (a.put o.dst (hh.f p)) W':=fun p W' he hφ=>by
  have hF':∀ k,upd F i o (hh.φ p) k W':=fun k=>by
   unfold upd;split
   ·exact⟨hφ,fun j _=>hst j _ _ he (hF j)⟩
   ·exact hst k _ _ he (hF k)
  exact hK _ _ W' (hn p ⟨W',R.trans hW he,hF'⟩) (jc hst i o (hok.stable hH p)) (R.trans hW he) hF'
 unfold wpOpIn;simp only[hi];rcases hok with ⟨x1,rfl⟩|⟨x1,x2,v,rfl,x3⟩|⟨x1,x2,x3⟩
 ·simp only[x1,Bool.false_eq_true,if_false];exact⟨fun f _=>HF.fn f,go () W (R.refl W) trivial⟩
 ·simp only[x1,if_true];obtain⟨w',hr,he⟩:=x3 W hW fun k _=>hF k;refine⟨fun f _=>HF.fn f,?_⟩;rw[Oper.semAt_eq _ _ _ (Vv HN hi),hr];exact go () w' he trivial
 ·simp only[x1,if_true];have h3:=x3 W hW fun k _=>hF k;unfold QA at h3;refine⟨fun f _=>HF.fn f,?_⟩;rw[Oper.semAt_eq _ _ _ (Vv HN hi)];generalize (execOp a.eval o).run P W=r at *;cases r with
  |ok m w' =>
   cases m <;> simp only[jn] at h3 <;> simp only[Oper.uponIn]
   case value u =>obtain⟨p,rfl,hp,he⟩:=h3;exact go p w' he hp
   case skip =>
    obtain⟨p,e,hp,he⟩:=h3;have:=go p w' he hp
    rwa [<-e] at this
   case enter f args =>obtain⟨he,hcl⟩:=h3;refine⟨fun h=>absurd h HF.depth,HF.call (hcl.mono fun e w'' ⟨p,he1,hp,he2⟩=>?_)⟩;subst he1;exact go p w'' (R.trans he he2) hp
  |halt x w'=>simp only[jn] at h3
theorem vP (HF:GL F0) (HN:Yi ops=true) {H:Nat->Option Qe} (hH:∀ i h,H i=some h->∀ p,qJ R (h.φ p)) {L:Array Bool} {t:Nat} {Q:Act->qS->Prop} {Q':Exit->Act->World->Prop} (hQ:∀ a F W,Q a F->R.r w0 W->(∀ k,F k W)->wpAnyIn F0 n P .any ops Q' t L a W) : ∀ (fuel:Nat) (listed:Array Bool) (a:Act) (F:qS) (W:World),(∀ k,qJ R (F k))->R.r w0 W->(∀ k,F k W)->VD R P ops w0 H L Q fuel listed a F->wpAnyIn F0 n P .any ops Q' (fuel+t) listed a W
 |0,listed,a,F,W,_,hW,hF,h=>by rw[h.1,Nat.zero_add];exact hQ a F W h.2 hW hF
 |fuel+1,listed,a,F,W,hst,hW,hF,h=>by rw[show fuel+1+t=fuel+t+1 by omega];refine⟨fun h0=>absurd h0 h.1,fun i hi=>?_⟩;obtain⟨_,o,ho,_⟩:=mem_ready.1 hi;exact qaG HF HN ho hH hst hW hF (fun a' F' W' hk wAH hW' hF'=>vP HF HN hH hQ fuel _ a' F' W' wAH hW' hF' hk) (h.2 i hi o ho)
theorem zZ {id:Nat} {l:List Oper} {Q:Exit->Act->World->Prop} {a:Act} {w:World} (R:Rel) (H:Nat->Option Qe) (M:List Bool) (t:Nat) (HF:GL F0) (HN:Yi l.toArray=true) (hm:P.follows .mixedOrders=true) (hs:Region.noSelect l.toArray=true) (ht:qdZ l.toArray (QO l.length (l.length-t)) ((qw 0 l M).map (·.1))=true) (hc0:KW l.toArray (Array.replicate l.length false)=true) (hB:ZS l.toArray (QO l.length (l.length-t)) ((qw 0 l M).map (·.1)) (Array.replicate l.length false)=true) (hXB:UN l.toArray t (l.length-t) (QO l.length (l.length-t))=true) (hfu:l.length=(qw 0 l M).length+t) (htl:(l.drop (l.length-t)).length=t) (hH:∀ i h,H i=some h->∀ p,qJ R (h.φ p)) (hW:R.r w w.drew) (h:∀ K:Act->qS->Prop,(∀ a' F',(∀ W,R.r w W->(∀ k,F' k W)->wpListIn F0 n P l.toArray Q (l.drop (l.length-t)) a' W)->K a' F')->jd R P l.toArray w H K (qw 0 l M) a (fun _ _=>True)):(Code.region id l.toArray true).wpIn F0 n P Q a w:=by
 have h:=h _ (fun a' F' hh=>hh);refine wpIn_region_any hm ?_;have key:=Kg (w0:=w) hH hs (fun _ _ h=>h.step) (Yx ht) (qw 0 l M) (Array.replicate l.length false) a (fun _ _=>True) (JX hc0) (fun x hx=>by obtain⟨j,h1,h2⟩:=vj l M 0 x hx;refine⟨?_,List.mem_map.2 ⟨x,hx,rfl⟩⟩;rw[h1,Nat.zero_add];simpa using h2) hB (fun _ _ _ _ _=>trivial) ⟨w.drew,hW,fun _=>trivial⟩ (fun _ _ _=>trivial) h;have:=vP (n:=n) (w0:=w) HF HN hH (t:=t) (Q':=Q) (fun a F W hq hW hF=>by
  have:=Xt (F:=F0) (n:=n) (l.drop (l.length-t)) (l.length-t) _ a W (fun j _=>by rw[List.getElem?_drop];simp) (by rw[htl];exact hXB) (hq W hW hF)
  rwa [htl] at this) _ _ _ _ w.drew (fun _ _ _ _ _=>trivial) hW (fun _=>trivial) key
 rw[<-hfu] at this;simpa using this
end
end Go.Proofs.YtmeadnlmepcmbaaGreat
namespace Go.Proofs.YtmeadnlmepcmbaaGreat
open Go.RowKit Go.Shelf
attribute [local go_sem] Oper.semAt_some
def KA (S:Sto) (a:Nat):Nat:=(S.last[a]?.getD 0).toNat
def ZZ (S:Sto) (a:Nat):Bool:=decide (8<=a) && (decide (Zo S a=0) && decide (KA S a=0))
def jm (S:Sto) (k:Nat):List Nat:=(List.range k).filter (ZZ S)
def Zc (S:Sto):List Nat:=jm S 256
theorem YY (S:Sto) (k:Nat):jm S (k+1)=if ZZ S k=true then jm S k++[k] else jm S k:=by
 unfold jm;rw[List.range_succ,List.filter_append];by_cases h:ZZ S k=true
 ·rw[if_pos h];simp[h]
 ·rw[if_neg h];simp[h]
theorem qhL (S:Sto) (k:Nat):(jm S k).length<=k:=Nat.le_trans (List.length_filter_le _ _) zA2
theorem freeTo_8 (S:Sto):jm S 8=[]:=by
 unfold jm;rw[List.filter_eq_nil_iff];intro a ha;have:a<8:=by simpa using ha
 unfold ZZ;simp[show ¬8<=a by omega]
theorem qbo (S:Sto) {k m:Nat} (h:k<=m):jm S k <+: jm S m:=by
 induction m with
 |zero =>
  obtain rfl:k=0:=zO;exact List.prefix_refl _
 |succ m ih =>
  rcases Nat.lt_or_ge m k with h1|h1
  ·obtain rfl:k=m+1:=zO;exact List.prefix_refl _
  ·refine(ih h1).trans ?_;rw[YY];split
   ·exact List.prefix_append _ _
   ·exact List.prefix_refl _
theorem qjh (S:Sto) (a:Nat):Zo S a<256:=UInt8.toNat_lt _
theorem qgj (S:Sto) (a:Nat):KA S a<256:=UInt8.toNat_lt _
theorem qjk (a b:Nat) (ha:a<256) (hb:b<256):(bits .or .u8 (a:Int) (b:Int) == 0)=(decide (a=0) && decide (b=0)):=by
 have e:bits .or .u8 (a:Int) (b:Int)=((a ||| b:Nat):Int):=by
  have e:∀ n:Nat,n<256->(BitVec.ofInt 8 (n:Int)).toNat=n:=fun n hn=>by simp[BitVec.ofInt_natCast];omega
  have hx:a ||| b<2 ^ 8:=Nat.or_lt_two_pow zO zO
  show IntKind.u8.wrap (((BitVec.ofInt 8 (a:Int) ||| BitVec.ofInt 8 (b:Int)).toNat:Nat):Int)=_;rw[BitVec.toNat_or,e a ha,e b hb];simp[IntKind.wrap,IntKind.bits,IntKind.signed];omega
 rw[e];by_cases h:a=0/\b=0
 ·obtain⟨rfl,rfl⟩:=h;rfl
 ·have h2:a ||| b≠0:=by
   intro h3;have h4:a<=a ||| b:=Nat.left_le_or
   have h5:b<=a ||| b:=Nat.right_le_or
   exact h ⟨zO,zO⟩
  have h6:(decide (a=0) && decide (b=0))=false:=by
   rcases Nat.eq_zero_or_pos a with h7|h7
   ·have:b≠0:=fun h8=>h ⟨h7,h8⟩;simp[this]
   ·simp[show a≠0 by omega]
  rw[h6];simpa using fun h9:((a ||| b:Nat):Int)=0=>h2 zO
theorem last_at {S:Sto} (hS:ql S=true) {w:World} {B:Nat} {v:Value} (h:Bys w B v S.last):∃ b o c,v=.slice (some ⟨b,o,none⟩) 256 c/\b<B/\∀ a,a<256->w.cell? ⟨b,o+a,none⟩=some (.int .u8 (KA S a:Int)):=by obtain⟨-,-,-,hl⟩:=qX hS;obtain⟨A,c,e,hc,hm,hr⟩:=h;obtain⟨b,o,rfl,hb,hBX⟩:=hr.2 zO;rw[hl] at e;exact⟨b,o,c,e,hb,fun a ha=>hBX a _ (by rw[List.getElem?_map,zL zO];unfold KA;rw[zL zO];rfl)⟩
set_option maxRecDepth 100000 in
theorem free_in (n:Nat) (hn:1<=n) (l bs n₀:Nat) (v1 v2 v3 v4:Value) (S:Sto) (hS:ql S=true) (J Jx:List Nat->World->Prop) (hY:∀ pre x W,J pre W->pre.length<256->YieldAt Fence.wide (n-1) prog l #[.int .i64 ((x:Nat):Int)] W fun e W'=>(e=.returned (.bool true)/\J (pre++[x]) W'/\Below n₀ W W')\/(e=.returned (.bool false)/\Jx (pre++[x]) W')) (hJ:∀ pre W W',J pre W->Ext W W'->J pre W') (W:World) (hbs:bs<n₀) (hn₀:n₀<=W.heap.size) (hCA:W.heap[bs]?=some (.cells #[v1,v2,v3,v4] 28 (0,0))) (hst:qZ W n₀ v1 v2 v3 v4 S) (h0:J [] W):CallsIn Fence.wide n prog 187 #[.func (.yield l) #[] #[],.pointer (some ⟨bs,0,none⟩)] W fun e W'=>(∃ v,e=.returned v)/\((∃ ys,ys=Zc S/\J ys W')\/(∃ pre,pre <+: Zc S/\Jx pre W')):=by
 obtain⟨b3,o3,c3,rfl,hb3,hc3⟩:=Gu hS hst.now;obtain⟨b4,o4,c4,rfl,hb4,hc4⟩:=last_at hS hst.last;replace hst:=zH hst;refine callsIn_of_wp func187 rfl trivial ?_ rfl;simp only[ntmps187,List.size_toArray,List.length_cons,List.length_nil,Nat.reduceAdd,Nat.reduceSub,Array.replicate_succ,Array.replicate_zero,List.push_toArray,List.append_toArray,List.nil_append,List.cons_append]
 gi_wp2_with fail
 gi_loopw [3] (fun i wr=>∃ k:Nat,8<=k/\k<=256/\i=.int .i64 (k:Int)/\J (jm S k) wr/\Below n₀ W wr) (fun i _=>256-(intOf i).toNat)
 case atStart=>exact⟨8,zO,zO,rfl,by rw[freeTo_8];exact h0,Below.refl _ _⟩
 case round =>
  obtain⟨k,hk8,hk,rfl,hJs,hB⟩:=hrel;have hro:=(hB.block bs hbs).trans hCA;by_cases hlt:k<256
  ·have hcx:=(World.cell?_of_block (a:=⟨b3,o3+k,none⟩) (hB.block b3 hb3)).trans (hc3 k hlt);have hcy:=(World.cell?_of_block (a:=⟨b4,o4+k,none⟩) (hB.block b4 hb4)).trans (hc4 k hlt);have gS:∀ W',qm.r wr W'->∀ i,W'.cell? ⟨bs,i,none⟩=#[v1,v2,.slice (some ⟨b3,o3,none⟩) 256 c3,.slice (some ⟨b4,o4,none⟩) 256 c4][i]?:=fun W' h=>qa (qb hro h);have gX:∀ W',qm.r wr W'->W'.cell? ⟨b3,o3+k,none⟩=some (.int .u8 (Zo S k:Int)):=fun W' h=>Ext.cell h hcx;have gY:∀ W',qm.r wr W'->W'.cell? ⟨b4,o4+k,none⟩=some (.int .u8 (KA S k:Int)):=fun W' h=>Ext.cell h hcy;have hsu:=zH (YY S k);have hfb:ZZ S k=(decide (Zo S k=0) && decide (KA S k=0)):=by unfold ZZ;simp[hk8]
   have hbz:(bits .or .u8 ((Zo S k:Nat):Int) ((KA S k:Nat):Int) == 0)=ZZ S k:=qjk _ _ (qjh S k) (qgj S k) ▸ hfb.symm;generalize Zo S k=nw at *;generalize KA S k=lw at *;replace hfb:=zH hfb;replace hc3:=zH hc3;replace hc4:=zH hc4;replace hro:=zH hro;have hln:=zH (qhL S k);clear hcx hcy;rcases Bool.eq_false_or_eq_true (ZZ S k) with hfr|hfr
   ·rw[hfr] at hbz;replace hsu:=zH ((if_pos hfr) ▸ hsu.out);replace hfr:=zH hfr
    gi_upto_region 3 with fail
    refine zZ qm (qM []) (List.replicate 15 true) 3 wideF zQ zQ zQ zQ zQ zQ zQ zQ zQ ?st (Rel.drew _ _) ?walk
    case st=>intro i h hx;simp[qM] at hx
    case walk =>
     intro K hK;dsimp only[qw,List.replicate];refine zB5 ?_
     first
      |(refine qe (.pointer (some ⟨b3,o3+k,none⟩)) zA0 zA0 (fun W hW _=>⟨W,?_,Rel.refl _ W⟩) ?_
        ·go_simp;rw[IntWalk.i64_in (k:Int) zO,if_pos zO];simp
        simp only[Act.put,qk,qf,qc,qg,zA,zB,zC])
      |skip
     refine zB5 ?_
     first
      |(refine qe (.pointer (some ⟨b4,o4+k,none⟩)) zA0 zA0 (fun W hW _=>⟨W,?_,Rel.refl _ W⟩) ?_
        ·go_simp;rw[IntWalk.i64_in (k:Int) zO,if_pos zO];simp
        simp only[Act.put,qk,qf,qc,qg,zA,zB,zC])
      |skip
     refine zB5 ?_;refine qA (hK _ _ fun W2 hW hF=>?_);clear hF hK;refine zB4 ?_;obtain⟨fn,tm,asg,bdy,hy,hR⟩:=hY (jm S k) k W2 (hJ _ _ _ hJs hW) (by have:=hln.out;omega)
     gi_wp2_with fail
     refine hR.mono ?_;rintro e W3 (⟨rfl,hJ3,hk3⟩|⟨rfl,wBI⟩)
     ·gi_wp2_with fail
      go_roundw
      case rel=>exact⟨k+1,zO,zO,by go_num,by rw[hsu.out];exact hJ3,hB.trans ((Below.mono hW (Nat.le_trans hn₀ hB.size)).trans hk3)⟩
      case measure=>simp[intOf];omega
     ·gi_wp2_with fail
      refine bodyPost_ret (results_none rfl _ _ _) rfl ?_;exact⟨⟨_,rfl⟩,.inr ⟨_,hsu.out ▸ qbo S zO,wBI⟩⟩
   ·rw[hfr] at hbz;replace hsu:=zH ((if_neg (show ¬ZZ S k=true by rw[hfr];decide)) ▸ hsu.out);replace hfr:=zH hfr
    gi_upto_region 3 with fail
    refine zZ qm (qM []) (List.replicate 15 true) 3 wideF zQ zQ zQ zQ zQ zQ zQ zQ zQ ?st (Rel.drew _ _) ?walk
    case st=>intro i h hx;simp[qM] at hx
    case walk =>
     intro K hK;dsimp only[qw,List.replicate];refine zB5 ?_
     first
      |(refine qe (.pointer (some ⟨b3,o3+k,none⟩)) zA0 zA0 (fun W hW _=>⟨W,?_,Rel.refl _ W⟩) ?_
        ·go_simp;rw[IntWalk.i64_in (k:Int) zO,if_pos zO];simp
        simp only[Act.put,qk,qf,qc,qg,zA,zB,zC])
      |skip
     refine zB5 ?_
     first
      |(refine qe (.pointer (some ⟨b4,o4+k,none⟩)) zA0 zA0 (fun W hW _=>⟨W,?_,Rel.refl _ W⟩) ?_
        ·go_simp;rw[IntWalk.i64_in (k:Int) zO,if_pos zO];simp
        simp only[Act.put,qk,qf,qc,qg,zA,zB,zC])
      |skip
     refine zB5 ?_;refine qA (hK _ _ fun W2 hW hF=>?_);clear hF hK;refine zB4 ?_;refine⟨fun _ h=>(by cases h),?_⟩
     gi_wp2_with fail
     go_roundw
     case rel=>exact⟨k+1,zO,zO,by go_num,by rw[hsu.out];exact hJ _ _ _ hJs hW,hB.trans (Below.mono hW (Nat.le_trans hn₀ hB.size))⟩
     case measure=>simp[intOf];omega
  ·gi_wp2_with fail
   obtain rfl:k=256:=zO;go_end0;exact⟨⟨_,rfl⟩,.inl ⟨_,rfl,hJs⟩⟩
end Go.Proofs.YtmeadnlmepcmbaaGreat
namespace Go.Proofs.YtmeadnlmepcmbaaGreat
open Go.RowKit
theorem Tm {F:Fence} {n:Nat} {P:Program} {ops:Array Oper} {l:List Oper} {a:Act} {w:World} {Q:Exit->Act->World->Prop} (h:QI (wpListIn F n P ops Q l a w)):wpListIn F n P ops Q l a w:=h
theorem Tl {F:Fence} {nf:Nat} {P:Program} (w:World) {ops:Array Oper} {rest:List Oper} {o:Oper} {a:Act} {Q:Exit->Act->World->Prop} (hgd:o.guard=none) (s x:Operand) (t:TypeId) (ho:o.op=.call { callee:=.builtin .append,args:=#[s,x],argTypes:=#[t,t] }) (base:Nat) (e:TypeId) (i:TypeInfo) (z:Value) (size bytes:Nat) (ht:P.underlying t=some (.slice e)) (hi:P.info? e=some i) (hz:i.zero=some z) (hLX:i.size=size) (hby:i.bytes=bytes) (hzs:z.cells.size=size) (hsz:0<size) (v:Value) (n:Nat) (xs:List Value) (hs:a.eval s=v) (hBQ:w.ownsRow base e size v n xs) (cs:Array Value) (hx:a.eval x=.slice (some ⟨w.heap.size,0,none⟩) 1 1) (hl:cs.size=size) (h1:∀ u∈cs.toList,u.oneCell'=true) (hn:n<1073741824) (hNC:bytes<=65536) (hUC:base<=w.heap.size) (h:∀ v' w',w'.ownsRow base e size v' (n+1) (xs++cs.toList)->w.grownBy w' v.ownBlock->(v'.ownBlock=v.ownBlock\/∃ g,v'.ownBlock=some g/\w.heap.size<=g)->wpListIn F nf P ops Q rest (a.put o.dst v') w'):wpListIn F nf P ops Q (o :: rest) a (w.alloc (.cells cs e)):=by
 refine wpListIn_plain hgd fun K hK=>?_;have hb:(n+1)*bytes<=140737488355328:=Nat.le_trans (Nat.mul_le_mul_left _ hNC) zO;have hm:n+1<=maxLen:=zA6;obtain⟨v',w',hGG,h2,h3,_,h5⟩:=run_append_own_at (P:=P) (w.alloc (.cells cs e)) base t o.type e i z size bytes ht hi hz hLX hby hzs hsz v n xs (hBQ.alloc _) ⟨w.heap.size,0,none⟩ 1 1 cs.toList
  (by rw[Array.length_toList];omega) (YS w cs e) h1 hm hb zA1
 have hg:w.grownBy w' v.ownBlock:=⟨h3.os,h3.tape,h3.output,Nat.le_trans zA2 h3.size,fun k hk hne=>(h3.block k zA1 hne).trans (zK w _ k hk)⟩
 unfold Oper.wpIn;refine⟨?_,?_⟩
 ·simp[Oper.about,ho,resolve,Target.leads,Sem.run_pure]
 ·rw[Oper.semAt_plain F _ _ (by rw[ho];intro c hc';cases hc')];simp only[execOp,ho,resolve,invoke,builtin,Sem.run_bind,Sem.run_pure,Result.andThen_ok,List.map_toArray,List.map_cons,List.map_nil,hs,hx,hGG];exact hK _ _ (h v' w' h2 hg (h5.imp id fun e=>⟨_,e,zA2⟩))
def RefsQ (S:Sto) (root next:Int) (dead:List Int) (w:World) (e:Ending) (w':World):Prop:=Below w.heap.size w w' /\
 ((e=.returned (.tuple #[.slice none 0 0,.int .i64 8])/\∀ vs,Qo S root next dead vs->∃ refs nodes,qY S (Qj root dead vs) refs nodes/\¬QB S refs) \/
  ∃ vs refs nodes cb ca vv lo,e=.returned (.tuple #[.slice (some ⟨cb,6,none⟩) 256 256,.int .i64 0])/\w.heap.size<=lo/\Taken S root next dead vs refs nodes lo cb ca vv w')
theorem qgO {R:Ending->World->Prop} {a:Act} {W:World} {u v:Value} (h2:a.tmps[2]?.getD undef=u) (h3:a.tmps[3]?.getD undef=v) (hd:a.defers=[]) (hR:R (.returned (.tuple #[u,v])) W):bodyPost prog Tryz.f73 R .ret a W:=by refine bodyPost_ret (v:=.tuple #[u,v]) ?_ hd hR;simp[results,results73,go_sem,h2,h3]
set_option maxRecDepth 100000 in
theorem refs_any (A1 n1 c1 A2 n2 c2 A3 n3 c3 A4 n4 c4) (gen root next:Int) (A5 c5) (S:Sto) (dead:List Int) (w:World) (h:qZ w w.heap.size (.slice A1 n1 c1) (.slice A2 n2 c2) (.slice A3 n3 c3) (.slice A4 n4 c4) S) (hd:Zw w w.heap.size (.slice A5 dead.length c5) dead):Calls prog 73 #[.agg (qC (.slice A1 n1 c1) (.slice A2 n2 c2) (.slice A3 n3 c3) (.slice A4 n4 c4) gen root next (.slice A5 dead.length c5))] w (RefsQ S root next dead w):=by
 have HT:=zH (fun W (hx:Ext w W)=>KI A1 n1 c1 A2 n2 c2 A3 n3 c3 A4 n4 c4 gen root next A5 c5 S dead W (h.ext hx) (by obtain⟨A,c,e,q1,q2,q3⟩:=hd;exact⟨A,c,e,q1,q2,(q3.below hx).more hx.size⟩));clear h hd;go_enter func73,ntmps73;go_wp2_with fail;generalize hw1:World.alloc w _=w1;have x1:Ext w w1:=by rw[<-hw1];exact zN _ _
 clear hw1;refine(HT.out w1 x1).mono ?_;rintro e w2 ⟨hB,hQ⟩;have x2:Below w.heap.size w w2:=Ext.trans x1 hB;rcases hQ with ⟨rfl,hno⟩|⟨vs,refs,nodes,cb,ca,vv,rfl,hT⟩
 ·have HB:RefsQ S root next dead w (.returned (.tuple #[.slice none 0 0,.int .i64 8])) w2:=⟨x2,.inl ⟨rfl,hno⟩⟩
  replace HB:=zH HB;clear hno hB;go_wp2_with fail;exact qgO rfl rfl rfl HB.out
 ·have HB:RefsQ S root next dead w (.returned (.tuple #[.slice (some ⟨cb,6,none⟩) 256 256,.int .i64 0])) w2:=⟨x2,.inr ⟨vs,refs,nodes,cb,ca,vv,_,rfl,x1.size,hT⟩⟩
  replace HB:=zH HB;clear hT hB;go_wp2_with fail;exact qgO rfl rfl rfl HB.out
end Go.Proofs.YtmeadnlmepcmbaaGreat
