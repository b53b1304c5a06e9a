/- Lemmas of the proof. -/
import Derived.Test.YtmeadnlmepcmbaaGreatZG21
set_option linter.all false
set_option maxHeartbeats 8000000
open Go.Proofs.Tryz
namespace Go.Proofs.YtmeadnlmepcmbaaGreat
open Go.RowKit
theorem Tg{R:Ending->World->Prop}{a:Act}{W:World}{v:Value}{b:Nat}{x y:Value}(h6:a.tmps[6]?.getD undef=v)(h7:a.tmps[7]?.getD undef=.pointer (some ⟨b,0,none⟩))(hd:a.defers=[])(hBT:W.heap[b]?=some (.cells #[x,y] 170 (0,0)))(hR:R (.returned (.tuple #[v,.agg #[x,y]])) W):bodyPost prog Tryz.f117 R .ret a W:=by
 refine bodyPost_ret (v:=.tuple #[v,.agg #[x,y]]) ?_ hd hR;have k:=qa hBT;simp[results,results117,go_sem,h6,h7,k]
theorem qkQ(S:Sto)(xs:List It)(i:Nat):(ZJ S xs i).length<=5:=by
 unfold ZJ;split
 ·exact Nat.zero_le _
 ·split
  ·exact Nat.zero_le _
  ·rename_i h;exact(zy h).2.2
def qfM(X:Nat->Prop)(j:List It×Nat×Nat)(u:Value)(W:World):Prop:=∃v jps,u=.tuple #[v,.agg #[.int .i64 (j.2.1:Int),.int .i64 (j.2.2:Int)]]/\jo X W v jps/\jps.map (·.1)=j.1
theorem jo.two{X:Nat->Prop}{w W:World}{v1 v2 v:Value}{p1 p2:List (It×Value)}(hB:Ext w W)(hX:∀q,X q->q<w.heap.size)(h1:jo X w v1 p1)(h2:jo X w v2 p2){n:Nat}(hn:n=(p1++p2).length)(ho:W.ownsRow w.heap.size 51 5 v n (qC (p1++p2))):jo X W v (p1++p2):=by
 obtain⟨A,c,rfl,e1,e2⟩:=qG ho;subst hn;have hf:=Zw.of_own ho;refine⟨⟨A,c,rfl,e1,e2,λC hC=>(Rd.of_own ho).keepFrom zO (λa ha=>hf a _ _ (by rw[ha])) hC λq hq hx=>by have:=hX q hx;omega⟩,λp hp=>?_⟩;have hk:∀C,qT X W C->qT X w C:=λC hC=>(qT.of_ext (X:=X) hB).trans hC λ_ _ h=>h;rcases List.mem_append.1 hp with hp|hp
 ·exact⟨(h1.2 p hp).1,λC hC=>(h1.2 p hp).2 C (hk C hC)⟩
 ·exact⟨(h2.2 p hp).1,λC hC=>(h2.2 p hp).2 C (hk C hC)⟩
theorem qan{X:Nat->Prop}(A1 n1 c1 A2 n2 c2)(p1 p2:List (It×Value))(b:Nat)(h5:(p1++p2).length<1024)(w:World)(hr:w.heap[b]?=some (.cells #[.slice A1 n1 c1,.slice A2 n2 c2] 55 (0,0)))(h1:jo X w (.slice A1 n1 c1) p1)(h2:jo X w (.slice A2 n2 c2) p2):Calls prog 164 #[.slice (some ⟨b,0,none⟩) 2 2] w (zm (λv w'=>w'.ownsRow w.heap.size 51 5 v (p1++p2).length (qC (p1++p2))) w):=by
 have e:[p1,p2].flatten=p1++p2:=zA3;have H:=qgn (some ⟨b,0,none⟩) 2 2 [.slice A1 n1 c1,.slice A2 n2 c2] [p1,p2] rfl rfl w (Rd.row hr 2 rfl) (λi v l hv hl=>by
  rcases i with _|_|i
  ·simp at hv hl;subst hv;subst hl;obtain⟨⟨A,c,e,-,-,h⟩,-⟩:=h1;cases e;exact⟨_,_,rfl,h w (qT.refl _ _)⟩
  ·simp at hv hl;subst hv;subst hl;obtain⟨⟨A,c,e,-,-,h⟩,-⟩:=h2;cases e;exact⟨_,_,rfl,h w (qT.refl _ _)⟩
  ·simp at hv) (λl hl p hp=>by
  simp only[List.mem_cons,List.not_mem_nil,or_false]at hl;rcases hl with rfl|rfl
  ·exact(h1.2 p hp).1
  ·exact(h2.2 p hp).1) zA1 (by rw[e];exact h5)
 rwa [e]at H
def XU(X:Nat->Prop)(b q:Nat):Prop:=X q\/q=b
theorem UJ{w W:World}{y0 y1:Value}{ty:TypeId}(hx:Ext w W)(r1:W.heap[w.heap.size+1]?=some (.cells #[y0,y1] ty (0,0)))(x0 x1:Value):(((W.setCell ⟨w.heap.size+1,0,none⟩ x0).setCell ⟨w.heap.size+1,1,none⟩ x1).heap[w.heap.size+1]?=some (.cells #[x0,x1] ty (0,0))/\Ext w ((W.setCell ⟨w.heap.size+1,0,none⟩ x0).setCell ⟨w.heap.size+1,1,none⟩ x1)):=
 ⟨qo (qo r1 0 x0) 1 x1,Below.setCell (Below.setCell hx (p:=⟨w.heap.size+1,0,none⟩) zA3 _) (p:=⟨w.heap.size+1,1,none⟩) zA3 _⟩
theorem qdU{X:Nat->Prop}(W:World)(b:Nat)(x0 x1:Value):qT (XU X b) W ((W.setCell ⟨b,0,none⟩ x0).setCell ⟨b,1,none⟩ x1):=
 (qT.set (X:=XU X b) (p:=⟨b,0,none⟩) (.inr rfl) x0).trans (qT.set (X:=XU X b) (p:=⟨b,1,none⟩) (.inr rfl) x1) λ_ _ h=>h
theorem jo.less{X:Nat->Prop}{b:Nat}{w:World}{v:Value}{ps:List (It×Value)}(h:jo (XU X b) w v ps):jo X w v ps:=h.trans (qT.refl _ _) λ_ _ h=>.inl h
theorem jo.more{X:Nat->Prop}{b:Nat}{w W:World}{v:Value}{ps:List (It×Value)}(h:jo X w v ps)(hx:Ext w W)(hb:w.heap.size<=b):jo (XU X b) W v ps:=h.trans (qT.of_ext hx) λk hk hX=>by
 rcases hX with hX|rfl
 ·exact hX
 ·omega
set_option maxRecDepth 100000 in
theorem qks(D:Nat->Prop)(B lo b g:Nat)(k:Option Nat)(S:Sto)(hS:qm S=true)(X:Nat->Prop)(lv:Int)(xs:List It)(p:Nat)(hp:p<xs.length)(hx5:xs.length<=5)(h8:∀y∈xs,8<=y.r/\y.r<256)(A9 c9)(l:List It)(hl5:l.length<=5)(Al:OA)(cl:Nat)(lps:List (It×Value))(hlm:lps.map (·.1)=l)(w:World)(h:Bch D B lo b g k S w)(hX:∀q,X q->q<w.heap.size)(hxs:Its w w.heap.size (.slice A9 xs.length c9) xs)(hl:jo X w (.slice Al l.length cl) lps):Calls prog 117 #[.pointer (some ⟨b,0,none⟩),.agg #[.int .i64 lv,.slice A9 xs.length c9,.int .i64 (p:Int)],.slice Al l.length cl] w (zm (qfM X (Zr S xs p l)) w):=by
 obtain⟨n,hn⟩:∃n,xs.length=n:=⟨_,rfl⟩
 obtain⟨m,hm⟩:∃m,l.length=m:=⟨_,rfl⟩
 have hBU:(p+1=n/\p=0/\Zr S xs p l=(l,p,1))\/∃i,i<n/\(Zr S xs p l=if 5<(ZJ S xs i).length+m then(l,p,1)else if i<p then(ZJ S xs i++l,i,2) else(l++ZJ S xs i,p,2))/\((p=i+1/\p+1=n)\/(i=p+1/\p+1≠n)):=by
  unfold Zr;rw[hn,hm];by_cases hc:p+1=n
  ·rw[if_pos hc];by_cases h0:p=0
   ·rw[if_pos h0];exact .inl ⟨hc,h0,rfl⟩
   ·rw[if_neg h0];refine .inr ⟨p-1,zO,?_,.inl ⟨zO,hc⟩⟩;rw[if_pos (show p-1<p by omega)]
  ·rw[if_neg hc];refine .inr ⟨p+1,zO,?_,.inr ⟨rfl,hc⟩⟩;rw[if_neg (show ¬p+1<p by omega)]
 have hA:=hxs.at_.2.2.2;have HN:Hid (∀W i (hi:i<xs.length),Ext w W->w.heap.size+1<W.heap.size->Calls prog 145 #[.pointer (some ⟨b,0,none⟩),.int .i64 ((xs[i]'hi).r)] W (zm (λu W'=>∃lv' A' c' yps e',u=.tuple #[jL lv' A' (ZJ S xs i).length c',.int .i64 e']/\jo (XU X (w.heap.size+1)) W' (.slice A' (ZJ S xs i).length c') yps/\yps.map (·.1)=ZJ S xs i) W)):=zH λW i hi hW hWs=>by
  have hb:=h.ext hW;obtain⟨A1',n1',c1',A2',n2',c2',c3',A4',c4',hr',hLW⟩:=hb.sto;have hy:=h8 _ (List.getElem_mem hi);obtain⟨r,hr⟩:=Int.eq_ofNat_of_zero_le (show 0<=(xs[i]'hi).r by omega);have HB:=vS lo b A1' n1' c1' A2' n2' c2' _ 256 c3' A4' 256 c4' S hS r zO zO W ⟨hb.size.1,hr',hLW⟩;rw[hr];refine HB.mono λe W' hq=>?_;obtain⟨u,rfl,hu,hB⟩:=hq;refine⟨u,rfl,?_,hB⟩;have hI:ZJ S xs i=match qk S r with
   |none=>[]
   |some (_,ys)=>ys:=by
   unfold ZJ;rw[zL zO];simp only[hr,Int.toNat_natCast];rfl
  rw[hI];rcases hq:qk S r with _|⟨l2,ys⟩
  ·rw[hq]at hu;obtain⟨e,-,rfl⟩:=hu;exact⟨0,none,0,[],e,rfl,⟨⟨none,0,rfl,zM _,zA7,λC _=>Rd.none_⟩,λp hp=>by cases hp⟩,rfl⟩
  ·rw[hq]at hu;obtain⟨A',c',rfl,hBC⟩:=hu;obtain⟨ips,e1,hE⟩:=hBC.toE (X:=XU X (w.heap.size+1)) (λq hq hx=>by rcases hx with hx|hx;(have:=hX q hx;have:=hW.size;omega);omega);exact⟨l2,A',c',ips,0,rfl,hE,e1⟩
 have hlH:=zH hl;have hxH:=zH hxs;have wDS:=zH hlm;have hXH:=zH hX;have hnH:=zH hn;have hmH:=zH hm;have hm5:m<=5:=zO;have hn5:n<=5:=zO;have hpn:p<n:=zO;obtain⟨j,hj⟩:∃j,Zr S xs p l=j:=⟨_,rfl⟩
 rw[hj]at hBU;rw[hj,hn,hm];replace hj:=zH hj;clear h hl hxs hlm hX h8 hn hm hl5 hx5 hp hS;rcases hBU with⟨hc,hp0,hjv⟩|⟨i,hi,hjv,hBU⟩
 ·subst hp0;obtain rfl:n=1:=zO;have hQ:Hid (∀W,Ext w W->qfM X j (.tuple #[.slice Al m cl,.agg #[.int .i64 ((0:Nat):Int),.int .i64 ((1:Nat):Int)]]) W):=zH λW hW=>⟨_,lps,by rw[hjv],by rw[<-hmH.out];exact hlH.out.trans (qT.of_ext hW) λ_ _ h=>h,by rw[hjv,wDS.out]⟩
  clear HN hc hjv;go_enter func117,ntmps117;go_wp2_with fail;generalize hw3:World.alloc (World.alloc (World.alloc w _) _) _=w3;have x3:Ext w w3:=by rw[<-hw3];exact((zN _ _).trans (zN _ _)).trans (zN _ _)
  have r1:w3.heap[w.heap.size+1]?=some (.cells #[.int .i64 0,.int .i64 0] 170 (0,0)):=by rw[<-hw3];exact(zK _ _ _ zA3).trans (zI _ _ _ zA3)
  have r2:w3.heap[w.heap.size+1+1]?=some (.cells #[.int .i64 0,.int .i64 1] 170 (0,0)):=by rw[<-hw3];exact zI _ _ _ zA3
  have k1:=qa r1;have k2:=qa r2;have f1:=qg r1;have z1:=(zG.1 r1).1;have z2:=(zG.1 r2).1;clear hw3;go_region;all_goals go_wp2_with fail
  obtain⟨r4,x4⟩:=UJ x3 r1 (.int .i64 0) (.int .i64 1);refine Tg (b:=w.heap.size+1) rfl rfl rfl ?_ ⟨_,rfl,hQ.out _ (Below.drew x4),Below.drew x4⟩;exact r4
 ·have hw0:IntKind.i64.wrap (p:Int)=(p:Int):=by rw[IntKind.wrap_i64];omega
  have hilt:(i:Int)<(n:Int):=zO;have hineg:decide ((i:Int)<0)=false:=decide_eq_false zO;have hix:i<xs.length:=by rw[hnH.out];exact hi
  obtain⟨b9,off,rfl,hb9⟩:=hA zO;obtain⟨A',c',-,-,-,d3,-,-⟩:=hxH.out.item i hix;obtain⟨q0,hq0⟩:∃q0,ZJ S xs i=q0:=⟨_,rfl⟩
  have HNi:=zH (λW (hW:Ext w W) hWs=>HN.out W i hix hW hWs);rw[hq0]at HNi hjv;obtain⟨ri,hri⟩:∃ri,(xs[i]'hix).r=ri:=⟨_,rfl⟩
  rw[hri]at HNi d3;clear HN hri;have hq5:5<q0.length+m\/q0.length+m<=5:=zO;have hqm:q0.length<=5:=by rw[<-hq0];exact qkQ S xs i
  replace hjv:=zH hjv;have d3W:∀W,Ext w W->W.cell? ⟨b9,off+i*5+3,none⟩=some (.int .i64 ri):=λW hW=>Ext.cell hW d3;rcases hBU with⟨hpi,hc⟩|⟨hpi,hc⟩
  case' inl=>
   have hpi1:(p:Int)-1=(i:Int):=zO;have hE1:((p:Int)+1==(n:Int))=true:=by rw[beq_iff_eq];omega
   have hE3:(p:Int)+1=(n:Int):=zO
  case' inr=>
   have hpi1:(p:Int)+1=(i:Int):=zO;have hE1:((i:Int)==(n:Int))=false:=by rw[beq_eq_false_iff_ne];omega
   have hE2:((p:Int)+1==(n:Int))=false:=by rw[beq_eq_false_iff_ne];omega
  all_goals
   replace⟨hpi,hc⟩:=zH2 hpi hc;go_enter func117,ntmps117;go_upto_region 7 with fail;generalize hw3:World.alloc (World.alloc (World.alloc w _) _) _=w3;have x3:Ext w w3:=by rw[<-hw3];exact((zN _ _).trans (zN _ _)).trans (zN _ _)
   have r0:w3.heap[w.heap.size]?=some (.cells #[.int .i64 lv,.slice (some ⟨b9,off,none⟩) n c9,.int .i64 (p:Int)] 163 (0,0)):=by rw[<-hw3];exact(zK _ _ _ zA2).trans ((zK _ _ _ zA3).trans (zI _ _ _ rfl))
   have r1:w3.heap[w.heap.size+1]?=some (.cells #[.int .i64 0,.int .i64 0] 170 (0,0)):=by rw[<-hw3];exact(zK _ _ _ zA3).trans (zI _ _ _ zA3)
   have r2:w3.heap[w.heap.size+1+1]?=some (.cells #[.int .i64 (p:Int),.int .i64 1] 170 (0,0)):=by rw[<-hw3];exact zI _ _ _ zA3
   have k0:=qa r0;have dd3:=d3W w3 x3;clear hw3;go_wp2_with fail;refine(HNi.out w3 x3 (by have:=(zG.1 r2).1;omega)).mono ?_;clear HNi;rintro e w4 ⟨u,rfl,⟨lv',A2,c2,yps,e2,rfl,hyE,hyl⟩,hB⟩;have x34:Ext w3 w4:=hB;have x4:Ext w w4:=x3.trans x34;have r04:=qb r0 x34;have r14:=qb r1 x34;have r24:=qb r2 x34;replace hyE:=zH hyE;clear hB k0 r0 r1 r2 dd3 x34;have k04:=qa r04;rcases hq5 with h5|h5
   ·have hG1:decide ((q0.length:Int)+(m:Int)>5)=true:=decide_eq_true zO;have hG2:decide ((5:Int)<(q0.length:Int)+(m:Int))=true:=decide_eq_true zO;have hG3:(5:Int)<(q0.length:Int)+(m:Int):=zO;have hG4:decide (5<q0.length+m)=true:=decide_eq_true h5;have hjE:=hjv.out;rw[if_pos h5]at hjE;have hQ:Hid (∀W,Ext w W->qfM X j (.tuple #[.slice Al m cl,.agg #[.int .i64 (p:Int),.int .i64 ((1:Nat):Int)]]) W):=zH λW hW=>⟨_,lps,by rw[hjE],by rw[<-hmH.out];exact hlH.out.trans (qT.of_ext hW) λ_ _ h=>h,by rw[hjE,wDS.out]⟩
    replace⟨hjE,h5⟩:=zH2 hjE h5;clear hlH hjv hyE;go_upto_region 9 with fail;generalize hw5:World.alloc w4 _=w5;have x45:Ext w4 w5:=by rw[<-hw5];exact zN _ _
    have x5:Ext w w5:=x4.trans x45;have r15:=qb r14 x45;have r25:=qb r24 x45;have k1:=qa r15;have k2:=qa r25;have f1:=qg r15;have z1:=(zG.1 r15).1;have z2:=(zG.1 r25).1;clear hw5 k04 r04 r14 r24;go_region;all_goals go_wp2_with fail
    all_goals
     obtain⟨r6,x6⟩:=UJ x5 r15 (.int .i64 (p:Int)) (.int .i64 1);refine Tg (b:=w.heap.size+1) rfl rfl rfl ?_ ⟨_,rfl,hQ.out _ (Below.drew x6),Below.drew x6⟩;exact r6
   have hG1:decide ((q0.length:Int)+(m:Int)>5)=false:=decide_eq_false zO;have hG2:decide ((5:Int)<(q0.length:Int)+(m:Int))=false:=decide_eq_false zO;have hG3:¬(5:Int)<(q0.length:Int)+(m:Int):=zO;have hG4:decide (5<q0.length+m)=false:=decide_eq_false zO;have hjv:=zH (hjv.out.trans (if_neg (show ¬5<q0.length+m by omega)));replace h5:=zH h5;go_upto_region 10 with fail;generalize hw5:World.alloc w4 _=w5;have x45:Ext w4 w5:=by rw[<-hw5];exact zN _ _
   have x5:Ext w w5:=x4.trans x45;have r05:=qb r04 x45;have r15:=qb r14 x45;have rn5:w5.heap[w4.heap.size]?=some (.cells #[.int .i64 lv',.slice A2 q0.length c2] 113 (0,0)):=by rw[<-hw5];exact zI _ _ _ rfl
   have hlE:Hid (∀W,Ext w5 W->jo (XU X (w.heap.size+1)) W (.slice Al m cl) lps):=zH λW hW=>by rw[<-hmH.out];exact hlH.out.more (x5.trans hW) zO
   have wLG:Hid (∀W,Ext w5 W->jo (XU X (w.heap.size+1)) W (.slice A2 q0.length c2) yps):=zH λW hW=>hyE.out.trans (qT.of_ext (x45.trans hW)) λ_ _ h=>h;have hyl5:=zH hyl;have hln:Hid (yps.length=q0.length/\lps.length=m):=zH ⟨by rw[<-hyl,List.length_map],by rw[<-hmH.out,<-wDS.out,List.length_map]⟩;have hX5:Hid (∀q,XU X (w.heap.size+1) q->q<w5.heap.size):=zH λq hq=>by
    have h9:=(zG.1 r15).1;have h8:=x5.size;rcases hq with hq|rfl
    ·have:=hXH.out q hq;omega
    ·omega
   clear hw5 r04 r14 r24 k04 hyE hlH hyl x45
  rotate_left
  ·have hip:i<p:=by have:=hpi.out;omega
   have hl1:decide ((i:Int)<(p:Int))=true:=decide_eq_true zO;have hl2:decide (i<p)=true:=decide_eq_true zO;have hl3:(i:Int)<(p:Int):=zO;have hjE:=zH (hjv.out.trans (if_pos hip));have k05:=qa r05;have kn5:=qa rn5;replace hip:=zH hip;clear hjv;go_wp2_with fail;generalize hw6:World.alloc w5 _=w6;have x56:Ext w5 w6:=by rw[<-hw6];exact zN _ _
   have rl6:w6.heap[w5.heap.size]?=some (.cells #[.slice A2 q0.length c2,.slice Al m cl] 55 (0,0)):=by rw[<-hw6];exact zI _ _ _ rfl
   have h1:=wLG.out w6 x56;have h2:=hlE.out w6 x56;have r06:=qb r05 x56;have r16:=qb r15 x56;have x6:Ext w w6:=x5.trans x56;have hn6:(yps++lps).length=q0.length+m:=by rw[List.length_append,hln.out.1,hln.out.2]
   have hX6:∀q,XU X (w.heap.size+1) q->q<w6.heap.size:=λq hq=>Nat.lt_of_lt_of_le (hX5.out q hq) x56.size;have HC:=zH (qan A2 q0.length c2 Al m cl yps lps w5.heap.size (by have:=h5.out;omega) w6 rl6 h1 h2);replace⟨h1,h2,hn6,hX6⟩:=zH4 h1 h2 hn6 hX6;clear hw6 wLG hlE x56 rl6 k05 kn5 rn5 r05 r15;refine HC.out.mono ?_;clear HC;rintro e w7 ⟨v,rfl,ho,hB⟩;have hE:=zH (jo.two hB hX6.out h1.out h2.out rfl ho);have x7:Ext w w7:=x6.trans hB;have r07:=qb r06 hB;have r17:=qb r16 hB;have k1:=qa r17;have f1:=qg r17;have z1:=(zG.1 r17).1;clear ho hB h1 h2 r06 r16;go_wp2_with fail;obtain⟨r8,x8⟩:=UJ x7 r17 (.int .i64 (i:Int)) (.int .i64 2);have hQ:qfM X j (.tuple #[v,.agg #[.int .i64 (i:Int),.int .i64 ((2:Nat):Int)]]) ((w7.setCell ⟨w.heap.size+1,0,none⟩ (.int .i64 (i:Int))).setCell ⟨w.heap.size+1,1,none⟩ (.int .i64 2)):=⟨v,yps++lps,by rw[hjE.out],(hE.out.trans (qdU _ _ _ _) λ_ _ h=>h).less,by rw[hjE.out,List.map_append,hyl5.out,wDS.out]⟩
   refine Tg (b:=w.heap.size+1) rfl rfl rfl r8 ⟨_,rfl,hQ,x8⟩
  ·have hip:¬i<p:=by have:=hpi.out;omega
   have hl1:decide ((i:Int)<(p:Int))=false:=decide_eq_false zO;have hl2:decide (i<p)=false:=decide_eq_false zO;have hl3:¬(i:Int)<(p:Int):=zO;have hjE:=zH (hjv.out.trans (if_neg hip));have k05:=qa r05;replace hip:=zH hip;clear hjv;go_upto_region 12 with fail;have g0:∀W,qj.r w5 W->∀i,W.cell? ⟨w.heap.size,i,none⟩=#[.int .i64 lv,.slice (some ⟨b9,off,none⟩) n c9,.int .i64 (p:Int)][i]?:=λW h=>qa (qb r05 h);have gn:∀W,qj.r w5 W->∀i,W.cell? ⟨w4.heap.size,i,none⟩=#[.int .i64 lv',.slice A2 q0.length c2][i]?:=λW h=>qa (qb rn5 h);have hn6:(lps++yps).length=m+q0.length:=by rw[List.length_append,hln.out.1,hln.out.2]
   have hHC:Hid (∀W (b:Nat),Ext w5 W->W.heap[b]?=some (.cells #[.slice Al m cl,.slice A2 q0.length c2] 55 (0,0))->Calls prog 164 #[.slice (some ⟨b,0,none⟩) 2 2] W (zm (λv w'=>w'.ownsRow W.heap.size 51 5 v (m+q0.length) (qC (lps++yps))) W)):=zH λW b hW hr=>by
    have:=qan Al m cl A2 q0.length c2 lps yps b (by have:=h5.out;omega) W hr (hlE.out W hW) (wLG.out W hW)
    rwa [hn6]at this
   replace hn6:=zH hn6;have hl5:=zH (hlE.out w5 (Ext.refl _));have hy5:=zH (wLG.out w5 (Ext.refl _));clear k05 hlE wLG rn5;refine qt zQ ?_;refine qX (w:=w5) qj (qQ [(3,jg w5.heap.size 2 55 #[.slice Al m cl,.slice A2 q0.length c2]),(4,jn w5.heap.size (m+q0.length) (qC (lps++yps)))]) (List.replicate 9 true) 1 zQ zQ zQ zQ zQ zQ zQ ?st (Rel.drew _ _) ?walk
   case st=>exact qi (by simp only[List.forall_mem_cons];exact⟨λp=>Qo (jS _ _ _ _ p),ZK _ _ _,λ_ h=>by cases h⟩)
   case walk=>
    intro K hK;dsimp only[qw,List.replicate];refine zC8 ?_;refine qH (jg w5.heap.size 2 55 #[.slice Al m cl,.slice A2 q0.length c2]) zA0 zA0 (λW hW _=>?_) (λ(p3:Nat)=>?_)
    ·have hW:Ext w5 W:=hW;unfold Qr;go_simp;exact⟨W.heap.size,rfl,⟨zI _ _ _ rfl,hW.size⟩,zN _ _⟩
    refine zC8 ?_;refine qH (jn w5.heap.size (m+q0.length) (qC (lps++yps))) zA0 zA0 (λW hW hp=>?_) (λp4=>?_)
    ·have hW:Ext w5 W:=hW;obtain⟨f3,_⟩:W.heap[p3]?=some (.cells #[.slice Al m cl,.slice A2 q0.length c2] 55 (0,0))/\w5.heap.size<=p3:=(hp 3 zA1).1;refine Qi ?_ ((hHC.out W p3 hW f3).mono λe w' h=>?_)
     ·go_simp
     obtain⟨u,rfl,hu,hB⟩:=h;obtain⟨Ac,cc,rfl,_,_⟩:=qG hu;exact⟨(Ac,cc),rfl,QB hu hW.size,hB⟩
    obtain⟨Ac,cc⟩:=p4;refine zC8 ?_;refine qD (hK _ _ λW hW hF=>?_);have ho:W.ownsRow w5.heap.size 51 5 (.slice Ac (m+q0.length) cc) (m+q0.length) (qC (lps++yps)):=(hF 4).1;clear hF hK g0 gn hHC;have hW:Ext w5 W:=hW;have hE:=zH (jo.two hW hX5.out hl5.out hy5.out hn6.out.symm ho);have x7:Ext w W:=x5.trans hW;have r17:=qb r15 hW;have k1:=qa r17;have f1:=qg r17;have z1:=(zG.1 r17).1;clear ho;refine zC4 ?_;go_wp2;refine Qn ?_;go_wp2_with fail;obtain⟨r8,x8⟩:=UJ x7 r17 (.int .i64 (p:Int)) (.int .i64 2);have hQ:qfM X j (.tuple #[.slice Ac (m+q0.length) cc,.agg #[.int .i64 (p:Int),.int .i64 ((2:Nat):Int)]]) ((W.setCell ⟨w.heap.size+1,0,none⟩ (.int .i64 (p:Int))).setCell ⟨w.heap.size+1,1,none⟩ (.int .i64 2)):=⟨_,lps++yps,by rw[hjE.out],(hE.out.trans (qdU _ _ _ _) λ_ _ h=>h).less,by rw[hjE.out,List.map_append,hyl5.out,wDS.out]⟩
    refine Tg (b:=w.heap.size+1) rfl rfl rfl r8 ⟨_,rfl,hQ,x8⟩
section
variable {R0 R:Rel} {c:Nat} {kp:Nat->Bool}
def preD(R0 R:Rel)(c i:Nat):Rel:=if i=c then R0 else R
def qcJ(R0 R:Rel)(c i:Nat):Rel:=if i=c then R else R0
def VH(F:qO)(i:Nat)(φ:World->Prop):qO:=λk=>if k=i then φ else F k
theorem qew(F:qO){i j:Nat}(φ ψ:World->Prop)(hne:i≠j):VH (VH F i φ) j ψ=VH (VH F j ψ) i φ:=by
 funext k;unfold VH;by_cases hj:k=j
 ·subst hj;rw[if_pos rfl,if_neg (Ne.symm hne),if_pos rfl]
 ·rw[if_neg hj,if_neg hj]
theorem Yt(F:qO)(i:Nat)(φ:World->Prop):VH F i φ i=φ:=if_pos rfl
theorem JN(F:qO){i k:Nat}(φ:World->Prop)(h:k≠i):VH F i φ k=F k:=if_neg h
section
variable {P:Program} {ops:Array Oper} {w0:World}
def JB(R0 R:Rel)(c:Nat)(kp:Nat->Bool)(P:Program)(ops:Array Oper)(w0:World)(H:Nat->Option qZ)(i:Nat)(o:Oper)(a:Act)(F:qO)(h:qZ):Prop:=
 (Region.wanted o (yielded ops a.tmps)=false/\h=one undef) \/
 (Region.wanted o (yielded ops a.tmps)=true/\H i=none/\∃v,h=one v/\∀W,(preD R0 R c i).r w0 W->(∀k∈qN o,(i=c\/kp k=true)->F k W)->Jn (qcJ R0 R c i) P o a W v) \/
 (Region.wanted o (yielded ops a.tmps)=true/\H i=some h/\∀W,(preD R0 R c i).r w0 W->(∀k∈qN o,(i=c\/kp k=true)->F k W)->Qr (qcJ R0 R c i) P o a W h)
def qag(R0 R:Rel)(c:Nat)(kp:Nat->Bool)(w0:World)(listed:Array Bool)(F:qO):Prop:=∃W,R.r w0 W/\(listed.getD c true=false->R0.r w0 W/\∀k,F k W)/\∀k,kp k=true->F k W
def FOpD(R0 R:Rel)(c:Nat)(kp:Nat->Bool)(P:Program)(ops:Array Oper)(w0:World)(H:Nat->Option qZ)(listed:Array Bool)(i:Nat)(o:Oper)(K:Act->qO->Prop)(a:Act)(F:qO):Prop:=
 ∃h,JB R0 R c kp P ops w0 H i o a F h/\∀p,qag R0 R c kp w0 (listed.setIfInBounds i true) (VH F i (h.φ p))->K (a.put o.dst (h.f p)) (VH F i (h.φ p))
def JP(R0 R:Rel)(c:Nat)(kp:Nat->Bool)(P:Program)(ops:Array Oper)(w0:World)(H:Nat->Option qZ)(Q:Act->qO->Prop):List (Nat×Oper)->Array Bool->Act->qO->Prop
 |[],_,a,F=>Q a F
 |(k,o)::rest,listed,a,F=>FOpD R0 R c kp P ops w0 H listed k o (λa' F'=>JP R0 R c kp P ops w0 H Q rest (listed.setIfInBounds k true) a' F') a F
def Gu(R0 R:Rel)(c:Nat)(kp:Nat->Bool)(P:Program)(ops:Array Oper)(w0:World)(H:Nat->Option qZ)(L:Array Bool)(Q:Act->qO->Prop):Nat->Array Bool->Act->qO->Prop
 |0,listed,a,F=>listed=L/\Q a F
 |fuel+1,listed,a,F=>Region.ready .any ops listed≠[]/\∀i∈Region.ready .any ops listed,∀o,ops[i]?=some o->FOpD R0 R c kp P ops w0 H listed i o (Gu R0 R c kp P ops w0 H L Q fuel (listed.setIfInBounds i true)) a F
theorem stpD_le(hle:∀a b,R0.r a b->R.r a b){i:Nat}{W W':World}(h:(qcJ R0 R c i).r W W'):R.r W W':=by
 unfold qcJ at h;split at h
 ·exact h
 ·exact hle _ _ h
theorem unsetD{listed:Array Bool}{i c:Nat}(hi:listed.getD i true=false)(hc:(listed.setIfInBounds i true).getD c true=false):i≠c/\listed.getD c true=false:=by
 have hne:i≠c:=λe=>by
  subst e;rcases Nat.lt_or_ge i listed.size with h'|h'
  ·simp[h']at hc
  ·simp[Array.getElem?_eq_none h']at hi
 exact⟨hne,by rwa [getD_set_ne true hne]at hc⟩
def Tv(R0 R:Rel)(c:Nat)(kp:Nat->Bool)(listed:Array Bool)(F:qO):Prop:=(∀k,qS R0 (F k))/\(listed.getD c true=false->∀k,kp k=true->qS R (F k))
def qbp(R0 R:Rel)(c:Nat)(kp:Nat->Bool)(H:Nat->Option qZ):Prop:=∀i h,H i=some h->∀p,qS R0 (h.φ p)/\(i≠c->kp i=true->qS R (h.φ p))
theorem JB.lasts{H:Nat->Option qZ}(hH:qbp R0 R c kp H){listed:Array Bool}{i:Nat}{o:Oper}{a:Act}{F:qO}{h:qZ}(hi:listed.getD i true=false)(hl:Tv R0 R c kp listed F)(x:JB R0 R c kp P ops w0 H i o a F h)(p:h.α):Tv R0 R c kp (listed.setIfInBounds i true) (VH F i (h.φ p)):=by
 have hs:qS R0 (h.φ p)/\(i≠c->kp i=true->qS R (h.φ p)):=by
  rcases x with⟨_,rfl⟩|⟨_,_,v,rfl,_⟩|⟨_,x2,_⟩
  ·exact⟨λ_ _ _ _=>trivial,λ_ _ _ _ _ _=>trivial⟩
  ·exact⟨λ_ _ _ _=>trivial,λ_ _ _ _ _ _=>trivial⟩
  ·exact hH i h x2 p
 constructor
 ·intro k;by_cases e:k=i
  ·subst e;rw[Yt];exact hs.1
  ·rw[JN _ _ e];exact hl.1 k
 ·intro hc k hk;obtain⟨hne,hcl⟩:=unsetD hi hc;by_cases e:k=i
  ·subst e;rw[Yt];exact hs.2 hne hk
  ·rw[JN _ _ e];exact hl.2 hcl k hk
theorem qeu(hle:∀a b,R0.r a b->R.r a b){listed:Array Bool}{F:qO}{i:Nat}{W W':World}{φ:World->Prop}(hi:listed.getD i true=false)(hl:Tv R0 R c kp listed F)(h:(qcJ R0 R c i).r W W')(hφ:φ W')(hW:R.r w0 W)(h0:listed.getD c true=false->R0.r w0 W/\∀k,F k W)(hF:∀k,kp k=true->F k W):R.r w0 W'/\((listed.setIfInBounds i true).getD c true=false->R0.r w0 W'/\∀k,VH F i φ k W')/\∀k,kp k=true->VH F i φ k W':=by
 refine⟨R.trans hW (stpD_le hle h),λhc=>?_,λk hk=>?_⟩
 ·obtain⟨hne,hcl⟩:=unsetD hi hc;unfold qcJ at h;rw[if_neg hne]at h;refine⟨R0.trans (h0 hcl).1 h,λk=>?_⟩;by_cases e:k=i
  ·subst e;rw[Yt];exact hφ
  ·rw[JN _ _ e];exact hl.1 k _ _ h ((h0 hcl).2 k)
 ·by_cases e:k=i
  ·subst e;rw[Yt];exact hφ
  ·rw[JN _ _ e];unfold qcJ at h;split at h
   ·rename_i hic;subst hic;exact hl.2 hi k hk _ _ h (hF k hk)
   ·exact hl.1 k _ _ h (hF k hk)
theorem qbz{listed:Array Bool}{F:qO}{i:Nat}{W:World}(hi:listed.getD i true=false)(hW:R.r w0 W)(h0:listed.getD c true=false->R0.r w0 W/\∀k,F k W)(hF:∀k,kp k=true->F k W){ks:List Nat}:(preD R0 R c i).r w0 W/\∀k∈ks,(i=c\/kp k=true)->F k W:=by
 constructor
 ·unfold preD;split
  ·rename_i e;subst e;exact(h0 hi).1
  ·exact hW
 ·intro k _ hk;rcases hk with rfl|hk
  ·exact(h0 hi).2 k
  ·exact hF k hk
theorem JB.unique{H:Nat->Option qZ}{listed:Array Bool}{i:Nat}{o:Oper}{a:Act}{F:qO}{h h':qZ}(hc:qag R0 R c kp w0 listed F)(hi:listed.getD i true=false)(x:JB R0 R c kp P ops w0 H i o a F h)(y:JB R0 R c kp P ops w0 H i o a F h'):h=h':=by
 obtain⟨W,hW,hW0,hF⟩:=hc;obtain⟨hW,hF⟩:=qbz (ks:=qN o) hi hW hW0 hF;rcases x with⟨x1,rfl⟩|⟨x1,x2,v,rfl,x3⟩|⟨x1,x2,x3⟩<;>rcases y with⟨y1,rfl⟩|⟨y1,y2,u,rfl,y3⟩|⟨y1,y2,y3⟩
 ·rfl
 ·rw[x1]at y1;cases y1
 ·rw[x1]at y1;cases y1
 ·rw[x1]at y1;cases y1
 ·obtain⟨w1,e1,_⟩:=x3 W hW hF;obtain⟨w2,e2,_⟩:=y3 W hW hF;rw[e1]at e2;cases e2;rfl
 ·rw[x2]at y2;cases y2
 ·rw[x1]at y1;cases y1
 ·rw[x2]at y2;cases y2
 ·rw[x2]at y2;cases y2;rfl
theorem JB.some_(hle:∀a b,R0.r a b->R.r a b){H:Nat->Option qZ}{listed:Array Bool}{i:Nat}{o:Oper}{a:Act}{F:qO}{h:qZ}(hc:qag R0 R c kp w0 listed F)(hi:listed.getD i true=false)(hl:Tv R0 R c kp listed F)(x:JB R0 R c kp P ops w0 H i o a F h):∃p,qag R0 R c kp w0 (listed.setIfInBounds i true) (VH F i (h.φ p)):=by
 obtain⟨W,hW,hW0,hF⟩:=hc;have triv:∀(φ:World->Prop)W',(qcJ R0 R c i).r W W'->φ W'->qag R0 R c kp w0 (listed.setIfInBounds i true) (VH F i φ):=λφ W' he hφ=>⟨W',qeu hle hi hl he hφ hW hW0 hF⟩
 obtain⟨hWp,hFp⟩:=qbz (ks:=qN o) hi hW hW0 hF;rcases x with⟨x1,rfl⟩|⟨x1,x2,v,rfl,x3⟩|⟨x1,x2,x3⟩
 ·exact⟨(),triv _ W (Rel.refl _ W) trivial⟩
 ·obtain⟨w',_,he⟩:=x3 W hWp hFp;exact⟨(),triv _ w' he trivial⟩
 ·have h3:=x3 W hWp hFp;unfold Qr at h3;generalize(execOp a.eval o).run P W=r at h3;cases r with
  |ok n w'=>
   cases n<;>simp only[Zf]at h3
   case value u=>obtain⟨p,_,hp,he⟩:=h3;exact⟨p,triv _ w' he hp⟩
   case skip=>obtain⟨p,_,hp,he⟩:=h3;exact⟨p,triv _ w' he hp⟩
   case enter f args=>obtain⟨he,hcl⟩:=h3;obtain⟨e,w'',fr,⟨p,_,hp,he2⟩,_⟩:=hcl [];exact⟨p,triv _ w'' (Rel.trans _ he he2) hp⟩
  |halt x w'=>simp only[Zf]at h3
theorem JB.move{H:Nat->Option qZ}{i j:Nat}{oi oj:Oper}{a:Act}{F:qO}{h:qZ}{v:Value}{φ:World->Prop}(hap:oi.apart ops oj=true)(hsj:∀cs b,oj.op≠.select cs b)(hn:i∉qN oj):JB R0 R c kp P ops w0 H j oj (a.put oi.dst v) (VH F i φ) h↔JB R0 R c kp P ops w0 H j oj a F h:=by
 obtain⟨h1,_,_⟩:=Oper.apart_spec hap;have hF:∀W,(∀k∈qN oj,(j=c\/kp k=true)->VH F i φ k W)↔∀k∈qN oj,(j=c\/kp k=true)->F k W:=λW=>by
  constructor<;>intro hh k hk h1
  ·have:=hh k hk h1;rwa [JN _ _ (λe=>hn (by rw[<-e];exact hk))]at this
  ·rw[JN _ _ (λe=>hn (by rw[<-e];exact hk))];exact hh k hk h1
 unfold JB Jn Qr;rw[wanted_put oj a oi.dst v h1,execOp_put oj hsj a oi.dst v h1];simp only[hF]
theorem JB.move'{H:Nat->Option qZ}{i j:Nat}{oi oj:Oper}{a:Act}{F:qO}{h:qZ}{v:Value}{φ:World->Prop}(hap:oi.apart ops oj=true)(hsi:∀cs b,oi.op≠.select cs b)(hn:j∉qN oi):JB R0 R c kp P ops w0 H i oi (a.put oj.dst v) (VH F j φ) h↔JB R0 R c kp P ops w0 H i oi a F h:=by
 obtain⟨_,_,h3⟩:=Oper.apart_spec hap;have hF:∀W,(∀k∈qN oi,(i=c\/kp k=true)->VH F j φ k W)↔∀k∈qN oi,(i=c\/kp k=true)->F k W:=λW=>by
  constructor<;>intro hh k hk h1
  ·have:=hh k hk h1;rwa [JN _ _ (λe=>hn (by rw[<-e];exact hk))]at this
  ·rw[JN _ _ (λe=>hn (by rw[<-e];exact hk))];exact hh k hk h1
 unfold JB Jn Qr;rw[wanted_put oi a oj.dst v h3,execOp_put oi hsi a oj.dst v h3];simp only[hF]
def qfC(ops:Array Oper)(c:Nat):Bool:=(List.range c).all λk=>TK ops 9 c k
theorem qhG(h:qfC ops c=true){listed:Array Bool}(hc:vQ ops listed)(hr:c∈Region.ready .any ops listed):∀k,k<c->listed.getD k false=true:=λk hk=>
 vJ hc 9 c k (λo' ho'=>VD hr ho') (List.all_eq_true.1 h k (List.mem_range.2 hk))
theorem Xy{listed:Array Bool}{k:Nat}(h0:listed.getD k true=false)(h1:listed.getD k false=true):False:=by
 rcases Nat.lt_or_ge k listed.size with h'|h'
 ·simp[h']at h0 h1;rw[h0]at h1;cases h1
 ·simp[Array.getElem?_eq_none h']at h1
theorem qdt(hle:∀a b,R0.r a b->R.r a b)(hkc:kp c=true)(hwc:qfC ops c=true){H:Nat->Option qZ}(hH:qbp R0 R c kp H){A:Nat->Prop}{L:Array Bool}{Q:Act->qO->Prop}{i:Nat}{oi:Oper}(hi:ops[i]?=some oi)(him:A i)(hMM:∀(j:Nat)(o:Oper)cs b,ops[j]?=some o->o.op≠.select cs b)(hFA:∀(listed:Array Bool)(j:Nat),vQ ops listed->j∈Region.ready .any ops listed->L.getD j true=false->∀k,A k->listed.getD k false=true):∀(fuel:Nat)(listed:Array Bool)(a:Act)(F:qO),vQ ops listed -> (∀j oj,ops[j]?=some oj->j≠i->listed.getD j true=false->(∀e∈oj.after,Region.binds .any e=true->e.on≠i)->oi.apart ops oj=true) -> (i<=c\/listed.getD c false=true)->i∈Region.ready .any ops listed->Tv R0 R c kp listed F->qag R0 R c kp w0 listed F->(∀k,listed.getD k true=false->∀W,F k W) ->
   FOpD R0 R c kp P ops w0 H listed i oi (Gu R0 R c kp P ops w0 H L Q fuel (listed.setIfInBounds i true)) a F->Gu R0 R c kp P ops w0 H L Q (fuel+1) listed a F:=by
 intro fuel;induction fuel with
 |zero=>
  intro listed a F hCl _ _ hr hst hc _ hop;refine⟨λh=>(by rw[h]at hr;cases hr),λj hj oj hoj=>?_⟩;by_cases hji:j=i
  ·subst hji;rw[hi]at hoj;cases hoj;exact hop
  ·exfalso;obtain⟨h,hok,hK⟩:=hop;obtain⟨p,hcp⟩:=hok.some_ hle hc (mem_ready.1 hr).1 hst;have hmj:L.getD j true=false:=by rw[<-(hK p hcp).1];exact(mem_ready.1 (ready_mono hj hji)).1
   exact Xy (mem_ready.1 hr).1 (hFA listed j hCl hj hmj i him)
 |succ fuel ih=>
  intro listed a F hCl hGT hic hr hst hc hun hop;refine⟨λh=>(by rw[h]at hr;cases hr),λj hj oj hoj=>?_⟩;by_cases hji:j=i
  ·subst hji;rw[hi]at hoj;cases hoj;exact hop
  ·obtain⟨hFD,oj',hNS,hCV⟩:=mem_ready.1 hj;rw[hoj]at hNS;cases hNS;obtain⟨hOA,oi',hQB,hMB⟩:=mem_ready.1 hr;rw[hi]at hQB;cases hQB;have hPR:∀e∈oj.after,Region.binds .any e=true->e.on≠i:=λe he hb heq=>Xy hOA (heq▸hCV e he hb);have hPZ:∀e∈oi.after,Region.binds .any e=true->e.on≠j:=λe he hb heq=>Xy hFD (heq▸hMB e he hb);have hpi:i∉qN oj:=λhin=>by obtain⟨e,he,hei⟩:=List.mem_map.1 hin;rw[List.mem_filter]at he;exact hPR e (by simpa using he.1) he.2 hei
   have hpj:j∉qN oi:=λhin=>by obtain⟨e,he,hei⟩:=List.mem_map.1 hin;rw[List.mem_filter]at he;exact hPZ e (by simpa using he.1) he.2 hei
   have hjc:j≠c:=λe=>by
    subst e;rcases hic with h|h
    ·exact Xy hOA (qhG hwc hCl hj i zO)
    ·exact Xy hFD h
   have hap:=hGT j oj hoj hji hFD hPR;have hsi:∀cs b,oi.op≠.select cs b:=λcs b=>hMM i oi cs b hi;have hsj:∀cs b,oj.op≠.select cs b:=λcs b=>hMM j oj cs b hoj;obtain⟨h2,_⟩:=(Oper.apart_spec hap).2;obtain⟨hI,okI,hKI⟩:=hop;obtain⟨p0,hVV⟩:=okI.some_ hle hc hOA hst;obtain⟨hJ,okJ0,_⟩:=(hKI p0 hVV).2 j (ready_mono hj hji) oj hoj;have okJ:JB R0 R c kp P ops w0 H j oj a F hJ:=(JB.move hap hsj hpi).1 okJ0;refine⟨hJ,okJ,λq hcq=>?_⟩;have hKX:∀k ok,ops[k]?=some ok->k≠i->(listed.setIfInBounds j true).getD k true=false ->
     (∀e∈ok.after,Region.binds .any e=true->e.on≠i)->oi.apart ops ok=true:=λk ok hk hki hQQ hno=>by
    refine hGT k ok hk hki ?_ hno;by_cases hjk:j=k
    ·subst hjk;exact hFD
    ·rw[getD_set_ne true hjk]at hQQ;exact hQQ
   refine ih (listed.setIfInBounds j true) _ _ (hCl.step hj) hKX (hic.imp id λh=>Vl h) (ready_mono hr (Ne.symm hji)) (okJ.lasts hH hFD hst q) hcq ?_ ?_
   ·intro k hk W;by_cases hjk:j=k
    ·subst hjk;exfalso;have hlt:j<listed.size:=by
      rcases Nat.lt_or_ge j listed.size with h'|h'
      ·exact h'
      ·simp[Array.getElem?_eq_none h']at hFD
     simp[hlt]at hk
    ·rw[getD_set_ne true hjk]at hk;rw[JN _ _ (λe=>hjk e.symm)];exact hun k hk W
   ·refine⟨hI,(JB.move' hap hsi hpj).2 okI,λp hcp=>?_⟩;have hXX:qag R0 R c kp w0 (listed.setIfInBounds i true) (VH F i (hI.φ p)):=by
     obtain⟨W,hW,hW0,hF⟩:=hcp;have key:∀k,VH (VH F j (hJ.φ q)) i (hI.φ p) k W->VH F i (hI.φ p) k W:=λk hk=>by
      by_cases hki:k=i
      ·subst hki;rw[Yt]at hk⊢;exact hk
      ·rw[JN _ _ hki]at hk⊢;by_cases hkj:k=j
       ·subst hkj;exact hun k hFD W
       ·rwa [JN _ _ hkj]at hk
     refine⟨W,hW,λh=>?_,λk hk=>key k (hF k hk)⟩;have h':=hW0 (by rw[Array.setIfInBounds_comm _ _ hji,getD_set_ne true hjc];exact h);exact⟨h'.1,λk=>key k (h'.2 k)⟩
    obtain⟨hJ',okJ',hXS⟩:=(hKI p hXX).2 j (ready_mono hj hji) oj hoj;have okJ'':JB R0 R c kp P ops w0 H j oj a F hJ':=(JB.move hap hsj hpi).1 okJ';have e:=okJ''.unique hc hFD okJ;subst e;have hq:=hXS q (by rw[qew F _ _ (Ne.symm hji),Array.setIfInBounds_comm _ _ (λe=>hji e.symm)];exact hcp);rw[Array.setIfInBounds_comm _ _ (λe=>hji e.symm),Act.put_comm a (hI.f p) (hJ'.f q) h2,qew F _ _ (Ne.symm hji)]at hq;exact hq
def befD(c:Nat):List Nat->Bool->Bool
 |[],_=>true
 |k::l,d=>if d=true then befD c l true else if k=c then befD c l true else decide (k<c)&&befD c l false
theorem qaW(hle:∀a b,R0.r a b->R.r a b)(hkc:kp c=true)(hwc:qfC ops c=true){H:Nat->Option qZ}(hH:qbp R0 R c kp H){L:Array Bool}{ks:List Nat}{Q:Act->qO->Prop}(hs:Region.noSelect ops=true)(hFA:∀(listed:Array Bool)(j:Nat),vQ ops listed->j∈Region.ready .any ops listed->L.getD j true=false->∀k,k∈ks->listed.getD k false=true):∀(l:List (Nat×Oper))(listed:Array Bool)(a:Act)(F:qO),vQ ops listed->(∀x∈l,ops[x.1]?=some x.2/\x.1∈ks) ->
  ZP ops L (l.map (·.1)) listed=true->befD c (l.map (·.1)) (listed.getD c false)=true->Tv R0 R c kp listed F->qag R0 R c kp w0 listed F->(∀j,listed.getD j true=false->∀W,F j W)->JP R0 R c kp P ops w0 H Q l listed a F->Gu R0 R c kp P ops w0 H L Q l.length listed a F
 |[],listed,a,F,_,_,hB,_,_,_,_,h=>⟨by simpa [ZP]using hB,h⟩
 |(k,o)::l,listed,a,F,hCl,hl,hB,hb,hst,hc,hun,h=>by
  obtain⟨h0,hks⟩:=hl (k,o) (List.mem_cons_self);simp only[List.map_cons,ZP,Bool.and_eq_true]at hB;obtain⟨⟨hr,hf⟩,hB'⟩:=hB;have hrk:k∈Region.ready .any ops listed:=by simpa using hr
  have hWF:=(mem_ready.1 hrk).1;have hlt:k<listed.size:=by
   rcases Nat.lt_or_ge k listed.size with h'|h'
   ·exact h'
   ·simp[Array.getElem?_eq_none h']at hWF
  have hb2:(k<=c\/listed.getD c false=true)/\befD c (l.map (·.1)) ((listed.setIfInBounds k true).getD c false)=true:=by
   simp only[List.map_cons]at hb;unfold befD at hb;split at hb
   ·rename_i hd;exact⟨.inr hd,by rw[Vl hd];exact hb⟩
   ·rename_i hd;split at hb
    ·rename_i hkc;subst hkc;exact⟨.inl (zM _),by rw[show(listed.setIfInBounds k true).getD k false=true by simp[hlt]];exact hb⟩
    ·rename_i hkc;simp only[Bool.and_eq_true,decide_eq_true_eq]at hb;refine⟨.inl (Nat.le_of_lt hb.1),?_⟩;rw[show(listed.setIfInBounds k true).getD c false=false by rw[getD_set_ne false hkc];simpa using hd];exact hb.2
  refine qdt hle hkc hwc (A:=λk=>k∈ks) hH h0 hks (Region.noSelect_spec hs) hFA l.length listed a F hCl (Region.free_spec h0 hf) hb2.1 hrk hst hc hun ?_;obtain⟨hh,hok,hK⟩:=h;refine⟨hh,hok,λp hcp=>?_⟩;refine qaW hle hkc hwc hH hs hFA l _ _ _ (hCl.step hrk) (λx hx=>hl x (List.mem_cons_of_mem _ hx)) hB' hb2.2 (hok.lasts hH hWF hst p) hcp (λj hj W=>?_) (hK p hcp);by_cases hjk:k=j
  ·subst hjk;simp[hlt]at hj
  ·rw[getD_set_ne true hjk]at hj;rw[JN _ _ (λe=>hjk e.symm)];exact hun j hj W
theorem qdx(hle:∀a b,R0.r a b->R.r a b){H:Nat->Option qZ}{i:Nat}{o:Oper}{a:Act}{F:qO}{K:Act->qO->Prop}{K':Act->World->Prop}{Q':Exit->Act->World->Prop}{W:World}{listed:Array Bool}(hli:listed.getD i true=false)(hi:ops[i]?=some o)(hH:qbp R0 R c kp H)(hst:Tv R0 R c kp listed F)(hW:R.r w0 W)(hW0:listed.getD c true=false->R0.r w0 W/\∀k,F k W)(hF:∀k,kp k=true->F k W)(hK:∀a' F' W',K a' F'->Tv R0 R c kp (listed.setIfInBounds i true) F'->R.r w0 W'->((listed.setIfInBounds i true).getD c true=false->R0.r w0 W'/\∀k,F' k W')->(∀k,kp k=true->F' k W')->K' a' W')(h:FOpD R0 R c kp P ops w0 H listed i o K a F):wpOp P ops Q' i K' a W:=by
 obtain⟨hh,hok,hn⟩:=h;have go:∀p W',(qcJ R0 R c i).r W W'->hh.φ p W'->K' (a.put o.dst (hh.f p)) W':=λp W' he hφ=>by obtain⟨h1,h2,h3⟩:=qeu hle hli hst he hφ hW hW0 hF;exact hK _ _ W' (hn p ⟨W',h1,h2,h3⟩) (hok.lasts hH hli hst p) h1 h2 h3
 obtain⟨hWp,hFp⟩:=qbz (ks:=qN o) hli hW hW0 hF;unfold wpOp;simp only[hi];rcases hok with⟨x1,rfl⟩|⟨x1,x2,v,rfl,x3⟩|⟨x1,x2,x3⟩
 ·simp only[x1,Bool.false_eq_true,if_false];exact go () W (Rel.refl _ W) trivial
 ·simp only[x1,if_true];obtain⟨w',hr,he⟩:=x3 W hWp hFp;refine .inl ?_;unfold Oper.wp;rw[hr];exact go () w' he trivial
 ·simp only[x1,if_true];have h3:=x3 W hWp hFp;refine .inl ?_;unfold Qr at h3;unfold Oper.wp;generalize(execOp a.eval o).run P W=r at*;cases r with
  |ok n w'=>
   cases n<;>simp only[Zf]at h3<;>simp only[Oper.upon]
   case value u=>obtain⟨p,rfl,hp,he⟩:=h3;exact go p w' he hp
   case skip=>obtain⟨p,hu,hp,he⟩:=h3;rw[hu];exact go p w' he hp
   case enter f args=>obtain⟨he,hcl⟩:=h3;refine hcl.mono λe w'' ⟨p,he1,hp,he2⟩=>?_;subst he1;exact go p w'' (Rel.trans _ he he2) hp
  |halt x w'=>simp only[Zf]at h3
theorem Tc(hle:∀a b,R0.r a b->R.r a b){H:Nat->Option qZ}(hH:qbp R0 R c kp H){L:Array Bool}{t:Nat}{Q:Act->qO->Prop}{Q':Exit->Act->World->Prop}(hQ:∀a F W,Q a F->R.r w0 W->(∀k,kp k=true->F k W)->wpAny P .any ops Q' t L a W):∀(fuel:Nat)(listed:Array Bool)(a:Act)(F:qO)(W:World),Tv R0 R c kp listed F->R.r w0 W->(listed.getD c true=false->R0.r w0 W/\∀k,F k W)->(∀k,kp k=true->F k W)->Gu R0 R c kp P ops w0 H L Q fuel listed a F->wpAny P .any ops Q' (fuel+t) listed a W
 |0,listed,a,F,W,_,hW,_,hF,h=>by rw[h.1,Nat.zero_add];exact hQ a F W h.2 hW hF
 |fuel+1,listed,a,F,W,hst,hW,hW0,hF,h=>by rw[show fuel+1+t=fuel+t+1 by omega];refine⟨λh0=>absurd h0 h.1,λi hi=>?_⟩;obtain⟨hli,o,ho,_⟩:=mem_ready.1 hi;exact qdx hle hli ho hH hst hW hW0 hF (λa' F' W' hk hLW hW' wQQ hF'=>Tc hle hH hQ fuel _ a' F' W' hLW hW' wQQ hF' hk) (h.2 i hi o ho)
theorem qdC{l:List Oper}{Q:Exit->Act->World->Prop}{fuel:Nat}{listed:Array Bool}{a:Act}{w W:World}(R0 R:Rel)(c:Nat)(kp:Nat->Bool)(hle:∀a b,R0.r a b->R.r a b)(H:Nat->Option qZ)(M:List Bool)(t:Nat)(hs:Region.noSelect l.toArray=true)(ht:qhu l.toArray (zv l.length (l.length-t)) ((qw 0 l M).map (·.1))=true)(hc0:Te l.toArray listed=true)(hB:ZP l.toArray (zv l.length (l.length-t)) ((qw 0 l M).map (·.1)) listed=true)(hVC:GZ l.toArray t (l.length-t) (zv l.length (l.length-t))=true)(hfu:fuel=(qw 0 l M).length+t)(htl:(l.drop (l.length-t)).length=t)(hwc:(kp c&&qfC l.toArray c&&befD c ((qw 0 l M).map (·.1)) (listed.getD c false))=true)(hH:qbp R0 R c kp H)(hW:R0.r w W)(h:∀K:Act->qO->Prop,(∀a' F',(∀W,R.r w W->(∀k,kp k=true->F' k W)->wpList P l.toArray Q (l.drop (l.length-t)) a' W)->K a' F')->JP R0 R c kp P l.toArray w H K (qw 0 l M) listed a (λ_ _=>True)):wpAny P .any l.toArray Q fuel listed a W:=by
 have h:=h _ (λa' F' hh=>hh);subst hfu;simp only[Bool.and_eq_true]at hwc;have hst:Tv R0 R c kp listed (λ_ _=>True):=⟨λ_ _ _ _ _=>trivial,λ_ _ _ _ _ _ _=>trivial⟩
 have key:=qaW hle hwc.1.1 hwc.1.2 (w0:=w) hH hs (YX ht) (qw 0 l M) listed a (λ_ _=>True) (vp hc0) (λx hx=>by obtain⟨j,h1,h2⟩:=vx l M 0 x hx;refine⟨?_,List.mem_map.2 ⟨x,hx,rfl⟩⟩;rw[h1,Nat.zero_add];simpa using h2) hB hwc.2 hst ⟨W,hle _ _ hW,λ_=>⟨hW,λ_=>trivial⟩,λ_ _=>trivial⟩ (λ_ _ _=>trivial) h;refine Tc hle (w0:=w) hH (t:=t) (Q':=Q) (λa F W hq hW hF=>?_) _ _ _ _ W hst (hle _ _ hW) (λ_=>⟨hW,λ_=>trivial⟩) (λ_ _=>trivial) key;have:=kM (l.drop (l.length-t)) (l.length-t) _ a W (λj _=>by rw[List.getElem?_drop];simp) (by rw[htl];exact hVC) (hq W hW hF)
 rwa [htl]at this
theorem Gc{l:List (Nat×qZ)}(h:∀x∈l,∀p,qS R0 (x.2.φ p)/\(x.1≠c->kp x.1=true->qS R (x.2.φ p))):qbp R0 R c kp (qQ l):=by
 induction l with
 |nil=>intro i hh e;cases e
 |cons x l ih=>
  intro i hh e p;unfold qQ at e;split at e
  ·rename_i hx;cases e;have:=h x List.mem_cons_self p;subst hx;exact this
  ·exact ih (λy hy=>h y (List.mem_cons_of_mem _ hy)) i hh e p
/-! ### the steps of the walk -/
section
variable {H:Nat->Option qZ} {Q:Act->qO->Prop} {k:Nat} {o:Oper} {rest:List (Nat×Oper)} {a:Act} {F:qO} {listed:Array Bool}
theorem qdK(h:Q a F):JP R0 R c kp P ops w0 H Q [] listed a F:=h
theorem Jc(hle:∀a b,R0.r a b->R.r a b)(v:Value)(hw:Region.wanted o (yielded ops a.tmps)=true)(hH:H k=none)(hv:∀W,R.r w0 W->(execOp a.eval o).run P W=.ok (.value v) W)(h:JP R0 R c kp P ops w0 H Q rest (listed.setIfInBounds k true) (a.put o.dst v) (VH F k λ_=>True)):JP R0 R c kp P ops w0 H Q ((k,o)::rest) listed a F:=
 ⟨one v,.inr (.inl ⟨hw,hH,v,rfl,λW hW _=>⟨W,hv W (by unfold preD at hW;split at hW;exact hle _ _ hW;exact hW),Rel.refl _ W⟩⟩),λ_ _=>h⟩
theorem Jd(hw:Region.wanted o (yielded ops a.tmps)=false)(h:JP R0 R c kp P ops w0 H Q rest (listed.setIfInBounds k true) (a.put o.dst undef) (VH F k λ_=>True)):JP R0 R c kp P ops w0 H Q ((k,o)::rest) listed a F:=
 ⟨one undef,.inl ⟨hw,rfl⟩,λ_ _=>h⟩
theorem YF(hh:qZ)(hw:Region.wanted o (yielded ops a.tmps)=true)(hH:H k=some hh)(hk:k≠c)(hv:∀W,R.r w0 W->(∀j∈qN o,kp j=true->F j W)->Qr R0 P o a W hh)(h:∀p,JP R0 R c kp P ops w0 H Q rest (listed.setIfInBounds k true) (a.put o.dst (hh.f p)) (VH F k (hh.φ p))):JP R0 R c kp P ops w0 H Q ((k,o)::rest) listed a F:=
 ⟨hh,.inr (.inr ⟨hw,hH,λW hW hF=>by unfold preD at hW;unfold qcJ;rw[if_neg hk]at hW⊢;exact hv W hW λj hj hj2=>hF j hj (.inr hj2)⟩),λp _=>h p⟩
theorem qbF(hh:qZ)(hw:Region.wanted o (yielded ops a.tmps)=true)(hH:H c=some hh)(hv:∀W,R0.r w0 W->(∀j∈qN o,F j W)->Qr R P o a W hh)(h:∀p,JP R0 R c kp P ops w0 H Q rest (listed.setIfInBounds c true) (a.put o.dst (hh.f p)) (VH F c (hh.φ p))):JP R0 R c kp P ops w0 H Q ((c,o)::rest) listed a F:=
 ⟨hh,.inr (.inr ⟨hw,hH,λW hW hF=>by unfold preD at hW;unfold qcJ;rw[if_pos rfl]at hW⊢;exact hv W hW λj hj=>hF j hj (.inl rfl)⟩),λp _=>h p⟩
end
end
end
section
variable {F0:Fence} {R0 R:Rel} {c:Nat} {kp:Nat->Bool} {P:Program} {ops:Array Oper} {w0:World} {n:Nat}
end
end Go.Proofs.YtmeadnlmepcmbaaGreat
