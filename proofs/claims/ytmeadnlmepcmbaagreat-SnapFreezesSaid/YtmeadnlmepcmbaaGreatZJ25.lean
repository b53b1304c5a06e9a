/- scionrylaw18.SnapFreezes is true of every pool, number and item, and leaves its arguments as they were; no condition. -/
import Derived.Test.YtmeadnlmepcmbaaGreatZJ24
set_option linter.all false
set_option maxHeartbeats 8000000
open Go.Proofs.Tryz
namespace Go.Proofs.YtmeadnlmepcmbaaGreat
open Go.RowKit
theorem FrzQ.no {S:Sto} {gen root next:Int} {dead:List Int} {id:Int} {fz:Bool} {w w':World} {e:Ending} {er:Int} (h:FrzQ S gen root next dead id fz w e w') (hn:(er=8/\QK S root next dead)\/(er=6/\∃ vs,Jr S root next dead vs/\Qs vs id=none)):e=.returned (.tuple #[jb,.int .i64 er]):=by
 rcases hn with ⟨rfl,hb⟩|⟨rfl,vs,⟨refs,nodes,h1,h2,h3⟩,hv⟩
 ·rcases h.2 with ⟨er,aG,rfl,hE⟩|⟨r,S4,u,⟨vs,refs,nodes,v,S',vs',k1,k2,k3,_⟩,-⟩
  ·rcases hE with ⟨rfl,_⟩|⟨vs,refs,nodes,k1,k2,k3,_⟩
   ·rfl
   ·exact(QK.no hb k1 k2 k3).elim
  ·exact(QK.no hb k1 k2 k3).elim
 ·rcases h.2 with ⟨er,aG,rfl,hE⟩|⟨r,S4,u,⟨vs,refs,nodes,v,S',vs',k1,k2,k3,k4,_⟩,-⟩
  ·rcases hE with ⟨_,hb⟩|⟨vs,refs,nodes,k1,k2,k3,⟨rfl,_⟩|⟨v,k4,_⟩⟩
   ·exact(QK.no hb h1 h2 h3).elim
   ·rfl
   ·obtain rfl:=Qb.same h1 k1;rw[hv] at k4;cases k4
  ·obtain rfl:=Qb.same h1 k1;rw[hv] at k4;cases k4
theorem qfm.frozenK {S:Sto} {gen root next:Int} {dead:List Int} {id:Int} {x:It} {w w':World} {e:Ending} {vs:List Vol} {v:Vol} (h:qfm S gen root next dead id x w e w') (hk:Jr S root next dead vs) (hv:Qs vs id=some v) (hf:v.fz=true):e=.returned (.tuple #[jb,.int .i64 170]):=by
 obtain⟨refs,nodes,h1,h2,h3⟩:=hk;rcases h.2 with ⟨er,aG,rfl,hE⟩|⟨r3,S4,u,⟨vs',refs',nodes',v',k1,k2,k3,k4,k5,_⟩,-⟩
 ·rcases hE with ⟨_,hb⟩|⟨vs',refs',nodes',k1,k2,k3,⟨_,k4⟩|⟨v',k4,⟨rfl,_⟩|⟨k5,_⟩⟩⟩
  ·exact(QK.no hb h1 h2 h3).elim
  ·obtain rfl:=Qb.same h1 k1;rw[hv] at k4;cases k4
  ·rfl
  ·obtain rfl:=Qb.same h1 k1;rw[hv] at k4;cases k4;rw[hf] at k5;cases k5
 ·obtain rfl:=Qb.same h1 k1;rw[hv] at k4;cases k4;rw[hf] at k5;cases k5
theorem KQ {R:Ending->World->Prop} {a:Act} {W:World} {u:Value} (h4:a.tmps[6]?.getD undef=u) (hd:a.defers=[]) (hR:R (.returned u) W):bodyPost prog Tryz.f5 R .ret a W:=by refine bodyPost_ret (v:=u) ?_ hd hR;simp[results,results5,go_sem,h4]
set_option maxRecDepth 100000 in
theorem sfrz_any (A1 n1 c1 A2 n2 c2 A3 n3 c3 A4 n4 c4) (gen root next:Int) (A5 c5) (S:Sto) (dead:List Int) (id:Int) (x:It) (lN:itB x.r x.val.length=true->zu x) (Ax:OA) (cx:Nat) (w:World) (h:qV w w.heap.size (.slice A1 n1 c1) (.slice A2 n2 c2) (.slice A3 n3 c3) (.slice A4 n4 c4) S) (hd:Zv w w.heap.size (.slice A5 dead.length c5) dead) (pX:Bys w w.heap.size (.slice Ax x.val.length cx) x.val):Calls prog 5 #[.agg (qF (.slice A1 n1 c1) (.slice A2 n2 c2) (.slice A3 n3 c3) (.slice A4 n4 c4) gen root next (.slice A5 dead.length c5)),.int .u32 id,itV x Ax cx] w (Ret (.bool true) w):=by
 have HG:=zH (fun W (hx:Ext w W)=>qfZ A1 n1 c1 A2 n2 c2 A3 n3 c3 A4 n4 c4 gen root next A5 dead.length c5 S W (h.ext hx));have HF:=zH (fun W (hx:Ext w W)=>qaD A1 n1 c1 A2 n2 c2 A3 n3 c3 A4 n4 c4 gen root next A5 c5 S dead id true W (h.ext hx) (hd.ext_ hx));have HO:=zH (fun W (hx:Ext w W)=>VT A1 n1 c1 A2 n2 c2 A3 n3 c3 A4 n4 c4 gen root next A5 c5 S dead id W (h.ext hx) (hd.ext_ hx));have HA:=zH (fun W (hx:Ext w W)=>Gq A1 n1 c1 A2 n2 c2 A3 n3 c3 A4 n4 c4 gen root next A5 c5 S dead id W (h.ext hx) (hd.ext_ hx));replace lN:=zH lN;replace pX:=zH pX;clear h hd;go_enter func5,ntmps5;go_wp2_with fail;generalize aA:World.alloc (World.alloc w _) _=w1;have x1:Ext w w1:=aA▸(zN _ _).trans (zN _ _)
 have rp1:w1.heap[w.heap.size]?=some (.cells (qF (.slice A1 n1 c1) (.slice A2 n2 c2) (.slice A3 n3 c3) (.slice A4 n4 c4) gen root next (.slice A5 dead.length c5)) 32 (0,0)):=aA▸(zK _ _ _ zA2).trans (zI _ _ _ rfl)
 have rx1:w1.heap[w.heap.size+1]?=some (.cells #[.int .u8 x.k,.int .u32 x.i,.int .u32 x.o,.int .i64 x.r,.slice Ax x.val.length cx] 51 (0,0)):=aA▸zI _ _ _ zA2
 clear aA;refine(qfq w1).mono ?_;rintro e w2 ⟨rfl,hB⟩;have x2:Ext w w2:=x1.trans hB;have rp2:=qb rp1 hB;have rx2:=qb rx1 hB;have kp2:=qa rp2;clear hB rp1 rx1 x1;go_wp2_with fail;refine(HG.out w2 x2).mono ?_;clear HG;rintro e w3 ⟨rfl,hB⟩;have x3:Ext w w3:=x2.trans hB;have rp3:=qb rp2 hB;have rx3:=qb rx2 hB;have kp3:=qa rp3;have kx3:=qa rx3;clear hB rp2 rx2 x2 kp2;cases bK:qhT S dead.length
 case true =>go_wp2_with fail;exact KQ rfl rfl ⟨rfl,x3⟩
 case false =>
  by_cases h20:20<x.val.length
  ·have h20':(20:Int)<(x.val.length:Int):=zO;go_wp2_with fail;exact KQ rfl rfl ⟨rfl,x3⟩
  ·have h20':¬(20:Int)<(x.val.length:Int):=zO;clear bK;replace h20:=zH h20;go_wp2_with fail;refine(HO.out w3 x3).mono ?_;intro e w4 hq;have x4:Ext w w4:=x3.trans hq.1;have rp4:=qb rp3 hq.1;have rx4:=qb rx3 hq.1;have kp4:=qa rp4;have zp4:=(zG.1 rp4).1;clear rp3 rx3 kp3 kx3 x3 h20';have aP:(∃ er,er≠0/\e=.returned (.tuple #[jz YS,.int .i64 er])/\((er=8/\QK S root next dead)\/(er=6/\∃ vs,Jr S root next dead vs/\Qs vs id=none)))\/∃ vs v,Jr S root next dead vs/\Qs vs id=some v/\e=.returned (.tuple #[jz v,.int .i64 0]):=by
    rcases hq.2 with ⟨rfl,hb⟩|⟨vs,refs,nodes,k1,k2,k3,rfl⟩
    ·exact .inl ⟨8,zD,rfl,.inl ⟨rfl,hb⟩⟩
    ·rcases hv:Qs vs id with _|v
     ·exact .inl ⟨6,zD,rfl,.inr ⟨rfl,vs,⟨refs,nodes,k1,k2,k3⟩,hv⟩⟩
     ·exact .inr ⟨vs,v,⟨refs,nodes,k1,k2,k3⟩,hv,rfl⟩
   clear hq;rcases aP with ⟨er,aG,rfl,aX⟩|⟨vs,v,hok,hv,rfl⟩
   ·have hb:(er == 0)=false:=by rw[beq_eq_false_iff_ne];exact aG
    replace aG:=zH aG;replace aX:=zH aX;clear HO HA pX;unfold jz YS;go_wp2_with fail;generalize aT:World.alloc w4 _=w5;have x5:Ext w w5:=by rw[<-aT];exact x4.trans (zN _ _)
    clear aT x4 rp4 kp4 zp4 rx4;refine(HF.out w5 x5).mono ?_;clear HF;intro e w6 hq;have x6:Ext w w6:=x5.trans hq.1;obtain rfl:=hq.no aX.out;clear hq x5;go_wp2_with fail;exact KQ rfl rfl ⟨rfl,x6.trans (zN _ _)⟩
   ·replace hok:=zH hok;replace hv:=zH hv;clear HO;unfold jz;go_wp2_with fail;generalize aT:World.alloc w4 _=w5;have x45:Ext w4 w5:=aT▸zN _ _
    have x5:Ext w w5:=x4.trans x45;have rv5:w5.heap[w4.heap.size]?=some (.cells #[.int .u32 v.id,.int .i64 v.root,.bool v.fz,.int .u32 v.frm] 36 (0,0)):=aT▸zI _ _ _ rfl
    have rp5:=qb rp4 x45;have rx5:=qb rx4 x45;clear aT x4 rp4 kp4 zp4 rx4 x45;refine(HF.out w5 x5).mono ?_;clear HF;rintro e w6 ⟨hB,hq⟩;have x6:Ext w w6:=x5.trans hB;have rp6:=qb rp5 hB;have rx6:=qb rx5 hB;have rv6:=qb rv5 hB;have zp6:=(zG.1 rp6).1;clear hB rp5 rx5 rv5 x5;rcases hq with ⟨er,aG,rfl,-⟩|⟨r1,S1,u,hfz,rfl,hN⟩
    ·have hb:(er == 0)=false:=by rw[beq_eq_false_iff_ne];exact aG
     replace aG:=zH aG;go_wp2_with fail;exact KQ rfl rfl ⟨rfl,x6.trans (zN _ _)⟩
    ·obtain⟨vs',v',hP⟩:=qdo hfz;obtain⟨refs0,nodes0,k1,-⟩:=hok.out;obtain⟨refs9,nodes9,k2,-⟩:=hP.ok;obtain rfl:=Qb.same k1 k2;have hv2:=hP.vol;rw[hv.out] at hv2;cases hv2;have hid:v.id=id:=by simpa using List.find?_some hv.out
     have eX:Qs (Tb (Vw v true) vs) id=some (Vw v true):=by rw[<-hid];exact qgf (Vw v true) vs
     obtain⟨B1,d1,B2,d2,B3,d3,B4,d4,B5,d5,rfl,hS,hI⟩:=hN.sto;have HO2:=zH (fun W (hx:Ext w6 W)=>VT B1 _ d1 B2 _ d2 B3 _ d3 B4 _ d4 gen (r1:Int) next B5 d5 S1 dead id W (hS.ext hx) (hI.ext_ hx));have HP2:=zH (fun W (hx:Ext w6 W) (hb:Bys W W.heap.size (.slice Ax x.val.length cx) x.val)=>qdZ B1 _ d1 B2 _ d2 B3 _ d3 B4 _ d4 gen (r1:Int) next B5 d5 S1 dead id x lN.out Ax cx (fun vs2 refs2 nodes2 v2 q1 q2 q3 q4 q5=>by obtain⟨_,_,k3,-⟩:=hP.new;obtain rfl:=Qb.same k3 q1;rw[eX] at q4;cases q4;cases q5) W (hS.ext hx) (hI.ext_ hx) hb);have HA2:=zH (fun W (hx:Ext w6 W)=>Gq B1 _ d1 B2 _ d2 B3 _ d3 B4 _ d4 gen (r1:Int) next B5 d5 S1 dead id W (hS.ext hx) (hI.ext_ hx));have HF2:=zH (fun W (hx:Ext w6 W)=>qaD B1 _ d1 B2 _ d2 B3 _ d3 B4 _ d4 gen (r1:Int) next B5 d5 S1 dead id v.fz W (hS.ext hx) (hI.ext_ hx));replace hP:=zH hP;replace eX:=zH eX;replace hid:=zH hid;clear hN hS hI k1 k2 refs0 nodes0 refs9 nodes9 hfz;go_wp2_with fail;generalize gp:World.alloc w6 _=w7;have x67:Ext w6 w7:=gp▸zN _ _
     have rq7:w7.heap[w6.heap.size]?=some (.cells (qF (.slice B1 S1.bs.length d1) (.slice B2 S1.ws.length d2) (.slice B3 S1.now.length d3) (.slice B4 S1.last.length d4) gen (r1:Int) next (.slice B5 dead.length d5)) 32 (0,0)):=gp▸zI _ _ _ rfl
     have rp7:=qb rp6 x67;have rx7:=qb rx6 x67;have rv7:=qb rv6 x67;clear gp rp6 rx6 rv6 zp6;refine(HO2.out w7 x67).mono ?_;clear HO2;intro e w8 hq;have x68:Ext w6 w8:=x67.trans hq.1;have rp8:=qb rp7 hq.1;have rx8:=qb rx7 hq.1;have rv8:=qb rv7 hq.1;have rq8:=qb rq7 hq.1;obtain rfl:=hq.known hP.out.new;rw[eX.out];have kq8:=qa rq8;have zq8:=(zG.1 rq8).1;have kx8:=qa rx8;have zx8:=(zG.1 rx8).1;clear hq rp7 rx7 rv7 rq7 x67;unfold volQ jz Vw;go_wp2_with fail;generalize yA:World.alloc w8 _=w9;have x89:Ext w8 w9:=yA▸zN _ _
     have rw9:w9.heap[w8.heap.size]?=some (.cells #[.int .u32 v.id,.int .i64 v.root,.bool true,.int .u32 v.frm] 36 (0,0)):=yA▸zI _ _ _ rfl
     have x69:=x68.trans x89;have rp9:=qb rp8 x89;have rv9:=qb rv8 x89;have rq9:=qb rq8 x89;clear yA rp8 rx8 rv8 rq8 kq8 zq8 kx8 zx8 x68 x89;refine(HP2.out w9 x69 ((pX.out.below (x6.trans x69)).more (x6.trans x69).size)).mono ?_;clear HP2;intro e wa hq;have x6a:Ext w6 wa:=x69.trans hq.1;have rpa:=qb rp9 hq.1;have rva:=qb rv9 hq.1;have rqa:=qb rq9 hq.1;have rwa:=qb rw9 hq.1;obtain rfl:=hq.frozenK hP.out.new eX.out rfl;clear hq rp9 rv9 rq9 rw9 x69 pX lN;go_upto_region 10 with fail;generalize hwb:World.alloc wa _=wb;have xab:Ext wa wb:=hwb▸zN _ _
     have x6b:=x6a.trans xab;have rpb:=qb rpa xab;have rvb:=qb rva xab;have rqb:=qb rqa xab;have rwb:=qb rwa xab;clear hwb rpa rva rqa rwa x6a xab;refine qp zQ ?_;obtain⟨zs,tZ⟩:∃ zs,Ty S v.root=zs:=⟨_,rfl⟩
     have aW:Ty S1 v.root=zs:=(hP.out.same _ _).trans tZ;have hzl:zs.length<1073741824:=by have:=qkO S v.root (0,0,0) (255,4294967295,4294967295);rw[<-tZ];unfold Ty;omega
     have H2:=zH (fun W (hx:Ext wb W)=>(HA2.out W (x6b.trans hx)).mono fun e w' h=>(show ∃ p:OA×Nat,e=.returned ((Vs zs).f p)/\(Vs zs).φ p w'/\Ext W w' from by obtain⟨A,c,he,hi⟩:=h.known hP.out.new eX.out;have hz3:Ty S1 (Vw v true).root=zs:=aW;rw[hz3] at he hi;exact⟨(A,c),he,hi,h.1⟩));have H0:=zH (fun W (hx:Ext w6 W)=>(HA.out W (x6.trans hx)).mono fun e w' h=>(show ∃ p:OA×Nat,e=.returned ((Vs zs).f p)/\(Vs zs).φ p w'/\Ext W w' from by obtain⟨A,c,he,hi⟩:=h.known hok.out hv.out;rw[tZ] at he hi;exact⟨(A,c),he,hi,h.1⟩));have hz4:=zH hzl;have gQ:∀ W,qj.r wb W->∀ i,W.cell? ⟨w6.heap.size,i,none⟩=(qF (.slice B1 S1.bs.length d1) (.slice B2 S1.ws.length d2) (.slice B3 S1.now.length d3) (.slice B4 S1.last.length d4) gen (r1:Int) next (.slice B5 dead.length d5))[i]?:=fun W h=>qa (qb rqb h);have gP:∀ W,qj.r wb W->∀ i,W.cell? ⟨w.heap.size,i,none⟩=(qF (.slice A1 n1 c1) (.slice A2 n2 c2) (.slice A3 n3 c3) (.slice A4 n4 c4) gen root next (.slice A5 dead.length c5))[i]?:=fun W h=>qa (qb rpb h);have gV:∀ W,qj.r wb W->∀ i,W.cell? ⟨w4.heap.size,i,none⟩=#[.int .u32 v.id,.int .i64 v.root,.bool v.fz,.int .u32 v.frm][i]?:=fun W h=>qa (qb rvb h);have gW:∀ W,qj.r wb W->∀ i,W.cell? ⟨w8.heap.size,i,none⟩=#[.int .u32 v.id,.int .i64 v.root,.bool true,.int .u32 v.frm][i]?:=fun W h=>qa (qb rwb h);have xwb:=zH x6b;clear hzl aW HA HA2 rwb;replace tZ:=zH tZ;refine qdg (w:=wb) qj (qH [(28,Vs zs),(31,Vs zs),(32,one (.bool true))]) (List.replicate 35 true) 0 zQ zQ zQ zQ zQ zQ zQ ?st (Rel.drew _ _) ?walk
     case st=>exact qk (by simp only[List.forall_mem_cons];exact⟨VA zs,VA zs,fun _ _ _ _ _=>trivial,fun _ h=>by cases h⟩)
     case walk =>
      intro K hK;dsimp only[qu,List.replicate];refine zD2 ?_;refine qy (Vs zs) zA0 zA0 (fun W hW _=>?_) (fun p28=>?_)
      ·refine ju ?_ (H2.out W hW);go_simp
      obtain⟨A28,c28⟩:OA×Nat:=p28;refine zD2 ?_;refine qy (Vs zs) zA0 zA0 (fun W hW _=>?_) (fun p31=>?_)
      ·refine ju ?_ (H0.out W (xwb.out.trans hW));go_simp
      obtain⟨A31,c31⟩:OA×Nat:=p31;refine zD2 ?_;refine qy (one (.bool true)) zA0 zA0 (fun W hW hp=>?_) (fun (p:Unit)=>?_)
      ·have h28:Its W W.heap.size (.slice A28 zs.length c28) zs:=(hp 28 zD).1;have h31:Its W W.heap.size (.slice A31 zs.length c31) zs:=(hp 31 zD).1;refine ju ?_ ((qck A28 A31 c28 c31 zs hz4.out W h28 h31).mono fun e w' h=>⟨(),by rw[h.1];rfl,trivial,h.2⟩);go_simp
      refine zD2 ?_;refine qv (hK _ _ fun V hV hF=>?_);clear hF hK gQ gP gV gW;have hV:Ext wb V:=hV;have rpV:=qb rpb hV;have rvV:=qb rvb hV;have rqV:=qb rqb hV;have x6V:=xwb.out.trans hV;have kqV:=qa rqV;have kvV:=qa rvV;try dsimp only[List.drop,List.length_cons,List.length_nil]
      go_wp2;refine Qr ?_;go_wp2_with fail;refine(HF2.out V x6V).mono ?_;clear HF2 kqV kvV;rintro e wc ⟨hB,hq⟩;have x6c:Ext w6 wc:=x6V.trans hB;have rpc:=qb rpV hB;have rvc:=qb rvV hB;clear hB rpV rvV rqV x6V hV rpb rvb rqb;rcases hq with ⟨er,aG,rfl,-⟩|⟨r2,S2,u,hfz,rfl,hN⟩
      ·have hb:(er == 0)=false:=by rw[beq_eq_false_iff_ne];exact aG
       replace aG:=zH aG;go_wp2_with fail;exact KQ rfl rfl ⟨rfl,(x6.trans x6c).trans (zN _ _)⟩
      ·obtain⟨vs',v',hR⟩:=qdo hfz;obtain⟨refs0,nodes0,k1,-⟩:=hP.out.new;obtain⟨refs9,nodes9,k2,-⟩:=hR.ok;obtain rfl:=Qb.same k1 k2;have hv2:=hR.vol;rw[eX.out] at hv2;cases hv2;have wK:Qs (Tb (Vw (Vw v true) v.fz) (Tb (Vw v true) vs)) id=some v:=by rw[<-hid.out];exact qgf (Vw (Vw v true) v.fz) _
       have hz5:Ty S2 v.root=zs:=((hR.same _ _).trans (hP.out.same _ _)).trans tZ.out;obtain⟨C1,e1,C2,e2,C3,e3,C4,e4,C5,e5,rfl,hS,hI⟩:=hN.sto;have HO3:=zH (fun W (hx:Ext wc W)=>VT C1 _ e1 C2 _ e2 C3 _ e3 C4 _ e4 gen (r2:Int) next C5 e5 S2 dead id W (hS.ext hx) (hI.ext_ hx));have H3:=zH (fun W (hx:Ext wc W)=>(Gq C1 _ e1 C2 _ e2 C3 _ e3 C4 _ e4 gen (r2:Int) next C5 e5 S2 dead id W (hS.ext hx) (hI.ext_ hx)).mono fun e w' h=>(show ∃ p:OA×Nat,e=.returned ((Vs zs).f p)/\(Vs zs).φ p w'/\Ext W w' from by obtain⟨A,c,he,hi⟩:=h.known hR.new wK;rw[hz5] at he hi;exact⟨(A,c),he,hi,h.1⟩));replace hR:=zH hR;replace wK:=zH wK;clear hN hS hI k1 k2 refs0 nodes0 refs9 nodes9 hfz hz5;go_wp2_with fail;generalize hwd:World.alloc wc _=wd;have xcd:Ext wc wd:=hwd▸zN _ _
       have rr:wd.heap[wc.heap.size]?=some (.cells (qF (.slice C1 S2.bs.length e1) (.slice C2 S2.ws.length e2) (.slice C3 S2.now.length e3) (.slice C4 S2.last.length e4) gen (r2:Int) next (.slice C5 dead.length e5)) 32 (0,0)):=hwd▸zI _ _ _ rfl
       have rpd:=qb rpc xcd;have rvd:=qb rvc xcd;clear hwd rpc rvc;refine(HO3.out wd xcd).mono ?_;clear HO3;intro e we hq;have xce:Ext wc we:=xcd.trans hq.1;have rpe:=qb rpd hq.1;have rve:=qb rvd hq.1;have rre:=qb rr hq.1;obtain rfl:=hq.known hR.out.new;rw[wK.out];clear hq rpd rvd rr xcd;unfold volQ jz;go_upto_region 16 with fail;generalize aY:World.alloc we _=wf;have xef:Ext we wf:=aY▸zN _ _
       have xcf:=xce.trans xef;have ru:wf.heap[we.heap.size]?=some (.cells #[.int .u32 v.id,.int .i64 v.root,.bool v.fz,.int .u32 v.frm] 36 (0,0)):=aY▸zI _ _ _ rfl
       have rpf:=qb rpe xef;have rvf:=qb rve xef;have rrf:=qb rre xef;clear aY rpe rve rre xef xce;refine qp zQ ?_;have gP:∀ W,qj.r wf W->∀ i,W.cell? ⟨w.heap.size,i,none⟩=(qF (.slice A1 n1 c1) (.slice A2 n2 c2) (.slice A3 n3 c3) (.slice A4 n4 c4) gen root next (.slice A5 dead.length c5))[i]?:=fun W h=>qa (qb rpf h);have gR:∀ W,qj.r wf W->∀ i,W.cell? ⟨wc.heap.size,i,none⟩=(qF (.slice C1 S2.bs.length e1) (.slice C2 S2.ws.length e2) (.slice C3 S2.now.length e3) (.slice C4 S2.last.length e4) gen (r2:Int) next (.slice C5 dead.length e5))[i]?:=fun W h=>qa (qb rrf h);have gV:∀ W,qj.r wf W->∀ i,W.cell? ⟨w4.heap.size,i,none⟩=#[.int .u32 v.id,.int .i64 v.root,.bool v.fz,.int .u32 v.frm][i]?:=fun W h=>qa (qb rvf h);have gU:∀ W,qj.r wf W->∀ i,W.cell? ⟨we.heap.size,i,none⟩=#[.int .u32 v.id,.int .i64 v.root,.bool v.fz,.int .u32 v.frm][i]?:=fun W h=>qa (qb ru h);have xwf:=zH ((x6c.trans xcf));have xcfH:=zH xcf;clear rpf rvf rrf ru x6c xcf;refine qQ (w:=wf) qj (qH [(13,Vs zs),(16,Vs zs),(17,one (.bool true))]) (List.replicate 19 true) 1 zQ zQ zQ zQ zQ zQ zQ ?st (Rel.drew _ _) ?walk
       case st=>exact qk (by simp only[List.forall_mem_cons];exact⟨VA zs,VA zs,fun _ _ _ _ _=>trivial,fun _ h=>by cases h⟩)
       case walk =>
        intro K hK;dsimp only[qu,List.replicate];refine zD2 ?_;refine qy (Vs zs) zA0 zA0 (fun W hW _=>?_) (fun p28=>?_)
        ·refine ju ?_ (H3.out W (xcfH.out.trans hW));go_simp
        obtain⟨A28,c28⟩:OA×Nat:=p28;refine zD2 ?_;refine qy (Vs zs) zA0 zA0 (fun W hW _=>?_) (fun p31=>?_)
        ·refine ju ?_ (H0.out W (xwf.out.trans hW));go_simp
        obtain⟨A31,c31⟩:OA×Nat:=p31;refine zD2 ?_;refine qy (one (.bool true)) zA0 zA0 (fun W hW hp=>?_) (fun (p:Unit)=>?_)
        ·have h28:Its W W.heap.size (.slice A28 zs.length c28) zs:=(hp 13 zD).1;have h31:Its W W.heap.size (.slice A31 zs.length c31) zs:=(hp 16 zD).1;refine ju ?_ ((qck A28 A31 c28 c31 zs hz4.out W h28 h31).mono fun e w' h=>⟨(),by rw[h.1];rfl,trivial,h.2⟩);go_simp
        refine zD2 ?_;refine qv (hK _ _ fun V2 hV hF=>?_);clear hF hK gP gR gV gU;have hV:Ext wf V2:=hV;have xV:=(x6.trans xwf.out).trans hV;try dsimp only[List.drop,List.length_cons,List.length_nil]
        go_wp2;refine Qr ?_;go_wp2_with fail;exact KQ rfl rfl ⟨rfl,xV⟩
end Go.Proofs.YtmeadnlmepcmbaaGreat
namespace Go.Proofs.YtmeadnlmepcmbaaGreat
open Go.RowKit Go.ChangeShapes Go.WideShapes Go.ChangeAt
section
variable {H:Type} {enc:TypeId×Value->H} {P:Program} {W:World}
theorem qez (zs:List Int) (h:∀ n∈zs,(Lit.int .u8 n).wf=true):∃ l:List UInt8,zs.map (Value.int .u8)=l.map bv:=by
 induction zs with
 |nil=>exact⟨[],rfl⟩
 |cons z r ih =>
  obtain⟨l,hl⟩:=ih (fun n hn=>h n (List.mem_cons_of_mem _ hn));have hz:=h z (List.mem_cons_self);have hb:0<=z/\z<=255:=by simpa [Lit.wf,IntKind.min,IntKind.max,IntKind.signed,IntKind.bits] using hz
  refine⟨UInt8.ofNat z.toNat :: l,?_⟩;simp only[List.map_cons,hl];congr 1;simp only[bv];congr 1;have:(UInt8.ofNat z.toNat).toNat=z.toNat % 256:=zA2;rw[this];omega
theorem Xv {a:Addr} {n c:Nat} {xs:List Value} (hn:n<=c) (hlen:xs.length=n) (hb:∀ x∈MemPlace.row a c,x.block<W.heap.size) (hc:∀ i u,xs[i]?=some u->W.cell? (a.add i)=some u):Rd W W.heap.size 1 (some a) n xs:=by
 refine⟨zO,fun h0=>?_⟩;obtain⟨u,hu⟩:∃ u,xs[0]?=some u:=⟨_,zL zO⟩
 have h1:=hc 0 u hu;have aN:a.spot=none:=by
  have:(a.add 0)=a:=by simp[Addr.add]
  rw[this] at h1;unfold World.cell? at h1;split at h1
  ·cases hs:a.spot with
   |none=>rfl
   |some s=>rw[hs] at h1;simp at h1
  ·cases h1
 obtain⟨b,off,sp⟩:=a;simp only at aN;subst aN;have cZ:b<W.heap.size:=by have:W.cell? ((⟨b,off,none⟩:Addr).add 0)=some u:=h1;have h2:=World.block_lt_of_cell? W _ this;simpa [Addr.add] using h2
 refine⟨b,off,rfl,cZ,fun j v hv=>?_⟩;rw[<-hc j v hv];unfold Addr.add;split
 ·subst_vars;rfl
 ·rfl
theorem Xu {t e:TypeId} {fuel:Nat} {cs:List Value} {d:DataW H} {p:List MemPlace} (ht:P.underlying t=some (.slice e)) (he:P.underlying e=some (.int .u8)) (hc:P.cellsOf e=1) (h:DataW.trod enc P W 0 (fun _=>true) true fuel t cs=some (d,p)) (hlt:∀ x∈p,x.block<W.heap.size):∃ A n c,cs=[.slice A n c]/\n<=c/\∃ l:List UInt8,Bys W W.heap.size (.slice A n c) l/\l.length=n:=by
 rcases open_ints ht he hc h with ⟨rfl,_⟩|⟨a,len,cap,zs,rfl,_,hl,hm,hz,hx,aC,aY⟩
 ·exact⟨none,0,0,rfl,zM _,[],Bys.nil W _,rfl⟩
 ·simp only[if_true] at hz;obtain⟨l,uZ⟩:=qez (zs.take len) (fun n hn=>aY n (List.mem_of_mem_take hn));have hll:l.length=len:=by have:=congrArg List.length uZ;simp only[List.length_map,List.length_take] at this;omega
  refine⟨some a,len,cap,rfl,hl,l,⟨some a,cap,by rw[hll],zO,hm,?_⟩,hll⟩;rw[hll];refine Xv (c:=cap) hl (by simp[hll]) (fun x tY=>hlt x ?_) (fun i u hu=>?_)
  ·have e2:p=MemPlace.row a zs.length:=by injection hx
   rw[e2,hz];exact tY
  ·rw[<-uZ] at hu;rw[List.getElem?_map,List.getElem?_take] at hu;split at hu
   ·rename_i hi;rw[aC i zO];rw[<-hu];simp[zL (show i<zs.length by omega)]
   ·cases hu
theorem JX {t:TypeId} {fs:Array Field} {fuel:Nat} {cs:List Value} {x:DataW H×List MemPlace} (ht:P.underlying t=some (.struct fs)) (h:DataW.trod enc P W 0 (fun _=>true) true fuel t cs=some x) : ∃ (xs:List (DataW H×List MemPlace)) (n:Nat),cs.length=P.cellsOf t/\xs.length=fs.size/\x.2=xs.flatMap (·.2) /\ ∀ (i:Nat) (T:TypeId) (off m:Nat),(fs[i]?).map (fun f=>(f.type,f.offset))=some (T,off)->P.cellsOf T=m->DataW.trod enc P W 0 (fun _=>true) true n T ((cs.drop off).take m)=xs[i]?:=by
 obtain⟨xs,n,_,hx,hl,fC,hf⟩:=DataW.trod_struct ht h;refine⟨xs,n,hl,fC,by rw[hx],fun i T off m hi hm=>?_⟩;obtain⟨f,hfi,he⟩:=Option.map_eq_some_iff.1 hi;have:=hf i f hfi;simp only[Prod.mk.injEq] at he;rw[he.1,he.2,hm] at this;exact this
end
section
variable {H:Type} {enc:TypeId×Value->H} {P:Program}
theorem Tq (hl:laidOutB P=true) {W W':World} {sp:Nat->Bool}:∀ (ts:List TypeId) (vs:List Value) (ds:List (DataW H)) (p:List MemPlace),DataW.TrodAll enc P W 0 (fun _=>true) true ts vs ds p -> (∀ t∈ts,P.readableRec t=true/\t<P.types.size)->(∀ x∈p,W.sameAt W' x)->(∀ x∈p,sp x.block=true)->DataW.TrodAll enc P W' 0 sp true ts vs ds p
 | [],vs,ds,p,h,_,_,_=>by obtain⟨rfl,rfl,rfl⟩:=trodAll_nil h;exact trodAll_mk0
 |t :: ts,vs,ds,p,h,ht,hs,aN=>by
  obtain⟨v,vs',d,ds',p0,q0,rfl,rfl,rfl,h0,h1⟩:=trodAll_cons h;have e:=ht t (List.mem_cons_self);exact trodAll_cons_mk (WideElems.Trod_stays hl e.1 e.2 h0 (fun x hx=>hs x (List.mem_append_left _ hx)) (fun x hx=>aN x (List.mem_append_left _ hx)))
   (Tq hl ts vs' ds' q0 h1 (fun t' h'=>ht t' (List.mem_cons_of_mem _ h')) (fun x hx=>hs x (List.mem_append_right _ hx)) (fun x hx=>aN x (List.mem_append_right _ hx)))
theorem law_post {f:Func} {s:ChangeSpec} {W W':World} {args:Array Value} {ds gs:List (DataW H)} {before:List MemPlace} {b:TypeId} (hv:s.vars=[]) (hl:laidOutB P=true) (hr:f.resultTypes=#[b]) (hb:P.underlying b=some .bool) (ht:∀ t∈f.params.toList,P.readableRec t=true/\t<P.types.size) (hW:DataW.Whole enc P f.params.toList s.vars false W args.toList ds gs before) (hs:s.fn H (ds++gs)={ results:=[.lit (.bool true)],args:=ds,vars:=[] }) (hB:Below W.heap.size W W'):s.post enc P f false true false false W args (.bool true) W':=by
 have hlt:∀ x∈before,x.block<W.heap.size:=fun x hx=>hW.lt x hx;have oO:=hW;obtain⟨p,q,hA,hV,rfl,_,_⟩:=hW;have hq:q=[]:=by
  rw[hv] at hV;cases gs with
  |nil=>exact hV
  |cons g gs=>cases hV
 subst hq;refine⟨ds,gs,p++[],[],p,[],oO,?_,?_,?_,?_,fun h=>by cases h⟩
 ·rw[hs,hr];exact trodAll_cons_mk (shut_bool hb true) trodAll_mk0
 ·rw[hs];exact Tq hl _ _ _ _ hA ht (fun x hx=>hB.same (hlt x (by simpa using hx))) (fun x hx=>by simpa using hlt x (by simpa using hx))
 ·rw[hs,hv];exact rfl
 ·exact World.keptBut_mono (fun x hx=>⟨by simpa using hx,Or.inr (Or.inl hx)⟩) (hB.frame (· ∈ p))
end
end Go.Proofs.YtmeadnlmepcmbaaGreat
namespace Go.Proofs.YtmeadnlmepcmbaaGreat
open Go.RowKit Go.ChangeShapes Go.WideShapes Go.ChangeAt Go.Deep
theorem Tryz.cc_u8:Tryz.prog.cellsOf 5=1:=zQ
theorem Tryz.cc_u32:Tryz.prog.cellsOf 29=1:=zQ
theorem Tryz.cc_int:Tryz.prog.cellsOf 3=1:=zQ
theorem Tryz.cc_bytes:Tryz.prog.cellsOf 26=1:=zQ
theorem Tryz.cc_blocks:Tryz.prog.cellsOf 22=1:=zQ
theorem Tryz.cc_writes:Tryz.prog.cellsOf 23=1:=zQ
theorem Tryz.cc_ints:Tryz.prog.cellsOf 30=1:=zQ
theorem Tryz.cc_write:Tryz.prog.cellsOf 142=2:=zQ
theorem Tryz.cc_disk:Tryz.prog.cellsOf 25=2:=zQ
theorem Tryz.cc_store:Tryz.prog.cellsOf 28=4:=zQ
theorem Tryz.cc_pool:Tryz.prog.cellsOf 32=8:=zQ
section
variable {H:Type} {enc:TypeId×Value->H} {W:World}
theorem qeP {size:Nat} {a:Addr} {n:Nat} {xs:List Value} (hlen:xs.length=n*size) (hz:0<size) (hb:∀ x∈MemPlace.row a (n*size),x.block<W.heap.size) (hc:∀ i u,xs[i]?=some u->W.cell? (a.add i)=some u):Rd W W.heap.size size (some a) n xs:=by
 refine⟨hlen,fun h0=>?_⟩;have dZ:0<xs.length:=by rw[hlen];exact Nat.mul_pos h0 hz
 obtain⟨u,hu⟩:∃ u,xs[0]?=some u:=⟨_,zL dZ⟩
 have h1:=hc 0 u hu;have aN:a.spot=none:=by
  have:(a.add 0)=a:=by simp[Addr.add]
  rw[this] at h1;unfold World.cell? at h1;split at h1
  ·cases hs:a.spot with
   |none=>rfl
   |some s=>rw[hs] at h1;simp at h1
  ·cases h1
 obtain⟨b,off,sp⟩:=a;simp only at aN;subst aN;have cZ:b<W.heap.size:=by have:W.cell? ((⟨b,off,none⟩:Addr).add 0)=some u:=h1;have h2:=World.block_lt_of_cell? W _ this;simpa [Addr.add] using h2
 refine⟨b,off,rfl,cZ,fun j v hv=>?_⟩;rw[<-hc j v hv];unfold Addr.add;split
 ·subst_vars;rfl
 ·rfl
theorem qkP {fuel:Nat} {cs:List Value} {d:DataW H} {p:List MemPlace} (h:DataW.trod enc prog W 0 (fun _=>true) true fuel 22 cs=some (d,p)) (hlt:∀ x∈p,x.block<W.heap.size) : ∃ A c bs,cs=[.slice A bs.length c]/\Bls W W.heap.size (.slice A bs.length c) bs:=by
 rcases open_slice1 underlying22 Tryz.cc_bytes h with ⟨rfl,_⟩|⟨a,len,cap,m,n,V,D,Pl,rfl,_,hl,hm,hmm,hx,hel⟩
 ·exact⟨none,0,[],rfl,[],none,0,rfl,zM _,by simp[maxLen],Rd.none_,fun i u l hu=>by simp at hu⟩
 ·simp only[if_true] at hmm;subst hmm;have hp:p=MemPlace.row a m++(List.range m).flatMap Pl:=congrArg Prod.snd hx;have hb:∀ i,i<len->∃ l:List UInt8,Bys W W.heap.size (V i) l:=fun i hi=>by obtain⟨_,h2⟩:=hel i zO;obtain⟨A,n',c',e,_,l,aS,_⟩:=Xu underlying26 underlying5 Tryz.cc_u8 h2 (fun x tY=>hlt x (by rw[hp];exact List.mem_append_right _ (List.mem_flatMap.2 ⟨i,List.mem_range.2 zO,tY⟩)));simp only[List.cons.injEq,and_true] at e;exact⟨l,by rw[e];exact aS⟩
  obtain⟨L,hL⟩:=choose_lt (α:=List UInt8) (p:=fun i l=>Bys W W.heap.size (V i) l) hb;refine⟨some a,m,(List.range len).map L,zA2,(List.range len).map V,some a,m,zA2,by simpa using hl,hm,?_,fun i u l hu hll=>?_⟩
  ·rw[List.length_map,List.length_range];refine Xv (c:=m) hl zA2 (fun x tY=>hlt x (by rw[hp];exact List.mem_append_left _ tY)) (fun i u hu=>?_);have hi:i<len:=by have:=(List.getElem?_eq_some_iff.1 hu).1;simpa using this
   rw[List.getElem?_map,List.getElem?_range hi] at hu;cases hu;exact(hel i zO).1
  ·have hi:i<len:=by have:=(List.getElem?_eq_some_iff.1 hu).1;simpa using this
   rw[List.getElem?_map,List.getElem?_range hi] at hu hll;cases hu;cases hll;exact hL i hi
theorem rd_write {fuel:Nat} {cs:List Value} {d:DataW H} {p:List MemPlace} (h:DataW.trod enc prog W 0 (fun _=>true) true fuel 142 cs=some (d,p)) (hlt:∀ x∈p,x.block<W.heap.size) : ∃ a A l c,cs=[.int .i64 a,.slice A l.length c]/\Bys W W.heap.size (.slice A l.length c) l/\(Lit.int .i64 a).wf=true:=by
 obtain⟨xs,n,hl,fC,hp,hf⟩:=JX underlying142 h;rw[Tryz.cc_write] at hl
 match cs,hl with
 | [c0,c1],_ =>
  match xs,fC with
  | [y0,y1],_ =>
   have g0:_=some y0:=hf 0 3 0 1 rfl Tryz.cc_int;have g1:_=some y1:=hf 1 26 1 1 rfl Tryz.cc_bytes;simp only[List.drop,List.take] at g0 g1;obtain⟨a,ea,_,wa⟩:=DataW.trod_int underlying3 g0;have dV:p=y0.2++(y1.2++[]):=hp;obtain⟨d1,p1⟩:=y1;obtain⟨A,m,c,es,hmc,l,hb,hlen⟩:=Xu underlying26 underlying5 Tryz.cc_u8 g1 (fun x hx=>hlt x (by rw[dV];simp[hx]));simp only[List.cons.injEq,and_true] at ea es;subst ea es hlen;exact⟨a,A,l,c,rfl,hb,wa⟩
theorem qkQ {fuel:Nat} {cs:List Value} {d:DataW H} {p:List MemPlace} (h:DataW.trod enc prog W 0 (fun _=>true) true fuel 23 cs=some (d,p)) (hlt:∀ x∈p,x.block<W.heap.size) : ∃ A c ws,cs=[.slice A ws.length c]/\Wrs W W.heap.size (.slice A ws.length c) ws:=by
 rcases open_slice underlying23 h with ⟨rfl,_⟩|⟨a,len,cap,m,n,D,Pl,rfl,_,hl,hm,hmm,hx,hel⟩
 ·exact⟨none,0,[],rfl,[],rfl,⟨none,0,rfl,zM _,by simp[maxLen],Rd.none_⟩,fun p h=>by cases h⟩
 ·simp only[if_true] at hmm;subst hmm;rw[Tryz.cc_write] at hx hel;have hp:p=MemPlace.row a (m*2)++(List.range m).flatMap Pl:=congrArg Prod.snd hx;have hb:∀ i,i<len->∃ q:(Int×List UInt8)×Value,(∃ A c,q.2=.slice A q.1.2.length c)/\Bys W W.heap.size q.2 q.1.2/\W.cell? (a.add (i*2))=some (.int .i64 q.1.1)/\W.cell? (a.add (i*2+1))=some q.2:=fun i hi=>by
   obtain⟨cs',h1,h2⟩:=hel i zO;obtain⟨_,_,h3⟩:=World.cells?_some h1;obtain⟨r,A,l,c,rfl,aS,_⟩:=rd_write h2 (fun x tY=>hlt x (by rw[hp];exact List.mem_append_right _ (List.mem_flatMap.2 ⟨i,List.mem_range.2 zO,tY⟩)));have e0:=h3 0 zO;have e1:=h3 1 zO;have ea:∀ j,(a.add (i*2)).add j=a.add (i*2+j):=fun j=>by
    unfold Addr.add
    repeat' split
    all_goals simp_all
    all_goals omega
   rw[ea] at e0 e1;exact⟨((r,l),.slice A l.length c),⟨A,c,rfl⟩,aS,e0,e1⟩
  obtain⟨Q,hQ⟩:=choose_lt (α:=(Int×List UInt8)×Value) (p:=fun i q=>(∃ A c,q.2=.slice A q.1.2.length c)/\Bys W W.heap.size q.2 q.1.2/\W.cell? (a.add (i*2))=some (.int .i64 q.1.1)/\W.cell? (a.add (i*2+1))=some q.2) hb;refine⟨some a,m,((List.range len).map Q).map (·.1),zA2,(List.range len).map Q,rfl,⟨some a,m,zA2,by simpa using hl,hm,?_⟩,fun q hq=>?_⟩
  ·rw[List.length_map,List.length_map,List.length_range];refine qeP (by rw[Yg];simp) zO (fun x tY=>hlt x ?_) (fun j u hu=>?_)
   ·rw[hp];refine List.mem_append_left _ ?_;unfold MemPlace.row at tY ⊢;rw[List.mem_map] at tY ⊢;obtain⟨k,hk,e⟩:=tY;exact⟨k,List.mem_range.2 (by have:=List.mem_range.1 hk;omega),e⟩
   ·have hj:j<len*2:=by have:=(List.getElem?_eq_some_iff.1 hu).1;rw[Yg] at this;simpa using this
    obtain⟨c0,c1⟩:=KB ((List.range len).map Q) (j / 2) zA1;obtain⟨_,_,q0,q1⟩:=hQ (j / 2) zO;rcases(show j=j / 2*2\/j=j / 2*2+1 by omega) with e|e
    ·have hu':some u=some _:=(hu.symm.trans (congrArg (fun t=>(jd ((List.range len).map Q))[t]?) e)).trans c0;cases hu';rw[show a.add j=a.add (j / 2*2) from congrArg _ e,q0];simp
    ·have hu':some u=some _:=(hu.symm.trans (congrArg (fun t=>(jd ((List.range len).map Q))[t]?) e)).trans c1;cases hu';rw[show a.add j=a.add (j / 2*2+1) from congrArg _ e,q1];simp
  ·obtain⟨i,hi,rfl⟩:=List.mem_map.1 hq;obtain⟨q0,q1,_⟩:=hQ i (List.mem_range.1 hi);exact⟨q0,q1⟩
theorem rd_ints {fuel:Nat} {cs:List Value} {d:DataW H} {p:List MemPlace} (h:DataW.trod enc prog W 0 (fun _=>true) true fuel 30 cs=some (d,p)) (hlt:∀ x∈p,x.block<W.heap.size) : ∃ A c l,cs=[.slice A l.length c]/\Zv W W.heap.size (.slice A l.length c) l/\∀ a∈l,(Lit.int .i64 a).wf=true:=by
 rcases open_ints underlying30 underlying3 Tryz.cc_int h with ⟨rfl,_⟩|⟨a,len,cap,zs,rfl,_,hl,hm,hz,hx,aC,aY⟩
 ·exact⟨none,0,[],rfl,⟨none,0,rfl,zM _,by simp[maxLen],Rd.none_⟩,fun a h=>by cases h⟩
 ·simp only[if_true] at hz;have hp:p=MemPlace.row a zs.length:=congrArg Prod.snd hx;have hll:(zs.take len).length=len:=by rw[List.length_take];omega
  refine⟨some a,cap,zs.take len,by rw[hll],⟨some a,cap,rfl,zO,hm,?_⟩,fun n hn=>aY n (List.mem_of_mem_take hn)⟩;rw[hll];refine Xv (c:=cap) hl zA1 (fun x tY=>hlt x (by rw[hp,hz];exact tY)) (fun i u hu=>?_);rw[List.getElem?_map,List.getElem?_take] at hu;split at hu
  ·rename_i hi;rw[aC i zO,<-hu];simp[zL (show i<zs.length by omega)]
  ·cases hu
theorem rd_disk {fuel:Nat} {cs:List Value} {d:DataW H} {p:List MemPlace} (h:DataW.trod enc prog W 0 (fun _=>true) true fuel 25 cs=some (d,p)) (hlt:∀ x∈p,x.block<W.heap.size) : ∃ A1 c1 A2 c2 bs ws,cs=[.slice A1 (List.length bs) c1,.slice A2 (List.length ws) c2]/\Bls W W.heap.size (.slice A1 bs.length c1) bs/\Wrs W W.heap.size (.slice A2 ws.length c2) ws:=by
 obtain⟨xs,n,hl,fC,hp,hf⟩:=JX underlying25 h;rw[Tryz.cc_disk] at hl
 match cs,hl with
 | [c0,c1],_ =>
  match xs,fC with
  | [(d0,p0),(d1,p1)],_ =>
   have g0:_=some (d0,p0):=hf 0 22 0 1 rfl Tryz.cc_blocks;have g1:_=some (d1,p1):=hf 1 23 1 1 rfl Tryz.cc_writes;simp only[List.drop,List.take] at g0 g1;have dV:p=p0++(p1++[]):=hp;obtain⟨A1,k1,bs,e1,h1⟩:=qkP g0 (fun x hx=>hlt x (by rw[dV];simp[hx]));obtain⟨A2,k2,ws,e2,h2⟩:=qkQ g1 (fun x hx=>hlt x (by rw[dV];simp[hx]));simp only[List.cons.injEq,and_true] at e1 e2;subst e1 e2;exact⟨A1,k1,A2,k2,bs,ws,rfl,h1,h2⟩
theorem rd_store {fuel:Nat} {cs:List Value} {d:DataW H} {p:List MemPlace} (h:DataW.trod enc prog W 0 (fun _=>true) true fuel 28 cs=some (d,p)) (hlt:∀ x∈p,x.block<W.heap.size) : ∃ A1 c1 A2 c2 A3 c3 A4 c4,∃ S:Sto,cs=[.slice A1 S.bs.length c1,.slice A2 S.ws.length c2,.slice A3 S.now.length c3,.slice A4 S.last.length c4]/\qV W W.heap.size (.slice A1 S.bs.length c1) (.slice A2 S.ws.length c2) (.slice A3 S.now.length c3) (.slice A4 S.last.length c4) S:=by
 obtain⟨xs,n,hl,fC,hp,hf⟩:=JX underlying28 h;rw[Tryz.cc_store] at hl
 match cs,hl with
 | [c0,c1,c2,c3],_ =>
  match xs,fC with
  | [(d0,p0),(d1,p1),(d2,p2)],_ =>
   have g0:_=some (d0,p0):=hf 0 25 0 2 rfl Tryz.cc_disk;have g1:_=some (d1,p1):=hf 1 26 2 1 rfl Tryz.cc_bytes;have g2:_=some (d2,p2):=hf 2 26 3 1 rfl Tryz.cc_bytes;simp only[List.drop,List.take] at g0 g1 g2;have dV:p=p0++(p1++(p2++[])):=hp;obtain⟨A1,k1,A2,k2,bs,ws,e1,h1,h2⟩:=rd_disk g0 (fun x hx=>hlt x (by rw[dV];simp[hx]));obtain⟨A3,n3,k3,e3,_,l3,h3,q3⟩:=Xu underlying26 underlying5 Tryz.cc_u8 g1 (fun x hx=>hlt x (by rw[dV];simp[hx]));obtain⟨A4,n4,k4,e4,_,l4,h4,q4⟩:=Xu underlying26 underlying5 Tryz.cc_u8 g2 (fun x hx=>hlt x (by rw[dV];simp[hx]));simp only[List.cons.injEq,and_true] at e1 e3 e4;obtain⟨rfl,rfl⟩:=e1;subst e3 e4 q3 q4;exact⟨A1,k1,A2,k2,A3,k3,A4,k4,⟨bs,ws,l3,l4⟩,rfl,h1,h2,h3,h4⟩
theorem rd_pool {fuel:Nat} {cs:List Value} {d:DataW H} {p:List MemPlace} (h:DataW.trod enc prog W 0 (fun _=>true) true fuel 32 cs=some (d,p)) (hlt:∀ x∈p,x.block<W.heap.size) : ∃ A1 c1 A2 c2 A3 c3 A4 c4 gen root next A5 c5,∃ (S:Sto) (dead:List Int),cs=(qF (.slice A1 S.bs.length c1) (.slice A2 S.ws.length c2) (.slice A3 S.now.length c3) (.slice A4 S.last.length c4) gen root next (.slice A5 dead.length c5)).toList /\
   qV W W.heap.size (.slice A1 S.bs.length c1) (.slice A2 S.ws.length c2) (.slice A3 S.now.length c3) (.slice A4 S.last.length c4) S/\Zv W W.heap.size (.slice A5 dead.length c5) dead /\
   (Lit.int .u32 gen).wf=true/\(Lit.int .i64 root).wf=true/\(Lit.int .u32 next).wf=true/\∀ a∈dead,(Lit.int .i64 a).wf=true:=by
 obtain⟨xs,n,hl,fC,hp,hf⟩:=JX underlying32 h;rw[Tryz.cc_pool] at hl
 match cs,hl with
 | [c0,c1,c2,c3,c4,c5,c6,c7],_ =>
  match xs,fC with
  | [(d0,p0),(d1,p1),(d2,p2),(d3,p3),(d4,p4)],_ =>
   have g0:_=some (d0,p0):=hf 0 28 0 4 rfl Tryz.cc_store;have g1:_=some (d1,p1):=hf 1 29 4 1 rfl Tryz.cc_u32;have g2:_=some (d2,p2):=hf 2 3 5 1 rfl Tryz.cc_int;have g3:_=some (d3,p3):=hf 3 29 6 1 rfl Tryz.cc_u32;have g4:_=some (d4,p4):=hf 4 30 7 1 rfl Tryz.cc_ints;simp only[List.drop,List.take] at g0 g1 g2 g3 g4;have dV:p=p0++(p1++(p2++(p3++(p4++[])))):=hp;obtain⟨A1,k1,A2,k2,A3,k3,A4,k4,S,e0,hS⟩:=rd_store g0 (fun x hx=>hlt x (by rw[dV];simp[hx]));obtain⟨gen,e1,_,w1⟩:=DataW.trod_int underlying29 g1;obtain⟨root,e2,_,w2⟩:=DataW.trod_int underlying3 g2;obtain⟨next,e3,_,w3⟩:=DataW.trod_int underlying29 g3;obtain⟨A5,k5,dead,e4,hd,w4⟩:=rd_ints g4 (fun x hx=>hlt x (by rw[dV];simp[hx]));simp only[List.cons.injEq,and_true] at e0 e1 e2 e3 e4;obtain⟨rfl,rfl,rfl,rfl⟩:=e0;subst e1 e2 e3 e4;exact⟨A1,k1,A2,k2,A3,k3,A4,k4,gen,root,next,A5,k5,S,dead,rfl,hS,hd,w1,w2,w3,w4⟩
end
end Go.Proofs.YtmeadnlmepcmbaaGreat
namespace Go.Proofs.YtmeadnlmepcmbaaGreat
open Go.RowKit Go.ChangeShapes Go.WideShapes Go.ChangeAt
theorem Tryz.c_u8:Tryz.prog.cellsOf 5=1:=zQ
theorem Tryz.c_u32:Tryz.prog.cellsOf 29=1:=zQ
theorem Tryz.c_int:Tryz.prog.cellsOf 3=1:=zQ
theorem Tryz.c_bytes:Tryz.prog.cellsOf 26=1:=zQ
theorem Tryz.c_key:Tryz.prog.cellsOf 49=3:=zQ
theorem Tryz.c_item:Tryz.prog.cellsOf 51=5:=zQ
section
variable {H:Type} {enc:TypeId×Value->H} {W:World}
theorem rd_key {fuel:Nat} {cs:List Value} {x:DataW H×List MemPlace} (h:DataW.trod enc prog W 0 (fun _=>true) true fuel 49 cs=some x):∃ a b c,cs=[.int .u8 a,.int .u32 b,.int .u32 c]/\(Lit.int .u8 a).wf=true/\(Lit.int .u32 b).wf=true/\(Lit.int .u32 c).wf=true:=by
 obtain⟨xs,n,hl,fC,_,hf⟩:=JX underlying49 h;rw[Tryz.c_key] at hl
 match cs,hl with
 | [c0,c1,c2],_ =>
  have hx:∀ i,i<3->∃ y,xs[i]?=some y:=fun i hi=>⟨_,zL (by rw[fC];exact hi)⟩
  obtain⟨y0,e0⟩:=hx 0 zO;obtain⟨y1,e1⟩:=hx 1 zO;obtain⟨y2,e2⟩:=hx 2 zO;have g0:=(hf 0 5 0 1 rfl Tryz.c_u8).trans e0;have g1:=(hf 1 29 1 1 rfl Tryz.c_u32).trans e1;have g2:=(hf 2 29 2 1 rfl Tryz.c_u32).trans e2;simp only[List.drop,List.take] at g0 g1 g2;obtain⟨a,ea,_,wa⟩:=DataW.trod_int underlying5 g0;obtain⟨b,eb,_,wb⟩:=DataW.trod_int underlying29 g1;obtain⟨c,ec,_,wc⟩:=DataW.trod_int underlying29 g2;simp only[List.cons.injEq,and_true] at ea eb ec;subst ea eb ec;exact⟨a,b,c,rfl,wa,wb,wc⟩
theorem rd_item {fuel:Nat} {cs:List Value} {d:DataW H} {p:List MemPlace} (h:DataW.trod enc prog W 0 (fun _=>true) true fuel 51 cs=some (d,p)) (hlt:∀ x∈p,x.block<W.heap.size) : ∃ k i o r A n c,cs=[.int .u8 k,.int .u32 i,.int .u32 o,.int .i64 r,.slice A n c]/\n<=c/\(∃ l:List UInt8,Bys W W.heap.size (.slice A n c) l/\l.length=n)/\(Lit.int .u8 k).wf=true/\(Lit.int .u32 i).wf=true/\(Lit.int .u32 o).wf=true/\(Lit.int .i64 r).wf=true:=by
 obtain⟨xs,n,hl,fC,hp,hf⟩:=JX underlying51 h;rw[Tryz.c_item] at hl
 match cs,hl with
 | [c0,c1,c2,c3,c4],_ =>
  match xs,fC with
  | [y0,y1,y2],_ =>
   have g0:_=some y0:=hf 0 49 0 3 rfl Tryz.c_key;have g1:_=some y1:=hf 1 3 3 1 rfl Tryz.c_int;have g2:_=some y2:=hf 2 26 4 1 rfl Tryz.c_bytes;simp only[List.drop,List.take] at g0 g1 g2;obtain⟨k,i,o,ek,w1,w2,w3⟩:=rd_key g0;obtain⟨r,er,_,w4⟩:=DataW.trod_int underlying3 g1;have dV:p=y0.2++(y1.2++(y2.2++[])):=hp;obtain⟨d2,p2⟩:=y2;obtain⟨A,m,c,es,hmc,l,hb,hlen⟩:=Xu underlying26 underlying5 Tryz.c_u8 g2 (fun x hx=>hlt x (by rw[dV];simp[hx]));simp only[List.cons.injEq,and_true] at ek er es;obtain⟨rfl,rfl,rfl⟩:=ek;subst er es;exact⟨k,i,o,r,A,m,c,rfl,hmc,⟨l,hb,hlen⟩,w1,w2,w3,w4⟩
end
end Go.Proofs.YtmeadnlmepcmbaaGreat
namespace Go.Proofs.YtmeadnlmepcmbaaGreat.snapFreezes
set_option linter.unusedSimpArgs false
set_option linter.unusedVariables false
open Go.ChangeShapes Go.WideShapes Go.ChangeAt Go.RowKit
theorem own:ownKnob Tryz.prog.godebug=none:=zQ
theorem u32_of {n:Int} (h:(Lit.int .u32 n).wf=true):0<=n/\n<4294967296:=by
 have h2:IntKind.u32.min<=n/\n<=IntKind.u32.max:=by simpa [Lit.wf] using h
 simp[IntKind.min,IntKind.max,IntKind.bits,IntKind.signed] at h2;omega
theorem u8_of {n:Int} (h:(Lit.int .u8 n).wf=true):0<=n/\n<256:=by
 have h2:IntKind.u8.min<=n/\n<=IntKind.u8.max:=by simpa [Lit.wf] using h
 simp[IntKind.min,IntKind.max,IntKind.bits,IntKind.signed] at h2;omega
theorem item_ok {k i o r:Int} {l:List UInt8} (h1:(Lit.int .u8 k).wf=true) (h2:(Lit.int .u32 i).wf=true) (h3:(Lit.int .u32 o).wf=true) (h:itB (⟨k,i,o,r,l⟩:It).r (⟨k,i,o,r,l⟩:It).val.length=true):zu ⟨k,i,o,r,l⟩:=by unfold itB at h;rw[decide_eq_true_eq] at h;have h4:=h.1;simp only at h4;exact⟨u8_of h1,u32_of h2,u32_of h3,⟨by show 0<=r;omega,by show r<256;omega⟩,h.2⟩
theorem laidOut:laidOutB prog=true:=zQ
set_option maxRecDepth 100000 in
theorem lifted (os:Os) (started:os.Started) (H:Type) (enc:TypeId×Value->H):ReturnsInHanded {} checked os 5 .any (Rows.snapFreezesSpec.pre6 enc prog Tryz.f5 Rows.snapFreezesRow.domain false) (Rows.snapFreezesSpec.post enc prog Tryz.f5 false true false false):=by
 refine returnsInHanded_of_change (C:=checked) own started zQ func5
  (ChangeSpec.witness6 (enc:=enc) (C:=checked) false ⟨#[],#[.agg (qF (.slice none 0 0) (.slice none 0 0) (.slice none 0 0) (.slice none 0 0) 0 0 0 (.slice none 0 0)),.int .u32 0,.agg #[.int .u8 0,.int .u32 0,.int .u32 0,.int .i64 0,.slice none 0 0]],[]⟩ 8 zQ zQ zQ zQ) ?_
 intro W base args ds gs before hPD hW hcnd _;have xu:∀ (j:Nat) t v,Tryz.f5.params[j]?=some t->args[j]?=some v->Value.okWide prog W .any base t v:=hPD;have au:=hW;have hlt:∀ x∈before,x.block<W.heap.size:=fun x hx=>hW.lt x hx;obtain⟨p,q,hA0,hV,rfl,hfz,hnd⟩:=hW;have hA:DataW.TrodAll enc prog W 0 (fun _=>true) true Tryz.f5.params.toList args.toList ds p:=hA0;rw[params5] at hA xu;obtain⟨v0,vs0,d0,ds0,p0,q0,hargs,rfl,rfl,h0,r0⟩:=trodAll_cons hA;obtain⟨v1,vs1,d1,ds1,p1,q1,rfl,rfl,rfl,h1,r1⟩:=trodAll_cons r0;obtain⟨v2,vs2,d2,ds2,p2,q2,rfl,rfl,rfl,h2,r2⟩:=trodAll_cons r1;obtain⟨rfl,rfl,rfl⟩:=trodAll_nil r2;obtain rfl:args=#[v0,v1,v2]:=by cases args;simp_all
 obtain⟨rfl,rfl⟩:=trodVars_none hV;obtain⟨cs0,rfl,_⟩:=okWide_struct underlying32 (xu 0 32 v0 rfl rfl);obtain⟨id,rfl⟩:=okWide_int underlying29 (xu 1 29 v1 rfl rfl);obtain⟨cs2,rfl,_⟩:=okWide_struct underlying51 (xu 2 51 v2 rfl rfl);obtain⟨n0,h0⟩:=h0;obtain⟨n1,h1⟩:=h1;obtain⟨n2,h2⟩:=h2;obtain⟨A1,c1,A2,c2,A3,c3,A4,c4,gen,root,next,A5,c5,S,dead,e0,hS,hd,_,_,wn,_⟩:=rd_pool h0 (fun x hx=>hlt x (by simp[hx]));have e0':cs0=qF (.slice A1 S.bs.length c1) (.slice A2 S.ws.length c2) (.slice A3 S.now.length c3) (.slice A4 S.last.length c4) gen root next (.slice A5 dead.length c5):=by obtain⟨cs0⟩:=cs0;have:cs0=_:=e0;rw[this]
 subst e0';obtain⟨ik,ii,io,ir,Ax,nx,cx,e2,gZ,⟨l,hb,hl⟩,w1,w2,w3,w4⟩:=rd_item h2 (fun x hx=>hlt x (by simp[hx]));have e2':cs2=#[.int .u8 ik,.int .u32 ii,.int .u32 io,.int .i64 ir,.slice Ax nx cx]:=by obtain⟨cs2⟩:=cs2;have:cs2=_:=e2;rw[this]
 subst e2' hl;have walk:Calls prog 5 #[.agg (qF (.slice A1 S.bs.length c1) (.slice A2 S.ws.length c2) (.slice A3 S.now.length c3) (.slice A4 S.last.length c4) gen root next (.slice A5 dead.length c5)),.int .u32 id,itV ⟨ik,ii,io,ir,l⟩ Ax cx] W (Ret (.bool true) W):=sfrz_any A1 _ c1 A2 _ c2 A3 _ c3 A4 _ c4 gen root next A5 c5 S dead id ⟨ik,ii,io,ir,l⟩ (fun hi=>item_ok w1 w2 w3 hi) Ax cx W hS hd hb
 refine walk.mono fun e W' ⟨he,hB⟩=>?_;subst he;exact⟨_,rfl,law_post rfl laidOut rfl underlying4 (by
  intro t ht;have:t=32\/t=29\/t=51:=by rw[params5] at ht;simpa using ht
  rcases this with rfl|rfl|rfl
  ·exact⟨zQ,of_decide_eq_true zQ⟩
  ·exact⟨zQ,of_decide_eq_true zQ⟩
  ·exact⟨zQ,of_decide_eq_true zQ⟩) au rfl hB⟩
theorem over:Rows.snapFreezesRow.holds Tryz.pinned (OpenSpec.ofChange Rows.snapFreezesSpec):=
 OpenClaim.holds_of_wide 5 Tryz.f5 rfl rfl rfl rfl rfl rfl rfl ⟨rfl,rfl,rfl,rfl,rfl⟩ rfl rfl rfl rfl rfl zQ func5 zQ
  (of_decide_eq_true zQ) (by unfold Func.isWrapper;first|(rw[if_pos (by decide +kernel)];kernel_rfl)|(rw[if_neg (by decide +kernel)];exact⟨rfl,rfl⟩))
  (fun os started H enc _=>lifted os started H enc)
theorem proved:Rows.SnapFreezesSaid:=over
end Go.Proofs.YtmeadnlmepcmbaaGreat.snapFreezes
