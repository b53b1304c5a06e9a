/- scionrylaw17.VolNames is true; it has no arguments and no condition. -/
import Derived.Lib.SlBytesConst
import Derived.Test.YtmeadnlmepcmbaaGreatZN24
set_option linter.all false
set_option maxHeartbeats 8000000
open Go.Proofs.Tryz
namespace Go.Proofs.YtmeadnlmepcmbaaGreat
open Go.RowKit
theorem vnam_ret {R:Ending->World->Prop} {a:Act} {W:World} {v:Value} (h0:a.tmps[0]?.getD undef=v) (hd:a.defers=[]) (hR:R (.returned v) W):bodyPost prog Tryz.f6 R .ret a W:=by refine bodyPost_ret (v:=v) ?_ hd hR;simp[results,results6,go_sem,h0]
set_option maxRecDepth 100000 in
theorem find17a {w w':World} {e:Ending} (h:Ge u2 11 2 [] 2 (2,0,2) w e w'):e=.returned (.tuple #[.agg Vp,.int .i64 6]):=by obtain⟨u,rfl,hm⟩:=h.knownC XP;have e1:ZQ [qcr] 2=none:=rfl;rw[e1] at hm;simp only at hm;rw[hm]
set_option maxRecDepth 100000 in
theorem find17b {w w':World} {e:Ending} (h:Ge u2 11 2 [] 1 (2,0,3) w e w'):e=.returned (.tuple #[.agg Vp,.int .i64 6]):=by obtain⟨u,rfl,hm⟩:=h.knownC XP;have e1:ZQ [qcr] 1=some qcr:=rfl;have e2:Tc u2 qcr.root (2,0,3)=none:=u2_none;rw[e1] at hm;simp only[e2] at hm;rw[hm]
def zz129:Array Value:=((List.replicate 129 (0:UInt8)).map bv).toArray
set_option maxRecDepth 100000 in
theorem vnam_any (w:World):Calls prog 6 #[] w (Ret (.bool true) w):=by
 go_enter func6,ntmps6;go_wp2_with fail;refine(qfr w).mono ?_;rintro e w0 ⟨rfl,hB⟩;have x0:Ext w w0:=hB;clear hB;go_wp2_with fail;refine(qcx w0).mono ?_;rintro e w1 ⟨u,rfl,⟨v,rfl,A1,c1,A2,c2,A3,c3,A4,c4,A5,c5,rfl,hS,hI⟩,hB⟩;have x1:Ext w w1:=x0.trans hB;have HFa:=zH (fun W (hx:Ext w1 W)=>GG A1 _ c1 A2 _ c2 A3 _ c3 A4 _ c4 0 11 2 A5 c5 u2 [] 2 2 0 2 W (hS.ext hx) (hI.ext_ hx));have HFb:=zH (fun W (hx:Ext w1 W)=>GG A1 _ c1 A2 _ c2 A3 _ c3 A4 _ c4 0 11 2 A5 c5 u2 [] 1 2 0 3 W (hS.ext hx) (hI.ext_ hx));have HP:=zH (fun W (hx:Ext w1 W)=>qeb A1 _ c1 A2 _ c2 A3 _ c3 A4 _ c4 0 11 2 A5 c5 u2 [] 1 x9 (fun _=>by refine⟨⟨?_,?_⟩,⟨?_,?_⟩,⟨?_,?_⟩,⟨?_,?_⟩,?_⟩ <;> decide) none 0 W (hS.ext hx) (hI.ext_ hx) (Bys.nil _ _));have HL:=zH (fun W (hx:Ext w1 W) A c data (hb:Bys W W.heap.size (.slice A data.length c) data)=>vlay_any A1 _ c1 A2 _ c2 A3 _ c3 A4 _ c4 0 11 2 A5 c5 u2 [] A c data W (hS.ext hx) (hI.ext_ hx) hb);clear hS hI hB x0;go_upto_region 4 with fail;generalize hw2:World.alloc w1 _=w2;have x12:Ext w1 w2:=by rw[<-hw2];exact zN _ _
 have r2:w2.heap[w1.heap.size]?=some (.cells (qC (.slice A1 u2.bs.length c1) (.slice A2 u2.ws.length c2) (.slice A3 u2.now.length c3) (.slice A4 u2.last.length c4) 0 11 2 (.slice A5 0 c5)) 32 (0,0)):=by rw[<-hw2];exact zI _ _ _ rfl
 clear hw2;have gP:∀ W,qm.r w2 W->∀ i,W.cell? ⟨w1.heap.size,i,none⟩=(qC (.slice A1 u2.bs.length c1) (.slice A2 u2.ws.length c2) (.slice A3 u2.now.length c3) (.slice A4 u2.last.length c4) 0 11 2 (.slice A5 0 c5))[i]?:=fun W h=>qa (qb r2 h);refine qp zQ ?_;refine Jw 7 5 zE zQ rfl rfl zQ zQ zQ zQ ?_;dsimp only[jq,Array.push,List.push_toArray,List.concat_eq_append];refine Qa (w:=w2) qm (qM [(1,one (Xd 2 0 2)),(2,one (.tuple #[.agg Vp,.int .i64 6])),(6,Zy w2.heap.size 51 Ko)]) (List.replicate 7 true) 2 zQ zQ zQ zQ zQ zQ zQ ?st (Rel.drew _ _) ?walk
 case st=>exact qj (by simp only[List.forall_mem_cons];exact⟨jD _,jD _,fun p=>Qp (QY _ _ _ p),fun _ h=>by cases h⟩)
 case walk =>
 intro K hK;dsimp only[qw,List.replicate];refine zC7 ?_;refine qz (one (Xd 2 0 2)) zA0 zA0 (fun W hW _=>?_) (fun (p:Unit)=>?_)
 ·refine qV ?_ ((XB 2 W).mono fun e w' h=>?_)
  ·go_simp
  exact⟨(),h.1,trivial,h.2⟩
 refine zC7 ?_;refine qz (one (.tuple #[.agg Vp,.int .i64 6])) zA0 zA0 (fun W hW _=>?_) (fun (p:Unit)=>?_)
 ·have hW:Ext w2 W:=hW;refine qV ?_ ((HFa.out W (x12.trans hW)).mono fun e w' h=>?_)
  ·go_simp
  exact⟨(),find17a h,trivial,h.1⟩
 refine zC7 ?_;refine qz (Zy w2.heap.size 51 Ko) zA0 zA0 (fun W hW _=>?_) (fun (p6:Nat)=>?_)
 ·refine Zm ?_ (Below.size hW);go_simp
 refine zC7 ?_;refine qA (hK _ _ fun W hW hF=>?_);obtain⟨f6,hlo⟩:W.heap[p6]?=some (.cells Ko 51 (0,0))/\w2.heap.size<=p6:=(hF 6).1;clear hF hK gP HFa;have hW:Ext w2 W:=hW;refine zB7 ?_;have k6:=qa f6;have h6:=qd f6;have z6:=(zG.1 f6).1;go_wp2;refine Qw ?_;have b9:=Km (w0:=w2) (B:=w2.heap.size) hW hlo (.int .u8 0) (.int .u32 0) (.int .u32 0) (.int .i64 0) (.slice none 0 0);generalize hw9:World.setCell (World.setCell (World.setCell (World.setCell (World.setCell W _ _) _ _) _ _) _ _) _ _=w3 at *;have w3x:Ext w2 w3:=b9;replace r2:=qb r2 w3x;replace x12:=x12.trans w3x;clear hw9 k6 h6 z6 b9 f6 hlo hW w3x;go_upto_region 5 with fail;have gP:∀ W,qm.r w3 W->∀ i,W.cell? ⟨w1.heap.size,i,none⟩=(qC (.slice A1 u2.bs.length c1) (.slice A2 u2.ws.length c2) (.slice A3 u2.now.length c3) (.slice A4 u2.last.length c4) 0 11 2 (.slice A5 0 c5))[i]?:=fun W h=>qa (qb r2 h);refine qp zQ ?_;refine Jw 7 5 zE zQ rfl rfl zQ zQ zQ zQ ?_;dsimp only[jq,Array.push,List.push_toArray,List.concat_eq_append];refine Qa (w:=w3) qm (qM [(1,one (Xd 2 0 3)),(2,one (.tuple #[.agg Vp,.int .i64 6])),(6,Zy w3.heap.size 51 Ko)]) (List.replicate 7 true) 2 zQ zQ zQ zQ zQ zQ zQ ?st (Rel.drew _ _) ?walk
 case st=>exact qj (by simp only[List.forall_mem_cons];exact⟨jD _,jD _,fun p=>Qp (QY _ _ _ p),fun _ h=>by cases h⟩)
 case walk =>
 intro K hK;dsimp only[qw,List.replicate];refine zC7 ?_;refine qz (one (Xd 2 0 3)) zA0 zA0 (fun W hW _=>?_) (fun (p:Unit)=>?_)
 ·refine qV ?_ ((XB 3 W).mono fun e w' h=>?_)
  ·go_simp
  exact⟨(),h.1,trivial,h.2⟩
 refine zC7 ?_;refine qz (one (.tuple #[.agg Vp,.int .i64 6])) zA0 zA0 (fun W hW _=>?_) (fun (p:Unit)=>?_)
 ·have hW:Ext w3 W:=hW;refine qV ?_ ((HFb.out W (x12.trans hW)).mono fun e w' h=>?_)
  ·go_simp
  exact⟨(),find17b h,trivial,h.1⟩
 refine zC7 ?_;refine qz (Zy w3.heap.size 51 Ko) zA0 zA0 (fun W hW _=>?_) (fun (p6:Nat)=>?_)
 ·refine Zm ?_ (Below.size hW);go_simp
 refine zC7 ?_;refine qA (hK _ _ fun W hW hF=>?_);obtain⟨f6,hlo⟩:W.heap[p6]?=some (.cells Ko 51 (0,0))/\w3.heap.size<=p6:=(hF 6).1;clear hF hK gP HFb;have hW:Ext w3 W:=hW;refine zB7 ?_;have k6:=qa f6;have h6:=qd f6;have z6:=(zG.1 f6).1;go_wp2;refine Qw ?_;have b9:=Km (w0:=w3) (B:=w3.heap.size) hW hlo (.int .u8 0) (.int .u32 0) (.int .u32 0) (.int .i64 0) (.slice none 0 0);generalize hw9:World.setCell (World.setCell (World.setCell (World.setCell (World.setCell W _ _) _ _) _ _) _ _) _ _=w4 at *;have w4x:Ext w3 w4:=b9;replace r2:=qb r2 w4x;replace x12:=x12.trans w4x;clear hw9 k6 h6 z6 b9 f6 hlo hW w4x;have k4:=qa r2;have z4:=(zG.1 r2).1;go_wp2_with fail;refine(HP.out w4 x12).mono ?_;clear HP;intro e w5 hq;have x15:Ext w1 w5:=x12.trans hq.1;have r5:=qb r2 hq.1;obtain rfl:=hq.dataC XP (v:=qcr) rfl rfl u2_x9 zD u2_data9;have k5:=qa r5;have z5:=(zG.1 r5).1;clear hq r2 x12 k4 z4;have hcv:∀ o:Obj,(convert 26 26 (.slice (some ⟨w5.heap.size+1,0,none⟩) 2 2)).run prog ((w5.alloc o).alloc (.cells #[.int .u8 120,.int .u8 121] 5))=.ok (.slice (some ⟨w5.heap.size+1,0,none⟩) 2 2) ((w5.alloc o).alloc (.cells #[.int .u8 120,.int .u8 121] 5 (2,3))):=fun o=>by have:=Lib.run_convert_bytes_const (P:=prog) (w5.alloc o) 26 5 #[.int .u8 120,.int .u8 121] 2 2 underlying26 underlying5;rw[World.size_alloc] at this;exact this
 go_wp2_with fail;generalize hw6:World.alloc (World.alloc w5 _) _=w6;have x56:Ext w5 w6:=by rw[<-hw6];exact(zN _ _).trans (zN _ _)
 have rl:w6.heap[w5.heap.size+1]?=some (.cells #[.int .u8 120,.int .u8 121] 5 (2,3)):=by rw[<-hw6];exact zI _ _ _ zA2
 have hb6:Bys w6 w6.heap.size (.slice (some ⟨w5.heap.size+1,0,none⟩) 2 2) [120,121]:=⟨_,_,rfl,zA2,by simp[maxLen],zA2,fun _=>⟨_,0,rfl,(zG.1 rl).1,fun j u hu=>by rw[Nat.zero_add,(by simp[World.cell?,rl]:w6.cell? ⟨w5.heap.size+1,j,none⟩=(#[.int .u8 120,.int .u8 121]:Array Value)[j]?),<-hu];simp[bv]⟩⟩
 have r6:=qb r5 x56;have x16:=x15.trans x56;clear hw6 r5 k5 z5 x15 x56;refine(HL.out w6 x16 (some ⟨w5.heap.size+1,0,none⟩) 2 [120,121] hb6).mono ?_;intro e w7 hq;have x17:Ext w1 w7:=x16.trans hq.1;have r7:=qb r6 hq.1;rcases hq.knownC XP with ⟨hne,-⟩|⟨-,v,rfl,hN⟩
 ·exact absurd u2_lay hne
 rw[u2_free] at hN ⊢;have hN:jx w6.heap.size u3 0 11 2 [] v w7:=hN;obtain⟨B1,d1,B2,d2,B3,d3,B4,d4,B5,d5,rfl,hS,hI⟩:=hN.sto;have HD:=zH (fun W (hx:Ext w7 W)=>vdat_any B1 _ d1 B2 _ d2 B3 _ d3 B4 _ d4 0 11 2 B5 d5 u3 [] 9 W (hS.ext hx) (hI.ext_ hx));have HO:=zH (fun W (hx:Ext w7 W)=>qct B1 _ d1 B2 _ d2 B3 _ d3 B4 _ d4 0 11 2 B5 d5 u3 [] 9 W (hS.ext hx) (hI.ext_ hx));clear hN hS hI hq rl r6 x16;go_wp2_with fail;generalize hw8:World.alloc w7 _=w8;have x78:Ext w7 w8:=by rw[<-hw8];exact zN _ _
 have q8:w8.heap[w7.heap.size]?=some (.cells (qC (.slice B1 u3.bs.length d1) (.slice B2 u3.ws.length d2) (.slice B3 u3.now.length d3) (.slice B4 u3.last.length d4) 0 11 2 (.slice B5 0 d5)) 32 (0,0)):=by rw[<-hw8];exact zI _ _ _ rfl
 have r8:=qb r7 x78;clear hw8 r7;refine(HD.out w8 x78).mono ?_;clear HD;intro e w9 hq;have x79:Ext w7 w9:=x78.trans hq.1;have r9:=qb r8 hq.1;have q9:=qb q8 hq.1;obtain⟨v,rfl,ho⟩:=hq.knownC qjC u3_data;have hsn:Zu u3 (9:Int).toNat=[120,121,0]++List.replicate 125 0:=u3_seen;rw[hsn] at ho;have hl:([120,121,0]++List.replicate 125 0:List UInt8).length=128:=zD;rw[hl] at ho;obtain⟨AV,cV,rfl,wVD,wSK⟩:=qB ho;have hrd:=Rd.of_own ho;obtain⟨bv,ov,rfl,hbv,hDL⟩:=hrd.2 zO;have h3:Hid (Bys w9 w9.heap.size (.slice (some ⟨bv,ov,none⟩) 3 cV) [120,121,0]):=zH ⟨_,_,rfl,zA1,wSK,by have:=hrd.take (k:=3) zO;exact this⟩;have kq9:=qa q9;have zq9:=(zG.1 q9).1;clear hq hDL hbv hrd ho hsn hl r8 q8 x78;go_wp2_with fail;refine(HO.out w9 x79).mono ?_;clear HO;intro e wa hq;have x7a:Ext w7 wa:=x79.trans hq.1;have ra:=qb r9 hq.1;replace h3:=zH ((h3.out.below hq.1).more (Below.size hq.1));obtain⟨u,rfl,hR⟩:=hq.looseC qjC;rw[u3_loose] at hR;rcases hR with ⟨hne,-⟩|⟨-,v,rfl,hN⟩
 ·exact absurd rfl hne
 have hN:jx w9.heap.size u4 0 11 2 [] v wa:=hN;obtain⟨C1,e1,C2,e2,C3,e3,C4,e4,C5,e5,rfl,hS,hI⟩:=hN.sto;have HO2:=zH (fun W (hx:Ext wa W)=>qct C1 _ e1 C2 _ e2 C3 _ e3 C4 _ e4 0 11 2 C5 e5 u4 [] 9 W (hS.ext hx) (hI.ext_ hx));clear hN hS hI hq r9 q9 kq9 zq9 x79;go_wp2_with fail;generalize hwb:World.alloc wa _=wb;have xab:Ext wa wb:=by rw[<-hwb];exact zN _ _
 have rb:=qb ra xab;clear hwb ra;refine(HO2.out wb xab).mono ?_;clear HO2;intro e wc hq;have xac:Ext wa wc:=xab.trans hq.1;have rc:=qb rb hq.1;obtain⟨u,rfl,hR⟩:=hq.looseC u4_pool;rw[u4_loose] at hR;rcases hR with ⟨-,rfl⟩|⟨hne,-⟩
 case inr=>exact absurd hne zD
 clear hq rb xab;go_upto_region 11 with fail;generalize hwd:World.alloc wc _=wd;have xcd:Ext wc wd:=by rw[<-hwd];exact zN _ _
 have rd:=qb rc xcd;have xad:=xac.trans xcd;replace h3:=zH ((h3.out.below xad).more xad.size);have x1d:=(x17.trans x7a).trans xad;clear hwd rc xcd xac x7a x17 xad;have gP:∀ W,qm.r wd W->∀ i,W.cell? ⟨w1.heap.size,i,none⟩=(qC (.slice A1 u2.bs.length c1) (.slice A2 u2.ws.length c2) (.slice A3 u2.now.length c3) (.slice A4 u2.last.length c4) 0 11 2 (.slice A5 0 c5))[i]?:=fun W h=>qa (qb rd h);have hmk:∀ w,(Instr.makeSlice 26 (.int .i64 129) (.int .i64 129)).run prog w=.ok (.slice (some ⟨w.heap.size,0,none⟩) 129 129) (w.alloc (.cells zz129 5)):=fun _=>zQ;refine qp zQ ?_;refine Jw 8 5 zE zQ rfl rfl zQ zQ zQ zQ ?_;dsimp only[jq,Array.push,List.push_toArray,List.concat_eq_append];refine Jw 8 6 zE zQ rfl rfl zQ zQ zQ zQ ?_;dsimp only[jq,Array.push,List.push_toArray,List.concat_eq_append];refine Qa (w:=wd) qm (qM [(1,jh wd.heap.size 129 5 zz129),(2,one (.tuple #[vE,.int .i64 0,.int .i64 3])),(7,Zy wd.heap.size 32 Vm)]) (List.replicate 8 true) 3 zQ zQ zQ zQ zQ zQ zQ ?st (Rel.drew _ _) ?walk
 case st=>exact qj (by simp only[List.forall_mem_cons];exact⟨fun p=>Qp (jP _ _ _ _ p),jD _,fun p=>Qp (QY _ _ _ p),fun _ h=>by cases h⟩)
 case walk =>
 intro K hK;dsimp only[qw,List.replicate];refine zC7 ?_;refine qz (jh wd.heap.size 129 5 zz129) zA0 zA0 (fun W hW _=>?_) (fun (p1:Nat)=>?_)
 ·have hW:Ext wd W:=hW;unfold QA;go_simp;try simp only[hmk]
  exact⟨W.heap.size,rfl,⟨zI _ _ _ rfl,hW.size⟩,zN _ _⟩
 refine zC7 ?_;refine qz (one (.tuple #[vE,.int .i64 0,.int .i64 3])) zA0 zA0 (fun W hW hp=>?_) (fun (p:Unit)=>?_)
 ·have hW:Ext wd W:=hW;obtain⟨f1,_⟩:W.heap[p1]?=some (.cells zz129 5 (0,0))/\wd.heap.size<=p1:=(hp 1 zD).1;refine qV ?_ ((HL.out W (x1d.trans hW) (some ⟨p1,0,none⟩) 129 (List.replicate 129 0) (Bys.lit (l:=List.replicate 129 0) f1 (by simp[maxLen]))).mono fun e w' h=>?_)
  ·go_simp
  rcases h.knownC XP with ⟨-,rfl⟩|⟨hne,-⟩
  ·rw[qjB];exact⟨(),rfl,trivial,h.1⟩
  ·rw[qjB] at hne;exact absurd hne zD
 refine zC7 ?_;refine qz (Zy wd.heap.size 32 Vm) zA0 zA0 (fun W hW _=>?_) (fun (p7:Nat)=>?_)
 ·refine Zm ?_ (Below.size hW);go_simp
 refine zC7 ?_;refine qA (hK _ _ fun W hW hF=>?_);obtain⟨f7,hlo⟩:W.heap[p7]?=some (.cells Vm 32 (0,0))/\wd.heap.size<=p7:=(hF 7).1;clear hF hK gP HL;have hW:Ext wd W:=hW;refine zB7 ?_;have k7:=qa f7;have h7:=qd f7;have z7:=(zG.1 f7).1;go_wp2;refine Qw ?_;have b9:=ZV (w0:=wd) (B:=wd.heap.size) hW hlo (.slice none 0 0) (.slice none 0 0) (.slice none 0 0) (.slice none 0 0) (.int .u32 0) (.int .i64 0) (.int .u32 0) (.slice none 0 0);generalize hwe:World.setCell (World.setCell (World.setCell (World.setCell (World.setCell (World.setCell (World.setCell (World.setCell W _ _) _ _) _ _) _ _) _ _) _ _) _ _) _ _=we at *;have xde:Ext wd we:=b9;have h4:=(h3.out.below xde).more xde.size;have hbs:bstr [120,121,0]=⟨#[120,121,0]⟩:=rfl;have hv:(convert 26 9 (.slice (some ⟨bv,ov,none⟩) 3 cV)).run prog we=.ok (.string ⟨#[120,121,0]⟩) we:=by have h0:=JH (P:=prog) h4 26 9 5 underlying26 underlying5 underlying9;rw[hbs] at h0;exact h0
 have xe:=zH ((x1.trans x1d).trans xde);clear hwe k7 h7 z7 b9 f7 hlo hW h4 hbs xde;go_wp2_with fail;exact vnam_ret rfl rfl ⟨rfl,xe.out⟩
end Go.Proofs.YtmeadnlmepcmbaaGreat
namespace Go.Proofs.YtmeadnlmepcmbaaGreat
open Go.RowKit Go.ChangeShapes Go.WideShapes Go.ChangeAt
section
variable {H:Type} {enc:TypeId×Value->H} {P:Program} {W:World}
end
section
variable {H:Type} {enc:TypeId×Value->H} {P:Program}
theorem Tj (hl:laidOutB P=true) {W W':World} {sp:Nat->Bool}:∀ (ts:List TypeId) (vs:List Value) (ds:List (DataW H)) (p:List MemPlace),DataW.TrodAll enc P W 0 (fun _=>true) true ts vs ds p -> (∀ t∈ts,P.readableRec t=true/\t<P.types.size)->(∀ x∈p,W.sameAt W' x)->(∀ x∈p,sp x.block=true)->DataW.TrodAll enc P W' 0 sp true ts vs ds p
 | [],vs,ds,p,h,_,_,_=>by obtain⟨rfl,rfl,rfl⟩:=trodAll_nil h;exact trodAll_mk0
 |t :: ts,vs,ds,p,h,ht,hs,hsp=>by
  obtain⟨v,vs',d,ds',p0,q0,rfl,rfl,rfl,h0,h1⟩:=trodAll_cons h;have e:=ht t (List.mem_cons_self);exact trodAll_cons_mk (WideElems.Trod_stays hl e.1 e.2 h0 (fun x hx=>hs x (List.mem_append_left _ hx)) (fun x hx=>hsp x (List.mem_append_left _ hx)))
   (Tj hl ts vs' ds' q0 h1 (fun t' h'=>ht t' (List.mem_cons_of_mem _ h')) (fun x hx=>hs x (List.mem_append_right _ hx)) (fun x hx=>hsp x (List.mem_append_right _ hx)))
theorem law_post {f:Func} {s:ChangeSpec} {W W':World} {args:Array Value} {ds gs:List (DataW H)} {before:List MemPlace} {b:TypeId} (hv:s.vars=[]) (hl:laidOutB P=true) (hr:f.resultTypes=#[b]) (hb:P.underlying b=some .bool) (ht:∀ t∈f.params.toList,P.readableRec t=true/\t<P.types.size) (hW:DataW.Whole enc P f.params.toList s.vars false W args.toList ds gs before) (hs:s.fn H (ds++gs)={ results:=[.lit (.bool true)],args:=ds,vars:=[] }) (hB:Below W.heap.size W W'):s.post enc P f false true false false W args (.bool true) W':=by
 have hlt:∀ x∈before,x.block<W.heap.size:=fun x hx=>hW.lt x hx;have hW0:=hW;obtain⟨p,q,hA,hV,rfl,_,_⟩:=hW;have hq:q=[]:=by
  rw[hv] at hV;cases gs with
  |nil=>exact hV
  |cons g gs=>cases hV
 subst hq;refine⟨ds,gs,p++[],[],p,[],hW0,?_,?_,?_,?_,fun h=>by cases h⟩
 ·rw[hs,hr];exact trodAll_cons_mk (shut_bool hb true) trodAll_mk0
 ·rw[hs];exact Tj hl _ _ _ _ hA ht (fun x hx=>hB.same (hlt x (by simpa using hx))) (fun x hx=>by simpa using hlt x (by simpa using hx))
 ·rw[hs,hv];exact rfl
 ·exact World.keptBut_mono (fun x hx=>⟨by simpa using hx,Or.inr (Or.inl hx)⟩) (hB.frame (· ∈ p))
end
end Go.Proofs.YtmeadnlmepcmbaaGreat
namespace Go.Proofs.YtmeadnlmepcmbaaGreat.volNames
set_option linter.unusedSimpArgs false
set_option linter.unusedVariables false
open Go.ChangeShapes Go.WideShapes Go.ChangeAt Go.RowKit
theorem own:ownKnob Tryz.prog.godebug=none:=zQ
theorem laidOut:laidOutB prog=true:=zQ
set_option maxRecDepth 100000 in
theorem lifted (os:Os) (started:os.Started) (H:Type) (enc:TypeId×Value->H):ReturnsInHanded {} checked os 6 .any (Rows.volNamesSpec.pre6 enc prog Tryz.f6 Rows.volNamesRow.domain false) (Rows.volNamesSpec.post enc prog Tryz.f6 false true false false):=by
 refine returnsInHanded_of_change (C:=checked) own started zQ func6
  (ChangeSpec.witness6 (enc:=enc) (C:=checked) false ⟨#[],#[],[]⟩ 8 zQ zQ zQ zQ) ?_
 intro W base args ds gs before xGZ hW hcnd _;have xBL:∀ (j:Nat) t v,Tryz.f6.params[j]?=some t->args[j]?=some v->Value.okWide prog W .any base t v:=xGZ;have hW':=hW;have hlt:∀ x∈before,x.block<W.heap.size:=fun x hx=>hW.lt x hx;obtain⟨p,q,hA0,hV,rfl,hfz,hnd⟩:=hW;have hA:DataW.TrodAll enc prog W 0 (fun _=>true) true Tryz.f6.params.toList args.toList ds p:=hA0;rw[params6] at hA xBL;obtain⟨hargs,rfl,rfl⟩:=trodAll_nil hA;obtain rfl:args=#[]:=by cases args;simp_all
 obtain⟨rfl,rfl⟩:=trodVars_none hV;have walk:Calls prog 6 #[] W (Ret (.bool true) W):=vnam_any W;refine walk.mono fun e W' ⟨he,hB⟩=>?_;subst he;exact⟨_,rfl,law_post rfl laidOut rfl underlying4 (by intro t ht;rw[params6] at ht;simp at ht) hW' rfl hB⟩
theorem over:Rows.volNamesRow.holds Tryz.pinned (OpenSpec.ofChange Rows.volNamesSpec):=
 OpenClaim.holds_of_wide 6 Tryz.f6 rfl rfl rfl rfl rfl rfl rfl ⟨rfl,rfl,rfl,rfl,rfl⟩ rfl rfl rfl rfl rfl zQ func6 zQ
  (of_decide_eq_true zQ) (by unfold Func.isWrapper;first|(rw[if_pos (by decide +kernel)];kernel_rfl)|(rw[if_neg (by decide +kernel)];exact⟨rfl,rfl⟩))
  (fun os started H enc _=>lifted os started H enc)
theorem proved:Rows.VolNamesSaid:=over
end Go.Proofs.YtmeadnlmepcmbaaGreat.volNames
