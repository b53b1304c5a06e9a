/- Lemmas of the proof. -/
import Derived.Test.YtmeadnlmepcmbaaGreatZN03
set_option linter.all false
set_option maxHeartbeats 8000000
open Go.Proofs.Tryz
namespace Go.Proofs.YtmeadnlmepcmbaaGreat
open Go.RowKit
structure Vol where
 id:Int
 root:Int
 fz:Bool
 frm:Int
deriving DecidableEq
def QH (v:Vol):List UInt8:=qH v.root.toNat 2++[if v.fz then 1 else 0]++qH v.frm.toNat 4
theorem Vz (v:Vol):(QH v).length=7:=by simp[QH,QK]
def KL (x:It):Vol:=⟨x.i,Zr x.val 0 2,decide ((x.val[2]?.getD 0).toNat=1),Zr x.val 3 4⟩
def Ud (x:It):Bool:=decide (x.val.length=7) && qap 1 x.i 0 0 x.k x.i x.o x.r (QH (KL x)) x.val
abbrev VA (v:Vol):Value:=.agg #[.int .u32 v.id,.int .i64 v.root,.bool v.fz,.int .u32 v.frm]
def TT (v:Vol):Prop:=(0<=v.id/\v.id<4294967296)/\(0<=v.root/\v.root<65536)/\(0<=v.frm/\v.frm<4294967296)
def Vw (lo n:Nat) (ty:TypeId) (φ:List Value->World->Prop):Qe:=⟨Nat,fun b=>.slice (some ⟨b,0,none⟩) n n,fun b W=>lo<=b/\∃ cs:Array Value,cs.size=n/\W.heap[b]?=some (.cells cs ty (0,0))/\φ cs.toList W⟩
theorem Qr (lo n:Nat) (ty:TypeId) (φ:List Value->World->Prop) (b:Nat):(Vw lo n ty φ).f b=.slice (some ⟨b,0,none⟩) n n:=rfl
theorem VX {lo n:Nat} {ty:TypeId} {φ:List Value->World->Prop} (hφ:∀ l,QW (φ l)):∀ p,QW ((Vw lo n ty φ).φ p):=fun p W W' he ⟨h1,cs,h2,h3,h4⟩ =>
 ⟨h1,cs,h2,(Below.block he p (zG.1 h3).1).trans h3,hφ _ _ _ he h4⟩
theorem Xa {P:Program} {o:Oper} {a:Act} {W:World} {lo' n':Nat} {ty:TypeId} {φ:List Value->World->Prop} {cs:Array Value} (hr:(execOp a.eval o).run P W=.ok (.value (.slice (some ⟨W.heap.size,0,none⟩) n' n')) (W.alloc (.cells cs ty))) (hlo:lo'<=W.heap.size) (hn:cs.size=n') (hφ:φ cs.toList (W.alloc (.cells cs ty))):vc P o a W (Vw lo' n' ty φ):=by
 unfold vc;rw[hr];exact⟨W.heap.size,rfl,⟨hlo,cs,hn,zI _ _ _ rfl,hφ⟩,zN _ _⟩
def vW (ls:List (List UInt8)) (vs:List Value) (W:World):Prop:=vs.length=ls.length/\∀ (i:Nat) (v:Value) (l:List UInt8),vs[i]?=some v->ls[i]?=some l->Bys W W.heap.size v l
theorem vW.stable (ls:List (List UInt8)) (vs:List Value):QW (vW ls vs):=fun _ _ he h=>⟨h.1,fun i v l h1 h2=>((h.2 i v l h1 h2).below he).more he.size⟩
theorem Bys.lit {W:World} {b:Nat} {l:List UInt8} {ty:TypeId} (h:W.heap[b]?=some (.cells (l.map bv).toArray ty (0,0))) (hl:l.length<=maxLen):Bys W W.heap.size (.slice (some ⟨b,0,none⟩) l.length l.length) l:=
 ⟨_,_,rfl,zM _,hl,zA2,fun _=>⟨b,0,rfl,(zG.1 h).1,fun j u hu=>by rw[qa h];simpa using hu⟩⟩
theorem Rd.row {W:World} {b:Nat} {cs:Array Value} {ty:TypeId} (h:W.heap[b]?=some (.cells cs ty (0,0))) (n:Nat) (hn:cs.size=n):Rd W W.heap.size 1 (some ⟨b,0,none⟩) n cs.toList:=
 ⟨by simp[hn],fun _=>⟨b,0,rfl,(zG.1 h).1,fun j u hu=>by rw[qa h];simpa using hu⟩⟩
set_option maxRecDepth 100000 in
theorem qjj (v:Vol) (hv:TT v) (w:World):Calls prog 66 #[VA v] w (zF (IsI w.heap.size 1 v.id 0 0 (QH v)) w):=by
 obtain⟨vi,vr,vf,vm⟩:=v;obtain⟨⟨hi1,hi2⟩,⟨hr1,hr2⟩,⟨hm1,hm2⟩⟩:=hv;dsimp only at *;obtain⟨r,rfl⟩:=Int.eq_ofNat_of_zero_le hr1;obtain⟨m,rfl⟩:=Int.eq_ofNat_of_zero_le hm1;have HB:Hid (QH ⟨vi,r,vf,m⟩=[qH r 2,[if vf then 1 else 0],qH m 4].flatten):=by refine zH ?_;simp[QH]
 have HL:Hid ((QH ⟨vi,r,vf,m⟩).length=7):=zH (Vz _);have l2:=QK 2 r;have l4:=QK 4 m;replace l2:=zH l2;replace l4:=zH l4;generalize QH ⟨vi,r,vf,m⟩=vb at *;cases vf
 ·go_enter func66,ntmps66;go_wp2_with fail;generalize hw1:(World.alloc (World.alloc _ _) _)=w1;have b1:Ext w w1:=by rw[<-hw1];exact(zN _ _).trans (zN _ _)
  have r1:w1.heap[w.heap.size]?=some (.cells #[.int .u32 vi,.int .i64 r,.bool false,.int .u32 m] 36 (0,0)):=by rw[<-hw1];exact(zK _ _ _ zA2).trans (zI _ _ _ rfl)
  have q1:w1.heap[w.heap.size+1]?=some (.cells #[.int .u8 0,.int .u32 0,.int .u32 0,.int .i64 0,.slice none 0 0] 51 (0,0)):=by rw[<-hw1];exact zI _ _ _ zA2
  clear hw1;refine(qeZ r zO _).mono ?_;rintro e w2 ⟨u,rfl,⟨u2,rfl,A2,c2,rfl,hb2,hf2⟩,hB⟩;have b2:Ext w w2:=Ext.trans b1 hB;have r2:=qb r1 hB;have q2:=qb q1 hB;have k2:=qa r2;have s2:w.heap.size+1<w2.heap.size:=(zG.1 q2).1;clear hB b1 r1 q1;go_wp2;have hE:∀ W,Ext w2 W->∀ j,W.cell? ⟨w.heap.size,j,none⟩=#[.int .u32 vi,.int .i64 r,.bool false,.int .u32 m][j]?:=fun W h=>qa (qb r2 h);clear k2;refine zj (qM [(5,jh w2.heap.size 1 5 #[.int .u8 0]),(8,YK w2.heap.size 4 (qH m 4)),(9,Vw w2.heap.size 3 26 (vW [qH r 2,[0],qH m 4])),(10,YK w2.heap.size 7 vb)]) 12 zQ zQ zQ zD zQ zQ ?st ?walk
  case st=>exact zv (by simp only[List.forall_mem_cons];exact⟨jP _ _ _ _,Je _ _ _,VX (vW.stable _),Je _ _ _,fun _ h=>by cases h⟩)
  case walk =>
   intro K hK;dsimp only[List.take];refine zB2 ?_;refine QC (jh w2.heap.size 1 5 #[.int .u8 0]) zA0 zA0 (fun W hW _=>?_) (fun (p5:Nat)=>?_)
   ·refine KZ ?_ hW.size;go_simp
   refine zB2 ?_;refine QC (YK w2.heap.size 4 (qH m 4)) zA0 zA0 (fun W hW _=>?_) (fun p8=>?_)
   ·refine QP ?_ ((YX m zO W).mono fun e w' h=>?_)
    ·go_simp
    obtain⟨u,rfl,⟨A,c,rfl,h1,h2⟩,h3⟩:=h;exact⟨(A,c),rfl,⟨h1,h2.mono hW.size⟩,h3⟩
   obtain⟨A8,c8⟩:=p8;simp only[Act.put,qf,qc,qg,qv,Qr,QJ,zA,zB,zC];refine QC (Vw w2.heap.size 3 26 (vW [qH r 2,[0],qH m 4])) zA0 zA0 (fun W hW hp=>?_) (fun (p9:Nat)=>?_)
   ·have f5:=(hp 5 zD).1;have f8:=(hp 8 zD).1;obtain⟨f5,_⟩:W.heap[p5]?=some (.cells #[.int .u8 0] 5 (0,0))/\w2.heap.size<=p5:=f5;obtain⟨f8,_⟩:Bys W W.heap.size (.slice A8 4 c8) (qH m 4)/\_:=f8;have hR:vW [qH r 2,[0],qH m 4] [.slice A2 2 c2,.slice (some ⟨p5,0,none⟩) 1 1,.slice A8 4 c8] W:=by
     refine⟨rfl,fun i v l hv hl=>?_⟩;have xAL:Bys W W.heap.size (.slice (some ⟨p5,0,none⟩) 1 1) [(0:UInt8)]:=Bys.lit (l:=[(0:UInt8)]) f5 (by simp[maxLen]);rcases i with _|_|_|i
     ·simp at hv hl;subst hv;subst hl;exact(hb2.below hW).more hW.size
     ·simp at hv hl;subst hv;subst hl;exact xAL
     ·simp at hv hl;subst hv;subst hl;exact f8
     ·simp at hv
    refine Xa (cs:=#[.slice A2 2 c2,.slice (some ⟨p5,0,none⟩) 1 1,.slice A8 4 c8]) ?_ hW.size rfl ?_
    ·go_simp
    ·exact vW.stable _ _ _ _ (zN _ _) hR
   simp only[Act.put,qf,qc,qg,qv,Qr,QJ,zA,zB,zC];refine QC (YK w2.heap.size 7 vb) zA0 zA0 (fun W hW hp=>?_) (fun p10=>?_)
   ·obtain⟨_,cs,hcs,hCA,hR⟩:=(hp 9 zD).1;have hlen:[qH r 2,[(0:UInt8)],qH m 4].flatten.length=7:=by simp[l2.out,l4.out]
    refine QP ?_ ((kV (some ⟨p9,0,none⟩) 3 3 cs.toList [qH r 2,[0],qH m 4] (by simpa using hcs) rfl W (Rd.row hCA 3 hcs) (fun i v l h1 h2=>hR.2 i v l h1 h2) zO zO).mono fun e w' h=>?_)
    ·go_simp
    rw[hlen] at h;obtain⟨p,h1,h2,h3⟩:=Xj h hW.size;have HB':=HB.out;simp only[Bool.false_eq_true,if_false] at HB';rw[<-HB'] at h1 h2;exact⟨p,h1,h2,h3⟩
   obtain⟨A10,c10⟩:=p10;refine zB2 ?_;refine Zz (hK _ _ fun W hW hF=>?_);obtain⟨f10,g10⟩:Bys W W.heap.size (.slice A10 7 c10) vb/\Zv w2.heap.size (.slice A10 7 c10):=(hF 10).1;clear hF hK hE;have b3:Ext w W:=b2.trans hW;have q3:=qb q2 hW;have kq:=qa q3;have fq:=qd q3;dsimp only[List.drop];go_wp2;have hgt:w.heap.size+1<w2.heap.size:=s2;have hby:=((((f10.setCell g10 (p:=⟨w.heap.size+1,0,none⟩) hgt (.int .u8 1)).setCell g10 (p:=⟨w.heap.size+1,1,none⟩) hgt (.int .u32 vi)).setCell g10 (p:=⟨w.heap.size+1,2,none⟩) hgt (.int .u32 0)).setCell g10 (p:=⟨w.heap.size+1,3,none⟩) hgt (.int .i64 0)).setCell g10 (p:=⟨w.heap.size+1,4,none⟩) hgt (.slice A10 7 c10);have rf:=qi (qi (qi (qi (qi q3 0 (.int .u8 1)) 1 (.int .u32 vi)) 2 (.int .u32 0)) 3 (.int .i64 0)) 4 (.slice A10 7 c10);have b3':Below w.heap.size w W:=b3;have bf:Below w.heap.size w (((((W.setCell ⟨w.heap.size+1,0,none⟩ (.int .u8 1)).setCell ⟨w.heap.size+1,1,none⟩ (.int .u32 vi)).setCell ⟨w.heap.size+1,2,none⟩ (.int .u32 0)).setCell ⟨w.heap.size+1,3,none⟩ (.int .i64 0)).setCell ⟨w.heap.size+1,4,none⟩ (.slice A10 7 c10)):=zA4;have hsz:(((((W.setCell ⟨w.heap.size+1,0,none⟩ (.int .u8 1)).setCell ⟨w.heap.size+1,1,none⟩ (.int .u32 vi)).setCell ⟨w.heap.size+1,2,none⟩ (.int .u32 0)).setCell ⟨w.heap.size+1,3,none⟩ (.int .i64 0)).setCell ⟨w.heap.size+1,4,none⟩ (.slice A10 7 c10)).heap.size=W.heap.size:=zA2;generalize hwf:(World.setCell (World.setCell (World.setCell (World.setCell (World.setCell W _ _) _ _) _ _) _ _) _ _)=wf at *;have kf:=qa rf;rw[<-hsz] at hby;exact bodyPost_ret (v:=Kc 1 vi 0 0 A10 7 c10) (by simp[results,results66,go_sem,kf]) rfl ⟨_,rfl,⟨A10,c10,by rw[HL.out],by rw[HL.out];exact hby,by rw[HL.out];exact g10.mono zO⟩,bf⟩
 ·go_enter func66,ntmps66;go_wp2_with fail;generalize hw1:(World.alloc (World.alloc _ _) _)=w1;have b1:Ext w w1:=by rw[<-hw1];exact(zN _ _).trans (zN _ _)
  have r1:w1.heap[w.heap.size]?=some (.cells #[.int .u32 vi,.int .i64 r,.bool true,.int .u32 m] 36 (0,0)):=by rw[<-hw1];exact(zK _ _ _ zA2).trans (zI _ _ _ rfl)
  have q1:w1.heap[w.heap.size+1]?=some (.cells #[.int .u8 0,.int .u32 0,.int .u32 0,.int .i64 0,.slice none 0 0] 51 (0,0)):=by rw[<-hw1];exact zI _ _ _ zA2
  clear hw1;refine(qeZ r zO _).mono ?_;rintro e w2 ⟨u,rfl,⟨u2,rfl,A2,c2,rfl,hb2,hf2⟩,hB⟩;have b2:Ext w w2:=Ext.trans b1 hB;have r2:=qb r1 hB;have q2:=qb q1 hB;have k2:=qa r2;have s2:w.heap.size+1<w2.heap.size:=(zG.1 q2).1;clear hB b1 r1 q1;go_wp2;have hE:∀ W,Ext w2 W->∀ j,W.cell? ⟨w.heap.size,j,none⟩=#[.int .u32 vi,.int .i64 r,.bool true,.int .u32 m][j]?:=fun W h=>qa (qb r2 h);clear k2;refine zj (qM [(5,jh w2.heap.size 1 5 #[.int .u8 1]),(8,YK w2.heap.size 4 (qH m 4)),(9,Vw w2.heap.size 3 26 (vW [qH r 2,[1],qH m 4])),(10,YK w2.heap.size 7 vb)]) 12 zQ zQ zQ zD zQ zQ ?st ?walk
  case st=>exact zv (by simp only[List.forall_mem_cons];exact⟨jP _ _ _ _,Je _ _ _,VX (vW.stable _),Je _ _ _,fun _ h=>by cases h⟩)
  case walk =>
   intro K hK;dsimp only[List.take];refine zB2 ?_;refine QC (jh w2.heap.size 1 5 #[.int .u8 1]) zA0 zA0 (fun W hW _=>?_) (fun (p5:Nat)=>?_)
   ·refine KZ ?_ hW.size;go_simp
   refine zB2 ?_;refine QC (YK w2.heap.size 4 (qH m 4)) zA0 zA0 (fun W hW _=>?_) (fun p8=>?_)
   ·refine QP ?_ ((YX m zO W).mono fun e w' h=>?_)
    ·go_simp
    obtain⟨u,rfl,⟨A,c,rfl,h1,h2⟩,h3⟩:=h;exact⟨(A,c),rfl,⟨h1,h2.mono hW.size⟩,h3⟩
   obtain⟨A8,c8⟩:=p8;simp only[Act.put,qf,qc,qg,qv,Qr,QJ,zA,zB,zC];refine QC (Vw w2.heap.size 3 26 (vW [qH r 2,[1],qH m 4])) zA0 zA0 (fun W hW hp=>?_) (fun (p9:Nat)=>?_)
   ·have f5:=(hp 5 zD).1;have f8:=(hp 8 zD).1;obtain⟨f5,_⟩:W.heap[p5]?=some (.cells #[.int .u8 1] 5 (0,0))/\w2.heap.size<=p5:=f5;obtain⟨f8,_⟩:Bys W W.heap.size (.slice A8 4 c8) (qH m 4)/\_:=f8;have hR:vW [qH r 2,[1],qH m 4] [.slice A2 2 c2,.slice (some ⟨p5,0,none⟩) 1 1,.slice A8 4 c8] W:=by
     refine⟨rfl,fun i v l hv hl=>?_⟩;have xAL:Bys W W.heap.size (.slice (some ⟨p5,0,none⟩) 1 1) [(1:UInt8)]:=Bys.lit (l:=[(1:UInt8)]) f5 (by simp[maxLen]);rcases i with _|_|_|i
     ·simp at hv hl;subst hv;subst hl;exact(hb2.below hW).more hW.size
     ·simp at hv hl;subst hv;subst hl;exact xAL
     ·simp at hv hl;subst hv;subst hl;exact f8
     ·simp at hv
    refine Xa (cs:=#[.slice A2 2 c2,.slice (some ⟨p5,0,none⟩) 1 1,.slice A8 4 c8]) ?_ hW.size rfl ?_
    ·go_simp
    ·exact vW.stable _ _ _ _ (zN _ _) hR
   simp only[Act.put,qf,qc,qg,qv,Qr,QJ,zA,zB,zC];refine QC (YK w2.heap.size 7 vb) zA0 zA0 (fun W hW hp=>?_) (fun p10=>?_)
   ·obtain⟨_,cs,hcs,hCA,hR⟩:=(hp 9 zD).1;have hlen:[qH r 2,[(1:UInt8)],qH m 4].flatten.length=7:=by simp[l2.out,l4.out]
    refine QP ?_ ((kV (some ⟨p9,0,none⟩) 3 3 cs.toList [qH r 2,[1],qH m 4] (by simpa using hcs) rfl W (Rd.row hCA 3 hcs) (fun i v l h1 h2=>hR.2 i v l h1 h2) zO zO).mono fun e w' h=>?_)
    ·go_simp
    rw[hlen] at h;obtain⟨p,h1,h2,h3⟩:=Xj h hW.size;have HB':=HB.out;simp only[if_false,if_true] at HB';rw[<-HB'] at h1 h2;exact⟨p,h1,h2,h3⟩
   obtain⟨A10,c10⟩:=p10;refine zB2 ?_;refine Zz (hK _ _ fun W hW hF=>?_);obtain⟨f10,g10⟩:Bys W W.heap.size (.slice A10 7 c10) vb/\Zv w2.heap.size (.slice A10 7 c10):=(hF 10).1;clear hF hK hE;have b3:Ext w W:=b2.trans hW;have q3:=qb q2 hW;have kq:=qa q3;have fq:=qd q3;dsimp only[List.drop];go_wp2;have hgt:w.heap.size+1<w2.heap.size:=s2;have hby:=((((f10.setCell g10 (p:=⟨w.heap.size+1,0,none⟩) hgt (.int .u8 1)).setCell g10 (p:=⟨w.heap.size+1,1,none⟩) hgt (.int .u32 vi)).setCell g10 (p:=⟨w.heap.size+1,2,none⟩) hgt (.int .u32 0)).setCell g10 (p:=⟨w.heap.size+1,3,none⟩) hgt (.int .i64 0)).setCell g10 (p:=⟨w.heap.size+1,4,none⟩) hgt (.slice A10 7 c10);have rf:=qi (qi (qi (qi (qi q3 0 (.int .u8 1)) 1 (.int .u32 vi)) 2 (.int .u32 0)) 3 (.int .i64 0)) 4 (.slice A10 7 c10);have b3':Below w.heap.size w W:=b3;have bf:Below w.heap.size w (((((W.setCell ⟨w.heap.size+1,0,none⟩ (.int .u8 1)).setCell ⟨w.heap.size+1,1,none⟩ (.int .u32 vi)).setCell ⟨w.heap.size+1,2,none⟩ (.int .u32 0)).setCell ⟨w.heap.size+1,3,none⟩ (.int .i64 0)).setCell ⟨w.heap.size+1,4,none⟩ (.slice A10 7 c10)):=zA4;have hsz:(((((W.setCell ⟨w.heap.size+1,0,none⟩ (.int .u8 1)).setCell ⟨w.heap.size+1,1,none⟩ (.int .u32 vi)).setCell ⟨w.heap.size+1,2,none⟩ (.int .u32 0)).setCell ⟨w.heap.size+1,3,none⟩ (.int .i64 0)).setCell ⟨w.heap.size+1,4,none⟩ (.slice A10 7 c10)).heap.size=W.heap.size:=zA2;generalize hwf:(World.setCell (World.setCell (World.setCell (World.setCell (World.setCell W _ _) _ _) _ _) _ _) _ _)=wf at *;have kf:=qa rf;rw[<-hsz] at hby;exact bodyPost_ret (v:=Kc 1 vi 0 0 A10 7 c10) (by simp[results,results66,go_sem,kf]) rfl ⟨_,rfl,⟨A10,c10,by rw[HL.out],by rw[HL.out];exact hby,by rw[HL.out];exact g10.mono zO⟩,bf⟩
def qm:Rel where
 rel:=Ext
 refl':=Ext.refl
 trans':=Ext.trans
 drew':=Ext.drew
theorem Qp {φ:World->Prop} (h:QW φ):qJ qm φ:=fun W W' he=>h W W' he
theorem Zm {P:Program} {o:Oper} {a:Act} {W:World} {lo':Nat} {ty:TypeId} {cs:Array Value} (hr:(execOp a.eval o).run P W=.ok (.value (.pointer (some ⟨W.heap.size,0,none⟩))) (W.alloc (.cells cs ty))) (hlo:lo'<=W.heap.size):QA qm P o a W (Zy lo' ty cs):=by
 unfold QA;rw[hr];exact⟨W.heap.size,rfl,⟨zI _ _ _ rfl,hlo⟩,zN _ _⟩
def KT (B:Nat) (ty:TypeId) (vs:Nat->Option Value):Rel where
 rel W W':=W.grownBy W' (some B)/\∀ cs,W.heap[B]?=some (.cells cs ty (0,0))->∃ cs',W'.heap[B]?=some (.cells cs' ty (0,0))/\cs'.size=cs.size/\∀ j,cs'[j]?=cs[j]?\/(vs j≠none/\cs'[j]?=vs j)
 refl' W:=⟨World.grownBy.refl _ _,fun cs h=>⟨cs,h,rfl,fun _=>.inl rfl⟩⟩
 trans' h k:=⟨h.1.trans k.1,fun cs hc=>by
  obtain⟨c1,h1,h2,h3⟩:=h.2 cs hc;obtain⟨c2,k1,k2,k3⟩:=k.2 c1 h1;refine⟨c2,k1,k2.trans h2,fun j=>?_⟩;rcases k3 j with e|e
  ·rw[e];exact h3 j
  ·exact .inr e⟩
 drew' W:=⟨⟨rfl,rfl,rfl,zM _,fun _ _ _=>rfl⟩,fun cs h=>⟨cs,h,rfl,fun _=>.inl rfl⟩⟩
section
variable {B:Nat} {ty:TypeId} {vs:Nat->Option Value}
theorem TY {W W':World} (h:(KT B ty vs).r W W') {p:Addr} {u:Value} (hp:p.block≠B) (hc:W.cell? p=some u):W'.cell? p=some u:=
 World.grownBy.cell h.1 hc (fun x=>hp (by simpa using x))
theorem qfF {W W':World} (h:(KT B ty vs).r W W') {b:Nat} {o:Obj} (hp:b≠B) (hc:W.heap[b]?=some o):W'.heap[b]?=some o:=
 (h.1.block b (zG.1 hc).1 (fun x=>hp (by simpa using x))).trans hc
theorem qfG {W:World} {cs:Array Value} {j:Nat} {v:Value} (h:W.heap[B]?=some (.cells cs ty (0,0))) (hv:vs j=some v) (hj:j<cs.size) : (KT B ty vs).r W (W.setCell ⟨B,j,none⟩ v)/\(W.setCell ⟨B,j,none⟩ v).cell? ⟨B,j,none⟩=some v:=by
 have hr:=qi h j v;refine⟨⟨⟨rfl,rfl,rfl,zA2,fun k _ hk=>zJ _ _ _ _ (fun e=>hk (by simp at e;rw[e]))⟩,fun cs' hc=>?_⟩,?_⟩
 ·rw[h] at hc;simp only[Option.some.injEq,Obj.cells.injEq,and_true] at hc;subst hc;refine⟨_,hr,zA2,fun k=>?_⟩;by_cases hk:j=k
  ·subst hk;exact .inr ⟨by rw[hv];simp,by rw[hv];simp[hj]⟩
  ·exact .inl (by simp[hk])
 ·rw[qa hr];simp[hj]
end
def Yo (B:Nat) (ty:TypeId) (j:Nat) (v:Value):Qe:=⟨Unit,fun _=>undef,fun _ W=>∃ cs,W.heap[B]?=some (.cells cs ty (0,0))/\cs[j]?=some v⟩
theorem jL (B:Nat) (ty:TypeId) (j:Nat) (v:Value) (u:Unit):(Yo B ty j v).f u=undef:=rfl
theorem Kr {B:Nat} {ty:TypeId} {vs:Nat->Option Value} {j:Nat} {v:Value} (hv:vs j=some v):∀ p,qJ (KT B ty vs) ((Yo B ty j v).φ p):=by
 intro p W W' he ⟨cs,h1,h2⟩;obtain⟨c',k1,_,k3⟩:=he.2 cs h1;refine⟨c',k1,?_⟩;rcases k3 j with e|e
 ·rw[e];exact h2
 ·rw[e.2];exact hv
theorem TF {P:Program} {o:Oper} {a:Act} {w W:World} {B:Nat} {ty:TypeId} {vs:Nat->Option Value} {j:Nat} {v:Value} {cs:Array Value} (h0:w.heap[B]?=some (.cells cs ty (0,0))) (hW:(KT B ty vs).r w W) (hv:vs j=some v) (hj:j<cs.size) (hr:(∀ i,W.frozen? ⟨B,i,none⟩=false)->(∃ u,W.cell? ⟨B,j,none⟩=some u)->(execOp a.eval o).run P W=.ok .skip (W.setCell ⟨B,j,none⟩ v)):QA (KT B ty vs) P o a W (Yo B ty j v):=by
 obtain⟨c',k1,k2,k3⟩:=hW.2 cs h0;obtain⟨g1,g2⟩:=qfG (vs:=vs) k1 hv zO;refine vd (hr (qd k1) ⟨_,by rw[qa k1,Array.getElem?_eq_getElem zO]⟩) ⟨(),rfl,?_,g1⟩;exact⟨_,qi k1 j v,by rw[Array.getElem?_setIfInBounds];simp[k2,hj]⟩
def TM (B:Nat) (ty:TypeId) (cs:Array Value):Rel where
 rel W W':=W.grownBy W' (some B)/\(B<W.heap.size->W'.heap[B]?=W.heap[B]?\/W'.heap[B]?=some (.cells cs ty (0,0)))
 refl' W:=⟨World.grownBy.refl _ _,fun _=>.inl rfl⟩
 trans' h k:=⟨h.1.trans k.1,fun hb=>by
  rcases k.2 (Nat.lt_of_lt_of_le hb h.1.size) with e|e
  ·rw[e];exact h.2 hb
  ·exact .inr e⟩
 drew' W:=⟨⟨rfl,rfl,rfl,zM _,fun _ _ _=>rfl⟩,fun _=>.inl rfl⟩
section
variable {B:Nat} {ty:TypeId} {cs:Array Value}
theorem Ys {W W':World} (h:(TM B ty cs).r W W') {b:Nat} {o:Obj} (hp:b≠B) (hc:W.heap[b]?=some o):W'.heap[b]?=some o:=
 (h.1.block b (zG.1 hc).1 (fun x=>hp (by simpa using x))).trans hc
theorem qcb {W W':World} (h:(TM B ty cs).r W W') {o:Obj} (hc:W.heap[B]?=some o):W'.heap[B]?=some o\/W'.heap[B]?=some (.cells cs ty (0,0)):=by
 have:=h.2 (zG.1 hc).1
 rwa [hc] at this
theorem qeV {W W':World} {B0:Nat} (h:(TM B ty cs).r W W') (h1:B0<=B) (h2:B0<=W.heap.size):Below B0 W W':=(Below.refl _ _).grown h.1 h2 (fun g hg=>by simp at hg;omega)
end
def XE (B:Nat) (ty:TypeId) (cs:Array Value):Qe:=⟨Unit,fun _=>undef,fun _ W=>W.heap[B]?=some (.cells cs ty (0,0))⟩
theorem VL (B:Nat) (ty:TypeId) (cs:Array Value) (u:Unit):(XE B ty cs).f u=undef:=rfl
theorem qbR {B:Nat} {ty:TypeId} {cs:Array Value}:∀ p,qJ (TM B ty cs) ((XE B ty cs).φ p):=by intro p W W' he h;rcases qcb he h with e|e <;> exact e
theorem qgd {P:Program} {o:Oper} {a:Act} {W w':World} {B:Nat} {ty:TypeId} {cs:Array Value} (hr:(execOp a.eval o).run P W=.ok .skip w') (hg:W.grownBy w' (some B)) (hw:w'.heap[B]?=some (.cells cs ty (0,0))):QA (TM B ty cs) P o a W (XE B ty cs):=
 vd hr ⟨(),rfl,hw,hg,fun _=>.inr hw⟩
theorem Qi {w:World} {b j:Nat} {v:Value}:w.grownBy (w.setCell ⟨b,j,none⟩ v) (some b):=⟨rfl,rfl,rfl,zA2,fun k _ hk=>zJ _ _ _ _ (fun e=>hk (by simp at e;rw[e]))⟩
def qdF (lo:Nat) (k i o r:Int) (n:Nat) (l:List UInt8):Qe:=⟨OA×Nat,fun p=>.agg #[.int .u8 k,.int .u32 i,.int .u32 o,.int .i64 r,.slice p.1 n p.2],fun p W=>Bys W W.heap.size (.slice p.1 n p.2) l/\Zv lo (.slice p.1 n p.2)⟩
theorem ZT (lo:Nat) (k i o r:Int) (n:Nat) (l:List UInt8) (A c):(qdF lo k i o r n l).f (A,c)=.agg #[.int .u8 k,.int .u32 i,.int .u32 o,.int .i64 r,.slice A n c]:=rfl
theorem Qx {w:World} {b j:Nat} {v:Value} {cs:Array Value} {ty:TypeId} (h:w.heap[b]?=some (.cells cs ty (0,0))) (hv:cs[j]?=some v):Ext w (w.setCell ⟨b,j,none⟩ v):=by
 refine⟨rfl,rfl,rfl,zA2,fun k _=>?_⟩;by_cases hk:k=b
 ·subst hk;rw[qi h j v,h];obtain⟨hj,e⟩:=zG.1 hv;have:cs.setIfInBounds j v=cs:=by
   apply Array.ext_getElem?;intro i;rw[Array.getElem?_setIfInBounds];split
   ·rename_i hi;rw[<-hi];simp[hj,e]
   ·rfl
  rw[this]
 ·exact zJ _ _ _ _ hk
def VolP (x:It) (u:Value) (_:World):Prop:=∃ v',u=.tuple #[VA v',.bool (Ud x)]/\(Ud x=true->v'=KL x)
theorem GY {x:It} (h:x.val.length<7):Ud x=false:=by unfold Ud;rw[decide_eq_false zO];rfl
theorem qhP {x:It} (h:7<=x.val.length):Ud x=qap 1 x.i 0 0 x.k x.i x.o x.r (QH (KL x)) x.val:=by
 unfold Ud;by_cases h7:x.val.length=7
 ·rw[decide_eq_true h7,Bool.true_and]
 ·rw[decide_eq_false h7,Bool.false_and]
  symm
  unfold qap;rw[decide_eq_false];rintro ⟨_,_,_,_,e⟩;have:=congrArg List.length e;rw[Vz] at this;omega
theorem qhf {x:It} (hx:zy x) (h:7<=x.val.length):TT (KL x):=by have r0:=Vd (l:=x.val) (a:=0) (k:=2) zO;have r3:=Vd (l:=x.val) (a:=3) (k:=4) zO;exact⟨hx.2.1,⟨r0.1,r0.2⟩,⟨r3.1,r3.2⟩⟩
set_option maxRecDepth 100000 in
theorem qiF (x:It) (hx:zy x) (A c) (w:World) (h:Bys w w.heap.size (.slice A x.val.length c) x.val):Calls prog 162 #[Kc x.k x.i x.o x.r A x.val.length c] w (zF (VolP x) w):=by
 have H2:∀ W,Ext w W->_:=fun W hW=>qbs _ x.val 0 zO W ((h.below hW).more hW.size);have H4:∀ W,Ext w W->_:=fun W hW=>Ka _ x.val 3 zO W ((h.below hW).more hW.size);replace H2:=zH H2;replace H4:=zH H4;have HV:=zH h;have hcat:=h.at_;clear h;have hBX:∀ j,(hj:j<x.val.length)->∃ b off,A=some ⟨b,off,none⟩/\w.cell? ⟨b,off+j,none⟩=some (.int .u8 (x.val[j].toNat:Int)):=by intro j hj;obtain⟨A',c',e,_,_,hr⟩:=HV.out;cases e;obtain⟨b,off,rfl,hb,hc⟩:=hr.2 zO;exact⟨b,off,rfl,hc j _ (by rw[List.getElem?_map,zL hj];rfl)⟩
 replace hBX:=zH hBX;have HN2:Hid (TL x.val 0 2=if 2<=x.val.length then 0 else 8):=zH (by unfold TL;rw[Nat.zero_add]);have HN4:Hid (TL x.val 3 4=if 7<=x.val.length then 0 else 8):=zH (by unfold TL;rfl);have HVA:Hid (KL x=⟨x.i,Zr x.val 0 2,decide ((x.val[2]?.getD 0).toNat=1),Zr x.val 3 4⟩):=rfl;have HP0:Hid (x.val.length<7->∀ W,VolP x (.tuple #[VA ⟨0,0,false,0⟩,.bool false]) W):=zH (fun h W=>⟨_,by rw[GY h],fun h'=>by rw[GY h] at h';cases h'⟩);have HP1:Hid (7<=x.val.length->∀ W,VolP x (.tuple #[VA (KL x),.bool (qap 1 x.i 0 0 x.k x.i x.o x.r (QH (KL x)) x.val)]) W):=zH (fun h W=>⟨_,by rw[qhP h],fun _=>rfl⟩);have HON:=zH (fun h=>qjj (KL x) (qhf hx h));replace hx:=zH hx;generalize hva:KL x=va at *;replace hva:=zH hva;generalize Zr x.val 0 2=n2 at *;generalize Zr x.val 3 4=n4 at *;generalize TL x.val 0 2=e2 at *;generalize TL x.val 3 4=e4 at *;go_enter func162,ntmps162;go_wp2_with fail;generalize hw1:(World.alloc (World.alloc _ _) _)=w1;have b1:Ext w w1:=by rw[<-hw1];exact(zN _ _).trans (zN _ _)
 have r1:w1.heap[w.heap.size]?=some (.cells #[.int .u8 x.k,.int .u32 x.i,.int .u32 x.o,.int .i64 x.r,.slice A x.val.length c] 51 (0,0)):=by rw[<-hw1];exact(zK _ _ _ zA2).trans (zI _ _ _ rfl)
 have q1:w1.heap[w.heap.size+1]?=some (.cells #[.int .u32 x.i,.int .i64 0,.bool false,.int .u32 0] 36 (0,0)):=by rw[<-hw1];exact zI _ _ _ zA2
 clear hw1;refine(H2.out _ b1).mono ?_;rintro e w2 ⟨rfl,hB⟩;have b2:Ext w w2:=Ext.trans b1 hB;have r2:=qb r1 hB;have q2:=qb q1 hB;have k2:=qa r2;clear hB b1 r1 q1 H2;go_wp2_with fail;clear k2;refine(H4.out _ b2).mono ?_;rintro e w3 ⟨rfl,hB⟩;have b3:Ext w w3:=Ext.trans b2 hB;have r3:=qb r2 hB;have q3:=qb q2 hB;have s3:w.heap.size+1<w3.heap.size:=(zG.1 q3).1;have k3:=qa r3;have kq3:=qa q3;have fq3:=qd q3;clear hB b2 r2 q2 H4;by_cases h7:7<=x.val.length
 ·obtain rfl:e2=0:=by rw[HN2.out,if_pos zO]
  obtain rfl:e4=0:=by rw[HN4.out,if_pos h7]
  obtain⟨b,off,rfl,hc2⟩:=hBX.out 2 zO;have e2':(x.val[2]?.getD 0).toNat=x.val[2].toNat:=by rw[zL zO];rfl
  rw[e2'] at HVA;clear HN2 HN4 HP0 hBX e2';generalize x.val[2].toNat=p2 at *;go_wp2;obtain⟨RR,hRR⟩:∃ RR:Rel,RR=KT (w.heap.size+1) 36 (fun j=>if j=1 then some (.int .i64 n2) else if j=2 then some (.bool (decide (p2=1))) else if j=3 then some (.int .u32 n4) else none):=⟨_,rfl⟩
  replace hRR:=zH hRR;have g1:∀ W,RR.r w3 W->W.cell? ⟨w.heap.size,4,none⟩=some (.slice (some ⟨b,off,none⟩) x.val.length c):=fun W h=>TY (hRR.out ▸ h) zA2 (by rw[k3];rfl);have hbw:b≠w.heap.size+1:=by have:=World.block_lt_of_cell? w _ hc2;simp at this;omega
  have g2:∀ W,RR.r w3 W->W.cell? ⟨b,off+2,none⟩=some (.int .u8 (p2:Int)):=fun W h=>TY (hRR.out ▸ h) hbw (Ext.cell b3 hc2);have hq1:((p2:Int) == 1)=decide (p2=1):=by rw[Bool.eq_iff_iff];simp;omega
  have i2:(2:Int)<(x.val.length:Int):=zO;refine qp zQ ?_;refine ZY (w:=w3) RR (qM [(8,Yo (w.heap.size+1) 36 1 (.int .i64 n2)),(10,Yo (w.heap.size+1) 36 2 (.bool (decide (p2=1)))),(12,Yo (w.heap.size+1) 36 3 (.int .u32 n4))])
   [true,true,true,true,true,true,true,true,true,true,true,true,true] 0 zQ zQ zQ zQ zQ zQ ?st (Rel.drew _ _) ?walk
  case st=>rw[hRR.out];exact qj (by simp only[List.forall_mem_cons];exact⟨Kr rfl,Kr rfl,Kr rfl,fun _ h=>by cases h⟩)
  case walk =>
   intro K hK;dsimp only[qw];refine zB3 ?_;refine qz (Yo (w.heap.size+1) 36 1 (.int .i64 n2)) zA0 zA0 (fun W hW _=>?_) (fun p=>?_)
   ·rw[hRR.out] at hW ⊢;refine TF (j:=1) q3 hW rfl zA2 (fun hf hu=>?_);obtain⟨u,hu⟩:=hu;go_simp
   cases p;refine zB3 ?_;refine qz (Yo (w.heap.size+1) 36 2 (.bool (decide (p2=1)))) zA0 zA0 (fun W hW _=>?_) (fun p=>?_)
   ·rw[hRR.out] at hW ⊢;refine TF (j:=2) q3 hW rfl zA2 (fun hf hu=>?_);obtain⟨u,hu⟩:=hu;go_simp
   cases p;refine zB3 ?_;refine qz (Yo (w.heap.size+1) 36 3 (.int .u32 n4)) zA0 zA0 (fun W hW _=>?_) (fun p=>?_)
   ·rw[hRR.out] at hW ⊢;refine TF (j:=3) q3 hW rfl zA2 (fun hf hu=>?_);obtain⟨u,hu⟩:=hu;go_simp
   cases p;refine zB3 ?_;refine qA (hK _ _ fun W0 hW hF=>?_);have f1:=(hF 8).1;have f2:=(hF 10).1;have f3:=(hF 12).1;clear hF hK g1 g2;rw[hRR.out] at hW;have r4:=qfF hW zA2 r3;obtain⟨cs,q4,hcs,hcv⟩:=hW.2 _ q3;obtain rfl:cs=#[.int .u32 x.i,.int .i64 n2,.bool (decide (p2=1)),.int .u32 n4]:=by
    have e0:=hcv 0;simp at e0;obtain⟨c1,h1,h1'⟩:=f1;obtain⟨c2,h2,h2'⟩:=f2;obtain⟨c3,h3,h3'⟩:=f3;rw[q4] at h1 h2 h3;simp only[Option.some.injEq,Obj.cells.injEq,and_true] at h1 h2 h3;subst h1;subst h2;apply Array.ext_getElem?;intro j;rcases j with _|_|_|_|j
    ·rw[e0];rfl
    ·exact h1'
    ·exact h2'
    ·rw[<-h3] at h3';exact h3'
    ·rw[Array.getElem?_eq_none (by rw[hcs];simp),Array.getElem?_eq_none zA2]
   have bW:Below w.heap.size w W0:=Below.trans b3 ((Below.refl _ _).grown hW.1 zO (fun g hg=>by simp at hg;omega));refine zB4 ?_;go_wp2;refine Qw ?_;go_wp2;have HO:=zH (HON.out h7);have HP:=HP1.out h7;have hvbl:=Vz va;have hvx:=(HV.out.below bW).more bW.size;have ea:=HVA.out;clear HON HP1 HVA hva HV;subst ea;dsimp only at HO HP;generalize QH _=vb at *;replace HO:=zH HO.out;have HSM:=zH (fun A c W (hA:Bys W W.heap.size (.slice A 7 c) vb) (hW2:Ext W0 W)=>qjZ 1 x.i 0 0 x.k x.i x.o x.r A (some ⟨b,off,none⟩) 7 c x.val.length _ vb x.val W hA ((hvx.below hW2).more hW2.size));generalize qap 1 x.i 0 0 x.k x.i x.o x.r vb x.val=S at *;have hr5:∀ W',Ext W0 W'->∀ j,W'.cell? ⟨w.heap.size,j,none⟩=#[.int .u8 x.k,.int .u32 x.i,.int .u32 x.o,.int .i64 x.r,.slice (some ⟨b,off,none⟩) x.val.length c][j]?:=fun W' h=>qa (qb r4 h);have hq5:∀ W',Ext W0 W'->∀ j,W'.cell? ⟨w.heap.size+1,j,none⟩=#[.int .u32 x.i,.int .i64 n2,.bool (decide (p2=1)),.int .u32 n4][j]?:=fun W' h=>qa (qb q4 h);replace HP:=zH HP;generalize hdp:decide (p2=1)=fz at *;clear hdp;refine qp zQ ?_;refine ZY (w:=W0) qm (qM [(2,outI 1 x.i 0 0 7 vb),(4,one (.bool S)),(5,one undef)])
    [true,true,true,true,true,true] 1 zQ zQ zQ zQ zQ zQ ?st (Rel.drew _ _) ?walk
   case st=>exact qj (by simp only[List.forall_mem_cons];exact⟨fun p=>Qp (qgC _ _ _ _ _ _ p),fun p=>Qp (jg _ p),fun p=>Qp (jg _ p),fun _ h=>by cases h⟩)
   case walk =>
    intro K hK;dsimp only[qw];have hr6:∀ W',qm.r W0 W'->∀ j,W'.cell? ⟨w.heap.size,j,none⟩=#[.int .u8 x.k,.int .u32 x.i,.int .u32 x.o,.int .i64 x.r,.slice (some ⟨b,off,none⟩) x.val.length c][j]?:=hr5;have hq6:∀ W',qm.r W0 W'->∀ j,W'.cell? ⟨w.heap.size+1,j,none⟩=#[.int .u32 x.i,.int .i64 n2,.bool fz,.int .u32 n4][j]?:=hq5;refine zB3 ?_;refine qz (outI 1 x.i 0 0 7 vb) zA0 zA0 (fun W hW _=>?_) (fun p=>?_)
    ·refine qV ?_ ((HO.out W).mono fun e w' h=>?_)
     ·go_simp
     ·obtain⟨u,rfl,⟨A,c,rfl,h1,h2⟩,h3⟩:=h;rw[hvbl] at h1 ⊢;exact⟨(A,c),rfl,h1,h3⟩
    obtain⟨A2,c2⟩:=p;refine zB3 ?_;refine qz (one (.bool S)) zA0 zA0 (fun W hW hp=>?_) (fun p=>?_)
    ·have f2:Bys W W.heap.size (.slice A2 7 c2) vb:=(hp 2 zD).1;refine qV ?_ ((HSM.out A2 c2 W f2 hW).mono fun e w' h=>⟨(),h.1,trivial,h.2⟩);go_simp
    cases p;simp only[Act.put,qk,qc,qg,jL,zA,zB,zC];refine qz (one undef) zA0 zA0 (fun W hW hp=>?_) (fun p=>?_)
    ·have q5:=qb q4 hW;have f5:=qd q5;have e0:=Qx q5 (j:=0) rfl;have e1:=Qx (qb q5 e0) (j:=1) rfl;have e2:=Qx (qb (qb q5 e0) e1) (j:=2) rfl;have e3:=Qx (qb (qb (qb q5 e0) e1) e2) (j:=3) rfl;refine vd (w':=(((W.setCell ⟨w.heap.size+1,0,none⟩ (.int .u32 x.i)).setCell ⟨w.heap.size+1,1,none⟩ (.int .i64 n2)).setCell ⟨w.heap.size+1,2,none⟩ (.bool fz)).setCell ⟨w.heap.size+1,3,none⟩ (.int .u32 n4)) ?_ ⟨(),rfl,trivial,e0.trans (e1.trans (e2.trans e3))⟩;go_simp
    cases p;simp only[Act.put,qf,qc,qg,jL,zA,zB,zC];refine qA (hK _ _ fun W hW hF=>?_);clear hF hK hr6 hq6 hr5 hq5;have hW':Ext W0 W:=hW;have q5:=qb q4 hW';have k5:=qa q5;refine zB4 ?_;go_wp2;refine Qw ?_;go_wp2;exact bodyPost_ret (v:=.tuple #[VA ⟨x.i,n2,fz,n4⟩,.bool S]) (by simp[results,results162,go_sem,k5]) rfl ⟨_,rfl,HP.out W,Below.trans bW (Below.mono hW' (by have:=bW.size;omega))⟩
 ·have h4:e4=8:=by rw[HN4.out,if_neg h7]
  have h2:e2=0\/e2=8:=by rw[HN2.out];split <;> simp
  have hp:=HP0.out zO;replace hp:=zH hp;subst h4;clear HN2 HN4 HP0 HP1 HON hBX HVA;have b3':Below w.heap.size w w3:=b3;rcases h2 with rfl|rfl
  ·go_wp2;have rf:=qi (qi (qi (qi q3 0 (.int .u32 0)) 1 (.int .i64 0)) 2 (.bool false)) 3 (.int .u32 0);have bf:Below w.heap.size w ((((w3.setCell ⟨w.heap.size+1,0,none⟩ (.int .u32 0)).setCell ⟨w.heap.size+1,1,none⟩ (.int .i64 0)).setCell ⟨w.heap.size+1,2,none⟩ (.bool false)).setCell ⟨w.heap.size+1,3,none⟩ (.int .u32 0)):=zA4;generalize hwf:(World.setCell (World.setCell (World.setCell (World.setCell w3 _ _) _ _) _ _) _ _)=wf at *;have kf:=qa rf;exact bodyPost_ret (v:=.tuple #[VA ⟨0,0,false,0⟩,.bool false]) (by simp[results,results162,go_sem,kf]) rfl ⟨_,rfl,hp.out wf,bf⟩
  ·go_wp2;have rf:=qi (qi (qi (qi q3 0 (.int .u32 0)) 1 (.int .i64 0)) 2 (.bool false)) 3 (.int .u32 0);have bf:Below w.heap.size w ((((w3.setCell ⟨w.heap.size+1,0,none⟩ (.int .u32 0)).setCell ⟨w.heap.size+1,1,none⟩ (.int .i64 0)).setCell ⟨w.heap.size+1,2,none⟩ (.bool false)).setCell ⟨w.heap.size+1,3,none⟩ (.int .u32 0)):=zA4;generalize hwf:(World.setCell (World.setCell (World.setCell (World.setCell w3 _ _) _ _) _ _) _ _)=wf at *;have kf:=qa rf;exact bodyPost_ret (v:=.tuple #[VA ⟨0,0,false,0⟩,.bool false]) (by simp[results,results162,go_sem,kf]) rfl ⟨_,rfl,hp.out wf,bf⟩
def UC (base:Nat) (e:TypeId) (size lo:Nat) (v:Value) (m:Nat) (ys:List Value):Qe:=⟨OA×Nat,fun p=>.slice p.1 m p.2,fun p W=>Done base e size lo v m ys (.slice p.1 m p.2) W⟩
theorem JP (base:Nat) (e:TypeId) (size lo:Nat) (v:Value) (m:Nat) (ys:List Value) (A c):(UC base e size lo v m ys).f (A,c)=.slice A m c:=rfl
theorem qaD {base:Nat} {e:TypeId} {size lo:Nat} {v:Value} {n:Nat} {xs:List Value} {m:Nat} {ys:List Value}:∀ p,qJ (Kk base e size lo v n xs m ys) ((UC base e size lo v m ys).φ p):=fun p _ _ he h=>he.2.2 _ h

def Bls (w:World) (B:Nat) (v:Value) (bs:List (List UInt8)):Prop:=
 ∃ vs A c,v=.slice A bs.length c/\bs.length<=c/\c<=maxLen/\Rd w B 1 A bs.length vs/\∀ (i:Nat) (u:Value) (l:List UInt8),vs[i]?=some u->bs[i]?=some l->Bys w B u l
theorem Bls.below {w w':World} {B:Nat} {v:Value} {bs:List (List UInt8)} (h:Bls w B v bs) (hb:Below B w w'):Bls w' B v bs:=by obtain⟨vs,A,c,e,h1,h2,h3,h4⟩:=h;exact⟨vs,A,c,e,h1,h2,h3.below hb,fun i u l hu hl=>(h4 i u l hu hl).below hb⟩
theorem Bls.more {w:World} {B B':Nat} {v:Value} {bs:List (List UInt8)} (h:Bls w B v bs) (hb:B<=B'):Bls w B' v bs:=by obtain⟨vs,A,c,e,h1,h2,h3,h4⟩:=h;exact⟨vs,A,c,e,h1,h2,h3.more hb,fun i u l hu hl=>(h4 i u l hu hl).more hb⟩
theorem Bls.at_ {w:World} {B:Nat} {A:OA} {n c:Nat} {bs:List (List UInt8)} (h:Bls w B (.slice A n c) bs):n=bs.length/\n<=c/\c<=maxLen/\(0<n->∃ b off,A=some ⟨b,off,none⟩/\b<B):=by obtain⟨vs,A',c',e,h1,h2,h3,_⟩:=h;cases e;refine⟨rfl,h1,h2,fun hn=>?_⟩;obtain⟨b,off,e,hb,_⟩:=h3.2 hn;exact⟨b,off,e,hb⟩
theorem Bls.get {w:World} {B b off n c:Nat} {bs:List (List UInt8)} (h:Bls w B (.slice (some ⟨b,off,none⟩) n c) bs) (i:Nat) (hi:i<bs.length):∃ A' c',w.cell? ⟨b,off+i,none⟩=some (.slice A' bs[i].length c')/\Bys w B (.slice A' bs[i].length c') bs[i]:=by
 obtain⟨vs,A',c',e,h1,h2,h3,h4⟩:=h;cases e;have hv:i<vs.length:=by rw[h3.len1];exact hi
 obtain⟨b',off',e,hb,hc⟩:=h3.2 zO;cases e;have hby:=h4 i vs[i] bs[i] (zL hv) (zL hi);obtain⟨A2,c2,e2,g1,g2,g3⟩:=hby;exact⟨A2,c2,by rw[<-e2];exact hc i _ (zL hv),A2,c2,rfl,g1,g2,g3⟩
def zu:List ((Int×List UInt8)×Value)->List Value
 | []=>[]
 |p :: r=>.int .i64 p.1.1 :: p.2 :: zu r
theorem KU (ps:List ((Int×List UInt8)×Value)):(zu ps).length=ps.length*2:=by
 induction ps with
 |nil=>rfl
 |cons p r ih=>simp[zu,ih];omega
theorem VF (ps:List ((Int×List UInt8)×Value)):∀ i (h:i<ps.length),(zu ps)[i*2]?=some (.int .i64 ps[i].1.1)/\(zu ps)[i*2+1]?=some ps[i].2:=by
 induction ps with
 |nil=>intro i h;simp at h
 |cons p r ih =>
  intro i h;rcases i with _|i
  ·simp[zu]
  ·have:=ih i (by simpa using h);rw[show (i+1)*2=i*2+2 by omega];simpa [zu] using this
def Wrs (w:World) (B:Nat) (v:Value) (ws:List (Int×List UInt8)):Prop:=
 ∃ ps:List ((Int×List UInt8)×Value),ps.map (·.1)=ws/\(∃ A c,v=.slice A ws.length c/\ws.length<=c/\c<=maxLen/\Rd w B 2 A ws.length (zu ps))/\∀ p∈ps,(∃ A c,p.2=.slice A p.1.2.length c)/\Bys w B p.2 p.1.2
theorem Wrs.below {w w':World} {B:Nat} {v:Value} {ws:List (Int×List UInt8)} (h:Wrs w B v ws) (hb:Below B w w'):Wrs w' B v ws:=by obtain⟨ps,e,⟨A,c,e1,e2,e3,hr⟩,hp⟩:=h;exact⟨ps,e,⟨A,c,e1,e2,e3,hr.below hb⟩,fun p h=>⟨(hp p h).1,(hp p h).2.below hb⟩⟩
theorem Wrs.more {w:World} {B B':Nat} {v:Value} {ws:List (Int×List UInt8)} (h:Wrs w B v ws) (hb:B<=B'):Wrs w B' v ws:=by obtain⟨ps,e,⟨A,c,e1,e2,e3,hr⟩,hp⟩:=h;exact⟨ps,e,⟨A,c,e1,e2,e3,hr.more hb⟩,fun p h=>⟨(hp p h).1,(hp p h).2.more hb⟩⟩
theorem Wrs.at_ {w:World} {B:Nat} {A:OA} {n c:Nat} {ws:List (Int×List UInt8)} (h:Wrs w B (.slice A n c) ws):n=ws.length/\n<=c/\c<=maxLen/\(0<n->∃ b off,A=some ⟨b,off,none⟩/\b<B):=by obtain⟨ps,e,⟨A',c',e1,e2,e3,hr⟩,hp⟩:=h;cases e1;refine⟨rfl,e2,e3,fun hn=>?_⟩;obtain⟨b,off,e,hb,_⟩:=hr.2 hn;exact⟨b,off,e,hb⟩
theorem Wrs.get {w:World} {B b off n c:Nat} {ws:List (Int×List UInt8)} (h:Wrs w B (.slice (some ⟨b,off,none⟩) n c) ws) (i:Nat) (hi:i<ws.length):∃ A' c',w.cell? ⟨b,off+i*2,none⟩=some (.int .i64 ws[i].1)/\w.cell? ⟨b,off+i*2+1,none⟩=some (.slice A' ws[i].2.length c')/\Bys w B (.slice A' ws[i].2.length c') ws[i].2:=by
 obtain⟨ps,e,⟨A,c',e1,e2,e3,hr⟩,hp⟩:=h;cases e1;subst e;have hi':i<ps.length:=by simpa using hi
 obtain⟨b',off',e,hb,hc⟩:=hr.2 zO;cases e;obtain⟨c0,c1⟩:=VF ps i hi';obtain⟨⟨A',c',e5⟩,hby⟩:=hp ps[i] (List.getElem_mem hi');rw[e5] at c1 hby;refine⟨A',c',?_⟩;simp only[List.getElem_map];exact⟨hc _ _ c0,by rw[Nat.add_assoc];exact hc _ _ c1,hby⟩
def GO (l:List UInt8):Bool:=decide (l.length=128)
def wrOk (x:Int×List UInt8):Bool:=decide (0<=x.1/\x.1<256/\x.2.length=128)
def headD (n m:Nat):Bool:=decide (n=256/\m<=4096)
def QM (bs:List (List UInt8)) (ws:List (Int×List UInt8)):Bool:=headD bs.length ws.length && (bs.all GO && ws.all wrOk)
theorem qft {α:Type} (f:α->Bool) (l:List α) (k:Nat) (h:k<l.length):(l.take (k+1)).all f=((l.take k).all f && f l[k]):=by rw[List.take_succ_eq_append_getElem h,List.all_append];simp only[List.all_cons,List.all_nil,Bool.and_true]
theorem qiN {α:Type} {f:α->Bool} {l:List α} {k:Nat} (h:k<l.length) (hf:f l[k]=false):l.all f=false:=by rw[List.all_eq_false];exact⟨_,List.getElem_mem h,by simp[hf]⟩
abbrev Va (A1:OA) (n1 c1:Nat) (A2:OA) (n2 c2:Nat):Value:=.agg #[.slice A1 n1 c1,.slice A2 n2 c2]
theorem qbf (A1 n1 c1 A2 n2 c2) (bs:List (List UInt8)) (ws:List (Int×List UInt8)) (w:World) (hb:Bls w w.heap.size (.slice A1 n1 c1) bs) (hw:Wrs w w.heap.size (.slice A2 n2 c2) ws):Calls prog 158 #[Va A1 n1 c1 A2 n2 c2] w (Ret (.int .i64 (Jz (QM bs ws))) w):=by
 obtain⟨e1,hc1,hm1,hA1⟩:=hb.at_;obtain⟨e2,hc2,hm2,hA2⟩:=hw.at_;subst e1;subst e2;by_cases hh:headD bs.length ws.length=true
 case neg =>
  have hM:QM bs ws=false:=by unfold QM;rw[show headD bs.length ws.length=false by simpa using hh];rfl
  rw[hM];have hh':¬(bs.length=256/\ws.length<=4096):=by simpa [headD] using hh
  clear hM hb hw hA1 hA2 hh;generalize bs.length=n1 at *;generalize ws.length=n2 at *;go_enter func158,ntmps158;go_wp2;all_goals try simp only[beq_iff_eq,beq_eq_false_iff_ne,ne_eq,bne_iff_ne,bne_eq_false_iff_eq] at *
  all_goals first|(exfalso;omega)|skip
  all_goals go_ret
  all_goals exact⟨rfl,zA4⟩
 case pos =>
  have hM:QM bs ws=(bs.all GO && ws.all wrOk):=by unfold QM;rw[hh];rfl
  have hh':bs.length=256/\ws.length<=4096:=by simpa [headD] using hh
  obtain⟨hn1,hn2⟩:=hh';rw[hM];clear hM hh;have HB:=zH hb;have HW:=zH hw;have HTB:=zH (qft GO bs);have HTW:=zH (qft wrOk ws);have HBB:=zH (fun k h=>@qiN _ GO bs k h);have HBW:=zH (fun k h=>@qiN _ wrOk ws k h);have HE1:Hid (bs.take bs.length=bs):=zH (List.take_length);have HE2:Hid (ws.take ws.length=ws):=zH (List.take_length);obtain⟨b1,o1,rfl,hb1⟩:=hA1 zO;clear hb hw hA1;have hsm:bs.length<1000:=zO;replace hn1:=zH hn1;have hd1:((bs.length:Int) != 256)=false:=by rw[bne_eq_false_iff_eq,hn1.out];rfl
  have hd2:decide ((ws.length:Int)>4096)=false:=decide_eq_false zO;go_enter func158,ntmps158;go_wp2;generalize hw1:(World.alloc _ _)=w1;have x1:Ext w w1:=by rw[<-hw1];exact zN _ _
  have r1:w1.heap[w.heap.size]?=some (.cells #[.slice (some ⟨b1,o1,none⟩) bs.length c1,.slice A2 ws.length c2] 25 (0,0)):=by rw[<-hw1];exact zI _ _ _ rfl
  clear hw1;go_loopw [20] (fun i wr=>∃ k:Nat,k<=bs.length/\i=.int .i64 (k:Int)/\(bs.take k).all GO=true/\Ext w1 wr) (fun i _=>bs.length-(intOf i).toNat)
  case atStart=>exact⟨0,zO,rfl,rfl,Ext.refl _⟩
  case round =>
   obtain⟨k,hk,rfl,hok,hE⟩:=hrel;have hEw:=x1.trans hE;by_cases hlt:k<bs.length
   ·have hCJ:=hlt;obtain⟨A',c',hc,_⟩:=((HB.out.below hEw).more hEw.size).get k hlt;have ht:=HTB.out k hlt;have hbd:=HBB.out k hlt;rw[hok,Bool.true_and] at ht;replace ht:=zH ht;replace hbd:=zH hbd;have hbo:GO bs[k]=decide (bs[k].length=128):=rfl;replace hbo:=zH hbo;generalize GO bs[k]=q at *;generalize bs[k].length=m at *;by_cases hm:m=128
    ·obtain rfl:q=true:=by rw[hbo.out,decide_eq_true hm]
     subst hm;go_wp2;go_roundw
     case rel=>exact⟨k+1,zO,by go_num,ht.out,hE⟩
     case measure=>simp[intOf];omega
    ·obtain rfl:q=false:=by rw[hbo.out,decide_eq_false hm]
     have hne:((m:Int) != 128)=true:=by rw[bne_iff_ne];omega
     have hf:=hbd.out rfl;go_wp2;go_ret;exact⟨by first|rfl|(rw[hf];rfl),hEw⟩
   ·obtain rfl:k=bs.length:=zO;rw[HE1.out] at hok;rw[hok];have rr:=qb r1 hE;have kr:=qa rr;clear HB HTB HBB r1 hd1 hd2;go_wp2;clear kr;go_loopw [31] (fun i wq=>∃ k:Nat,k<=ws.length/\i=.int .i64 (k:Int)/\(ws.take k).all wrOk=true/\Ext wr wq) (fun i _=>ws.length-(intOf i).toNat)
    case atStart=>exact⟨0,zO,rfl,rfl,Ext.refl _⟩
    case round =>
     obtain⟨j,hj,rfl,wWB,hE2⟩:=hrel;have hEq:=hEw.trans hE2;by_cases hlt2:j<ws.length
     ·have hlt2':=hlt2;obtain⟨b2,o2,rfl,hb2⟩:=hA2 zO;obtain⟨A',c',hca,hcb,_⟩:=((HW.out.below hEq).more hEq.size).get j hlt2;have ht:=HTW.out j hlt2;have hbd:=HBW.out j hlt2;rw[wWB,Bool.true_and] at ht;replace ht:=zH ht;replace hbd:=zH hbd;have hbo:wrOk ws[j]=decide (0<=ws[j].1/\ws[j].1<256/\ws[j].2.length=128):=rfl;replace hbo:=zH hbo;generalize wrOk ws[j]=q at *;generalize ws[j].1=a at *;generalize ws[j].2.length=m at *;by_cases hm:0<=a/\a<256/\m=128
      ·obtain rfl:q=true:=by rw[hbo.out,decide_eq_true hm]
       obtain⟨ha1,ha2,rfl⟩:=hm;have hda:decide (a<0)=false:=decide_eq_false zO;have hdb:decide (a≥256)=false:=decide_eq_false zO;go_wp2;go_roundw
       case rel=>exact⟨j+1,zO,by go_num,ht.out,hE2.trans (zN _ _)⟩
       case measure=>simp[intOf];omega
      ·obtain rfl:q=false:=by rw[hbo.out,decide_eq_false hm]
       have hf:=hbd.out rfl;go_wp2;all_goals try simp only[beq_iff_eq,beq_eq_false_iff_ne,ne_eq,bne_iff_ne,bne_eq_false_iff_eq] at *
       all_goals first
        |(exfalso;omega)
        |(go_ret
          exact⟨by first|rfl|(rw[hf];rfl),Below.alloc hEq (by have:=hEq.size;omega) _⟩)
     ·obtain rfl:j=ws.length:=zO;rw[HE2.out] at wWB;go_wp2;go_ret;exact⟨by first|rfl|(rw[hok];rfl)|(rw[wWB];rfl)|(rw[hok,wWB];rfl),hEq⟩
def Qt (t:List UInt8):Bool:=decide (t.length=256) && Vs (t.take 8)
theorem Bys.take {w:World} {B:Nat} {A:OA} {m c:Nat} {l:List UInt8} (h:Bys w B (.slice A m c) l) {k:Nat} (hk:k<=l.length):Bys w B (.slice A k c) (l.take k):=by
 obtain⟨A',c',e,hc,hm,hr⟩:=h;cases e;have hl:(l.take k).length=k:=zA1;refine⟨_,_,by rw[hl],by rw[hl];omega,hm,?_⟩;rw[hl];have:=hr.take hk
 rwa [Nat.mul_one,<-List.map_take] at this
theorem Tx (v:Value) (t:List UInt8) (w:World) (h:Bys w w.heap.size v t):Calls prog 159 #[v] w (Ret (.int .i64 (Jz (Qt t))) w):=by
 obtain⟨A,m,c,rfl⟩:∃ A m c,v=.slice A m c:=by obtain⟨A,c,e,_⟩:=h;exact⟨_,_,_,e⟩
 obtain⟨e1,hc,hm,hA⟩:=h.at_;subst e1;by_cases h256:t.length=256
 ·have hT:Qt t=Vs (t.take 8):=by unfold Qt;rw[decide_eq_true h256,Bool.true_and]
  rw[hT];have HM:=zH (fun W (hW:Ext w W)=>qgY (.slice A 8 c) (t.take 8) zA1 zA1 W (((h.take (k:=8) zO).below hW).more hW.size));have hz:=qbC (t.take 8);have hml:=qeA (t.take 8);generalize Xg (t.take 8)=mx at *;generalize Vs (t.take 8)=z at *;clear hT h;have hc8:(8:Int)<=(c:Int):=zO;have hd1:((t.length:Int) != 256)=false:=by rw[bne_eq_false_iff_eq];omega
  clear h256;go_enter func159,ntmps159;go_wp2_with fail;refine(HM.out _ (Ext.refl _)).mono ?_;rintro e w2 ⟨rfl,hB⟩;clear HM;cases z
  ·have hm0:0<mx:=by simpa using hz
   go_wp2;go_ret;exact⟨rfl,hB⟩
  ·obtain rfl:mx=0:=by simpa using hz
   go_wp2;go_ret;exact⟨rfl,hB⟩
 ·have hT:Qt t=false:=by unfold Qt;rw[decide_eq_false h256];rfl
  rw[hT];have hn1:((t.length:Int) != 256)=true:=by rw[bne_iff_ne];omega
  go_enter func159,ntmps159;go_wp2;go_ret;exact⟨rfl,Below.refl _ _⟩
structure Sto where
 bs:List (List UInt8)
 ws:List (Int×List UInt8)
 now:List UInt8
 last:List UInt8
def ql (S:Sto):Bool:=QM S.bs S.ws && (Qt S.now && Qt S.last)
abbrev Qk (A1:OA) (n1 c1:Nat) (A2:OA) (n2 c2:Nat) (A3:OA) (n3 c3:Nat) (A4:OA) (n4 c4:Nat):Value:=.agg #[.slice A1 n1 c1,.slice A2 n2 c2,.slice A3 n3 c3,.slice A4 n4 c4]
structure qZ (w:World) (B:Nat) (v1 v2 v3 v4:Value) (S:Sto):Prop where
 bs:Bls w B v1 S.bs
 ws:Wrs w B v2 S.ws
 now:Bys w B v3 S.now
 last:Bys w B v4 S.last
theorem qZ.below {w w':World} {B:Nat} {v1 v2 v3 v4:Value} {S:Sto} (h:qZ w B v1 v2 v3 v4 S) (hb:Below B w w'):qZ w' B v1 v2 v3 v4 S:=⟨h.bs.below hb,h.ws.below hb,h.now.below hb,h.last.below hb⟩
theorem qZ.more {w:World} {B B':Nat} {v1 v2 v3 v4:Value} {S:Sto} (h:qZ w B v1 v2 v3 v4 S) (hb:B<=B'):qZ w B' v1 v2 v3 v4 S:=⟨h.bs.more hb,h.ws.more hb,h.now.more hb,h.last.more hb⟩
theorem qZ.ext {w w':World} {v1 v2 v3 v4:Value} {S:Sto} (h:qZ w w.heap.size v1 v2 v3 v4 S) (hx:Ext w w'):qZ w' w'.heap.size v1 v2 v3 v4 S:=(h.below hx).more hx.size
theorem Ji (A1 n1 c1 A2 n2 c2 A3 n3 c3 A4 n4 c4) (S:Sto) (w:World) (h:qZ w w.heap.size (.slice A1 n1 c1) (.slice A2 n2 c2) (.slice A3 n3 c3) (.slice A4 n4 c4) S):Calls prog 108 #[Qk A1 n1 c1 A2 n2 c2 A3 n3 c3 A4 n4 c4] w (Ret (.int .i64 (Jz (ql S))) w):=by
 have HD:=zH (fun W (hW:Ext w W)=>qbf A1 n1 c1 A2 n2 c2 S.bs S.ws W (h.ext hW).bs (h.ext hW).ws);have HN:=zH (fun W (hW:Ext w W)=>Tx (.slice A3 n3 c3) S.now W (h.ext hW).now);have HL:=zH (fun W (hW:Ext w W)=>Tx (.slice A4 n4 c4) S.last W (h.ext hW).last);have hS:ql S=(QM S.bs S.ws && (Qt S.now && Qt S.last)):=rfl;rw[hS];clear hS h;generalize QM S.bs S.ws=d at *;generalize Qt S.now=n at *;generalize Qt S.last=l at *;go_enter func108,ntmps108;go_wp2_with fail;generalize hw1:(World.alloc _ _)=w1;have x1:Ext w w1:=by rw[<-hw1];exact zN _ _
 have r1:w1.heap[w.heap.size]?=some (.cells #[.slice A1 n1 c1,.slice A2 n2 c2,.slice A3 n3 c3,.slice A4 n4 c4] 28 (0,0)):=by rw[<-hw1];exact zI _ _ _ rfl
 clear hw1;refine(HD.out _ x1).mono ?_;rintro e w2 ⟨rfl,hB⟩;have x2:=x1.trans hB;have r2:=qb r1 hB;have k2:=qa r2;clear hB r1 x1 HD;cases d
 ·go_wp2;go_ret;exact⟨rfl,x2⟩
 ·go_wp2_with fail;refine(HN.out _ x2).mono ?_;rintro e w3 ⟨rfl,hB⟩;have x3:=x2.trans hB;have r3:=qb r2 hB;have k3:=qa r3;clear hB r2 x2 k2 HN;cases n
  ·go_wp2;go_ret;exact⟨rfl,x3⟩
  ·go_wp2_with fail;refine(HL.out _ x3).mono ?_;rintro e w4 ⟨rfl,hB⟩;have x4:=x3.trans hB;clear hB r3 x3 k3 HL;cases l;all_goals
    go_wp2;go_ret;exact⟨rfl,x4⟩
def jp (ws:List (Int×List UInt8)) (a:Int):Option (List UInt8):=(ws.reverse.find? fun p=>p.1 == a).map (·.2)
def Zu (S:Sto) (a:Nat):List UInt8:=match jp S.ws a with|some l=>l|none=>S.bs[a]?.getD []
theorem Kd {ws:List (Int×List UInt8)} {a:Int} {k:Nat} (h:k<ws.length):jp (ws.take (k+1)) a=if ws[k].1=a then some ws[k].2 else jp (ws.take k) a:=by
 unfold jp;rw[List.take_succ_eq_append_getElem h,List.reverse_append,List.reverse_singleton,List.singleton_append,List.find?_cons];by_cases h1:ws[k].1=a
 ·rw[if_pos h1];simp[h1]
 ·rw[if_neg h1];have:(ws[k].1 == a)=false:=by simpa using h1
  rw[this]
def qu (S:Sto) (a:Nat):Option (Int×List It):=if (S.now[a]?.getD 0).toNat=0 then none else QG (Zu S a)
theorem qX {S:Sto} (h:ql S=true):S.bs.length=256/\S.ws.length<=4096/\S.now.length=256/\S.last.length=256:=by unfold ql QM headD Qt at h;simp at h;omega
theorem qfO (A n c) (hn:n<=c) (hc:c<=maxLen) (w:World):Calls prog 160 #[.slice A n c] w (Ret (.slice A n n) w):=by
 unfold maxLen at hc;go_enter func160,ntmps160;have h1:(n:Int)<=(c:Int):=zO;have h2:(0:Int)<=(n:Int):=zO;go_wp2;go_ret;exact⟨rfl,Below.refl _ _⟩
def OnB (lo b:Nat) (v1 v2 v3 v4:Value) (S:Sto) (W:World):Prop:=lo<=b/\W.heap[b]?=some (.cells #[v1,v2,v3,v4] 223 (0,0))/\qZ W W.heap.size v1 v2 v3 v4 S
theorem Wrs.clip {w:World} {B:Nat} {A:OA} {n c:Nat} {ws:List (Int×List UInt8)} (h:Wrs w B (.slice A n c) ws):Wrs w B (.slice A n n) ws:=by obtain⟨ps,e,⟨A',c',e1,e2,e3,hr⟩,hp⟩:=h;cases e1;exact⟨ps,e,⟨_,_,rfl,zM _,zO,hr⟩,hp⟩
set_option maxRecDepth 100000 in
theorem qij (A1 n1 c1 A2 n2 c2 A3 n3 c3 A4 n4 c4) (S:Sto) (hl:S.now.length<1073741824) (w:World) (h:qZ w w.heap.size (.slice A1 n1 c1) (.slice A2 n2 c2) (.slice A3 n3 c3) (.slice A4 n4 c4) S):Calls prog 109 #[Qk A1 n1 c1 A2 n2 c2 A3 n3 c3 A4 n4 c4] w (zF (fun u W=>∃ b A3' c3',u=.pointer (some ⟨b,0,none⟩)/\OnB w.heap.size b (.slice A1 n1 c1) (.slice A2 n2 n2) (.slice A3' n3 c3') (.slice A4 n4 c4) S W/\Zv w.heap.size (.slice A3' n3 c3')) w):=by
 have hn3:Hid (n3=S.now.length):=zH h.now.at_.1;obtain⟨-,h2a,h2b,-⟩:=h.ws.at_;have HC:=zH (fun W (hW:Ext w W)=>jf (.slice A3 n3 c3) S.now hl W (h.ext hW).now);replace h:=zH h;go_enter func109,ntmps109;go_wp2_with fail;generalize hw1:(World.alloc _ _)=w1;have x1:Ext w w1:=by rw[<-hw1];exact zN _ _
 have r1:w1.heap[w.heap.size]?=some (.cells #[.slice A1 n1 c1,.slice A2 n2 c2,.slice A3 n3 c3,.slice A4 n4 c4] 28 (0,0)):=by rw[<-hw1];exact zI _ _ _ rfl
 clear hw1;refine(HC.out _ x1).mono ?_;rintro e w2 ⟨u,rfl,hu,hB⟩;have x2:=x1.trans hB;have r2:=qb r1 hB;have hby:=Bys.of_own hu;have hfr:=Zv.of_own hu;have s1:w.heap.size<w1.heap.size:=(zG.1 r1).1;obtain⟨A3',c3',rfl,_,_⟩:=qB hu;have k2:=qa r2;have f2:=qd r2;clear hB r1 HC hu;rw[<-hn3.out] at hby hfr ⊢;go_wp2_with fail;have wZP:=hby.setCell hfr (p:=⟨w.heap.size,2,none⟩) s1 (.slice A3' n3 c3');generalize hw3:(World.setCell _ _ _)=w3 at *;have x3:Ext w w3:=by rw[<-hw3];exact Below.setCell x2 (p:=⟨w.heap.size,2,none⟩) (zM _) _
 have r3:w3.heap[w.heap.size]?=some (.cells #[.slice A1 n1 c1,.slice A2 n2 c2,.slice A3' n3 c3',.slice A4 n4 c4] 28 (0,0)):=by rw[<-hw3];exact qi r2 2 _
 have hz3:w3.heap.size=w2.heap.size:=by rw[<-hw3];simp
 rw[<-hz3] at wZP;clear hw3 k2 f2 r2 x2 hby;refine(qfO A2 n2 c2 h2a h2b _).mono ?_;rintro e w4 ⟨rfl,hB⟩;have x4:=x3.trans hB;have r4:=qb r3 hB;have hby4:=(wZP.below hB).more hB.size;have k4:=qa r4;have f4:=qd r4;have s4:w.heap.size<w4.heap.size:=(zG.1 r4).1;clear hB r3 x3 wZP;go_wp2;have hfrw:Zv w.heap.size (.slice A3' n3 c3'):=hfr.mono zO;have wZQ:=hby4.setCell hfr (p:=⟨w.heap.size,1,none⟩) s1 (.slice A2 n2 n2);have bf:Below w.heap.size w ((w4.setCell ⟨w.heap.size,1,none⟩ (.slice A2 n2 n2)).alloc (.cells #[.slice A1 n1 c1,.slice A2 n2 n2,.slice A3' n3 c3',.slice A4 n4 c4] 223)):=by have x4':Below w.heap.size w w4:=x4;exact(by repeat' (first|with_reducible exact Below.refl _ _|with_reducible assumption|with_reducible apply Below.drew|with_reducible apply qN|with_reducible refine Below.alloc ?_ ?_ _|with_reducible refine Below.setCell ?_ ?_ _|(simp;done)|(simp;omega)|omega))
 go_ret;refine⟨_,rfl,⟨w4.heap.size,A3',c3',rfl,⟨zO,zI _ _ _ zA2,?_⟩,hfrw⟩,bf⟩;have h0:=(h.out.below bf).more bf.size;refine⟨h0.bs,h0.ws.clip,?_,h0.last⟩;exact(wZQ.below (Below.alloc (Below.refl _ _) zA2 _)).more zA2
end Go.Proofs.YtmeadnlmepcmbaaGreat
namespace Go.Proofs.YtmeadnlmepcmbaaGreat
open Go.RowKit Go.Shelf
attribute [local go_sem] Oper.semAt_some
abbrev Sl:Type:=OA×Nat×Nat
abbrev sv (s:Sl):Value:=.slice s.1 s.2.1 s.2.2
abbrev W2:Type:=Int×Sl
abbrev w2z:W2:=(0,none,0,0)
set_option maxRecDepth 100000 in
theorem backW_in (n:Nat) (hn:1<=n) (l Bs b off len cap:Nat) (us:List W2) (hJR:len<1099511627776) (J Jx:List (Nat×W2)->World->Prop) (hY:∀ pre x W,J pre W->pre.length<len->YieldAt Fence.wide (n-1) prog l #[.int .i64 (x.1:Int),.agg #[.int .i64 x.2.1,sv x.2.2]] W fun e W' =>
   (e=.returned (.bool true)/\J (pre++[x]) W'/\Qy Bs b W W')\/(e=.returned (.bool false)/\Jx (pre++[x]) W'))
  (W:World) (hBs:W.cell? ⟨Bs,0,none⟩=some (.slice (some ⟨b,off,none⟩) len cap)) (hc:∀ i,i<len->W.cell? ⟨b,off+i*2,none⟩=some (.int .i64 (us[i]?.getD w2z).1)/\W.cell? ⟨b,off+i*2+1,none⟩=some (sv (us[i]?.getD w2z).2)) (h0:J [] W) :
  CallsIn Fence.wide n prog 189 #[.func (.yield l) #[] #[],.pointer (some ⟨Bs,0,none⟩)] W fun e W'=>(∃ v,e=.returned v) /\
   ((∃ ys,ys=jw (fun j=>(len-1-j,us[len-1-j]?.getD w2z)) len/\J ys W')\/(∃ pre,(∃ k,k<=len/\pre=jw (fun j=>(len-1-j,us[len-1-j]?.getD w2z)) k)/\Jx pre W')):=by
 refine callsIn_of_wp func189 rfl trivial ?_ rfl;simp only[ntmps189,List.size_toArray,List.length_cons,List.length_nil,Nat.reduceAdd,Nat.reduceSub,Array.replicate_succ,Array.replicate_zero,List.push_toArray,List.append_toArray,List.nil_append,List.cons_append]
 gi_wp2
 gi_loopw [3] (fun i wr=>∃ k:Nat,k<=len/\i=.int .i64 ((len:Int)-1-k)/\J (jw (fun j=>(len-1-j,us[len-1-j]?.getD w2z)) k) wr/\Qy Bs b W wr)
  (fun i _=>(intOf i+1).toNat)
 case atStart=>exact⟨0,Nat.zero_le _,zA2,h0,Qy.refl _ _ _⟩
 case round =>
  obtain⟨k,hk,rfl,hJs,hnx⟩:=hrel;have hBr:wr.cell? ⟨Bs,0,none⟩=some (.slice (some ⟨b,off,none⟩) len cap):=(World.cell?_of_block (w:=W) hnx.1).trans hBs;by_cases hlt:k<len
  ·have hcx:=(World.cell?_of_block (w:=W) (a:=⟨b,off+(len-1-k)*2,none⟩) hnx.2).trans (hc (len-1-k) zO).1;have hcy:=(World.cell?_of_block (w:=W) (a:=⟨b,off+(len-1-k)*2+1,none⟩) hnx.2).trans (hc (len-1-k) zO).2;obtain⟨fn,tmps,assign,body,hy,hR⟩:=hY _ (len-1-k,us[len-1-k]?.getD w2z) wr hJs (by rw[ZH];exact hlt);dsimp only at hy;obtain⟨i,hi⟩:∃ i:Nat,len-1-k=i:=⟨_,rfl⟩
   have hi2:(len:Int)-1-k=(i:Int):=zO;have hil:i<len:=zO;have hik:k+i+1<=len/\len<=k+i+1:=zO;have HU:=zH (VN (fun j=>(len-1-j,us[len-1-j]?.getD w2z)) k);obtain⟨u,hu⟩:∃ u,us[i]?.getD w2z=u:=⟨_,rfl⟩
   rw[hi] at hcx hcy hy hR;rw[hu] at hcx hcy hy hR;rw[hi2];clear hi2;have HE:=zH hu;clear hu;have HI:=zH hi;clear hi
   gi_wp2
   refine hR.mono ?_;rintro e W3 (⟨rfl,hJ3,hk3⟩|⟨rfl,wBI⟩)
   ·gi_wp2
    go_roundw
    case rel=>exact⟨k+1,zO,by go_num,by rw[HU.out,HI.out,HE.out];exact hJ3,hnx.t hk3⟩
    case measure=>simp[intOf]
   ·gi_wp2
    refine bodyPost_ret (results_none rfl _ _ _) rfl ?_;exact⟨⟨_,rfl⟩,.inr ⟨_,⟨k+1,zO,by rw[HU.out,HI.out,HE.out]⟩,wBI⟩⟩
  ·obtain rfl:k=len:=zO
   gi_wp2
   go_end0;exact⟨⟨_,rfl⟩,.inl ⟨_,rfl,hJs⟩⟩
set_option maxRecDepth 100000 in
theorem qek (n l Bs c:Nat) (A:OA) (J:List (Nat×W2)->World->Prop) (W:World) (hBs:W.cell? ⟨Bs,0,none⟩=some (.slice A 0 c)) (h0:J [] W):CallsIn Fence.wide n prog 189 #[.func (.yield l) #[] #[],.pointer (some ⟨Bs,0,none⟩)] W fun e W'=>(∃ v,e=.returned v)/\J [] W':=by
 refine callsIn_of_wp func189 rfl trivial ?_ rfl;simp only[ntmps189,List.size_toArray,List.length_cons,List.length_nil,Nat.reduceAdd,Nat.reduceSub,Array.replicate_succ,Array.replicate_zero,List.push_toArray,List.append_toArray,List.nil_append,List.cons_append]
 gi_wp2
 gi_loopw [3] (fun i wr=>i=.int .i64 (-1)/\J [] wr) (fun _ _=>0)
 case atStart=>exact⟨rfl,h0⟩
 case round =>
  obtain⟨rfl,hJs⟩:=hrel
  gi_wp2
  go_end0;exact⟨⟨_,rfl⟩,hJs⟩
def Ts (us:List W2) (k:Nat):List (Nat×W2):=jw (fun j=>(us.length-1-j,us[us.length-1-j]?.getD w2z)) k
def SW (W:World) (Bs b:Nat) (v:Value) (us:List W2):Prop:=
 W.cell? ⟨Bs,0,none⟩=some v/\((us=[]/\∃ A c,v=.slice A 0 c)\/∃ off cap,v=.slice (some ⟨b,off,none⟩) us.length cap/\∀ i,i<us.length->W.cell? ⟨b,off+i*2,none⟩=some (.int .i64 (us[i]?.getD w2z).1)/\W.cell? ⟨b,off+i*2+1,none⟩=some (sv (us[i]?.getD w2z).2))
theorem SW.keep {W W':World} {Bs b:Nat} {v:Value} {us:List W2} (h:SW W Bs b v us) (hk:Qy Bs b W W'):SW W' Bs b v us:=by
 refine⟨(World.cell?_of_block (w:=W) hk.1).trans h.1,?_⟩;rcases h.2 with h|⟨off,cap,e,hc⟩
 ·exact .inl h
 ·exact .inr ⟨off,cap,e,fun i hi=>⟨(World.cell?_of_block (w:=W) hk.2).trans (hc i hi).1,(World.cell?_of_block (w:=W) hk.2).trans (hc i hi).2⟩⟩
theorem qfy (n:Nat) (hn:1<=n) (Bs b:Nat) (v:Value) (us:List W2) (hJR:us.length<1099511627776) (w:World) (hBs:Bs<w.heap.size) (hb:b<w.heap.size) (hS:SW w Bs b v us):SeqStopsK Fence.wide n prog 189 #[.pointer (some ⟨Bs,0,none⟩)] (fun x:Nat×W2=>#[.int .i64 (x.1:Int),.agg #[.int .i64 x.2.1,sv x.2.2]]) (Qy Bs b) (fun ys=>ys=Ts us us.length)
   (fun pre=>∃ k,k<=us.length/\pre=Ts us k) us.length w:=fun l J Jx W hW _ _ hY h0=>by
 obtain⟨hc,h⟩:=hS.keep (Qy.below hW hBs hb);rcases h with ⟨rfl,A,c,rfl⟩|⟨off,cap,rfl,hcs⟩
 ·exact(qek n l Bs c A J W hc h0).mono fun e W' ⟨he,hj⟩=>⟨he,.inl ⟨_,rfl,hj⟩⟩
 ·exact backW_in n hn l Bs b off us.length cap us hJR J Jx hY W hc hcs h0
theorem Kl (A m c) (w:World):Calls prog 151 #[.slice A m c] w (fun e w'=>e=.returned (.func (.func 189) #[] #[.pointer (some ⟨w.heap.size,0,none⟩)])/\w'=w.alloc (.cells #[.slice A m c] 23)):=by
 go_enter func151,ntmps151;go_wp2;go_ret;exact⟨rfl,rfl⟩
end Go.Proofs.YtmeadnlmepcmbaaGreat
