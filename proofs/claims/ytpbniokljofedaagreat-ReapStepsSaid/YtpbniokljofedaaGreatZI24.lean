/- Texts BackI, joined. -/
import Derived.Test.YtpbniokljofedaaGreatZI19
set_option linter.unusedSimpArgs false
set_option linter.unusedVariables false
set_option maxHeartbeats 8000000
open Go.Proofs.Tryz
namespace Go.Proofs.YtpbniokljofedaaGreat
open Go.RowKit Go.Shelf
attribute [local go_sem] Oper.semAt_some
abbrev Ui:Type:=It×Sl
abbrev uiz:Ui:=((⟨0,0,0,0,[]⟩:It),(none,0,0))
set_option maxRecDepth 100000 in
theorem backi_in (n:Nat) (hn:1<=n) (l Bs b off len cap:Nat) (us:List Ui) (aj:len<1099511627776) (J Jx:List Nat->World->Prop) (hY:∀ pre (x:Nat) W,J pre W->pre.length<len->YieldAt Fence.wide (n-1) prog l #[.int .i64 (x:Int),.agg #[.int .u8 (us[x]?.getD uiz).1.k,.int .u32 (us[x]?.getD uiz).1.i,.int .u32 (us[x]?.getD uiz).1.o,.int .i64 (us[x]?.getD uiz).1.r,sv (us[x]?.getD uiz).2]] W fun e W' =>
   (e=.returned (.bool true)/\J (pre++[x]) W'/\Qi Bs b W W')\/(e=.returned (.bool false)/\Jx (pre++[x]) W'))
  (W:World) (fO:W.cell? ⟨Bs,0,none⟩=some (.slice (some ⟨b,off,none⟩) len cap)) (hc:∀ i,i<len->W.cell? ⟨b,off+i*5,none⟩=some (.int .u8 (us[i]?.getD uiz).1.k)/\W.cell? ⟨b,off+i*5+1,none⟩=some (.int .u32 (us[i]?.getD uiz).1.i)/\W.cell? ⟨b,off+i*5+2,none⟩=some (.int .u32 (us[i]?.getD uiz).1.o)/\W.cell? ⟨b,off+i*5+3,none⟩=some (.int .i64 (us[i]?.getD uiz).1.r)/\W.cell? ⟨b,off+i*5+4,none⟩=some (sv (us[i]?.getD uiz).2)) (h0:J [] W) :
  CallsIn Fence.wide n prog 170 #[.func (.yield l) #[] #[],.pointer (some ⟨Bs,0,none⟩)] W fun e W'=>(∃ v,e=.returned v) /\
   ((∃ ys,ys=Zn (fun j=>len-1-j) len/\J ys W')\/(∃ pre,(∃ k,k<=len/\pre=Zn (fun j=>len-1-j) k)/\Jx pre W')):=by
 refine callsIn_of_wp func170 rfl trivial ?_ rfl;simp only[ntmps170,List.size_toArray,List.length_cons,List.length_nil,Nat.reduceAdd,Nat.reduceSub,Array.replicate_succ,Array.replicate_zero,List.push_toArray,List.append_toArray,List.nil_append,List.cons_append]
 gi_wp2
 gi_loopw [3] (fun i wr=>∃ k:Nat,k<=len/\i=.int .i64 ((len:Int)-1-k)/\J (Zn (fun j=>len-1-j) k) wr/\Qi Bs b W wr)
  (fun i _=>(intOf i+1).toNat)
 case atStart=>exact⟨0,Nat.zero_le _,zA3,h0,Qi.refl _ _ _⟩
 case round =>
  obtain⟨k,hk,rfl,fC,dR⟩:=hrel;have hBr:wr.cell? ⟨Bs,0,none⟩=some (.slice (some ⟨b,off,none⟩) len cap):=(World.cell?_of_block (w:=W) dR.1).trans fO;by_cases hlt:k<len
  ·obtain⟨fn,tmps,assign,body,hy,hR⟩:=hY _ (len-1-k) wr fC (by rw[zj];exact hlt);have dC:=(World.cell?_of_block (w:=W) (a:=⟨b,off+(len-1-k)*5,none⟩) dR.2).trans (hc (len-1-k) zO).1;have dV:=(World.cell?_of_block (w:=W) (a:=⟨b,off+(len-1-k)*5+1,none⟩) dR.2).trans (hc (len-1-k) zO).2.1;have az:=(World.cell?_of_block (w:=W) (a:=⟨b,off+(len-1-k)*5+2,none⟩) dR.2).trans (hc (len-1-k) zO).2.2.1;have sO:=(World.cell?_of_block (w:=W) (a:=⟨b,off+(len-1-k)*5+3,none⟩) dR.2).trans (hc (len-1-k) zO).2.2.2.1;have hc4:=(World.cell?_of_block (w:=W) (a:=⟨b,off+(len-1-k)*5+4,none⟩) dR.2).trans (hc (len-1-k) zO).2.2.2.2;try dsimp only at hy
   obtain⟨i,hi⟩:∃ i:Nat,len-1-k=i:=⟨_,rfl⟩
   have dD:(len:Int)-1-k=(i:Int):=zO;have hil:i<len:=zO;have hik:k+i+1<=len/\len<=k+i+1:=zO;have HU:=zH (Ju (fun j=>len-1-j) k);obtain⟨u,hu⟩:∃ u,us[i]?.getD uiz=u:=⟨_,rfl⟩
   rw[hi] at dC dV az sO hc4 hy hR;rw[hu] at dC dV az sO hc4 hy;rw[dD];clear dD;clear hu;have HI:=zH hi;clear hi
   gi_wp2
   refine hR.mono ?_;rintro e W3 (⟨rfl,xZ,ig⟩|⟨rfl,iH⟩)
   ·gi_wp2
    go_roundw
    case rel=>exact⟨k+1,zO,by go_num,by rw[HU.out,HI.out];exact xZ,dR.t ig⟩
    case measure=>simp[intOf]
   ·gi_wp2
    refine bodyPost_ret (results_none rfl _ _ _) rfl ?_;exact⟨⟨_,rfl⟩,.inr ⟨_,⟨k+1,zO,by rw[HU.out,HI.out]⟩,iH⟩⟩
  ·obtain rfl:k=len:=zO
   gi_wp2
   go_end0;exact⟨⟨_,rfl⟩,.inl ⟨_,rfl,fC⟩⟩
set_option maxRecDepth 100000 in
theorem qbH (n l Bs c:Nat) (A:Option Addr) (J:List Nat->World->Prop) (W:World) (fO:W.cell? ⟨Bs,0,none⟩=some (.slice A 0 c)) (h0:J [] W):CallsIn Fence.wide n prog 170 #[.func (.yield l) #[] #[],.pointer (some ⟨Bs,0,none⟩)] W fun e W'=>(∃ v,e=.returned v)/\J [] W':=by
 refine callsIn_of_wp func170 rfl trivial ?_ rfl;simp only[ntmps170,List.size_toArray,List.length_cons,List.length_nil,Nat.reduceAdd,Nat.reduceSub,Array.replicate_succ,Array.replicate_zero,List.push_toArray,List.append_toArray,List.nil_append,List.cons_append]
 gi_wp2
 gi_loopw [3] (fun i wr=>i=.int .i64 (-1)/\J [] wr) (fun _ _=>0)
 case atStart=>exact⟨rfl,h0⟩
 case round =>
  obtain⟨rfl,fC⟩:=hrel
  gi_wp2
  go_end0;exact⟨⟨_,rfl⟩,fC⟩
def SWi (W:World) (Bs b:Nat) (v:Value) (us:List Ui):Prop:=
 W.cell? ⟨Bs,0,none⟩=some v/\((us=[]/\∃ A c,v=.slice A 0 c)\/∃ off cap,v=.slice (some ⟨b,off,none⟩) us.length cap/\∀ i,i<us.length->W.cell? ⟨b,off+i*5,none⟩=some (.int .u8 (us[i]?.getD uiz).1.k)/\W.cell? ⟨b,off+i*5+1,none⟩=some (.int .u32 (us[i]?.getD uiz).1.i)/\W.cell? ⟨b,off+i*5+2,none⟩=some (.int .u32 (us[i]?.getD uiz).1.o)/\W.cell? ⟨b,off+i*5+3,none⟩=some (.int .i64 (us[i]?.getD uiz).1.r)/\W.cell? ⟨b,off+i*5+4,none⟩=some (sv (us[i]?.getD uiz).2))
theorem SWi.keep {W W':World} {Bs b:Nat} {v:Value} {us:List Ui} (h:SWi W Bs b v us) (hk:Qi Bs b W W'):SWi W' Bs b v us:=by
 refine⟨(World.cell?_of_block (w:=W) hk.1).trans h.1,?_⟩;rcases h.2 with h|⟨off,cap,e,hc⟩
 ·exact .inl h
 ·exact .inr ⟨off,cap,e,fun i hi=>⟨(World.cell?_of_block (w:=W) hk.2).trans (hc i hi).1,(World.cell?_of_block (w:=W) hk.2).trans (hc i hi).2.1,(World.cell?_of_block (w:=W) hk.2).trans (hc i hi).2.2.1,(World.cell?_of_block (w:=W) hk.2).trans (hc i hi).2.2.2.1,(World.cell?_of_block (w:=W) hk.2).trans (hc i hi).2.2.2.2⟩⟩
theorem qcU (n:Nat) (hn:1<=n) (Bs b:Nat) (v:Value) (us:List Ui) (aj:us.length<1099511627776) (w:World) (fO:Bs<w.heap.size) (hb:b<w.heap.size) (hS:SWi w Bs b v us):SeqStopsK Fence.wide n prog 170 #[.pointer (some ⟨Bs,0,none⟩)] (fun x:Nat=>#[.int .i64 (x:Int),.agg #[.int .u8 (us[x]?.getD uiz).1.k,.int .u32 (us[x]?.getD uiz).1.i,.int .u32 (us[x]?.getD uiz).1.o,.int .i64 (us[x]?.getD uiz).1.r,sv (us[x]?.getD uiz).2]]) (Qi Bs b) (fun ys=>ys=Zn (fun j=>us.length-1-j) us.length)
   (fun pre=>∃ k,k<=us.length/\pre=Zn (fun j=>us.length-1-j) k) us.length w:=fun l J Jx W hW _ _ hY h0=>by
 obtain⟨hc,h⟩:=hS.keep (Qi.below hW fO hb);rcases h with ⟨rfl,A,c,rfl⟩|⟨off,cap,rfl,bV⟩
 ·exact(qbH n l Bs c A J W hc h0).mono fun e W' ⟨he,hj⟩=>⟨he,.inl ⟨_,rfl,hj⟩⟩
 ·exact backi_in n hn l Bs b off us.length cap us aj J Jx hY W hc bV h0
theorem qap (A:Option Addr) (m c:Nat) (w:World):Calls prog 151 #[.slice A m c] w (fun e w'=>e=.returned (.func (.func 170) #[] #[.pointer (some ⟨w.heap.size,0,none⟩)])/\w'=w.alloc (.cells #[.slice A m c] 47)):=by
 go_enter func151,ntmps151;go_wp2;go_ret;exact⟨rfl,rfl⟩
end Go.Proofs.YtpbniokljofedaaGreat
