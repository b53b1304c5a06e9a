/- Texts Seal, NWrite, FreeI, FreeIt, PushI, FreeL, FreeP, Twin3, Twin8, RTake, BMake, joined. -/
import Derived.OrdersIn
import Derived.TacticsIn
import Derived.CallsIn
import Derived.RangeFuncKeeps
import Derived.Sort.CutIn
import Derived.Test.YtpbniokljofedaaGreatZH14
set_option linter.unusedSimpArgs false
set_option linter.unusedVariables false
set_option maxHeartbeats 8000000
open Go.Proofs.Tryz
namespace Go.Proofs.YtpbniokljofedaaGreat
open Go.RowKit
def je (b:List UInt8):List UInt8:=qz (crc (XN 124 b)) 4++XN 124 b
theorem vz {b:List UInt8} (h:b.length<=124):(je b).length=128:=by unfold je;rw[List.length_append,zF,VO h]
set_option maxRecDepth 100000 in
theorem seal_any (A:Option Addr) (c:Nat) (b:List UInt8) (hl:b.length<=124) (w:World) (h:Bys w w.heap.size (.slice A b.length c) b):Calls prog 178 #[.slice A b.length c] w (QV (IsB0 w.heap.size 128 (je b)) w):=by
 have hmk:∀ w,(Instr.makeSlice 26 (.int .i64 124) (.int .i64 124)).run prog w=.ok (.slice (some ⟨w.heap.size,0,none⟩) 124 124) (w.alloc (.cells ((List.replicate 124 (0:UInt8)).map bv).toArray 5)):=fun _=>zQ;have hsz:(Tryz.prog.info? 5).map (·.size)=some 1:=zQ;have hcr:crc (XN 124 b)<4294967296:=crc_lt _;have hd:decide ((b.length:Int)>124)=false:=decide_eq_false zO;replace h:=zH h;go_enter func178,ntmps178;go_wp2_with fail;generalize aA:World.alloc w _=w1;have x1:Ext w w1:=by rw[<-aA];exact zN _ _
 have r1:w1.heap[w.heap.size]?=some (.cells ((List.replicate 124 (0:UInt8)).map bv).toArray 5 (0,0)):=by rw[<-aA];exact zI _ _ _ rfl
 clear aA hmk;have eP:=XQ (P:=prog) w1 26 26 3 5 w.heap.size 0 124 124 A c b _ _ underlying26 hsz r1 (h.out.below x1) hl zA2;rw[eP];clear eP;have r2:=setRow_heap w1 w.heap.size _ (List.take 0 (List.map bv (List.replicate 124 0)).toArray.toList++List.map bv b++List.drop (0+b.length) (List.map bv (List.replicate 124 0)).toArray.toList).toArray _ _ r1;have x2:Below w.heap.size w (w1.setRow w.heap.size (List.take 0 (List.map bv (List.replicate 124 0)).toArray.toList++List.map bv b++List.drop (0+b.length) (List.map bv (List.replicate 124 0)).toArray.toList).toArray):=
  Below.grown x1 (XS _ _ _) x1.size (fun g e=>by cases e;exact zM _)
 generalize cZ:w1.setRow w.heap.size (List.take 0 (List.map bv (List.replicate 124 0)).toArray.toList++List.map bv b++List.drop (0+b.length) (List.map bv (List.replicate 124 0)).toArray.toList).toArray=w2 at *;rw[pad_row] at r2;have hp:∀ W,Ext w2 W->Bys W W.heap.size (.slice (some ⟨w.heap.size,0,none⟩) 124 124) (XN 124 b):=fun W hW=>by
  refine⟨_,124,by rw[VO hl],Nat.le_of_eq (VO hl),zA7,by rw[VO hl];simp[VO hl],fun _=>⟨w.heap.size,0,rfl,?_,fun j u hu=>?_⟩⟩
  ·have:=(zG.1 (qb r2 hW)).1;omega
  ·rw[Nat.zero_add,qa (qb r2 hW)];simpa using hu
 clear cZ r1 x1;have HO:=zH (fun W (hW:Ext w2 W)=>qbh _ (XN 124 b) W (hp W hW) (by rw[VO hl];omega));replace hp:=zH hp;replace r2:=zH r2;go_wp2_with fail;refine(HO.out _ (Ext.refl _)).mono ?_;rintro e w3 ⟨rfl,oQ⟩;have x3:Ext w2 w3:=oQ;clear oQ;have HF:=zH (Kr (crc (XN 124 b)) hcr w3);go_wp2_with fail;refine HF.out.mono ?_;rintro e w4 ⟨u4,rfl,⟨A4,c4,rfl,hu4,hf4⟩,dG⟩;have x4:Ext w2 w4:=x3.trans dG;clear HF dG;go_wp2_with fail;generalize aQ:World.alloc w4 _=w5;have au:Ext w4 w5:=by rw[<-aQ];exact zN _ _
 have r5:w5.heap[w4.heap.size]?=some (.cells #[.slice A4 4 c4,.slice (some ⟨w.heap.size,0,none⟩) 124 124] 26 (0,0)):=by rw[<-aQ];exact zI _ _ _ rfl
 clear aQ;have x5:=x4.trans au;have hfl:[qz (crc (XN 124 b)) 4,XN 124 b].flatten=je b:=by simp[je]
 have HC:=vW (some ⟨w4.heap.size,0,none⟩) 2 2 [.slice A4 4 c4,.slice (some ⟨w.heap.size,0,none⟩) 124 124] [qz (crc (XN 124 b)) 4,XN 124 b] rfl rfl w5 ⟨rfl,fun _=>⟨w4.heap.size,0,rfl,(zG.1 r5).1,fun j u hu=>by rw[Nat.zero_add,qa r5];simpa using hu⟩⟩
  (fun i v l hv hl'=>by
   rcases i with _|_|i
   ·cases hv;cases hl';exact(hu4.below au).more au.size
   ·cases hv;cases hl';exact hp.out w5 x5
   ·simp at hv) zO (by rw[hfl,vz hl];omega)
 rw[hfl,vz hl] at HC;replace HC:=zH HC;replace hu4:=zH hu4;go_wp2_with fail;refine HC.out.mono ?_;rintro e w6 ⟨u6,rfl,aB,eH⟩;have x6:Below w.heap.size w w6:=x2.trans (Below.mono (Ext.trans x5 eH) x2.size);have HI:=zH ((IsB.of_own aB));go_wp2_with fail;refine bodyPost_ret (v:=.tuple #[u6,.int .i64 0]) (by simp[results,results178,go_sem]) rfl ⟨_,rfl,⟨u6,rfl,?_⟩,x6⟩;obtain⟨A',c',h1,h2,h3⟩:=HI.out;exact⟨A',c',h1,h2,h3.mono (by have:=x2.size;have:=x5.size;omega)⟩
def Js (lvl:Int) (n:Nat) (xs:List It) (k:Nat):List UInt8:=78 :: UInt8.ofNat lvl.toNat :: UInt8.ofNat n :: ZP (xs.take k)
theorem qdZ (lvl:Int) (n:Nat) {xs:List It} {k:Nat} (hk:k<xs.length):Js lvl n xs (k+1)=Js lvl n xs k++jY xs[k]:=by unfold Js ZP;rw[List.take_succ_eq_append_getElem hk,List.flatMap_append];simp only[List.flatMap_cons,List.flatMap_nil,List.append_nil,List.cons_append]
theorem kQ (lvl:Int) (xs:List It):Js lvl xs.length xs xs.length=zy lvl xs:=by unfold Js zy;rw[List.take_length]
theorem kR (lvl:Int) (n:Nat) {xs:List It} (k:Nat) (h:∀ x∈xs,jq x) (hl:xs.length<=5):(Js lvl n xs k).length<=123:=by
 have h1:=Xr (xs.take k) (fun x hx=>h x (List.mem_of_mem_take hx));have h2:(xs.take k).length<=xs.length:=by rw[List.length_take];omega
 unfold Js;simp only[List.length_cons];omega
theorem jE {lvl:Int} {xs:List It} (h:Qc lvl xs=true):0<=lvl/\lvl<6/\xs.length<=5/\∀ x∈xs,itB x.r x.val.length=true:=by unfold Qc at h;rw[Bool.and_eq_true] at h;have h1:0<=lvl/\lvl<6/\xs.length<=5/\(0<lvl->xs.length≠0):=of_decide_eq_true h.1;refine⟨h1.1,h1.2.1,h1.2.2.1,fun x hx=>?_⟩;obtain⟨i,hi,rfl⟩:=List.getElem_of_mem hx;have h2:=List.all_eq_true.1 h.2 i (List.mem_range.2 hi);unfold TE at h2;rw[zL hi] at h2;simp only[Bool.and_eq_true] at h2;exact h2.1.1
theorem Gt {R:Ending->World->Prop} {a:Act} {W:World} {u v:Value} (h2:a.tmps[2]?.getD undef=u) (h3:a.tmps[3]?.getD undef=v) (hd:a.defers=[]) (hR:R (.returned (.tuple #[u,v])) W):bodyPost prog Tryz.f167 R .ret a W:=by refine bodyPost_ret (v:=.tuple #[u,v]) ?_ hd hR;simp[results,results167,go_sem,h2,h3]
structure NWr (lvl:Int) (xs:List It) (w2:World) (v i:Value) (wr:World):Prop where
 ex:∃ k:Nat,k<=xs.length/\i=.int .i64 (k:Int)/\wr.ownsRow w2.heap.size 5 1 v (Js lvl xs.length xs k).length ((Js lvl xs.length xs k).map bv)/\Ext w2 wr
theorem qff (lvl:Int) (A:Option Addr) (n c:Nat) (xs:List It) (w:World) (hx:Its w w.heap.size (.slice A n c) xs) (hm:Qc lvl xs=false):Calls prog 167 #[jd lvl A n c] w (Ret (.tuple #[.slice none 0 0,.int .i64 8]) w):=by
 have HC:=zH (fun W (hW:Ext w W)=>vG lvl A n c xs W (hx.ext hW));rw[hm,show Jg false=8 from rfl] at HC;clear hx;go_enter func167,ntmps167;go_wp2_with fail;generalize aA:World.alloc w _=w1;have x1:Ext w w1:=by rw[<-aA];exact zN _ _
 clear aA;refine(HC.out w1 x1).mono ?_;rintro e w2 ⟨rfl,hB⟩;have x2:Below w.heap.size w w2:=Ext.trans x1 hB;clear hB;go_wp2;exact Gt rfl rfl rfl ⟨rfl,x2⟩
set_option maxRecDepth 100000 in
theorem Gs (lvl:Int) (A:Option Addr) (n c:Nat) (xs:List It) (w:World) (hx:Its w w.heap.size (.slice A n c) xs) (hm:Qc lvl xs=true) (ho:∀ x∈xs,jq x):Calls prog 167 #[jd lvl A n c] w (QV (IsB0 w.heap.size 128 (je (zy lvl xs))) w):=by
 have HC:=zH (fun W (hW:Ext w W)=>vG lvl A n c xs W (hx.ext hW));rw[hm,show Jg true=0 from rfl] at HC;obtain⟨nz,uU,hl5,hib⟩:=jE hm;obtain⟨hn,nZ,dw,hA⟩:=hx.at_;subst hn;obtain⟨L,rfl⟩:=Int.eq_ofNat_of_zero_le nz;have hcv:IntKind.u8.wrap ((xs.length:Nat):Int)=((xs.length:Nat):Int):=by simp[IntKind.wrap,IntKind.bits,IntKind.signed];omega
 have bH:IntKind.u8.wrap (L:Int)=(L:Int):=by simp[IntKind.wrap,IntKind.bits,IntKind.signed];omega
 have dL:(Js (L:Int) xs.length xs 0).map bv=[.int .u8 78,.int .u8 (L:Int),.int .u8 (xs.length:Nat)]:=by simp[Js,ZP,bv];omega
 have hX:=zH hx;have hO:=zH ho;have hI:=zH hib;clear hx ho hib hm;go_enter func167,ntmps167;go_wp2_with fail;generalize aA:World.alloc w _=w1;have x1:Ext w w1:=by rw[<-aA];exact zN _ _
 have r1:w1.heap[w.heap.size]?=some (.cells #[.int .i64 L,.slice A xs.length c] 49 (0,0)):=by rw[<-aA];exact zI _ _ _ rfl
 clear aA;refine(HC.out w1 x1).mono ?_;rintro e w2 ⟨rfl,hB⟩;have x2:Below w.heap.size w w2:=Ext.trans x1 hB;have r2:=qb r1 hB;have k2:=qa r2;clear hB r1 x1 HC;go_upto_region 5 with fail;generalize aK:World.alloc w2 _=w3;have x3:Ext w2 w3:=by rw[<-aK];exact zN _ _
 have o3:w3.ownsRow w2.heap.size 5 1 (.slice (some ⟨w2.heap.size,0,none⟩) 3 3) (Js (L:Int) xs.length xs 0).length ((Js (L:Int) xs.length xs 0).map bv):=by rw[dL,<-aK];exact World.ownsRow_lit (base:=w2.heap.size) (e:=5) (size:=1) w2 #[.int .u8 78,.int .u8 (L:Int),.int .u8 (xs.length:Nat)] 3 (zM _) zA7 rfl
 have r3:=qb r2 x3;have k3:=qa r3;clear aK k2 dL;have I0:NWr (L:Int) xs w2 (.slice (some ⟨w2.heap.size,0,none⟩) 3 3) (.int .i64 0) w3:=⟨0,Nat.zero_le _,rfl,o3,x3⟩
 replace I0:=zH I0;clear o3;go_wp2_with fail;clear k3 r3;go_loopw [5,26] (fun v i wr=>NWr (L:Int) xs w2 v i wr) (fun _ i _=>xs.length-(intOf i).toNat)
 case atStart=>exact I0.out
 case round =>
  obtain⟨k,hk,rfl,own,xr⟩:=hrel.ex;clear hrel I0;by_cases hlt:k<xs.length
  ·have aJ:=hlt;obtain⟨b,off,rfl,hb⟩:=hA zO;have xw:Ext w wr:=Ext.trans x2 xr;obtain⟨A',c',d0,d1,d2,d3,d4,ai⟩:=(hX.out.ext xw).item k aJ;have hok:=hO.out xs[k] (List.getElem_mem aJ);have hib:=hI.out xs[k] (List.getElem_mem aJ);have hsu:=zH (qdZ (L:Int) xs.length aJ);have nS:=kR (L:Int) xs.length k hO.out hl5;have bz:xs[k].val.length<=12:=hok.2.2.2.2;have HW:=zH (fun W (hW:Ext wr W)=>qeS xs[k] hok hib A' c' W ((ai.below hW).more hW.size));generalize xs[k]=x at *;replace own:=zH own;replace nS:=zH nS;clear ai hok hib;go_wp2_with fail;generalize hw4:World.alloc wr _=w4;have x4:Ext wr w4:=by rw[<-hw4];exact zN _ _
   clear hw4 d0 d1 d2 d3 d4;refine(HW.out w4 x4).mono ?_;rintro e w5 ⟨u,rfl,⟨u5,rfl,A5,c5,rfl,hb5,hf5⟩,hB⟩;have x5:Ext wr w5:=x4.trans hB;have own5:=QM own.out x5;clear hB x4 own;obtain⟨i0,hi,aX,aU,aV⟩:=info_parts Tryz.info_u8;obtain⟨A6,c6,e6,hc6,oC,hr6⟩:=hb5;simp only[Value.slice.injEq] at e6;obtain⟨rfl,e7,rfl⟩:=e6;go_wp2_with (at_builtin;refine qI ?_);refine Qh.go (Qq _ rfl (.tmp 35) (.tmp 36) 26 rfl w2.heap.size 5 i0 (.int .u8 0) 1 1 underlying26 hi aX aU aV rfl zA1 _ _ _ rfl own5 w5.heap.size A5 _ c5 ((jY x).map bv) rfl hr6 (Xk _) (by have:=nS.out;omega) zA1 (Nat.le_trans xr.size x5.size) ?_);intro v8 w8 pV _ hB8 _;have IR:NWr (L:Int) xs w2 v8 (.int .i64 ((k:Int)+1)) w8:=⟨k+1,aJ,rfl,by rw[hsu.out,List.map_append,List.length_append];exact pV,Below.trans (Ext.trans xr x5) hB8⟩
   replace IR:=zH IR;clear pV hB8 hi aX aU aV own5;go_wp2_with fail;refine⟨IR.out,?_⟩;simp[intOf];omega
  ·obtain rfl:k=xs.length:=zO;rw[kQ] at own;have mW:(zy (L:Int) xs).length<=124:=by have:=kR (L:Int) xs.length xs.length hO.out hl5;rw[kQ] at this;omega
   obtain⟨A6,c6,e6,hc6,oC,hr6⟩:=Bys.of_own own;have ai:=Bys.of_own own;subst e6;have HS:=zH (seal_any A6 c6 (zy (L:Int) xs) mW wr ai);have xw:Below w.heap.size w wr:=Ext.trans x2 xr;clear ai hr6 own;replace xr:=zH xr;go_wp2_with fail;refine HS.out.mono ?_;rintro e w7 ⟨u,rfl,⟨u7,rfl,hI7⟩,hB⟩;have x7:Below w.heap.size w w7:=xw.trans (Below.mono hB xw.size);have hI8:IsB0 w.heap.size 128 (je (zy (L:Int) xs)) (.tuple #[u7,.int .i64 0]) w7:=by obtain⟨A',c',q1,q2,q3⟩:=hI7;exact⟨u7,rfl,A',c',q1,q2,q3.mono xw.size⟩
   clear hB hI7;replace hI8:=zH hI8;go_wp2_with fail;exact Gt rfl rfl rfl ⟨_,rfl,hI8.out,x7⟩
structure qcu (F:Fence):Prop where
 fn:∀ f,F.fn f
 depth:¬F.depth.isSome=true
 call:∀ {n:Nat} {P:Program} {f:FuncId} {args:Array Value} {w:World} {R:Ending->World->Prop},Calls P f args w R->CallsIn F n P f args w R
theorem wideF:qcu Fence.wide:=⟨fun _=>trivial,fun h=>(by cases h),fun h=>callsIn_wide.2 h⟩
theorem JO (l:Nat):qcu (Fence.wide.inRound l):=⟨fun _=>trivial,fun h=>(by cases h),fun h=>CallsIn.inRound l (callsIn_wide.2 h)⟩
def Uw (ops:Array Oper):Bool:=ops.toList.all fun o=>match o.op with | .defer _=>false|_=>true
theorem XD {ops:Array Oper} (h:Uw ops=true) {i:Nat} {o:Oper} (ho:ops[i]?=some o):∀ c,o.op≠.defer c:=by intro c hc;have h1:=List.all_eq_true.1 h o (by have:=Array.mem_of_getElem? ho;simpa using this);rw[hc] at h1;cases h1
section
variable {F:Fence} {P:Program} {ops:Array Oper} {n:Nat}
theorem Ul {Q':Exit->Act->World->Prop}:∀ (l:List Oper) (k:Nat) (listed:Array Bool) (a:Act) (W:World),(∀ j,j<l.length->l[j]?=ops[k+j]?)->Ts ops l.length k listed=true->wpListIn F n P ops Q' l a W->wpAnyIn F n P .any ops Q' l.length listed a W
 | [],_,_,_,_,_,hB,h=>⟨by simpa [Ts] using hB,h⟩
 |o :: l,k,listed,a,W,hl,hB,h=>by
  simp only[List.length_cons,Ts,Bool.and_eq_true] at hB;obtain⟨hr,gQ⟩:=hB;have lK:Region.ready .any ops listed=[k]:=by simpa using hr
  have h0:ops[k]?=some o:=by simpa using (hl 0 zA3).symm
  refine⟨fun e=>(by rw[lK] at e;cases e),fun i hi=>?_⟩;rw[lK] at hi;obtain rfl:i=k:=by simpa using hi
  have hl':∀ j,j<l.length->l[j]?=ops[i+1+j]?:=fun j hj=>by have:=hl (j+1) (by simpa using hj);simpa [Nat.add_assoc,Nat.add_comm 1 j] using this
  refine wpOpIn_mono (fun a w hw=>Ul l (i+1) _ a w hl' gQ hw) ?_;unfold wpOpIn;simp only[h0];exact h
end
section
variable {F0:Fence} {R:Rel} {P:Program} {ops:Array Oper} {w0:World} {n:Nat}
theorem Ur (HF:qcu F0) (HN:Uw ops=true) {H:Nat->Option qS} {i:Nat} {o:Oper} {a:Act} {F:qJ} {K:Act->qJ->Prop} {K':Act->World->Prop} {Q':Exit->Act->World->Prop} {W:World} (hi:ops[i]?=some o) (hH:∀ i h,H i=some h->∀ p,qB R (h.φ p)) (aH:∀ k,qB R (F k)) (hW:R.r w0 W) (hF:∀ k,F k W) (hK:∀ a' F' W',K a' F'->(∀ k,qB R (F' k))->R.r w0 W'->(∀ k,F' k W')->K' a' W') (h:FOpG R P ops w0 H i o K a F):wpOpIn F0 n P ops Q' i K' a W:=by
 obtain⟨hh,hok,hn⟩:=h;have go:∀ p W',R.r W W'->hh.φ p W'->K' (a.put o.dst (hh.f p)) W':=fun p W' he hφ=>by
  have lQ:∀ k,upd F i o (hh.φ p) k W':=fun k=>by
   unfold upd;split
   ·exact⟨hφ,fun j _=>aH j _ _ he (hF j)⟩
   ·exact aH k _ _ he (hF k)
  exact hK _ _ W' (hn p ⟨W',R.trans hW he,lQ⟩) (Zr aH i o (hok.stable hH p)) (R.trans hW he) lQ
 unfold wpOpIn;simp only[hi];rcases hok with ⟨x1,rfl⟩|⟨x1,x2,v,rfl,x3⟩|⟨x1,x2,x3⟩
 ·simp only[x1,Bool.false_eq_true,if_false];exact⟨fun f _=>HF.fn f,go () W (R.refl W) trivial⟩
 ·simp only[x1,if_true];obtain⟨w',hr,he⟩:=x3 W hW fun k _=>hF k;refine⟨fun f _=>HF.fn f,?_⟩;rw[Oper.semAt_eq _ _ _ (XD HN hi),hr];exact go () w' he trivial
 ·simp only[x1,if_true];have h3:=x3 W hW fun k _=>hF k;unfold QC at h3;refine⟨fun f _=>HF.fn f,?_⟩;rw[Oper.semAt_eq _ _ _ (XD HN hi)];generalize (execOp a.eval o).run P W=r at *;cases r with
  |ok m w' =>
   cases m <;> simp only[ZB] at h3 <;> simp only[Oper.uponIn]
   case value u =>obtain⟨p,rfl,hp,he⟩:=h3;exact go p w' he hp
   case skip =>
    obtain⟨p,e,hp,he⟩:=h3;have:=go p w' he hp
    rwa [<-e] at this
   case enter f args =>obtain⟨he,bH⟩:=h3;refine⟨fun h=>absurd h HF.depth,HF.call (bH.mono fun e w'' ⟨p,he1,hp,ig⟩=>?_)⟩;subst he1;exact go p w'' (R.trans he ig) hp
  |halt x w'=>simp only[ZB] at h3
theorem VU (HF:qcu F0) (HN:Uw ops=true) {H:Nat->Option qS} (hH:∀ i h,H i=some h->∀ p,qB R (h.φ p)) {L:Array Bool} {t:Nat} {Q:Act->qJ->Prop} {Q':Exit->Act->World->Prop} (hQ:∀ a F W,Q a F->R.r w0 W->(∀ k,F k W)->wpAnyIn F0 n P .any ops Q' t L a W) : ∀ (fuel:Nat) (listed:Array Bool) (a:Act) (F:qJ) (W:World),(∀ k,qB R (F k))->R.r w0 W->(∀ k,F k W)->vn R P ops w0 H L Q fuel listed a F->wpAnyIn F0 n P .any ops Q' (fuel+t) listed a W
 |0,listed,a,F,W,_,hW,hF,h=>by rw[h.1,Nat.zero_add];exact hQ a F W h.2 hW hF
 |fuel+1,listed,a,F,W,aH,hW,hF,h=>by rw[show fuel+1+t=fuel+t+1 by omega];refine⟨fun h0=>absurd h0 h.1,fun i hi=>?_⟩;obtain⟨_,o,ho,_⟩:=mem_ready.1 hi;exact Ur HF HN ho hH aH hW hF (fun a' F' W' hk gJ ax lQ=>VU HF HN hH hQ fuel _ a' F' W' gJ ax lQ hk) (h.2 i hi o ho)
theorem QT {id:Nat} {l:List Oper} {Q:Exit->Act->World->Prop} {a:Act} {w:World} (R:Rel) (H:Nat->Option qS) (M:List Bool) (t:Nat) (HF:qcu F0) (HN:Uw l.toArray=true) (hm:P.follows .mixedOrders=true) (hs:Region.noSelect l.toArray=true) (ht:qdY l.toArray (QK l.length (l.length-t)) ((qp 0 l M).map (·.1))=true) (dC:KY l.toArray (Array.replicate l.length false)=true) (hB:Zp l.toArray (QK l.length (l.length-t)) ((qp 0 l M).map (·.1)) (Array.replicate l.length false)=true) (lu:Ts l.toArray t (l.length-t) (QK l.length (l.length-t))=true) (hfu:l.length=(qp 0 l M).length+t) (nS:(l.drop (l.length-t)).length=t) (hH:∀ i h,H i=some h->∀ p,qB R (h.φ p)) (hW:R.r w w.drew) (h:∀ K:Act->qJ->Prop,(∀ a' F',(∀ W,R.r w W->(∀ k,F' k W)->wpListIn F0 n P l.toArray Q (l.drop (l.length-t)) a' W)->K a' F')->Zy R P l.toArray w H K (qp 0 l M) a (fun _ _=>True)):(Code.region id l.toArray true).wpIn F0 n P Q a w:=by
 have h:=h _ (fun a' F' hh=>hh);refine wpIn_region_any hm ?_;have key:=KR (w0:=w) hH hs (fun _ _ h=>h.step) (Xe ht) (qp 0 l M) (Array.replicate l.length false) a (fun _ _=>True) (JX dC) (fun x hx=>by obtain⟨j,h1,h2⟩:=JZ l M 0 x hx;refine⟨?_,List.mem_map.2 ⟨x,hx,rfl⟩⟩;rw[h1,Nat.zero_add];simpa using h2) hB (fun _ _ _ _ _=>trivial) ⟨w.drew,hW,fun _=>trivial⟩ (fun _ _ _=>trivial) h;have:=VU (n:=n) (w0:=w) HF HN hH (t:=t) (Q':=Q) (fun a F W hq hW hF=>by
  have:=Ul (F:=F0) (n:=n) (l.drop (l.length-t)) (l.length-t) _ a W (fun j _=>by rw[List.getElem?_drop];simp) (by rw[nS];exact lu) (hq W hW hF)
  rwa [nS] at this) _ _ _ _ w.drew (fun _ _ _ _ _=>trivial) hW (fun _=>trivial) key
 rw[<-hfu] at this;simpa using this
end
end Go.Proofs.YtpbniokljofedaaGreat
namespace Go.Proofs.YtpbniokljofedaaGreat
open Go.RowKit Go.Shelf
attribute [local go_sem] Oper.semAt_some
def VF (S:Sto) (a:Nat):Nat:=(S.last[a]?.getD 0).toNat
def ZJ (S:Sto) (a:Nat):Bool:=decide (8<=a) && (decide (ZD S a=0) && decide (VF S a=0))
def jy (S:Sto) (k:Nat):List Nat:=(List.range k).filter (ZJ S)
def Zi (S:Sto):List Nat:=jy S 256
theorem Ks (S:Sto) (k:Nat):jy S (k+1)=if ZJ S k=true then jy S k++[k] else jy S k:=by
 unfold jy;rw[List.range_succ,List.filter_append];by_cases h:ZJ S k=true
 ·rw[if_pos h];simp[h]
 ·rw[if_neg h];simp[h]
theorem qeI (S:Sto) (k:Nat):(jy S k).length<=k:=Nat.le_trans (List.length_filter_le _ _) zA3
theorem freeTo_8 (S:Sto):jy S 8=[]:=by
 unfold jy;rw[List.filter_eq_nil_iff];intro a ha;have:a<8:=by simpa using ha
 unfold ZJ;simp[show ¬8<=a by omega]
theorem UV (S:Sto) {k m:Nat} (h:k<=m):jy S k <+: jy S m:=by
 induction m with
 |zero =>
  obtain rfl:k=0:=zO;exact List.prefix_refl _
 |succ m ih =>
  rcases Nat.lt_or_ge m k with h1|h1
  ·obtain rfl:k=m+1:=zO;exact List.prefix_refl _
  ·refine(ih h1).trans ?_;rw[Ks];split
   ·exact List.prefix_append _ _
   ·exact List.prefix_refl _
theorem qga (S:Sto) (a:Nat):ZD S a<256:=UInt8.toNat_lt _
theorem qdm (S:Sto) (a:Nat):VF S a<256:=UInt8.toNat_lt _
theorem qgd (a b:Nat) (ha:a<256) (hb:b<256):(bits .or .u8 (a:Int) (b:Int) == 0)=(decide (a=0) && decide (b=0)):=by
 have e:bits .or .u8 (a:Int) (b:Int)=((a ||| b:Nat):Int):=by
  have e:∀ n:Nat,n<256->(BitVec.ofInt 8 (n:Int)).toNat=n:=fun n hn=>by simp[BitVec.ofInt_natCast];omega
  have hx:a ||| b<2 ^ 8:=Nat.or_lt_two_pow zO zO
  show IntKind.u8.wrap (((BitVec.ofInt 8 (a:Int) ||| BitVec.ofInt 8 (b:Int)).toNat:Nat):Int)=_;rw[BitVec.toNat_or,e a ha,e b hb];simp[IntKind.wrap,IntKind.bits,IntKind.signed];omega
 rw[e];by_cases h:a=0/\b=0
 ·obtain⟨rfl,rfl⟩:=h;rfl
 ·have h2:a ||| b≠0:=by
   intro h3;have h4:a<=a ||| b:=Nat.left_le_or
   have h5:b<=a ||| b:=Nat.right_le_or
   exact h ⟨zO,zO⟩
  have h6:(decide (a=0) && decide (b=0))=false:=by
   rcases Nat.eq_zero_or_pos a with h7|h7
   ·have:b≠0:=fun h8=>h ⟨h7,h8⟩;simp[this]
   ·simp[show a≠0 by omega]
  rw[h6];simpa using fun h9:((a ||| b:Nat):Int)=0=>h2 zO
theorem last_at {S:Sto} (hS:qm S=true) {w:World} {B:Nat} {v:Value} (h:Bys w B v S.last):∃ b o c,v=.slice (some ⟨b,o,none⟩) 256 c/\b<B/\∀ a,a<256->w.cell? ⟨b,o+a,none⟩=some (.int .u8 (VF S a:Int)):=by obtain⟨-,-,-,hl⟩:=qR hS;obtain⟨A,c,e,hc,hm,hr⟩:=h;obtain⟨b,o,rfl,hb,aF⟩:=hr.2 zO;rw[hl] at e;exact⟨b,o,c,e,hb,fun a ha=>aF a _ (by rw[List.getElem?_map,zL zO];unfold VF;rw[zL zO];rfl)⟩
set_option maxRecDepth 100000 in
theorem free_in (n:Nat) (hn:1<=n) (l bs n₀:Nat) (v1 v2 v3 v4:Value) (S:Sto) (hS:qm S=true) (J Jx:List Nat->World->Prop) (hY:∀ pre x W,J pre W->pre.length<256->YieldAt Fence.wide (n-1) prog l #[.int .i64 ((x:Nat):Int)] W fun e W'=>(e=.returned (.bool true)/\J (pre++[x]) W'/\Below n₀ W W')\/(e=.returned (.bool false)/\Jx (pre++[x]) W')) (hJ:∀ pre W W',J pre W->Ext W W'->J pre W') (W:World) (yt:bs<n₀) (hn₀:n₀<=W.heap.size) (aC:W.heap[bs]?=some (.cells #[v1,v2,v3,v4] 28 (0,0))) (aH:qX W n₀ v1 v2 v3 v4 S) (h0:J [] W):CallsIn Fence.wide n prog 175 #[.func (.yield l) #[] #[],.pointer (some ⟨bs,0,none⟩)] W fun e W'=>(∃ v,e=.returned v)/\((∃ ys,ys=Zi S/\J ys W')\/(∃ pre,pre <+: Zi S/\Jx pre W')):=by
 obtain⟨b3,o3,c3,rfl,dF,rY⟩:=Gp hS aH.now;obtain⟨b4,o4,c4,rfl,gu,hc4⟩:=last_at hS aH.last;replace aH:=zH aH;refine callsIn_of_wp func175 rfl trivial ?_ rfl;simp only[ntmps175,List.size_toArray,List.length_cons,List.length_nil,Nat.reduceAdd,Nat.reduceSub,Array.replicate_succ,Array.replicate_zero,List.push_toArray,List.append_toArray,List.nil_append,List.cons_append]
 gi_wp2_with fail
 gi_loopw [3] (fun i wr=>∃ k:Nat,8<=k/\k<=256/\i=.int .i64 (k:Int)/\J (jy S k) wr/\Below n₀ W wr) (fun i _=>256-(intOf i).toNat)
 case atStart=>exact⟨8,zO,zO,rfl,by rw[freeTo_8];exact h0,Below.refl _ _⟩
 case round =>
  obtain⟨k,hk8,hk,rfl,eu,hB⟩:=hrel;have lq:=(hB.block bs yt).trans aC;by_cases hlt:k<256
  ·have tY:=(World.cell?_of_block (a:=⟨b3,o3+k,none⟩) (hB.block b3 dF)).trans (rY k hlt);have hcy:=(World.cell?_of_block (a:=⟨b4,o4+k,none⟩) (hB.block b4 gu)).trans (hc4 k hlt);have gS:∀ W',qk.r wr W'->∀ i,W'.cell? ⟨bs,i,none⟩=#[v1,v2,.slice (some ⟨b3,o3,none⟩) 256 c3,.slice (some ⟨b4,o4,none⟩) 256 c4][i]?:=fun W' h=>qa (qb lq h);have gX:∀ W',qk.r wr W'->W'.cell? ⟨b3,o3+k,none⟩=some (.int .u8 (ZD S k:Int)):=fun W' h=>Ext.cell h tY;have gY:∀ W',qk.r wr W'->W'.cell? ⟨b4,o4+k,none⟩=some (.int .u8 (VF S k:Int)):=fun W' h=>Ext.cell h hcy;have hsu:=zH (Ks S k);have hfb:ZJ S k=(decide (ZD S k=0) && decide (VF S k=0)):=by unfold ZJ;simp[hk8]
   have hbz:(bits .or .u8 ((ZD S k:Nat):Int) ((VF S k:Nat):Int) == 0)=ZJ S k:=qgd _ _ (qga S k) (qdm S k) ▸ hfb.symm;generalize ZD S k=nw at *;generalize VF S k=lw at *;replace hfb:=zH hfb;replace rY:=zH rY;replace hc4:=zH hc4;replace lq:=zH lq;have hln:=zH (qeI S k);clear tY hcy;rcases Bool.eq_false_or_eq_true (ZJ S k) with hfr|hfr
   ·rw[hfr] at hbz;replace hsu:=zH ((if_pos hfr) ▸ hsu.out);replace hfr:=zH hfr
    gi_upto_region 3 with fail
    refine QT qk (qD []) (List.replicate 15 true) 3 wideF zQ zQ zQ zQ zQ zQ zQ zQ zQ ?st (Rel.drew _ _) ?walk
    case st=>intro i h hx;simp[qD] at hx
    case walk =>
     intro K hK;dsimp only[qp,List.replicate];repeat ((first|(refine qd ?_ zA0 zA0 (fun W hW _=>⟨W,?_,Rel.refl _ W⟩) ?_;rotate_left;(go_simp<;>with_reducible rfl))|(refine qh zA0 ?_));try simp only[Act.put,ql,qf,qc,qg,zA,zB,zC])
     first
      |(refine qd (.pointer (some ⟨b3,o3+k,none⟩)) zA0 zA0 (fun W hW _=>⟨W,?_,Rel.refl _ W⟩) ?_
        ·go_simp;rw[IntWalk.i64_in (k:Int) zO,if_pos zO];simp
        simp only[Act.put,ql,qf,qc,qg,zA,zB,zC])
      |skip
     repeat ((first|(refine qd ?_ zA0 zA0 (fun W hW _=>⟨W,?_,Rel.refl _ W⟩) ?_;rotate_left;(go_simp<;>with_reducible rfl))|(refine qh zA0 ?_));try simp only[Act.put,ql,qf,qc,qg,zA,zB,zC])
     first
      |(refine qd (.pointer (some ⟨b4,o4+k,none⟩)) zA0 zA0 (fun W hW _=>⟨W,?_,Rel.refl _ W⟩) ?_
        ·go_simp;rw[IntWalk.i64_in (k:Int) zO,if_pos zO];simp
        simp only[Act.put,ql,qf,qc,qg,zA,zB,zC])
      |skip
     repeat ((first|(refine qd ?_ zA0 zA0 (fun W hW _=>⟨W,?_,Rel.refl _ W⟩) ?_;rotate_left;(go_simp<;>with_reducible rfl))|(refine qh zA0 ?_));try simp only[Act.put,ql,qf,qc,qg,zA,zB,zC])
     refine qu (hK _ _ fun W2 hW hF=>?_);clear hF hK;refine zB5 ?_;obtain⟨fn,tm,asg,bdy,hy,hR⟩:=hY (jy S k) k W2 (hJ _ _ _ eu hW) (by have:=hln.out;omega)
     gi_wp2_with fail
     refine hR.mono ?_;rintro e W3 (⟨rfl,wu,iO⟩|⟨rfl,gp⟩)
     ·gi_wp2_with fail
      go_roundw
      case rel=>exact⟨k+1,zO,zO,by go_num,by rw[hsu.out];exact wu,hB.trans ((Below.mono hW (Nat.le_trans hn₀ hB.size)).trans iO)⟩
      case measure=>simp[intOf];omega
     ·gi_wp2_with fail
      refine bodyPost_ret (results_none rfl _ _ _) rfl ?_;exact⟨⟨_,rfl⟩,.inr ⟨_,hsu.out ▸ UV S zO,gp⟩⟩
   ·rw[hfr] at hbz;replace hsu:=zH ((if_neg (show ¬ZJ S k=true by rw[hfr];decide)) ▸ hsu.out);replace hfr:=zH hfr
    gi_upto_region 3 with fail
    refine QT qk (qD []) (List.replicate 15 true) 3 wideF zQ zQ zQ zQ zQ zQ zQ zQ zQ ?st (Rel.drew _ _) ?walk
    case st=>intro i h hx;simp[qD] at hx
    case walk =>
     intro K hK;dsimp only[qp,List.replicate];repeat ((first|(refine qd ?_ zA0 zA0 (fun W hW _=>⟨W,?_,Rel.refl _ W⟩) ?_;rotate_left;(go_simp<;>with_reducible rfl))|(refine qh zA0 ?_));try simp only[Act.put,ql,qf,qc,qg,zA,zB,zC])
     first
      |(refine qd (.pointer (some ⟨b3,o3+k,none⟩)) zA0 zA0 (fun W hW _=>⟨W,?_,Rel.refl _ W⟩) ?_
        ·go_simp;rw[IntWalk.i64_in (k:Int) zO,if_pos zO];simp
        simp only[Act.put,ql,qf,qc,qg,zA,zB,zC])
      |skip
     repeat ((first|(refine qd ?_ zA0 zA0 (fun W hW _=>⟨W,?_,Rel.refl _ W⟩) ?_;rotate_left;(go_simp<;>with_reducible rfl))|(refine qh zA0 ?_));try simp only[Act.put,ql,qf,qc,qg,zA,zB,zC])
     first
      |(refine qd (.pointer (some ⟨b4,o4+k,none⟩)) zA0 zA0 (fun W hW _=>⟨W,?_,Rel.refl _ W⟩) ?_
        ·go_simp;rw[IntWalk.i64_in (k:Int) zO,if_pos zO];simp
        simp only[Act.put,ql,qf,qc,qg,zA,zB,zC])
      |skip
     repeat ((first|(refine qd ?_ zA0 zA0 (fun W hW _=>⟨W,?_,Rel.refl _ W⟩) ?_;rotate_left;(go_simp<;>with_reducible rfl))|(refine qh zA0 ?_));try simp only[Act.put,ql,qf,qc,qg,zA,zB,zC])
     refine qu (hK _ _ fun W2 hW hF=>?_);clear hF hK;refine zB5 ?_;refine⟨fun _ h=>(by cases h),?_⟩
     gi_wp2_with fail
     go_roundw
     case rel=>exact⟨k+1,zO,zO,by go_num,by rw[hsu.out];exact hJ _ _ _ eu hW,hB.trans (Below.mono hW (Nat.le_trans hn₀ hB.size))⟩
     case measure=>simp[intOf];omega
  ·gi_wp2_with fail
   obtain rfl:k=256:=zO;go_end0;exact⟨⟨_,rfl⟩,.inl ⟨_,rfl,eu⟩⟩
end Go.Proofs.YtpbniokljofedaaGreat
namespace Go.Proofs.YtpbniokljofedaaGreat
open Go.RowKit
theorem YG {F:Fence} {n:Nat} {P:Program} {ops:Array Oper} {l:List Oper} {a:Act} {w:World} {Q:Exit->Act->World->Prop} (h:Qh (wpListIn F n P ops Q l a w)):wpListIn F n P ops Q l a w:=h
theorem YF {F:Fence} {nf:Nat} {P:Program} (w:World) {ops:Array Oper} {rest:List Oper} {o:Oper} {a:Act} {Q:Exit->Act->World->Prop} (fE:o.guard=none) (s x:Operand) (t:TypeId) (ho:o.op=.call { callee:=.builtin .append,args:=#[s,x],argTypes:=#[t,t] }) (base:Nat) (e:TypeId) (i:TypeInfo) (z:Value) (size bytes:Nat) (ht:P.underlying t=some (.slice e)) (hi:P.info? e=some i) (hz:i.zero=some z) (dm:i.size=size) (ai:i.bytes=bytes) (hzs:z.cells.size=size) (hsz:0<size) (v:Value) (n:Nat) (xs:List Value) (hs:a.eval s=v) (aB:w.ownsRow base e size v n xs) (cs:Array Value) (hx:a.eval x=.slice (some ⟨w.heap.size,0,none⟩) 1 1) (hl:cs.size=size) (h1:∀ u∈cs.toList,u.oneCell'=true) (hn:n<1073741824) (dX:bytes<=65536) (lS:base<=w.heap.size) (h:∀ v' w',w'.ownsRow base e size v' (n+1) (xs++cs.toList)->w.grownBy w' v.ownBlock->(v'.ownBlock=v.ownBlock\/∃ g,v'.ownBlock=some g/\w.heap.size<=g)->wpListIn F nf P ops Q rest (a.put o.dst v') w'):wpListIn F nf P ops Q (o :: rest) a (w.alloc (.cells cs e)):=by
 refine wpListIn_plain fE fun K hK=>?_;have hb:(n+1)*bytes<=140737488355328:=Nat.le_trans (Nat.mul_le_mul_left _ dX) zO;have hm:n+1<=maxLen:=zA7;obtain⟨v',w',aj,h2,h3,_,h5⟩:=run_append_own_at (P:=P) (w.alloc (.cells cs e)) base t o.type e i z size bytes ht hi hz dm ai hzs hsz v n xs (aB.alloc _) ⟨w.heap.size,0,none⟩ 1 1 cs.toList
  (by rw[Array.length_toList];omega) (Kp w cs e) h1 hm hb zA2
 have hg:w.grownBy w' v.ownBlock:=⟨h3.os,h3.tape,h3.output,Nat.le_trans zA3 h3.size,fun k hk aN=>(h3.block k zA2 aN).trans (zK w _ k hk)⟩
 unfold Oper.wpIn;refine⟨?_,?_⟩
 ·simp[Oper.about,ho,resolve,Target.leads,Sem.run_pure]
 ·rw[Oper.semAt_plain F _ _ (by rw[ho];intro c hc';cases hc')];simp only[execOp,ho,resolve,invoke,builtin,Sem.run_bind,Sem.run_pure,Result.andThen_ok,List.map_toArray,List.map_cons,List.map_nil,hs,hx,aj];exact hK _ _ (h v' w' h2 hg (h5.imp id fun e=>⟨_,e,zA3⟩))
end Go.Proofs.YtpbniokljofedaaGreat
namespace Go.Proofs.YtpbniokljofedaaGreat
open Go.RowKit Go.Shelf
attribute [local go_sem] Oper.semAt_some
theorem qeJ (n:Nat) (hn:1<=n) (bs n₀:Nat) (v1 v2 v3 v4:Value) (S:Sto) (hS:qm S=true) (w:World) (yt:bs<n₀) (hn₀:n₀<=w.heap.size) (aC:w.heap[bs]?=some (.cells #[v1,v2,v3,v4] 28 (0,0))) (aH:qX w n₀ v1 v2 v3 v4 S):SeqStopsK Fence.wide n prog 175 #[.pointer (some ⟨bs,0,none⟩)] (fun x:Nat=>#[.int .i64 (x:Int)]) (Below n₀) (fun ys=>ys=Zi S) (fun pre=>pre <+: Zi S) 256 w:=fun l J Jx W hW hJ _ hY h0 =>
 free_in n hn l bs n₀ v1 v2 v3 v4 S hS J Jx hY (fun pre W1 W2 h hx=>hJ pre W1 W2 none h ⟨hx.os,hx.tape,hx.output,hx.size,fun k hk _=>hx.block k hk⟩ (fun _ e=>by cases e)) W yt (Nat.le_trans hn₀ hW.size) ((hW.block bs (Nat.lt_of_lt_of_le yt hn₀)).trans aC) (aH.below (Below.mono hW hn₀)) h0
theorem XM {w:World} {B:Nat} {e:TypeId} {size:Nat} {v:Value} {n:Nat} {xs:List Value} (h:w.ownsRow B e size v n xs):∀ g,v.ownBlock=some g->∃ c fz,w.heap[g]?=some (.cells c e fz):=by
 intro g hg;rcases h.2 with ⟨rfl,_⟩|⟨b,cap,cur,rfl,_,h2,_⟩
 ·simp[Value.ownBlock] at hg
 ·simp[Value.ownBlock] at hg;subst hg;exact⟨cur,(0,0),h2⟩
theorem own_down {w:World} {B B':Nat} {e:TypeId} {size:Nat} {v:Value} {n:Nat} {xs:List Value} (h:w.ownsRow B e size v n xs) (hb:B'<=B):w.ownsRow B' e size v n xs:=by
 rcases h with ⟨h1,h2|⟨g,cap,cur,e1,h3,h4⟩⟩
 ·exact⟨h1,.inl h2⟩
 ·exact⟨h1,.inr ⟨g,cap,cur,e1,zO,h4⟩⟩
theorem qbY {w:World} {B:Nat} {e:TypeId} {size:Nat} {v:Value} {n:Nat} {xs:List Value} (h:w.ownsRow B e size v n xs) {D:Nat} {o:Obj} (hD:w.heap[D]?=some o) (ho:o.isCells=false):v.ownBlock=none\/v.ownBlock≠some D:=by refine .inr fun hv=>?_;obtain⟨c,fz,h3⟩:=XM h D hv;rw[hD] at h3;cases h3;cases ho
theorem Tx {B:Nat} {W W':World} {row:Option Nat} (hg:W.grownBy W' row) (hr:∀ g,row=some g->B<=g) (hB:B<=W.heap.size:=by omega):Below B W W':=(Below.refl _ _).grown hg hB (fun k e=>hr k e)
theorem TO {w w':World} {B:Nat} {e:TypeId} {size:Nat} {v:Value} {n:Nat} {xs:List Value} (h:w.ownsRow B e size v n xs) (hg:w.grownBy w' v.ownBlock):KeepsOthers w w':=⟨hg.size,fun k o hk ho=>(hg.block k (zG.1 hk).1 (fun e1=>by obtain⟨c,fz,h3⟩:=XM h k e1.symm;rw[hk] at h3;cases h3;cases ho)).trans hk⟩
theorem qbW {B:Nat} (b base:Nat) (ty ety:TypeId):OwnFrom B (fun (pre:List Nat) W=>∃ v,W.heap[b]?=some (.cells #[v] ty (0,0))/\W.ownsRow base ety 1 v pre.length (JU pre)):=fun s A C row ⟨v,h1,h2⟩ hg hr =>
 ⟨v,Qs (β:=Unit) _ _ _ _ () A C row h1 hg hr,h2.kept hg (by
  rcases hv:v.ownBlock with _|g
  ·exact .inl rfl
  ·refine .inr fun e=>?_;obtain⟨_,o,ho,hc⟩:=hr g e.symm;rcases XM h2 g hv with ⟨c,fz,h3⟩;rw[ho] at h3;cases h3;cases hc)⟩
set_option maxRecDepth 100000 in
theorem qbo (n:Nat) (h3:3<=n) (bs:Nat) (v1 v2 v3 v4:Value) (S:Sto) (hS:qm S=true) (w:World) (yt:bs<w.heap.size) (aC:w.heap[bs]?=some (.cells #[v1,v2,v3,v4] 28 (0,0))) (aH:qX w w.heap.size v1 v2 v3 v4 S):CallsIn Fence.wide n prog 174 #[.slice none 0 0,.func (.func 175) #[] #[.pointer (some ⟨bs,0,none⟩)]] w fun e W'=>∃ v,e=.returned v/\Below w.heap.size w W'/\W'.ownsRow (w.heap.size+1) 3 1 v (Zi S).length (JU (Zi S)):=by
 have h1:1<=n:=zO;refine callsIn_of_wp_marks func174 rfl trivial ?_ rfl;simp only[ntmps174,List.size_toArray,List.length_cons,List.length_nil,Nat.reduceAdd,Nat.reduceSub,Array.replicate_succ,Array.replicate_zero,List.push_toArray,List.append_toArray,List.nil_append,List.cons_append]
 gi_wp2_with fail
 have x1:Ext w (w.alloc (.cells #[.slice none 0 0] 30)):=zN _ _;obtain⟨i0,hi,aX,aU,aV⟩:=info_parts Tryz.info_int;refine wpIn_rangeFunc_ownH rfl h1 (gf:=175) (lb:=#[.pointer (some ⟨bs,0,none⟩)]) rfl trivial (enters_of func175 zQ rfl)
  (qeJ (n-1) zO bs w.heap.size v1 v2 v3 v4 S hS _ yt zA3 (qb aC x1) (aH.below x1)) Below.trans (belowK_b zA3) (Below.refl _ _) (fun _=>rfl)
  (fun pre W=>(∃ v,W.heap[w.heap.size]?=some (.cells #[v] 30 (0,0))/\W.ownsRow (w.heap.size+1) 3 1 v pre.length (JU pre))/\Below w.heap.size w W)
  (fun _ _ _=>False)
  (OwnFrom.and (qbW _ _ _ _) (ownFrom_below (zM _) zA3))
  (fun _ _ _ _ _ hs _ _=>hs)
  ⟨⟨.slice none 0 0,zI _ _ _ rfl,World.ownsRow_nil _ _ _ _⟩,x1⟩
  (fun x a' _=>a'={ tmps:=#[.slice none 0 0,.func (.func 175) #[] #[.pointer (some ⟨bs,0,none⟩)],.pointer (some ⟨w.heap.size,0,none⟩),undef,.slice none 0 0,.int .i64 (x:Int),.func (.func 175) #[] #[.pointer (some ⟨bs,0,none⟩)],.int .i64 (x:Int),undef,undef,undef,undef,undef],defers:=[] })
  (fun x a'=>kK _ _) ?assign ?body ?done ?stop
 case assign =>
  rintro l pre x W K hI hK
  gi_wp2_with fail
  exact hK _ _ (KeepsFrom.refl _ _) (Below.refl _ _) hI rfl
 case body =>
  rintro l pre x a' W hl - ⟨⟨v,hr,aB⟩,hB⟩ rfl bT;have kr:=qa hr;have zb:w.heap.size<W.heap.size:=(zG.1 hr).1;have aN:v.ownBlock≠some w.heap.size:=fun e=>by have:=(Ql aB _ e).1;omega
  obtain⟨Av,cv,rfl,-,-⟩:=qy aB
  gi_wp2_with (gi_at_builtin;refine YG ?_)
  refine Qh.go (YF W rfl (.tmp 8) (.tmp 10) 30 rfl (w.heap.size+1) 3 i0 _ 1 8 underlying30 hi aX aU aV rfl zA1 (.slice Av pre.length cv) pre.length _ zE aB #[.int .i64 (x:Int)] zE rfl zA8 zO zA1 zO ?_);intro v' W3 dJ hg dW;have hg0:∀ g,(Value.slice Av pre.length cv).ownBlock=some g->w.heap.size+1<=g:=fun g e=>(Ql aB _ e).1;have ug:W3.heap[w.heap.size]?=_:=(hg.block _ zb (fun e=>aN e.symm)).trans hr;have kr3:=qa ug;have fr3:=qe ug;have oQ:Below w.heap.size W W3:=Tx hg fun g e=>by have:=hg0 g e;omega
  have hg3:∀ g,v'.ownBlock=some g->w.heap.size+1<=g:=fun g e=>(Ql dJ _ e).1;have lY:KeepsOthers W W3:=TO aB hg;replace hg:=zH hg;replace aB:=zH aB;replace dW:=zH dW;obtain⟨Av',cv',rfl,-,-⟩:=qy dJ;replace dJ:=zH dJ
  gi_wp2_with fail
  refine⟨(lY.trans (KeepsOthers.setCell _ _ _)).from _,oQ.setCell (p:=⟨w.heap.size,0,none⟩) (zM _) _,⟨_,qi ug 0 _,?_⟩,hB.trans (oQ.setCell (p:=⟨w.heap.size,0,none⟩) (zM _) _)⟩;rw[List.length_append,List.length_singleton,YW];exact dJ.out.kept (grownBy_setCell' _ _ _) (.inr fun e=>by have:=hg3 _ e;omega)
 case done =>
  rintro D ys W hD rfl ⟨⟨v,hr,aB⟩,hB⟩ hK;have kr:=qa hr
  gi_wp2_with fail
  refine⟨zA3,.inl ⟨_,_,rfl,run_takeDeferred hK,?_⟩⟩;exact⟨_,results_tmp rfl _ _ _,v,rfl,hB.trans (belowK_b (w:=w) (zM _) W D _ _ (by simp at hD;omega) hK rfl rfl),aB.kept (grownBy_putObj' W D _) (qbY aB hK rfl)⟩
 case stop =>rintro D c pre W _ _ h _;exact h.elim
def RFreeQ (S:Sto) (w:World) (e:Ending) (w':World):Prop:=Below w.heap.size w w' /\
 ((qm S=false/\e=.returned (.tuple #[.slice none 0 0,.int .i64 8]))\/(qm S=true/\∃ v,e=.returned (.tuple #[v,.int .i64 0])/\w'.ownsRow w.heap.size 3 1 v (Zi S).length (JU (Zi S))))
set_option maxRecDepth 100000 in
theorem qcU (bs:Nat) (v1 v2 v3 v4:Value) (S:Sto) (hS:qm S=true) (w:World) (yt:bs<w.heap.size) (aC:w.heap[bs]?=some (.cells #[v1,v2,v3,v4] 28 (0,0))) (aH:qX w w.heap.size v1 v2 v3 v4 S):Calls prog 160 #[.func (.func 175) #[] #[.pointer (some ⟨bs,0,none⟩)]] w fun e W'=>∃ v,e=.returned v/\Below w.heap.size w W'/\W'.ownsRow (w.heap.size+1) 3 1 v (Zi S).length (JU (Zi S)):=by
 go_enter func160,ntmps160;go_wp2_with fail;refine((callsIn_wide (n:=3)).1 (qbo 3 zO bs v1 v2 v3 v4 S hS w yt aC aH)).mono ?_;rintro e w2 ⟨v,rfl,hB,aB⟩;obtain⟨A,c,rfl,-,-⟩:=qy aB;replace aB:=zH aB;go_wp2_with fail;go_ret;exact⟨_,rfl,hB,aB.out⟩
theorem qeH (A1:Option Addr) (n1 c1:Nat) (A2:Option Addr) (n2 c2:Nat) (A3:Option Addr) (n3 c3:Nat) (A4:Option Addr) (n4 c4:Nat) (w:World):Calls prog 161 #[Qe A1 n1 c1 A2 n2 c2 A3 n3 c3 A4 n4 c4] w (fun e w'=>e=.returned (.func (.func 175) #[] #[.pointer (some ⟨w.heap.size,0,none⟩)])/\w'=w.alloc (.cells #[.slice A1 n1 c1,.slice A2 n2 c2,.slice A3 n3 c3,.slice A4 n4 c4] 28)):=by
 go_enter func161,ntmps161;go_wp2;go_ret;exact⟨rfl,rfl⟩
theorem qbc {R:Ending->World->Prop} {a:Act} {W:World} {u v:Value} (h2:a.tmps[2]?.getD undef=u) (h3:a.tmps[3]?.getD undef=v) (hd:a.defers=[]) (hR:R (.returned (.tuple #[u,v])) W):bodyPost prog Tryz.f118 R .ret a W:=by refine bodyPost_ret (v:=.tuple #[u,v]) ?_ hd hR;simp[results,results118,go_sem,h2,h3]
set_option maxRecDepth 100000 in
theorem qhg (A1:Option Addr) (n1 c1:Nat) (A2:Option Addr) (n2 c2:Nat) (A3:Option Addr) (n3 c3:Nat) (A4:Option Addr) (n4 c4:Nat) (S:Sto) (w:World) (h:qX w w.heap.size (.slice A1 n1 c1) (.slice A2 n2 c2) (.slice A3 n3 c3) (.slice A4 n4 c4) S):Calls prog 118 #[Qe A1 n1 c1 A2 n2 c2 A3 n3 c3 A4 n4 c4] w (RFreeQ S w):=by
 have HC:=zH (fun W (hx:Ext w W)=>jN A1 n1 c1 A2 n2 c2 A3 n3 c3 A4 n4 c4 S W (h.ext hx));replace h:=zH h;go_enter func118,ntmps118;go_wp2_with fail;generalize aA:(World.alloc w _)=w1;have x1:Ext w w1:=by rw[<-aA];exact zN _ _
 have r1:w1.heap[w.heap.size]?=some (.cells #[.slice A1 n1 c1,.slice A2 n2 c2,.slice A3 n3 c3,.slice A4 n4 c4] 28 (0,0)):=by rw[<-aA];exact zI _ _ _ rfl
 clear aA;refine(HC.out w1 x1).mono ?_;clear HC;rintro e w2 ⟨rfl,hB⟩;have x2:Ext w w2:=x1.trans hB;have r2:=qb r1 hB;have k2:=qa r2;clear hB r1 x1;rcases hS:qm S with _|_
 ·rw[jW rfl];replace hS:=zH hS;go_wp2_with fail;exact qbc rfl rfl rfl ⟨x2,.inl ⟨hS.out,rfl⟩⟩
 ·rw[Jv rfl];go_wp2_with fail;refine(qeH A1 n1 c1 A2 n2 c2 A3 n3 c3 A4 n4 c4 w2).mono ?_;rintro e w3 ⟨rfl,rfl⟩;have x3:Ext w2 (w2.alloc (.cells #[.slice A1 n1 c1,.slice A2 n2 c2,.slice A3 n3 c3,.slice A4 n4 c4] 28)):=zN _ _;have r3:(w2.alloc (.cells #[.slice A1 n1 c1,.slice A2 n2 c2,.slice A3 n3 c3,.slice A4 n4 c4] 28)).heap[w2.heap.size]?=_:=zI _ _ _ rfl;have h3:=h.out.ext (x2.trans x3);generalize aK:w2.alloc _=w3 at *;have s3:w2.heap.size<w3.heap.size:=(zG.1 r3).1;go_wp2_with fail;refine(qcU w2.heap.size _ _ _ _ S hS w3 s3 r3 h3).mono ?_;rintro e w4 ⟨v,rfl,dG,aB⟩;obtain⟨A,c,rfl,-,-⟩:=qy aB;have HR:RFreeQ S w (.returned (.tuple #[.slice A (Zi S).length c,.int .i64 0])) w4:=⟨Ext.trans (x2.trans x3) dG,.inr ⟨hS,_,rfl,own_down aB (by have:=(x2.trans x3).size;omega)⟩⟩
  replace HR:=zH HR;replace aB:=zH aB;replace hS:=zH hS;clear aK r3 r2 k2;go_wp2_with fail;exact qbc rfl rfl rfl HR.out
end Go.Proofs.YtpbniokljofedaaGreat
namespace Go.Proofs.YtpbniokljofedaaGreat
open Go.RowKit
section
variable {F0:Fence} {P:Program} {ops:Array Oper} {n:Nat}
end


end Go.Proofs.YtpbniokljofedaaGreat
namespace Go.Proofs.YtpbniokljofedaaGreat
open Go.RowKit Go.Shelf
attribute [local go_sem] Oper.semAt_some
def QO (S:Sto):Nat:=(Zi S).headD 0
def KI (S:Sto) (a:Nat) (data:List UInt8):Sto:=⟨S.bs,S.ws++[((a:Int),data)],S.now.set a 1,S.last⟩
theorem KeepsOthers.of_ext {W W':World} (h:Ext W W'):KeepsOthers W W':=⟨h.size,fun k _ hk _=>(h.block k (zG.1 hk).1).trans hk⟩
theorem GD {w W:World} {x0 x1 x2 x3 y z:Value} {wW mi pY:TypeId} {u0 u1 u2 u3 u5 u6:Value} (r4:W.heap[w.heap.size+2]?=some (.cells #[u0,u1,u2,u3] wW (0,0))) (r5:W.heap[w.heap.size+3]?=some (.cells #[u5] mi (0,0))) (r6:W.heap[w.heap.size+4]?=some (.cells #[u6] pY (0,0))) {C:World} (hC:C=((((((W.setCell ⟨w.heap.size+1+1,0,none⟩ x0).setCell ⟨w.heap.size+1+1,1,none⟩ x1).setCell ⟨w.heap.size+1+1,2,none⟩ x2).setCell ⟨w.heap.size+1+1,3,none⟩ x3).setCell ⟨w.heap.size+1+1+1,0,none⟩ y).setCell ⟨w.heap.size+1+1+1+1,0,none⟩ z)):C.heap[w.heap.size+2]?=some (.cells #[x0,x1,x2,x3] wW (0,0))/\C.heap[w.heap.size+3]?=some (.cells #[y] mi (0,0))/\C.heap[w.heap.size+4]?=some (.cells #[z] pY (0,0))/\(∀ {B:Nat} {w0:World},B<=w.heap.size+2->Below B w0 W->Below B w0 C)/\C.heap.size=W.heap.size/\(∀ k,w.heap.size+5<=k->C.heap[k]?=W.heap[k]?)/\KeepsOthers W C:=by
 subst hC;have hs:=fun (A:World) (b j:Nat) (v:Value) (k:Nat) (hk:k≠b)=>zJ A ⟨b,j,none⟩ v k hk;refine⟨?_,?_,?_,fun hB h=>?_,zA3,fun k hk=>?_,?_⟩
 ·rw[hs _ _ _ _ _ zO,hs _ _ _ _ _ zO];exact Xd r4 x0 x1 x2 x3
 ·rw[hs _ _ _ _ _ zO];refine qi (t:=mi) (cs:=#[u5]) ?_ 0 y;rw[hs _ _ _ _ _ zO,hs _ _ _ _ _ zO,hs _ _ _ _ _ zO,hs _ _ _ _ _ zO];exact r5
 ·refine qi (t:=pY) (cs:=#[u6]) ?_ 0 z;rw[hs _ _ _ _ _ zO,hs _ _ _ _ _ zO,hs _ _ _ _ _ zO,hs _ _ _ _ _ zO,hs _ _ _ _ _ zO];exact r6
 ·exact Below.setCell (Below.setCell (ZW h (b:=w.heap.size+1+1) zO x0 x1 x2 x3) (p:=⟨w.heap.size+1+1+1,0,none⟩) zA2 _) (p:=⟨w.heap.size+1+1+1+1,0,none⟩) zA2 _
 ·rw[hs _ _ _ _ _ zO,hs _ _ _ _ _ zO,hs _ _ _ _ _ zO,hs _ _ _ _ _ zO,hs _ _ _ _ _ zO,hs _ _ _ _ _ zO]
 ·exact(((((KeepsOthers.setCell _ _ _).trans (KeepsOthers.setCell _ _ _)).trans (KeepsOthers.setCell _ _ _)).trans (KeepsOthers.setCell _ _ _)).trans (KeepsOthers.setCell _ _ _)).trans (KeepsOthers.setCell _ _ _)
end Go.Proofs.YtpbniokljofedaaGreat
namespace Go.Proofs.YtpbniokljofedaaGreat
open Go.RowKit
def Jq (t:List UInt8) (a:Nat):Except Int (List UInt8):=if a=0 then .ok t else if Qd t a=0 then .error 6 else if Qd t a=255 then .error 70 else .ok (KQ t a 1)
def ZE:List Nat->List UInt8->Except Int (List UInt8)
 | [],t=>.ok t
 |a :: r,t=>match Jq t a with
  | .error e=>.error e
  | .ok t'=>ZE r t'
theorem Jz:∀ (l r:List Nat) (t:List UInt8),ZE (l++r) t=match ZE l t with
  | .error e=>.error e
  | .ok t'=>ZE r t'
 | [],_,_=>rfl
 |a :: l,r,t=>by
  simp only[List.cons_append,ZE];cases Jq t a with
  |error e=>rfl
  |ok t'=>exact Jz l r t'
theorem GN (a:Nat) (t:List UInt8):ZE [a] t=Jq t a:=by simp only[ZE];cases Jq t a <;> rfl
def qU (its:List It):List Nat:=its.map fun x=>x.r.toNat
theorem Vi {its:List It} {k:Nat} (hk:k<its.length):qU (its.take (k+1))=qU (its.take k)++[(its[k].r).toNat]:=by unfold qU;rw[List.take_succ_eq_append_getElem hk,List.map_append];rfl
theorem qfp {its:List It} (k:Nat):qU its=qU (its.take k)++qU (its.drop k):=by unfold qU;rw[<-List.map_append,List.take_append_drop]
theorem qfx {its:List It} {k:Nat} (hk:k<its.length) {t t':List UInt8} {e:Int} (h:ZE (qU (its.take k)) t=.ok t') (h1:Jq t' (its[k].r).toNat=.error e):ZE (qU its) t=.error e:=by rw[qfp (its:=its) (k+1),Jz,Vi hk,Jz,h];simp only[GN,h1]
theorem qdU {its:List It} {k:Nat} (hk:k<its.length) {t t' t'':List UInt8} (h:ZE (qU (its.take k)) t=.ok t') (h1:Jq t' (its[k].r).toNat=.ok t''):ZE (qU (its.take (k+1))) t=.ok t'':=by rw[Vi hk,Jz,h];simp only[GN,h1]
def zh (S:Sto) (lvl:Int) (its:List It):Except Int (Nat×Sto):=
 if Qc lvl its=true then
  match ZE (qU its) S.now with
  | .error e=>.error e
  | .ok t=>if Zi (qt S t)=[]\/S.ws.length=4096 then .error 9 else .ok (QO (qt S t),KI (qt S t) (QO (qt S t)) (je (zy lvl its)))
 else .error 8
section
variable {D:Nat->Prop} {B lo b g:Nat} {k:Option Nat} {S:Sto} {w W:World}
theorem Bch.lens (h:Bch D B lo b g k S w):S.now.length=256/\S.last.length=256:=by obtain⟨A1,n1,c1,v2,c3,A4,c4,hr,ho,-,-,h4⟩:=h.ex;have:=ho.1;have h5:=h4.at_.1;exact⟨by simpa using this,h5.symm⟩
theorem Bch.cells (h:Bch D B lo b g k S w):∃ A1 n1 c1 v2 c3 A4 c4,(∀ i,w.cell? ⟨b,i,none⟩=#[.slice A1 n1 c1,v2,.slice (some ⟨g,0,none⟩) 256 c3,.slice A4 256 c4][i]?)/\(∀ a,a<256->w.cell? ⟨g,a,none⟩=some (.int .u8 (ZD S a:Int)))/\(∀ a,w.frozen? ⟨g,a,none⟩=false):=by obtain⟨A1,n1,c1,v2,c3,A4,c4,hr,ho,-,-,-⟩:=h.ex;obtain⟨h1,h2,-,-⟩:=zm ho;exact⟨A1,n1,c1,v2,c3,A4,c4,qa hr,h1,h2⟩
end
theorem YP {R:Ending->World->Prop} {a:Act} {W:World} {v:Value} (h4:a.tmps[4]?.getD undef=v) (hd:a.defers=[]) (hR:R (.returned v) W):bodyPost prog Tryz.f156 R .ret a W:=by refine bodyPost_ret (v:=v) ?_ hd hR;simp[results,results156,go_sem,h4]
set_option maxRecDepth 100000 in
theorem qex (D:Nat->Prop) (B lo b g:Nat) (k:Option Nat) (S:Sto) (a:Nat) (ha:a<256) (w:World) (h:Bch D B lo b g k S w):Calls prog 156 #[.pointer (some ⟨b,0,none⟩),.int .i64 (a:Int)] w fun e W=>qV lo b g k w W /\
   ((Qd S.now a=0/\e=.returned (.int .i64 6))\/(Qd S.now a=255/\e=.returned (.int .i64 70))\/(Qd S.now a≠0/\Qd S.now a≠255/\e=.returned (.int .i64 0)/\Bch D B lo b g k (qt S (KQ S.now a 1)) W)):=by
 obtain⟨A1,n1,c1,v2,c3,A4,c4,kr,hk,hf⟩:=h.cells;have hka:=hk a ha;have hfa:=hf a;have hT:Hid (KQ S.now a 1=S.now.set a (UInt8.ofNat (Qd S.now a+1))):=rfl;have nR:=zH (h.count ha (UInt8.ofNat (Qd S.now a+1)));have nZ:ZD S a=Qd S.now a:=rfl;have bJ:=(S.now[a]?.getD 0).toNat_lt;have hc:Qd S.now a=(S.now[a]?.getD 0).toNat:=rfl;rw[nZ] at hka;rw[<-hc] at bJ;have hwv:=qgs (Qd S.now a+1);generalize Qd S.now a=nv at *;clear hk hf hc nZ h;by_cases h0:nv=0
 ·subst h0;clear nR hT hwv;go_enter func156,ntmps156;go_wp2_with fail;exact YP rfl rfl ⟨qV.refl _ _ _ _ _,.inl ⟨by trivial,rfl⟩⟩
 ·have aU:((nv:Int) == 0)=false:=by rw[beq_eq_false_iff_ne];omega
  have aV:decide (nv=0)=false:=decide_eq_false zO;by_cases h1:nv=255
  ·subst h1;clear nR hT hwv;go_enter func156,ntmps156;go_wp2_with fail;exact YP rfl rfl ⟨qV.refl _ _ _ _ _,.inr (.inl ⟨by trivial,rfl⟩)⟩
  ·have hz3:((nv:Int) == 255)=false:=by rw[beq_eq_false_iff_ne];omega
   have hz4:decide (nv=255)=false:=decide_eq_false zO;replace h0:=zH h0;replace h1:=zH h1;rw[show ((nv+1:Nat):Int)=(nv:Int)+1 from rfl] at hwv;go_enter func156,ntmps156;go_wp2_with fail;refine YP rfl rfl ⟨nR.out.2,.inr (.inr ⟨h0.out,h1.out,rfl,?_⟩)⟩;rw[hT.out];exact nR.out.1
set_option maxRecDepth 100000 in
theorem Tz (D:Nat->Prop) (B lo b g:Nat) (k:Option Nat) (S:Sto) (a:Nat) (ha:a<256) (w:World) (h:Bch D B lo b g k S w):Calls prog 133 #[.pointer (some ⟨b,0,none⟩),.int .i64 (a:Int)] w fun e W=>qV lo b g k w W /\
   ((Qd S.now a=0/\e=.returned (.int .i64 6))\/(Qd S.now a≠0/\e=.returned (.int .i64 0)/\Bch D B lo b g k (qt S (ZZ S.now a)) W)):=by
 obtain⟨A1,n1,c1,v2,c3,A4,c4,kr,hk,hf⟩:=h.cells;have hka:=hk a ha;have hfa:=hf a;have hT:Hid (ZZ S.now a=S.now.set a (UInt8.ofNat (Qd S.now a-1))):=rfl;have nR:=zH (h.count ha (UInt8.ofNat (Qd S.now a-1)));have nZ:ZD S a=Qd S.now a:=rfl;have bJ:=(S.now[a]?.getD 0).toNat_lt;have hc:Qd S.now a=(S.now[a]?.getD 0).toNat:=rfl;rw[nZ] at hka;rw[<-hc] at bJ;generalize Qd S.now a=nv at *;clear hk hf hc nZ h;by_cases h0:nv=0
 ·subst h0;clear nR hT;go_enter func133,ntmps133;go_wp2_with fail;exact YO rfl rfl ⟨qV.refl _ _ _ _ _,.inl ⟨by trivial,rfl⟩⟩
 ·have aU:((nv:Int) == 0)=false:=by rw[beq_eq_false_iff_ne];omega
  have hwv:=qcg (n:=nv) zO bJ;replace h0:=zH h0;go_enter func133,ntmps133;go_wp2_with fail;refine YO rfl rfl ⟨nR.out.2,.inr ⟨h0.out,rfl,?_⟩⟩;rw[hT.out];exact nR.out.1
end Go.Proofs.YtpbniokljofedaaGreat
