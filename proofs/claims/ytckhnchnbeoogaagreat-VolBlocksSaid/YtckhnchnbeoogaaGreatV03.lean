/- Texts Sum, Clone, Open, OpenR, Itm, ItRead, App, joined. -/
import Derived.WalkSpells
import Derived.RangeFuncRecord
import Derived.Test.YtckhnchnbeoogaaGreatV02
set_option linter.unusedSimpArgs false
set_option linter.unusedVariables false
namespace Go.Proofs.YtckhnchnbeoogaaGreat
open Go.RowKit
theorem Below.setRow {B g:Nat} {w0 w:World} (hb:Below B w0 w) (hBg:B≤g) (cs:Array Value):Below B w0 (w.setRow g cs):=
 hb.trans ⟨rfl,rfl,rfl,by simp,fun k hk=>setRow_other _ _ _ _ (by omega)⟩
set_option maxHeartbeats 1000000 in
set_option maxRecDepth 100000 in
theorem fold_any (w:World):Calls Tryz.prog 154 #[] w (Ret (.agg (vT 16)) w):=by
 have hinfo:(Tryz.prog.info? 233).map (·.size)=some (vT 16).size:=by rw[JN];kernel_rfl
 go_enter Tryz.func154,Tryz.ntmps154
 go_wp2
 generalize hw1:(World.alloc _ _)=w1
 have r0:w1.heap[w.heap.size]?=some (.cells (vT 0) 233 (0,0)):=by rw[←hw1];exact World.alloc_heap_at _ _ _ rfl
 have hb1:Below w.heap.size w w1:=by rw[←hw1];exact(by repeat' (first|with_reducible exact Below.refl _ _|with_reducible assumption|with_reducible apply Below.drew|with_reducible apply qp|with_reducible refine Below.alloc ?_ ?_ _|with_reducible refine Below.setCell ?_ ?_ _|(simp;done)|(simp;omega)|omega))
 clear hw1
 go_loopw [1,2,3] (fun x s i wr=>∃ k:Nat,k≤16∧i=.int .i64 (k:Int)∧wr.heap[w.heap.size]?=some (.cells (vT k) 233 (0,0))∧Below w.heap.size w wr)
  (fun _ _ i _=>16-(intOf i).toNat)
 case atStart=>exact⟨0,by omega,rfl,r0,hb1⟩
 case round =>
  obtain⟨k,hk,rfl,hrow,hB⟩:=hrel
  by_cases hlt:k<16
  ·go_wp2
   go_loopw [2,8] (fun s i W=>∃ j:Nat,j≤4∧i=.int .i64 (j:Int)∧s=.int .u32 ((hvs j k:Nat):Int)∧W=wr)
    (fun _ i _=>4-(intOf i).toNat)
   case atStart=>exact⟨0,by omega,rfl,rfl,rfl⟩
   case round =>
    obtain⟨j,hj,rfl,rfl,rfl⟩:=hrel
    have hs:hvs j k<4294967296:=qcR j (by omega)
    have HS:Hid (hvs (j+1) k=hv (hvs j k)):=rfl
    have HT:Hid (jy k=hvs 4 k):=rfl
    generalize hq:hvs j k=q at *
    by_cases hj4:j<4
    ·have H1:=zH (and_1 q hs)
     have H2:=zH (hv_mul q hs)
     go_wp2
     go_roundw
     case rel =>
      refine⟨j+1,by omega,by go_num,?_,by first|rfl|trivial⟩
      rw[HS.out,←H2.out,H1.out]
      simp
     case measure=>simp[intOf];omega
    ·obtain rfl:j=4:=by omega
     have kx:wr.cell? ⟨w.heap.size,k,none⟩=some (.int .u32 0):=by rw[qa hrow,kU _ _ hlt];simp
     have kf:=qd hrow
     have HR:=zH (qbI k hlt)
     go_wp2
     go_roundw
     case rel =>
      refine⟨k+1,by omega,by go_num,?_,?_⟩
      ·rw[setCell_eq_setRow _ _ _ _ _ _ _ hrow,setRow_heap _ _ _ _ _ _ hrow,←HR.out,HT.out,hq]
      ·exact hB.setCell (p:=⟨w.heap.size,k,none⟩) (Nat.le_refl _) _
     case measure=>simp[intOf];omega
  ·obtain rfl:k=16:=by omega
   go_wp2_with (first
    |refine wpList_load_row rfl 233 (.tmp 0) rfl w.heap.size rfl _ (vT 16) (0,0) _ hrow Tryz.underlying233 rfl hinfo ?_
    |refine wpList_store_row rfl 233 (.tmp 0) (.tmp 21) rfl w.heap.size (vT 16) rfl rfl _ (vT 16) hrow hinfo rfl (by decide +kernel) ?_)
   exact bodyPost_ret (results_cell_row rfl _ _ w.heap.size _ (vT 16) (0,0) _ (by rfl) (setRow_heap _ _ _ _ _ _ hrow) Tryz.underlying233 rfl hinfo) rfl ⟨rfl,Below.setRow hB (Nat.le_refl _) _⟩
theorem step32 (s x:Nat) (hs:s<4294967296) (hx:x<256):s ^^^ x<4294967296:=ZU hs (by omega)
set_option maxHeartbeats 1000000 in
set_option maxRecDepth 100000 in
theorem qeG (v:Value) (l:List UInt8) (w:World) (h:Bys w w.heap.size v l) (hl:l.length<1099511627776):Calls Tryz.prog 139 #[v] w (Ret (.int .u32 (crc l:Int)) w):=by
 obtain⟨A,c,rfl,hc,hm,hr⟩:=h
 have hinfo:(Tryz.prog.info? 233).map (·.size)=some (vT 16).size:=by rw[JN];kernel_rfl
 have hF:∀ W,_:=fun W=>fold_any W
 have HF:=zH hF
 clear hF
 go_enter Tryz.func139,Tryz.ntmps139
 go_wp2_with fail
 refine(HF.out _).mono ?_
 rintro e w1 ⟨rfl,hB⟩
 go_wp2_with (refine wpList_store_row rfl 233 (.tmp 3) (.tmp 7) rfl w1.heap.size (vT 16) rfl rfl _ _ (World.alloc_heap_at _ _ _ rfl) hinfo (by rw[JN];rfl) (by decide +kernel) ?_)
 generalize hw2:(World.setRow _ _ _)=w2
 have r2:w2.heap[w1.heap.size]?=some (.cells (vT 16) 233 (0,0)):=by rw[←hw2];exact setRow_heap _ _ _ _ _ _ (World.alloc_heap_at _ _ _ rfl)
 have hb2:Below w.heap.size w w2:=by rw[←hw2];exact Below.setRow (Below.trans hB ((Below.refl _ _).alloc hB.size _)) hB.size _
 clear hw2
 have hT:∀ i,i<16→w2.cell? ⟨w1.heap.size,i,none⟩=some (.int .u32 (jy i:Int)):=fun i hi=>by rw[qa r2,kU _ _ hi,if_pos hi]
 clear r2 hinfo
 go_loopw [4,10] (fun s i W=>∃ k:Nat,k≤l.length∧i=.int .i64 (k:Int)∧s=.int .u32 (Vq (l.take k):Int)∧W=w2)
  (fun _ i _=>l.length-(intOf i).toNat)
 case atStart=>exact⟨0,by omega,rfl,by simp[Vq],rfl⟩
 case round =>
  obtain⟨k,hk,rfl,rfl,rfl⟩:=hrel
  by_cases hlt:k<l.length
  ·have HN:Hid (Vq (l.take (k+1))=JD (Vq (l.take k)) l[k]):=by
    rw[List.take_succ_eq_append_getElem hlt,Gr];exact rfl
   obtain⟨b,off,rfl,hb,hcell⟩:=hr.2 (by omega)
   have hcx:wr.cell? ⟨b,off+k,none⟩=some (bv l[k]):=(hb2.cell hb).trans (hcell k _ (by rw[List.getElem?_map,List.getElem?_eq_getElem hlt];rfl))
   have hs:=Ta (l.take k)
   generalize Vq (l.take k)=s at *
   have hx:=l[k].toNat_lt
   generalize l[k]=x at *
   obtain⟨n,hn⟩:∃ n,n=l.length:=⟨_,rfl⟩
   have H1:=zH (jo s x.toNat hs (by omega))
   have h1:s ^^^ x.toNat<4294967296:=step32 s x.toNat hs (by omega)
   have e1:JD s x=(((s ^^^ x.toNat) / 16 ^^^ jy ((s ^^^ x.toNat) % 16)) / 16) ^^^ jy (((s ^^^ x.toNat) / 16 ^^^ jy ((s ^^^ x.toNat) % 16)) % 16):=rfl
   generalize s ^^^ x.toNat=s1 at *
   have H2:=zH (and_15 s1 h1)
   have hi1:s1 % 16<16:=by omega
   have c1:=hT _ hi1
   have t1:=Ka hi1
   have H3:=zH (jo (s1 / 16) (jy (s1 % 16)) (by omega) t1)
   have h2:s1 / 16 ^^^ jy (s1 % 16)<4294967296:=ZU (by omega) t1
   generalize jy (s1 % 16)=T1 at *
   generalize s1 / 16 ^^^ T1=s2 at *
   generalize s1 % 16=i1 at *
   have H4:=zH (and_15 s2 h2)
   have hi2:s2 % 16<16:=by omega
   have c2:=hT _ hi2
   have t2:=Ka hi2
   clear hT
   have H5:=zH (jo (s2 / 16) (jy (s2 % 16)) (by omega) t2)
   have h3:s2 / 16 ^^^ jy (s2 % 16)<4294967296:=ZU (by omega) t2
   generalize jy (s2 % 16)=T2 at *
   generalize s2 / 16 ^^^ T2=s3 at *
   generalize s2 % 16=i2 at *
   have q3:((s1 / 16:Nat):Int)=(s1:Int) / 16:=rfl
   have q5:((s2 / 16:Nat):Int)=(s2:Int) / 16:=rfl
   rw[q3] at H3
   rw[q5] at H5
   clear q3 q5
   have E1:=zH e1
   clear e1
   go_wp2_with (first|rw[H1.out]|rw[H2.out]|rw[H3.out]|rw[H4.out]|rw[H5.out])
   go_roundw
   case rel=>exact⟨k+1,by omega,by go_num,by rw[HN.out,E1.out],by first|rfl|trivial⟩
   case measure=>simp[intOf];omega
  ·obtain rfl:k=l.length:=by omega
   have hs:=Ta (l.take l.length)
   rw[List.take_length] at hs ⊢
   have HS:Hid (bits .xor .u32 IntKind.u32.max (Vq l:Int)=(crc l:Int)):=by
    have h1:=jo 4294967295 (Vq l) (by omega) hs
    rw[Nat.xor_comm,qdP _ hs] at h1
    exact h1
   clear hT
   go_wp2
   all_goals try (exfalso;revert h;decide)
   go_ret
   exact⟨jU HS.out,hb2⟩
set_option maxHeartbeats 1000000 in
set_option maxRecDepth 100000 in
theorem TK (v:Value) (l:List UInt8) (hl:l.length<1073741824) (w:World) (h:Bys w w.heap.size v l) :
  Calls Tryz.prog 134 #[v] w (zE (fun u w'=>w'.ownsRow w.heap.size 5 1 u l.length (l.map bv)) w):=by
 obtain⟨i0,hi,hz0,hz1,hz2⟩:=info_parts Tryz.info_u8
 obtain⟨A,c,rfl,hc,hm,hr⟩:=h
 have qn:∀ (w:World) (a:Option Addr) (n c n' c':Nat),(binOp .eql 26 (.slice a n c) (.slice none n' c')).run Tryz.prog w=.ok (.bool a.isNone) w:=fun w a n c n' c'=>Lib.run_eql_slice_nil w _ _ a n c n' c' Tryz.underlying26
 rcases A with _|⟨b,off,p⟩
 ·have h0:l=[]:=by
   rcases l with _|⟨x,r⟩
   ·rfl
   ·obtain⟨b,off,h,_⟩:=hr.2 (by simp)
    cases h
  subst h0
  go_enter Tryz.func134,Tryz.ntmps134
  go_wp2
  go_ret
  exact⟨_,rfl,World.ownsRow_nil _ _ _ _,Below.refl _ _⟩
 ·go_enter Tryz.func134,Tryz.ntmps134
  go_wp2_with (at_builtin;refine qI ?_)
  refine Qc.go (qM _ rfl (.tmp 5) (.tmp 6) 26 rfl w.heap.size 5 i0 (.int .u8 0) 1 1 Tryz.underlying26 hi hz0 hz1 hz2 rfl (by decide) _ 0 [] rfl ?_ w.heap.size _ l.length c (l.map bv) rfl ?_ (zT l) (by omega) (by decide) ?_ ?_)
  ·exact World.ownsRow_lit w #[] 0 (Nat.le_refl _) (by simp[maxLen]) rfl
  ·exact hr.keep fun p hp=>World.cell?_alloc_lt w _ p hp
  ·simp
  ·intro v' w' hown _ hb _
   simp only[Nat.zero_add,List.nil_append] at hown
   go_wp2
   go_ret
   exact⟨_,rfl,hown,Below.trans ((Below.refl _ _).alloc (Nat.le_refl _) _) hb⟩
set_option maxHeartbeats 1000000 in
set_option maxRecDepth 100000 in
theorem Zh (v:Value) (l:List UInt8) (hl:l.length<1073741824) (w:World) (h:Bys w w.heap.size v l) :
  Calls Tryz.prog 69 #[v] w (zE (fun u w'=>w'.ownsRow w.heap.size 5 1 u l.length (l.map bv)) w):=by
 obtain⟨i0,hi,hz0,hz1,hz2⟩:=info_parts Tryz.info_u8
 obtain⟨A,c,rfl,hc,hm,hr⟩:=h
 have qn:∀ (w:World) (a:Option Addr) (n c n' c':Nat),(binOp .eql 26 (.slice a n c) (.slice none n' c')).run Tryz.prog w=.ok (.bool a.isNone) w:=fun w a n c n' c'=>Lib.run_eql_slice_nil w _ _ a n c n' c' Tryz.underlying26
 rcases A with _|⟨b,off,p⟩
 ·have h0:l=[]:=by
   rcases l with _|⟨x,r⟩
   ·rfl
   ·obtain⟨b,off,h,_⟩:=hr.2 (by simp)
    cases h
  subst h0
  go_enter Tryz.func69,Tryz.ntmps69
  go_wp2
  go_ret
  exact⟨_,rfl,World.ownsRow_nil _ _ _ _,Below.refl _ _⟩
 ·go_enter Tryz.func69,Tryz.ntmps69
  go_wp2_with (at_builtin;refine qI ?_)
  refine Qc.go (qM _ rfl (.tmp 5) (.tmp 6) 26 rfl w.heap.size 5 i0 (.int .u8 0) 1 1 Tryz.underlying26 hi hz0 hz1 hz2 rfl (by decide) _ 0 [] rfl ?_ w.heap.size _ l.length c (l.map bv) rfl ?_ (zT l) (by omega) (by decide) ?_ ?_)
  ·exact World.ownsRow_lit w #[] 0 (Nat.le_refl _) (by simp[maxLen]) rfl
  ·exact hr.keep fun p hp=>World.cell?_alloc_lt w _ p hp
  ·simp
  ·intro v' w' hown _ hb _
   simp only[Nat.zero_add,List.nil_append] at hown
   go_wp2
   go_ret
   exact⟨_,rfl,hown,Below.trans ((Below.refl _ _).alloc (Nat.le_refl _) _) hb⟩
theorem qcQ (v v':Value) (l l':List UInt8) (w:World) (h:Bys w w.heap.size v l) (h':Bys w w.heap.size v' l') :
  Calls Tryz.prog 150 #[v,v'] w (Ret (.bool (decide (l=l'))) w):=by
 have hv:(convert 26 9 v).run Tryz.prog w=.ok (.string (jm l)) w:=qU h _ _ _ Tryz.underlying26 Tryz.underlying5 Tryz.underlying9
 have hv':(convert 26 9 v').run Tryz.prog w=.ok (.string (jm l')) w:=qU h' _ _ _ Tryz.underlying26 Tryz.underlying5 Tryz.underlying9
 clear h h'
 go_enter Tryz.func150,Tryz.ntmps150
 go_wp2
 go_ret
 refine⟨Zm ?_,(by repeat' (first|with_reducible exact Below.refl _ _|with_reducible assumption|with_reducible apply Below.drew|with_reducible apply qp|with_reducible refine Below.alloc ?_ ?_ _|with_reducible refine Below.setCell ?_ ?_ _|(simp;done)|(simp;omega)|omega))⟩
 rw[Bool.eq_iff_iff]
 simp[ji, *]
def ZE (l:List UInt8):Bool:=l.all (· == 0)
def kD (l:List UInt8):Nat:=l.foldl (fun s x=>max s x.toNat) 0
theorem qdW (l:List UInt8) (x:UInt8):kD (l++[x])=max (kD l) x.toNat:=by simp[kD]
theorem qaA (l:List UInt8):kD l<256:=by
 suffices h:∀ (l:List UInt8) s,s<256→l.foldl (fun s x=>max s x.toNat) s<256 from h l 0 (by omega)
 intro l
 induction l with
 |nil=>intro s h;exact h
 |cons x r ih=>intro s h;have:=x.toNat_lt;exact ih _ (by show max s x.toNat<256;omega)
theorem TS (l:List UInt8):decide ((kD l:Int)>0)=!ZE l:=by
 suffices h:∀ (l:List UInt8) s,decide (l.foldl (fun s x=>max s x.toNat) s>0)=(decide (s>0) || !ZE l) by
  have:=h l 0
  simp only[kD]
  rw[Bool.eq_iff_iff] at this ⊢
  simp at this ⊢
  exact this
 intro l
 induction l with
 |nil=>intro s;simp[ZE]
 |cons x r ih =>
  intro s
  rw[List.foldl_cons,ih]
  have hx:(x == 0)=decide (x.toNat=0):=by
   rw[Bool.eq_iff_iff]
   simp
   constructor
   ·rintro rfl;rfl
   ·intro h;exact UInt8.toNat.inj h
  simp only[ZE,List.all_cons,hx]
  rw[Bool.eq_iff_iff]
  simp
  by_cases h:x.toNat=0 <;> simp[h] <;> omega
set_option maxHeartbeats 1000000 in
theorem qbS (v:Value) (l:List UInt8) (h0:0<l.length) (hl:l.length<1073741824) (w:World) (h:Bys w w.heap.size v l) :
  Calls Tryz.prog 118 #[v] w (Ret (.int .u8 (kD l:Int)) w):=by
 obtain⟨A,c,rfl,hc,hm,hr⟩:=h
 obtain⟨b,off,rfl,hb,hcell⟩:=hr.2 h0
 have hcx:∀ k,(hk:k<l.length)→w.cell? ⟨b,off+k,none⟩=some (.int .u8 (l[k].toNat:Int)):=fun k hk=>hcell k _ (by rw[List.getElem?_map,List.getElem?_eq_getElem hk];rfl)
 have h1:=hcx 0 h0
 have hm1:kD (l.take 1)=l[0].toNat:=by
  rcases l with _|⟨x,r⟩
  ·simp at h0
  ·simp[kD]
 rw[Nat.add_zero] at h1
 clear hcell
 go_enter Tryz.func118,Tryz.ntmps118
 go_wp2
 go_loopw [3,4] (fun x i wr=>∃ k:Nat,1≤k∧k≤l.length∧i=.int .i64 (k:Int)∧x=.int .u8 (kD (l.take k):Int)∧wr=w)
  (fun _ i _=>l.length-(intOf i).toNat)
 case atStart=>exact⟨1,by omega,by omega,rfl,by rw[hm1],rfl⟩
 case round =>
  obtain⟨k,hk1,hk,rfl,rfl,rfl⟩:=hrel
  by_cases hlt:k<l.length
  ·have HN:Hid (kD (l.take (k+1))=max (kD (l.take k)) l[k].toNat):=by
    rw[List.take_succ_eq_append_getElem hlt,qdW];exact rfl
   have hx:=hcx k hlt
   clear hcx h1 hm1
   have hs:=qaA (l.take k)
   have hu:=l[k].toNat_lt
   generalize kD (l.take k)=q at *
   generalize l[k].toNat=u at *
   go_wp2
   go_roundw
   case rel=>exact⟨k+1,by omega,by omega,by go_num,by rw[HN.out];go_num,by first|rfl|trivial⟩
   case measure=>simp[intOf];omega
  ·obtain rfl:k=l.length:=by omega
   rw[List.take_length] at *
   go_wp2
   go_ret
   exact⟨rfl,Below.refl _ _⟩
def Ks (l:List UInt8):Bool:=decide (zX (l.take 4)=crc (l.drop 4))
def IsOpen (lo:Nat) (l:List UInt8) (v:Value) (W:World):Prop:=IsB0 lo 124 (l.drop 4) v W
theorem qaD (l:List UInt8) (h:l.length=128):Qx l 0 4=(zX (l.take 4):Int):=by
 unfold Qx;rw[if_pos (by omega)];simp
theorem numE0 (l:List UInt8) (h:l.length=128):Jp l 0 4=0:=by unfold Jp;rw[if_pos (by omega)]
theorem Kv (l:List UInt8) (h:l.length=128):(l.drop 4).take 124=l.drop 4:=List.take_of_length_le (by simp;omega)
set_option maxHeartbeats 1000000 in
theorem open_len (v:Value) (l:List UInt8) (hl:l.length≠128) (w:World) (h:Bys w w.heap.size v l) :
  Calls Tryz.prog 115 #[v] w (Ret (.tuple #[.slice none 0 0,.int .i64 3]) w):=by
 obtain⟨A,c,rfl,hc,hm,hr⟩:=h
 have hn1:((l.length:Int) != 128)=true:=by rw[bne_iff_ne];omega
 go_enter Tryz.func115,Tryz.ntmps115
 go_wp2
 exact bodyPost_ret (v:=.tuple #[.slice none 0 0,.int .i64 3]) (by simp[results,Tryz.results115,go_sem]) rfl ⟨rfl,Below.refl _ _⟩
set_option maxHeartbeats 1000000 in
theorem open_any (v:Value) (l:List UInt8) (hl:l.length=128) (w:World) (h:Bys w w.heap.size v l) :
  Calls Tryz.prog 115 #[v] w (zE (fun u w'=>if Ks l then IsOpen w.heap.size l u w' else u=.tuple #[.slice none 0 0,.int .i64 8]) w):=by
 obtain⟨A,m,c,rfl⟩:∃ A m c,v=.slice A m c:=by obtain⟨A,c,e,_⟩:=h;exact⟨_,_,_,e⟩
 obtain⟨e1,hc,hm,hA⟩:=h.at_
 rw[hl] at e1
 subst e1
 obtain⟨b,off,rfl,hb⟩:=hA (by omega)
 have hs:Bys w w.heap.size (.slice (some ⟨b,off+4,none⟩) 124 (c-4)) (l.drop 4):=by
  have:=h.sub (a:=4) (k:=124) (by omega)
  rwa [Kv l hl] at this
 have hlen:(l.drop 4).length=124:=by simp;omega
 have HG:∀ W,Ext w W→_:=fun W hW=>vq _ l 0 (by omega) W ((h.below hW).more hW.size)
 rw[qaD l hl,numE0 l hl] at HG
 have HO:∀ W,Ext w W→_:=fun W hW=>qeG _ _ W ((hs.below hW).more hW.size) (by omega)
 have HC:∀ W,Ext w W→_:=fun W hW=>TK _ (l.drop 4) (by omega) W ((hs.below hW).more hW.size)
 have hx:(zX (l.take 4):Int)<4294967296:=by have:=jf l 0 4 (by omega);rw[qaD l hl] at this;exact this.2
 have hy:=crc_lt (l.drop 4)
 have hsum:Ks l=decide (zX (l.take 4)=crc (l.drop 4)):=rfl
 clear h hs
 unfold maxLen at hm
 generalize zX (l.take 4)=x at *
 generalize crc (l.drop 4)=y at *
 have HG:=zH HG
 have HO:=zH HO
 have HC:=zH HC
 rw[hsum]
 by_cases hxy:x=y
 ·subst hxy
  simp only[decide_true,if_true]
  go_enter Tryz.func115,Tryz.ntmps115
  go_wp2_with fail
  refine(HG.out _ (Ext.refl _)).mono ?_
  rintro e w1 ⟨rfl,hB1⟩
  have hB1:Ext w w1:=hB1
  go_wp2_with fail
  refine(HO.out _ hB1).mono ?_
  rintro e w2 ⟨rfl,hB2⟩
  have hB2:Ext w w2:=Ext.trans hB1 hB2
  go_wp2_with fail
  refine(HC.out _ hB2).mono ?_
  rintro e w3 ⟨u,rfl,hown,hB3⟩
  have hB3:Ext w w3:=Ext.trans hB2 hB3
  rw[hlen] at hown
  go_wp2
  refine bodyPost_ret (v:=.tuple #[u,.int .i64 0]) (by simp[results,Tryz.results115,go_sem]) rfl ⟨_,rfl,?_,hB3⟩
  obtain⟨A',c',h1,h2,h3⟩:=IsB.of_own hown
  exact⟨u,rfl,A',c',h1,h2,h3.mono hB2.size⟩
 ·have hn1:((x:Int) != y)=true:=by rw[bne_iff_ne];omega
  rw[decide_eq_false hxy]
  simp only[Bool.false_eq_true,if_false]
  go_enter Tryz.func115,Tryz.ntmps115
  go_wp2_with fail
  refine(HG.out _ (Ext.refl _)).mono ?_
  rintro e w1 ⟨rfl,hB1⟩
  have hB1:Ext w w1:=hB1
  go_wp2_with fail
  refine(HO.out _ hB1).mono ?_
  rintro e w2 ⟨rfl,hB2⟩
  have hB2:Ext w w2:=Ext.trans hB1 hB2
  go_wp2
  exact bodyPost_ret (v:=.tuple #[.slice none 0 0,.int .i64 8]) (by simp[results,Tryz.results115,go_sem]) rfl ⟨_,rfl,rfl,hB2⟩
theorem hv_even (s:Nat) (h:s % 2≠1):hv s=s / 2:=by unfold hv;rw[if_neg h];simp
theorem hv_odd (s:Nat) (hs:s<4294967296) (h:s % 2=1):bits .xor .u32 ((s:Int) / 2) 3988292384=((hv s:Nat):Int):=by
 unfold hv
 rw[if_pos h]
 exact jo (s / 2) 3988292384 (by omega) (by omega)
set_option maxHeartbeats 1000000 in
theorem qdj (n:Nat) (hn:n<4294967296) (w:World):Calls Tryz.prog 155 #[.int .u32 (n:Int),.int .i64 4] w (Ret (.int .u32 ((hvs 4 n:Nat):Int)) w):=by
 go_enter Tryz.func155,Tryz.ntmps155
 go_wp2
 go_loopw [0,5] (fun s i W=>∃ j:Nat,j≤4∧i=.int .i64 (j:Int)∧s=.int .u32 ((hvs j n:Nat):Int)∧W=w)
  (fun _ i _=>4-(intOf i).toNat)
 case atStart=>exact⟨0,by omega,rfl,rfl,rfl⟩
 case round =>
  obtain⟨j,hj,rfl,rfl,rfl⟩:=hrel
  have hs:hvs j n<4294967296:=qcR j hn
  have HS:Hid (hvs (j+1) n=hv (hvs j n)):=rfl
  generalize hq:hvs j n=q at *
  by_cases hj4:j<4
  ·by_cases hodd:q % 2=1
   ·have H1:=zH (hv_odd q hs hodd)
    go_wp2
    go_roundw
    case rel=>exact⟨j+1,by omega,by go_num,by rw[HS.out,H1.out],by first|rfl|trivial⟩
    case measure=>simp[intOf];omega
   ·have H1:=zH (hv_even q hodd)
    go_wp2
    go_roundw
    case rel=>exact⟨j+1,by omega,by go_num,by rw[HS.out,H1.out];rfl,by first|rfl|trivial⟩
    case measure=>simp[intOf];omega
  ·obtain rfl:j=4:=by omega
   go_wp2
   go_ret
   exact⟨by rw[hq];rfl,Below.refl _ _⟩
set_option maxHeartbeats 1000000 in
set_option maxRecDepth 100000 in
theorem qcq (v:Value) (l:List UInt8) (w:World) (h:Bys w w.heap.size v l) (hl:l.length<1099511627776):Calls Tryz.prog 146 #[v] w (Ret (.int .u32 (crc l:Int)) w):=by
 obtain⟨A,c,rfl,hc,hm,hr⟩:=h
 go_enter Tryz.func146,Tryz.ntmps146
 go_wp2
 generalize hw1:(World.alloc _ _)=w1
 have r0:w1.heap[w.heap.size]?=some (.cells (vT 0) 233 (0,0)):=by rw[←hw1];exact World.alloc_heap_at _ _ _ rfl
 have hb1:Below w.heap.size w w1:=by rw[←hw1];exact(by repeat' (first|with_reducible exact Below.refl _ _|with_reducible assumption|with_reducible apply Below.drew|with_reducible apply qp|with_reducible refine Below.alloc ?_ ?_ _|with_reducible refine Below.setCell ?_ ?_ _|(simp;done)|(simp;omega)|omega))
 clear hw1
 go_loopw [4] (fun i wr=>∃ k:Nat,k≤16∧i=.int .i64 (k:Int)∧wr.heap[w.heap.size]?=some (.cells (vT k) 233 (0,0))∧Below w.heap.size w wr)
  (fun i _=>16-(intOf i).toNat)
 case atStart=>exact⟨0,by omega,rfl,r0,hb1⟩
 case round =>
  obtain⟨k,hk,rfl,hrow,hB⟩:=hrel
  by_cases hlt:k<16
  ·have HH:=zH (qdj k (by omega) wr)
   have HT:Hid (jy k=hvs 4 k):=rfl
   go_wp2_with fail
   refine HH.out.mono ?_
   rintro e w3 ⟨rfl,hB3⟩
   have hgr:w.heap.size<wr.heap.size:=(zG.1 hrow).1
   have hrow3:w3.heap[w.heap.size]?=some (.cells (vT k) 233 (0,0)):=(hB3.block _ hgr).trans hrow
   have hBB:=Below.trans hB (Below.mono hB3 (by omega))
   have kx:w3.cell? ⟨w.heap.size,k,none⟩=some (.int .u32 0):=by rw[qa hrow3,kU _ _ hlt];simp
   have kf:=qd hrow3
   have HR:=zH (qbI k hlt)
   go_wp2
   go_roundw
   case rel =>
    refine⟨k+1,by omega,by go_num,?_,?_⟩
    ·rw[setCell_eq_setRow _ _ _ _ _ _ _ hrow3,setRow_heap _ _ _ _ _ _ hrow3,←HR.out,HT.out]
    ·exact hBB.setCell (p:=⟨w.heap.size,k,none⟩) (Nat.le_refl _) _
   case measure=>simp[intOf];omega
  ·obtain rfl:k=16:=by omega
   have hT:∀ i,i<16→wr.cell? ⟨w.heap.size,i,none⟩=some (.int .u32 (jy i:Int)):=fun i hi=>by rw[qa hrow,kU _ _ hi,if_pos hi]
   clear hrow r0 hb1
   go_wp2
   obtain⟨w2,hw2⟩:∃ w2,w2=wr:=⟨_,rfl⟩
   rw[←hw2] at hB hT ⊢
   clear hw2
   go_loopw [5,6] (fun s i W=>∃ k:Nat,k≤l.length∧i=.int .i64 (k:Int)∧s=.int .u32 (Vq (l.take k):Int)∧W=w2)
    (fun _ i _=>l.length-(intOf i).toNat)
   case atStart=>exact⟨0,by omega,rfl,by simp[Vq],rfl⟩
   case round =>
    obtain⟨k,hk,rfl,rfl,rfl⟩:=hrel
    by_cases hlt:k<l.length
    ·have HN:Hid (Vq (l.take (k+1))=JD (Vq (l.take k)) l[k]):=by
      rw[List.take_succ_eq_append_getElem hlt,Gr];exact rfl
     obtain⟨b,off,rfl,hb,hcell⟩:=hr.2 (by omega)
     have hcx:wr.cell? ⟨b,off+k,none⟩=some (bv l[k]):=(hB.cell hb).trans (hcell k _ (by rw[List.getElem?_map,List.getElem?_eq_getElem hlt];rfl))
     have hs:=Ta (l.take k)
     generalize Vq (l.take k)=s at *
     have hx:=l[k].toNat_lt
     generalize l[k]=x at *
     obtain⟨n,hn⟩:∃ n,n=l.length:=⟨_,rfl⟩
     have H1:=zH (jo s x.toNat hs (by omega))
     have h1:s ^^^ x.toNat<4294967296:=step32 s x.toNat hs (by omega)
     have e1:JD s x=(((s ^^^ x.toNat) / 16 ^^^ jy ((s ^^^ x.toNat) % 16)) / 16) ^^^ jy (((s ^^^ x.toNat) / 16 ^^^ jy ((s ^^^ x.toNat) % 16)) % 16):=rfl
     generalize s ^^^ x.toNat=s1 at *
     have H2:=zH (show (s1:Int) % 16=((s1 % 16:Nat):Int) from rfl)
     have hi1:s1 % 16<16:=by omega
     have c1:=hT _ hi1
     have t1:=Ka hi1
     have H3:=zH (jo (s1 / 16) (jy (s1 % 16)) (by omega) t1)
     have h2:s1 / 16 ^^^ jy (s1 % 16)<4294967296:=ZU (by omega) t1
     generalize jy (s1 % 16)=T1 at *
     generalize s1 / 16 ^^^ T1=s2 at *
     generalize s1 % 16=i1 at *
     have H4:=zH (show (s2:Int) % 16=((s2 % 16:Nat):Int) from rfl)
     have hi2:s2 % 16<16:=by omega
     have c2:=hT _ hi2
     have t2:=Ka hi2
     clear hT
     have H5:=zH (jo (s2 / 16) (jy (s2 % 16)) (by omega) t2)
     have h3:s2 / 16 ^^^ jy (s2 % 16)<4294967296:=ZU (by omega) t2
     generalize jy (s2 % 16)=T2 at *
     generalize s2 / 16 ^^^ T2=s3 at *
     generalize s2 % 16=i2 at *
     have q3:((s1 / 16:Nat):Int)=(s1:Int) / 16:=rfl
     have q5:((s2 / 16:Nat):Int)=(s2:Int) / 16:=rfl
     rw[q3] at H3
     rw[q5] at H5
     clear q3 q5
     have E1:=zH e1
     clear e1
     go_wp2_with (first|rw[H1.out]|rw[H2.out]|rw[H3.out]|rw[H4.out]|rw[H5.out])
     go_roundw
     case rel=>exact⟨k+1,by omega,by go_num,by rw[HN.out,E1.out],by first|rfl|trivial⟩
     case measure=>simp[intOf];omega
    ·obtain rfl:k=l.length:=by omega
     have hs:=Ta (l.take l.length)
     rw[List.take_length] at hs ⊢
     have HS:Hid (bits .xor .u32 (Vq l:Int) 4294967295=(crc l:Int)):=by
      have h1:=jo (Vq l) 4294967295 hs (by omega)
      rw[qdP _ hs] at h1
      exact h1
     clear hT
     go_wp2
     go_ret
     exact⟨jU HS.out,hB⟩
set_option maxHeartbeats 1000000 in
theorem qex (v:Value) (l:List UInt8) (hl:l.length≠128) (w:World) (h:Bys w w.heap.size v l) :
  Calls Tryz.prog 122 #[v] w (Ret (.tuple #[.slice none 0 0,.int .i64 3]) w):=by
 obtain⟨A,c,rfl,hc,hm,hr⟩:=h
 have hn1:((l.length:Int) != 128)=true:=by rw[bne_iff_ne];omega
 go_enter Tryz.func122,Tryz.ntmps122
 go_wp2
 exact bodyPost_ret (v:=.tuple #[.slice none 0 0,.int .i64 3]) (by simp[results,Tryz.results122,go_sem]) rfl ⟨rfl,Below.refl _ _⟩
set_option maxHeartbeats 1000000 in
theorem qed (v:Value) (l:List UInt8) (hl:l.length=128) (w:World) (h:Bys w w.heap.size v l) :
  Calls Tryz.prog 122 #[v] w (zE (fun u w'=>if Ks l then IsOpen w.heap.size l u w' else u=.tuple #[.slice none 0 0,.int .i64 8]) w):=by
 obtain⟨A,m,c,rfl⟩:∃ A m c,v=.slice A m c:=by obtain⟨A,c,e,_⟩:=h;exact⟨_,_,_,e⟩
 obtain⟨e1,hc,hm,hA⟩:=h.at_
 rw[hl] at e1
 subst e1
 obtain⟨b,off,rfl,hb⟩:=hA (by omega)
 have hs:Bys w w.heap.size (.slice (some ⟨b,off+4,none⟩) 124 (c-4)) (l.drop 4):=by
  have:=h.sub (a:=4) (k:=124) (by omega)
  rwa [Kv l hl] at this
 have hlen:(l.drop 4).length=124:=by simp;omega
 have HG:∀ W,Ext w W→_:=fun W hW=>JK _ l 0 (by omega) (by omega) W ((h.below hW).more hW.size)
 rw[qaD l hl,numE0 l hl] at HG
 have HO:∀ W,Ext w W→_:=fun W hW=>qcq _ _ W ((hs.below hW).more hW.size) (by omega)
 have hrd:∀ W,Ext w W→Rd W W.heap.size 1 (some ⟨b,off+4,none⟩) 124 ((l.drop 4).map bv):=fun W hW=>by
  obtain⟨A,c',e,_,_,hr⟩:=hs
  simp only[Value.slice.injEq] at e
  obtain⟨rfl,e2,rfl⟩:=e
  rw[hlen] at hr
  exact(hr.below hW).more hW.size
 obtain⟨i0,hi,hz0,hz1,hz2⟩:=info_parts Tryz.info_u8
 have hx:(zX (l.take 4):Int)<4294967296:=by have:=jf l 0 4 (by omega);rw[qaD l hl] at this;exact this.2
 have hy:=crc_lt (l.drop 4)
 have hsum:Ks l=decide (zX (l.take 4)=crc (l.drop 4)):=rfl
 clear h hs
 unfold maxLen at hm
 generalize zX (l.take 4)=x at *
 generalize crc (l.drop 4)=y at *
 have HG:=zH HG
 have HO:=zH HO
 have HC:=zH hrd
 clear hrd
 rw[hsum]
 by_cases hxy:x=y
 ·subst hxy
  simp only[decide_true,if_true]
  go_enter Tryz.func122,Tryz.ntmps122
  go_wp2_with fail
  refine(HG.out _ (Ext.refl _)).mono ?_
  rintro e w1 ⟨rfl,hB1⟩
  have hB1:Ext w w1:=hB1
  go_wp2_with fail
  refine(HO.out _ hB1).mono ?_
  rintro e w2 ⟨rfl,hB2⟩
  have hB2:Ext w w2:=Ext.trans hB1 hB2
  go_wp2_with (at_builtin;refine qI ?_)
  refine Qc.go (qM _ rfl (.const (.slice none 0 0)) (.tmp 20) 26 rfl w2.heap.size 5 i0 (.int .u8 0) 1 1 Tryz.underlying26 hi hz0 hz1 hz2 rfl (by decide) _ 0 [] rfl (World.ownsRow_nil _ _ _ _) w2.heap.size _ 124 (c-4) ((l.drop 4).map bv) rfl (HC.out _ hB2) (zT _) (by omega) (by decide) (Nat.le_refl _) ?_)
  intro u w3 hown _ hB3 _
  have hB3:Ext w w3:=Ext.trans hB2 hB3
  simp only[Nat.zero_add,List.nil_append] at hown
  go_wp2
  refine bodyPost_ret (v:=.tuple #[u,.int .i64 0]) (by simp[results,Tryz.results122,go_sem]) rfl ⟨_,rfl,?_,hB3⟩
  obtain⟨A',c',h1,h2,h3⟩:=IsB.of_own hown
  exact⟨u,rfl,A',c',h1,h2,h3.mono hB2.size⟩
 ·have hn1:((x:Int) != y)=true:=by rw[bne_iff_ne];omega
  rw[decide_eq_false hxy]
  simp only[Bool.false_eq_true,if_false]
  go_enter Tryz.func122,Tryz.ntmps122
  go_wp2_with fail
  refine(HG.out _ (Ext.refl _)).mono ?_
  rintro e w1 ⟨rfl,hB1⟩
  have hB1:Ext w w1:=hB1
  go_wp2_with fail
  refine(HO.out _ hB1).mono ?_
  rintro e w2 ⟨rfl,hB2⟩
  have hB2:Ext w w2:=Ext.trans hB1 hB2
  go_wp2
  exact bodyPost_ret (v:=.tuple #[.slice none 0 0,.int .i64 8]) (by simp[results,Tryz.results122,go_sem]) rfl ⟨_,rfl,rfl,hB2⟩
abbrev ZM (k i o r:Int) (A:Option Addr) (n c:Nat):Value:=.agg #[.int .u8 k,.int .u32 i,.int .u32 o,.int .i64 r,.slice A n c]
def kl (b:Bool):Int:=if b then 0 else 8
theorem jw {b:Bool} (h:b=true):kl b=0:=by rw[h];rfl
theorem ju {b:Bool} (h:b=false):kl b=8:=by rw[h];rfl
def itB (r:Int) (n:Nat):Bool:=decide ((r=0∨(8≤r∧r<256))∧n≤12)
set_option maxHeartbeats 1000000 in
theorem Vg (k i o r:Int) (A:Option Addr) (n c:Nat) (w:World) :
  Calls Tryz.prog 140 #[ZM k i o r A n c] w (Ret (.int .i64 (kl (itB r n))) w):=by
 go_enter Tryz.func140,Tryz.ntmps140
 go_wp2
 all_goals go_ret
 all_goals refine⟨?_,(by repeat' (first|with_reducible exact Below.refl _ _|with_reducible assumption|with_reducible apply Below.drew|with_reducible apply qp|with_reducible refine Below.alloc ?_ ?_ _|with_reducible refine Below.setCell ?_ ?_ _|(simp;done)|(simp;omega)|omega))⟩
 all_goals simp only[bne_iff_ne,ne_eq,bne_eq_false_iff_eq] at *
 all_goals first|exact jU (jw (by simp[itB];omega)).symm|exact jU (ju (by simp[itB];omega)).symm
set_option maxHeartbeats 1000000 in
theorem Yf (k i o r:Int) (A:Option Addr) (n c:Nat) (w:World) :
  Calls Tryz.prog 147 #[ZM k i o r A n c] w (Ret (.bool (itB r n)) w):=by
 go_enter Tryz.func147,Tryz.ntmps147
 go_wp2
 all_goals go_ret
 all_goals refine⟨Zm ?_,(by repeat' (first|with_reducible exact Below.refl _ _|with_reducible assumption|with_reducible apply Below.drew|with_reducible apply qp|with_reducible refine Below.alloc ?_ ?_ _|with_reducible refine Below.setCell ?_ ?_ _|(simp;done)|(simp;omega)|omega))⟩
 all_goals try simp only[beq_iff_eq,beq_eq_false_iff_ne,ne_eq] at *
 all_goals rw[Bool.eq_iff_iff]
 all_goals simp[itB]
 all_goals omega
def Nz (W:World) (v:Value):Prop:=∀ a n c,v=.slice (some a) n c→0<n→∃ cs ty,W.heap[a.block]?=some (.cells cs ty (0,0))
theorem Nz.ext {W W':World} {v:Value} (h:Nz W v) (hx:Ext W W'):Nz W' v:=fun a n c e hn=>by
 obtain⟨cs,ty,hr⟩:=h a n c e hn
 exact⟨cs,ty,(Below.block hx _ (zG.1 hr).1).trans hr⟩
theorem Nz.of_own {w:World} {base n size:Nat} {e:TypeId} {v:Value} {xs:List Value} (h:w.ownsRow base e size v n xs):Nz w v:=fun a m c hv hm=>by
 rcases h.2 with ⟨rfl,_⟩|⟨g,cap,cur,rfl,_,hg,_⟩
 ·cases hv
 ·cases hv
  exact⟨_,_,hg⟩
theorem Nz.setCell {W:World} {v:Value} (h:Nz W v) (p:Addr) (u:Value):Nz (W.setCell p u) v:=fun a n c e hn=>by
 obtain⟨cs,ty,hr⟩:=h a n c e hn
 by_cases hp:a.block=p.block
 ·obtain⟨hlt,hr'⟩:=zG.1 hr
  refine⟨if p.spot.isSome then cs else cs.setIfInBounds p.off u,ty,?_⟩
  unfold World.setCell
  simp only
  rw[Array.getElem?_modify,if_pos hp.symm,hr]
  rfl
 ·exact⟨cs,ty,(Below.heap_setCell _ _ _ _ hp).trans hr⟩
theorem Nz.put {W:World} {v:Value} (h:Nz W v) {l:Nat} {o o':Obj} (hl:W.heap[l]?=some o) (ho:∀ cs ty,o≠.cells cs ty (0,0)):Nz (W.putObj l o') v:=fun a n c e hn=>by
 obtain⟨cs,ty,hr⟩:=h a n c e hn
 refine⟨cs,ty,(World.putObj_heap_other (fun x=>?_)).trans hr⟩
 rw[x,hl] at hr
 exact ho cs ty (Option.some.inj hr)
def IsI (lo:Nat) (k i o r:Int) (l:List UInt8) (v:Value) (W:World):Prop:=∃ A c,v=ZM k i o r A l.length c∧Bys W W.heap.size (.slice A l.length c) l∧QD lo (.slice A l.length c)
def IsIz (lo:Nat) (k i o r:Int) (l:List UInt8) (v:Value) (W:World):Prop:=∃ A c,v=ZM k i o r A l.length c∧(Bys W W.heap.size (.slice A l.length c) l∧QD lo (.slice A l.length c))∧Nz W (.slice A l.length c)
set_option maxHeartbeats 1000000 in
theorem qcd (k i o r:Int) (A:Option Addr) (n c:Nat) (l:List UInt8) (hl:l.length<1073741824) (w:World) (h:Bys w w.heap.size (.slice A n c) l) :
  Calls Tryz.prog 141 #[ZM k i o r A n c] w (zE (IsIz w.heap.size k i o r l) w):=by
 have HC:∀ W,Ext w W→_:=fun W hW=>Zh _ l hl W ((h.below hW).more hW.size)
 replace HC:=zH HC
 clear h
 go_enter Tryz.func141,Tryz.ntmps141
 go_wp2_with fail
 generalize hw1:(World.alloc (World.alloc _ _) _)=w1
 have b1:Ext w w1:=by rw[←hw1];exact(Ext.alloc _ _).trans (Ext.alloc _ _)
 have hz:w1.heap.size=w.heap.size+2:=by rw[←hw1];simp
 have r0:w1.heap[w.heap.size]?=some (.cells #[.int .u8 k,.int .u32 i,.int .u32 o,.int .i64 r,.slice A n c] 38 (0,0)):=by rw[←hw1];exact(Below.heap_alloc _ _ _ (by simp)).trans (World.alloc_heap_at _ _ _ rfl)
 have r1:w1.heap[w.heap.size+1]?=some (.cells #[.int .u8 0,.int .u32 0,.int .u32 0,.int .i64 0,.slice none 0 0] 38 (0,0)):=by rw[←hw1];exact(World.alloc_heap_at _ _ _ (by simp))
 clear hw1
 refine(HC.out _ b1).mono ?_
 rintro e w2 ⟨u,rfl,hown,hB⟩
 have hnz:=Nz.of_own hown
 obtain⟨A',c',e1,hby,hfr⟩:=IsB.of_own hown
 subst e1
 have hzz:=hB.size
 have e0:=(hB.block _ (by omega)).trans r0
 have e1:=(hB.block _ (by omega)).trans r1
 have hb:Below w.heap.size w w2:=Below.trans b1 (Below.mono hB (by omega))
 replace hnz:=zH hnz
 clear r0 r1 hown HC
 have k0:=qa e0
 have f0:=qd e0
 have k1:=qa e1
 have f1:=qd e1
 go_wp2
 refine bodyPost_ret (v:=ZM k i o r A' l.length c') (by simp[results,Tryz.results141,go_sem,k0,k1]) rfl ⟨_,rfl,⟨A',c',rfl,⟨?_,hfr.mono (by omega)⟩,(((((hnz.out.setCell _ _).setCell _ _).setCell _ _).setCell _ _).setCell _ _).setCell _ _⟩,?_⟩
 ·simp only[World.size_setCell]
  rw[hz] at hfr
  exact(((((hby.setCell hfr (by simp) _).setCell hfr (by simp) _).setCell hfr (by simp) _).setCell hfr (by simp) _).setCell hfr (by simp) _).setCell hfr (by simp) _
 ·exact(by repeat' (first|with_reducible exact Below.refl _ _|with_reducible assumption|with_reducible apply Below.drew|with_reducible apply qp|with_reducible refine Below.alloc ?_ ?_ _|with_reducible refine Below.setCell ?_ ?_ _|(simp;done)|(simp;omega)|omega))
def VG (k i o r k' i' o' r':Int) (l l':List UInt8):Bool:=decide (k=k'∧i=i'∧o=o'∧r=r'∧l=l')
set_option maxHeartbeats 1000000 in
theorem qes (k i o r k' i' o' r':Int) (A A':Option Addr) (n c n' c':Nat) (l l':List UInt8) (w:World) (h:Bys w w.heap.size (.slice A n c) l) (h':Bys w w.heap.size (.slice A' n' c') l') :
  Calls Tryz.prog 11 #[ZM k i o r A n c,ZM k' i' o' r' A' n' c'] w (Ret (.bool (VG k i o r k' i' o' r' l l')) w):=by
 have hx:∀ o1 o2,Ext w ((w.alloc o1).alloc o2):=fun o1 o2=>(Ext.alloc _ _).trans (Ext.alloc _ _)
 have hv:∀ o1 o2,(convert 26 9 (.slice A n c)).run Tryz.prog ((w.alloc o1).alloc o2)=.ok (.string (jm l)) ((w.alloc o1).alloc o2):=fun o1 o2=>qU (h.below (hx o1 o2)) _ _ _ Tryz.underlying26 Tryz.underlying5 Tryz.underlying9
 have hv':∀ o1 o2,(convert 26 9 (.slice A' n' c')).run Tryz.prog ((w.alloc o1).alloc o2)=.ok (.string (jm l')) ((w.alloc o1).alloc o2):=fun o1 o2=>qU (h'.below (hx o1 o2)) _ _ _ Tryz.underlying26 Tryz.underlying5 Tryz.underlying9
 clear h h' hx
 go_enter Tryz.func11,Tryz.ntmps11
 go_wp2
 all_goals go_ret
 all_goals refine⟨Zm ?_,(by repeat' (first|with_reducible exact Below.refl _ _|with_reducible assumption|with_reducible apply Below.drew|with_reducible apply qp|with_reducible refine Below.alloc ?_ ?_ _|with_reducible refine Below.setCell ?_ ?_ _|(simp;done)|(simp;omega)|omega))⟩
 all_goals rw[Bool.eq_iff_iff]
 all_goals simp[VG,ji, *]
set_option maxHeartbeats 1000000 in
theorem qeO (k i o r k' i' o' r':Int) (A A':Option Addr) (n c n' c':Nat) (l l':List UInt8) (w:World) (h:Bys w w.heap.size (.slice A n c) l) (h':Bys w w.heap.size (.slice A' n' c') l') :
  Calls Tryz.prog 137 #[ZM k i o r A n c,ZM k' i' o' r' A' n' c'] w (Ret (.bool (VG k i o r k' i' o' r' l l')) w):=by
 have HE:∀ W,Ext w W→_:=fun W hW=>qcQ _ _ _ _ W ((h.below hW).more hW.size) ((h'.below hW).more hW.size)
 replace HE:=zH HE
 have hx:∀ o1 o2,Ext w ((w.alloc o1).alloc o2):=fun o1 o2=>(Ext.alloc _ _).trans (Ext.alloc _ _)
 clear h h'
 go_enter Tryz.func137,Tryz.ntmps137
 go_wp2_with fail
 ·refine(HE.out _ (hx _ _)).mono ?_
  rintro e w2 ⟨rfl,hB⟩
  have hb:Below w.heap.size w w2:=Ext.trans (hx _ _) hB
  go_wp2
  go_ret
  refine⟨Zm ?_,hb⟩
  rw[Bool.eq_iff_iff]
  simp[VG, *]
 all_goals go_ret
 all_goals refine⟨Zm ?_,(by repeat' (first|with_reducible exact Below.refl _ _|with_reducible assumption|with_reducible apply Below.drew|with_reducible apply qp|with_reducible refine Below.alloc ?_ ?_ _|with_reducible refine Below.setCell ?_ ?_ _|(simp;done)|(simp;omega)|omega))⟩
 all_goals rw[Bool.eq_iff_iff]
 all_goals simp[VG, *]
structure It where
 k:Int
 i:Int
 o:Int
 r:Int
 val:List UInt8
deriving DecidableEq
def Zt (l:List UInt8):Nat:=12+(l[11]?.getD 0).toNat
def YU (l:List UInt8):It:=⟨((l[0]?.getD 0).toNat:Int),Qx l 1 4,Qx l 5 4,Qx l 9 2,(l.drop 12).take (Zt l-12)⟩
def QA (l:List UInt8):Option (It×Nat):=
 if l.length<12∨l.length<Zt l then none else if itB (YU l).r (Zt l-12) then some (YU l,Zt l) else none
abbrev XZ:Value:=.tuple #[ZM 0 0 0 0 none 0 0,.int .i64 0,.int .i64 8]
def ReadP (lo:Nat) (q:Option (It×Nat)) (u:Value) (W:World):Prop:=
 match q with
 |none=>u=XZ
 |some (x,n)=>∃ i,u=.tuple #[i,.int .i64 (n:Int),.int .i64 0]∧IsI lo x.k x.i x.o x.r x.val i W
def ReadPz (lo:Nat) (q:Option (It×Nat)) (u:Value) (W:World):Prop:=
 match q with
 |none=>u=XZ
 |some (x,n)=>∃ i,u=.tuple #[i,.int .i64 (n:Int),.int .i64 0]∧IsIz lo x.k x.i x.o x.r x.val i W
theorem qh {w:World} {b:Nat} {cs:Array Value} {t:TypeId} (h:w.heap[b]?=some (.cells cs t (0,0))) (i:Nat) (v:Value):(w.setCell ⟨b,i,none⟩ v).heap[b]?=some (.cells (cs.setIfInBounds i v) t (0,0)):=by
 rw[setCell_eq_setRow _ _ _ _ _ _ _ h,setRow_heap _ _ _ _ _ _ h]
theorem qc {w w':World} {b:Nat} {o:Obj} (h:w.heap[b]?=some o) (hx:Ext w w'):w'.heap[b]?=some o:=(Below.block hx _ (zG.1 h).1).trans h
theorem Bys.sub3 {w:World} {B a k:Nat} {b off m c:Nat} {l:List UInt8} (h:Bys w B (.slice (some ⟨b,off,none⟩) m c) l) (hk:a+k≤l.length) :
  Bys w B (.slice (some ⟨b,off+a,none⟩) k k) ((l.drop a).take k):=by
 obtain⟨A,c',e,hc,hm,hr⟩:=h.sub hk
 have hl:((l.drop a).take k).length=k:=by simp;omega
 simp only[Value.slice.injEq] at e
 obtain⟨rfl,e2,rfl⟩:=e
 rw[hl] at hr hc
 refine⟨_,k,by rw[hl],by omega,by omega,by rw[hl];exact hr⟩
set_option maxHeartbeats 2000000 in
theorem qcH (v:Value) (l:List UInt8) (hl:l.length<1000) (w:World) (h:Bys w w.heap.size v l) :
  Calls Tryz.prog 116 #[v] w (zE (ReadPz w.heap.size (QA l)) w):=by
 obtain⟨A,m,c,rfl⟩:∃ A m c,v=.slice A m c:=by obtain⟨A,c,e,_⟩:=h;exact⟨_,_,_,e⟩
 obtain⟨e1,hc,hm,hA⟩:=h.at_
 by_cases h12:l.length<12
 ·have hq:QA l=none:=by unfold QA;rw[if_pos (.inl h12)]
  rw[hq]
  clear h
  subst e1
  go_enter Tryz.func116,Tryz.ntmps116
  go_wp2
  refine bodyPost_ret (v:=XZ) (by simp[results,Tryz.results116,go_sem]) rfl ⟨_,rfl,rfl,(by repeat' (first|with_reducible exact Below.refl _ _|with_reducible assumption|with_reducible apply Below.drew|with_reducible apply qp|with_reducible refine Below.alloc ?_ ?_ _|with_reducible refine Below.setCell ?_ ?_ _|(simp;done)|(simp;omega)|omega))⟩
 ·obtain⟨b,off,rfl,hb⟩:=hA (by omega)
  have hcell:∀ j u,(l.map bv)[j]?=some u→w.cell? ⟨b,off+j,none⟩=some u:=by
   obtain⟨A,c',e,_,_,hr⟩:=h
   cases e
   obtain⟨b',off',e,_,hcell⟩:=hr.2 (by omega)
   cases e
   exact hcell
  have c0:w.cell? ⟨b,off,none⟩=some (.int .u8 ((l[0]?.getD 0).toNat:Int)):=hcell 0 _ (by rw[List.getElem?_map,List.getElem?_eq_getElem (by omega)];rfl)
  have c11:w.cell? ⟨b,off+11,none⟩=some (.int .u8 ((l[11]?.getD 0).toNat:Int)):=hcell 11 _ (by rw[List.getElem?_map,List.getElem?_eq_getElem (by omega)];rfl)
  have hs:Zt l=12+(l[11]?.getD 0).toNat:=rfl
  have u0:=(l[0]?.getD 0).toNat_lt
  have u11:=(l[11]?.getD 0).toNat_lt
  clear hcell hA
  have hbw:b≠w.heap.size:=by omega
  by_cases hsz:l.length<Zt l
  ·have hq:QA l=none:=by unfold QA;rw[if_pos (.inr hsz)]
   rw[hq]
   clear h
   subst e1
   generalize (l[11]?.getD 0).toNat=q at *
   go_enter Tryz.func116,Tryz.ntmps116
   go_wp2
   refine bodyPost_ret (v:=XZ) (by simp[results,Tryz.results116,go_sem]) rfl ⟨_,rfl,rfl,(by repeat' (first|with_reducible exact Below.refl _ _|with_reducible assumption|with_reducible apply Below.drew|with_reducible apply qp|with_reducible refine Below.alloc ?_ ?_ _|with_reducible refine Below.setCell ?_ ?_ _|(simp;done)|(simp;omega)|omega))⟩
  ·have h48:Bys w w.heap.size (.slice (some ⟨b,off+12,none⟩) (Zt l-12) (Zt l-12)) ((l.drop 12).take (Zt l-12)):=h.sub3 (by omega)
   have hlv:((l.drop 12).take (Zt l-12)).length=Zt l-12:=by simp;omega
   have H1:∀ W,Ext w W→_:=fun W hW=>vq _ l 1 (by omega) W ((h.below hW).more hW.size)
   have H5:∀ W,Ext w W→_:=fun W hW=>vq _ l 5 (by omega) W ((h.below hW).more hW.size)
   have H9:∀ W,Ext w W→_:=fun W hW=>TH _ l 9 (by omega) W ((h.below hW).more hW.size)
   have hq:QA l=if itB (YU l).r (Zt l-12) then some (YU l,Zt l) else none:=by unfold QA;rw[if_neg (by omega)]
   have hi:YU l=⟨((l[0]?.getD 0).toNat:Int),Qx l 1 4,Qx l 5 4,Qx l 9 2,(l.drop 12).take (Zt l-12)⟩:=rfl
   rw[hi] at hq
   generalize QA l=R at *
   generalize Qx l 1 4=n1 at *
   generalize Qx l 5 4=n5 at *
   generalize Qx l 9 2=n9 at *
   generalize hval:(l.drop 12).take (Zt l-12)=val at *
   have h48':∀ O,(O=off+12∨Zt l-12=0)→Bys w w.heap.size (.slice (some ⟨b,O,none⟩) (Zt l-12) (Zt l-12)) val:=by
    rintro O (rfl|h0)
    ·exact h48
    ·rw[h0] at hlv ⊢
     obtain rfl:val=[]:=List.eq_nil_of_length_eq_zero hlv
     exact⟨_,_,rfl,Nat.le_refl _,by simp[maxLen],rfl,fun h=>absurd h (by simp)⟩
   have HT:∀ O,(O=off+12∨Zt l-12=0)→∀ W,Ext w W→_:=fun O hO W hW=>qcd ((l[0]?.getD 0).toNat:Int) n1 n5 n9 _ _ _ val (by omega) W (((h48' O hO).below hW).more hW.size)
   clear h h48 h48' hval hi
   subst e1
   rw[hs] at *
   clear hs
   generalize (l[11]?.getD 0).toNat=q at *
   generalize (l[0]?.getD 0).toNat=k at *
   have e12:12+q-12=q:=by omega
   rw[e12] at hq HT hlv
   replace hq:=zH hq
   replace H1:=zH H1
   replace H5:=zH H5
   replace H9:=zH H9
   replace HT:=zH HT
   unfold maxLen at hm
   go_enter Tryz.func116,Tryz.ntmps116
   go_wp2_with fail
   generalize hw1:(World.alloc _ _)=w1
   have b1:Ext w w1:=by rw[←hw1];exact Ext.alloc _ _
   have r1:w1.heap[w.heap.size]?=some (.cells #[.int .u8 k,.int .u32 0,.int .u32 0,.int .i64 0,.slice none 0 0] 38 (0,0)):=by rw[←hw1];exact World.alloc_heap_at _ _ _ rfl
   clear hw1
   refine(H1.out _ b1).mono ?_
   rintro e w2 ⟨rfl,hB⟩
   have b1':Ext w w2:=Ext.trans b1 hB
   have r1':=qc r1 hB
   have k1:=qa r1'
   have f1:=qd r1'
   clear hB r1
   go_wp2_with fail
   generalize hw:(World.setCell _ _ _)=w3
   have b2:Ext w w3:=by rw[←hw];exact b1'.setCell (p:=⟨w.heap.size,1,none⟩) (Nat.le_refl _) _
   have r2:w3.heap[w.heap.size]?=some (.cells #[.int .u8 k,.int .u32 n1,.int .u32 0,.int .i64 0,.slice none 0 0] 38 (0,0)):=by rw[←hw];exact qh r1' 1 _
   clear hw k1 f1 r1' b1'
   refine(H5.out _ b2).mono ?_
   rintro e w4 ⟨rfl,hB⟩
   have b2':Ext w w4:=Ext.trans b2 hB
   have r2':=qc r2 hB
   have k2:=qa r2'
   have f2:=qd r2'
   clear hB r2
   go_wp2_with fail
   generalize hw:(World.setCell _ _ _)=w5
   have b3:Ext w w5:=by rw[←hw];exact b2'.setCell (p:=⟨w.heap.size,2,none⟩) (Nat.le_refl _) _
   have r3:w5.heap[w.heap.size]?=some (.cells #[.int .u8 k,.int .u32 n1,.int .u32 n5,.int .i64 0,.slice none 0 0] 38 (0,0)):=by rw[←hw];exact qh r2' 2 _
   clear hw k2 f2 r2' b2'
   refine(H9.out _ b3).mono ?_
   rintro e w6 ⟨rfl,hB⟩
   have b4:Ext w w6:=Ext.trans b3 hB
   have r4:=qc r3 hB
   have k4:=qa r4
   have f4:=qd r4
   clear hB r3
   rcases Nat.eq_zero_or_pos q with hq0|hq0
   ·subst hq0
    go_wp2_with fail
    generalize hw:(World.setCell (World.setCell _ _ _) _ _)=w7
    have b5:Ext w w7:=by rw[←hw];exact Below.setCell (Below.setCell b4 (p:=⟨w.heap.size,3,none⟩) (Nat.le_refl _) _) (p:=⟨w.heap.size,4,none⟩) (Nat.le_refl _) _
    have r5:w7.heap[w.heap.size]?=some (.cells #[.int .u8 k,.int .u32 n1,.int .u32 n5,.int .i64 n9,.slice (some ⟨b,off,none⟩) 0 0] 38 (0,0)):=by rw[←hw];exact qh (qh r4 3 _) 4 _
    clear hw k4 f4 r4 b4
    refine(Vg k n1 n5 n9 _ 0 0 _).mono ?_
    rintro e w8 ⟨rfl,hB⟩
    have b6:Ext w w8:=Ext.trans b5 hB
    have r6:=qc r5 hB
    have k6:=qa r6
    have f6:=qd r6
    have hgt:w.heap.size<w8.heap.size:=(zG.1 r6).1
    clear hB r5 b5
    by_cases hok:itB n9 0=true
    ·have hR:R=some (⟨k,n1,n5,n9,val⟩,12+0):=by rw[hq.out,if_pos hok]
     rw[jw hok]
     clear hok hq
     subst hR
     go_wp2_with fail
     refine(HT.out (off) (by simp) _ b6).mono ?_
     rintro e w9 ⟨u,rfl,⟨A',c',rfl,⟨hby,hfr⟩,hnz⟩,hB⟩
     have b7:Ext w w9:=Ext.trans b6 hB
     have r7:=qc r6 hB
     have k7:=qa r7
     have f7:=qd r7
     clear k6 f6 r6
     rw[hlv] at hby hfr hnz ⊢
     replace hnz:=zH hnz
     go_wp2
     refine bodyPost_ret (v:=.tuple #[ZM k n1 n5 n9 A' 0 c',.int .i64 ((12+0:Nat):Int),.int .i64 0]) (by simp[results,Tryz.results116,go_sem,k7]) rfl ⟨_,rfl,⟨_,rfl,?_⟩,?_⟩
     ·refine⟨A',c',by rw[hlv],⟨?_,by rw[hlv];exact hfr.mono b6.size⟩,by rw[hlv];exact((((hnz.out.setCell _ _).setCell _ _).setCell _ _).setCell _ _).setCell _ _⟩
      rw[hlv]
      simp only[World.size_setCell]
      exact((((hby.setCell hfr (p:=⟨w.heap.size,0,none⟩) hgt _).setCell hfr (p:=⟨w.heap.size,1,none⟩) hgt _).setCell hfr (p:=⟨w.heap.size,2,none⟩) hgt _).setCell hfr (p:=⟨w.heap.size,3,none⟩) hgt _).setCell hfr (p:=⟨w.heap.size,4,none⟩) hgt _
     ·have b7':Below w.heap.size w w9:=b7
      exact(by repeat' (first|with_reducible exact Below.refl _ _|with_reducible assumption|with_reducible apply Below.drew|with_reducible apply qp|with_reducible refine Below.alloc ?_ ?_ _|with_reducible refine Below.setCell ?_ ?_ _|(simp;done)|(simp;omega)|omega))
    ·have hR:R=none:=by rw[hq.out,if_neg hok]
     rw[ju (by simpa using hok)]
     clear hok hq
     subst hR
     go_wp2
     refine bodyPost_ret (v:=XZ) (by simp[results,Tryz.results116,go_sem,k6]) rfl ⟨_,rfl,rfl,?_⟩
     have b6':Below w.heap.size w w8:=b6
     exact(by repeat' (first|with_reducible exact Below.refl _ _|with_reducible assumption|with_reducible apply Below.drew|with_reducible apply qp|with_reducible refine Below.alloc ?_ ?_ _|with_reducible refine Below.setCell ?_ ?_ _|(simp;done)|(simp;omega)|omega))
   ·skip
    go_wp2_with fail
    generalize hw:(World.setCell (World.setCell _ _ _) _ _)=w7
    have b5:Ext w w7:=by rw[←hw];exact Below.setCell (Below.setCell b4 (p:=⟨w.heap.size,3,none⟩) (Nat.le_refl _) _) (p:=⟨w.heap.size,4,none⟩) (Nat.le_refl _) _
    have r5:w7.heap[w.heap.size]?=some (.cells #[.int .u8 k,.int .u32 n1,.int .u32 n5,.int .i64 n9,.slice (some ⟨b,off+12,none⟩) q q] 38 (0,0)):=by rw[←hw];exact qh (qh r4 3 _) 4 _
    clear hw k4 f4 r4 b4
    refine(Vg k n1 n5 n9 _ q q _).mono ?_
    rintro e w8 ⟨rfl,hB⟩
    have b6:Ext w w8:=Ext.trans b5 hB
    have r6:=qc r5 hB
    have k6:=qa r6
    have f6:=qd r6
    have hgt:w.heap.size<w8.heap.size:=(zG.1 r6).1
    clear hB r5 b5
    by_cases hok:itB n9 q=true
    ·have hR:R=some (⟨k,n1,n5,n9,val⟩,12+q):=by rw[hq.out,if_pos hok]
     rw[jw hok]
     clear hok hq
     subst hR
     go_wp2_with fail
     refine(HT.out (off+12) (by simp) _ b6).mono ?_
     rintro e w9 ⟨u,rfl,⟨A',c',rfl,⟨hby,hfr⟩,hnz⟩,hB⟩
     have b7:Ext w w9:=Ext.trans b6 hB
     have r7:=qc r6 hB
     have k7:=qa r7
     have f7:=qd r7
     clear k6 f6 r6
     rw[hlv] at hby hfr hnz ⊢
     replace hnz:=zH hnz
     go_wp2
     refine bodyPost_ret (v:=.tuple #[ZM k n1 n5 n9 A' q c',.int .i64 ((12+q:Nat):Int),.int .i64 0]) (by simp[results,Tryz.results116,go_sem,k7]) rfl ⟨_,rfl,⟨_,rfl,?_⟩,?_⟩
     ·refine⟨A',c',by rw[hlv],⟨?_,by rw[hlv];exact hfr.mono b6.size⟩,by rw[hlv];exact((((hnz.out.setCell _ _).setCell _ _).setCell _ _).setCell _ _).setCell _ _⟩
      rw[hlv]
      simp only[World.size_setCell]
      exact((((hby.setCell hfr (p:=⟨w.heap.size,0,none⟩) hgt _).setCell hfr (p:=⟨w.heap.size,1,none⟩) hgt _).setCell hfr (p:=⟨w.heap.size,2,none⟩) hgt _).setCell hfr (p:=⟨w.heap.size,3,none⟩) hgt _).setCell hfr (p:=⟨w.heap.size,4,none⟩) hgt _
     ·have b7':Below w.heap.size w w9:=b7
      exact(by repeat' (first|with_reducible exact Below.refl _ _|with_reducible assumption|with_reducible apply Below.drew|with_reducible apply qp|with_reducible refine Below.alloc ?_ ?_ _|with_reducible refine Below.setCell ?_ ?_ _|(simp;done)|(simp;omega)|omega))
    ·have hR:R=none:=by rw[hq.out,if_neg hok]
     rw[ju (by simpa using hok)]
     clear hok hq
     subst hR
     go_wp2
     refine bodyPost_ret (v:=XZ) (by simp[results,Tryz.results116,go_sem,k6]) rfl ⟨_,rfl,rfl,?_⟩
     have b6':Below w.heap.size w w8:=b6
     exact(by repeat' (first|with_reducible exact Below.refl _ _|with_reducible assumption|with_reducible apply Below.drew|with_reducible apply qp|with_reducible refine Below.alloc ?_ ?_ _|with_reducible refine Below.setCell ?_ ?_ _|(simp;done)|(simp;omega)|omega))
theorem Km {P:Program} (w:World) (base:Nat) (t ty:TypeId) (e:TypeId) (i:TypeInfo) (z:Value) (size bytes:Nat) (ht:P.underlying t=some (.slice e)) (hi:P.info? e=some i) (hz:i.zero=some z)
  (hsize:i.size=size) (hby:i.bytes=bytes) (hzs:z.cells.size=size) (hsz:0<size)
  (v:Value) (n:Nat) (xs:List Value) (hown:w.ownsRow base e size v n xs)
  (B:Nat) (A:Option Addr) (m c:Nat) (news:List Value) (hr:Rd w B size A m news) (h1:∀ u∈news,u.oneCell'=true)
  (hn:n+m<1073741824) (hbytes:bytes≤65536) (hbase:base≤w.heap.size) :
  ∃ v' w',(Builtin.append_ #[t,t] ty #[v,.slice A m c]).run P w=.ok v' w'∧w'.ownsRow base e size v' (n+m) (xs++news)∧w.grownBy w' v.ownBlock∧Below base w w' ∧
   (v'.ownBlock=v.ownBlock∨v'.ownBlock=some w.heap.size):=by
 have hb:(n+m)*bytes≤140737488355328:=Nat.le_trans (Nat.mul_le_mul_left _ hbytes) (by omega)
 have hm:n+m≤maxLen:=by unfold maxLen;omega
 rcases A with _|ad
 ·have hm0:m=0:=by
   rcases Nat.eq_zero_or_pos m with h0|h0
   ·exact h0
   ·obtain⟨b,off,h,_⟩:=hr.2 h0
    cases h
  subst hm0
  have hn:news=[]:=List.eq_nil_of_length_eq_zero (by simpa using hr.1)
  subst hn
  refine⟨v,w,?_,by simpa using hown,World.grownBy.refl w _,Below.refl _ _,.inl rfl⟩
  rcases hown.2 with ⟨rfl,_⟩|⟨g,cap,cur,rfl,_,_,hnc,_⟩
  all_goals simp[Builtin.append_,run_underlying ht,sizeOf,typeInfo,hi,Builtin.lenOf,Builtin.firstCells,storeCells, *]
 ·have hcells:∀ j u,news[j]?=some u→w.cell? (ad.add j)=some u:=by
   intro j u hu
   rcases Nat.eq_zero_or_pos m with h0|h0
   ·subst h0
    have hn:news=[]:=List.eq_nil_of_length_eq_zero (by simpa using hr.1)
    subst hn
    simp at hu
   ·obtain⟨b,off,h,_⟩:=hr.2 h0
    injection h with h
    subst h
    exact hr.adds h0 j u hu
  obtain⟨v',w',hrun,h2,h3,_,h5⟩:=run_append_own_at (P:=P) w base t ty e i z size bytes ht hi hz hsize hby hzs hsz v n xs hown ad m c news hr.1 hcells h1 hm hb hbase
  exact⟨v',w',hrun,h2,h3,(Below.refl base w).grown h3 hbase (fun k hk=>(hown.lt k hk).1),h5⟩
theorem QQ {P:Program} {o:Oper} {a:Act} {W w':World} {s x:Operand} {t:TypeId} {v u r:Value} (ho:o.op=.call { callee:=.builtin .append,args:=#[s,x],argTypes:=#[t,t] })
  (hs:a.eval s=v) (hx:a.eval x=u) (hrun:(Builtin.append_ #[t,t] o.type #[v,u]).run P W=.ok r w'):(execOp a.eval o).run P W=.ok (.value r) w':=by
 unfold execOp
 simp only[ho,resolve,invoke,builtin,Sem.run_bind,Sem.run_pure,Result.andThen_ok,List.map_toArray,List.map_cons,List.map_nil,hs,hx,hrun]
end Go.Proofs.YtckhnchnbeoogaaGreat
