/- Lemmas of the proof. -/
import Derived.WalkSpells
import Derived.RangeFuncRecord
import Derived.Test.YtmeadnlmepcmbaaGreatZT01
set_option linter.all false
set_option maxHeartbeats 8000000
open Go.Proofs.Tryz
open Go renaming World→D,Value→X
open Go.Value renaming int→E,slice→J
open Bool renaming true→I,false→Z
open Option renaming some→U,none→Y
open Go.IntKind renaming u32→Jx,i64→Ob
open Go.World renaming setCell→Oa
open Go.Obj renaming cells→Oc
namespace Go.Proofs.YtmeadnlmepcmbaaGreat
open Go.RowKit
variable {B g k B' n c:Nat}{w0 w W W' w':World}{v:Value}{e:TypeId}{xs:List Value}{o':Obj}{cs:Array Value}{l:List UInt8}{P:Program}{o:Oper}{a:Act}{A:OA}{above:Bool}{ops:Array Oper}{H:Nat->Option Qb}{Q:Act->qN->Prop}{rest:List (Nat×Oper)}{F:qN}
theorem Below.setRow(hb:Below B w0 w)(hBg:B<=g)(cs:Array X):Below B w0 (w.setRow g cs):=
 hb.trans ⟨rfl,rfl,rfl,zA3,λk hk=>setRow_other _ _ _ _ zO⟩
set_option maxRecDepth 100000 in
theorem fold_any(w:D):Calls prog 206 #[] w (Ret (.agg (Ty 16)) w):=by
 have rU:(Tryz.prog.info? 277).map (·.size)=U (Ty 16).size:=by rw[Ke];kernel_rfl
 go_enter func206,ntmps206;go_wp2;generalize aA:(World.alloc _ _)=w1;have r0:w1.heap[w.heap.size]?=U (Oc (Ty 0) 277):=aA▸zI _ _ _ rfl;have bg:Below w w w1:=by rw[<-aA];exact(by repeat' (first|with_reducible exact Below.refl _ _|with_reducible assumption|with_reducible apply Below.drew|with_reducible apply qT|with_reducible refine Below.alloc ?_ ?_ _|with_reducible refine Below.setCell ?_ ?_ _|(simp;done)|(simp;omega)|omega))
 clear aA;go_loopw [1,2,3] (λx s i wr=>∃k:Nat,k<=16/\i=E Ob (k:Int)/\wr.heap[w.heap.size]?=U (Oc (Ty k) 277 (0,0))/\Below w.heap.size w wr)
  (λ_ _ i _=>16-(intOf i).toNat)
 case atStart=>exact⟨0,zO,rfl,r0,bg⟩
 case round=>
  obtain⟨k,hk,rfl,aC,hB⟩:=hrel;by_cases hlt:k<16
  ·go_wp2;go_loopw [2,8] (λs i W=>∃j:Nat,j<=4/\i=E Ob (j:Int)/\s=E Jx ((hvs j k:Nat):Int)/\W=wr)
    (λ_ i _=>4-(intOf i).toNat)
   case atStart=>exact⟨0,zO,rfl,rfl,rfl⟩
   case round=>
    obtain⟨j,hj,rfl,rfl,rfl⟩:=hrel;have hs:hvs j k<4294967296:=hvs_lt j zO;have HS:Hid (hvs (j+1) k=hv (hvs j k)):=rfl;have HT:Hid (XM k=hvs 4 k):=rfl;generalize hq:hvs j k=q at*;by_cases hj4:j<4
    ·have H1:=zH (and_1 q hs);have H2:=zH (hv_mul q hs);go_wp2;go_roundw
     case rel=>refine⟨j+1,zO,by go_num,?_,by first|rfl|trivial⟩;rw[HS.out,<-H2.out,H1.out];simp
     case measure=>simp[intOf];omega
    obtain rfl:j=4:=zO;have kx:wr.cell? (w,k)=U (E Jx 0):=by rw[qa aC,qbY _ _ hlt];simp
    have kf:=qe aC;have HR:=zH (rowT_set k hlt);go_wp2;go_roundw
    case rel=>refine⟨k+1,zO,by go_num,?_,?_⟩;rw[setCell_eq_setRow _ _ _ _ _ _ _ aC,setRow_heap _ _ _ _ _ _ aC,<-HR.out,HT.out,hq];exact hB.setCell (p:=⟨w.heap.size,k,Y⟩) (zM _) _
    case measure=>simp[intOf];omega
  obtain rfl:k=16:=zO;go_wp2_with (first
   |refine wpList_load_row rfl 277 (.tmp 0) rfl w.heap.size rfl _ (Ty 16) (0,0) _ aC underlying277 rfl rU ?_
   |refine wpList_store_row rfl 277 (.tmp 0) (.tmp 21) rfl w.heap.size (Ty 16) rfl rfl _ (Ty 16) aC rU rfl (by decide +kernel) ?_)
  exact bodyPost_ret (results_cell_row rfl _ _ w.heap.size _ (Ty 16) (0,0) _ zA0 (setRow_heap _ _ _ _ _ _ aC) underlying277 rfl rU) rfl ⟨rfl,Below.setRow hB (zM _) _⟩
theorem step32(s x:Nat)(hs:s<4294967296)(hx:x<256):s^^^x<4294967296:=VY hs zO
set_option maxRecDepth 100000 in
theorem qfq(v:X)(l:List UInt8)(w:D)(h:Bys w w v l)(hl:l.length<1099511627776):Calls prog 199 #[v] w (Ret (E Jx (crc l:Int)) w):=by
 obtain⟨A,c,rfl,hc,hm,hr⟩:=h;have rU:(Tryz.prog.info? 277).map (·.size)=U (Ty 16).size:=by rw[Ke];kernel_rfl
 have hF:∀W,_:=λW=>fold_any W;have HF:=zH hF;clear hF;go_enter func199,ntmps199;go_wp2_with fail;refine(HF.out _).mono ?_;rintro e w1 ⟨rfl,hB⟩;go_wp2_with (refine wpList_store_row rfl 277 (.tmp 3) (.tmp 7) rfl w1.heap.size (Ty 16) rfl rfl _ _ (zI _ _ _ rfl) rU (by rw[Ke];rfl) (by decide +kernel) ?_);generalize cO:(World.setRow _ _ _)=w2;have r2:w2.heap[w1.heap.size]?=U (Oc (Ty 16) 277):=cO▸setRow_heap _ _ _ _ _ _ (zI _ _ _ rfl);have bP:Below w w w2:=cO▸Below.setRow (Below.trans hB ((Below.refl _ _).alloc hB.size _)) hB.size _;clear cO;have hT:∀i,i<16->w2.cell? ⟨w1,i,Y⟩=U (E Jx (XM i:Int)):=λi hi=>by rw[qa r2,qbY _ _ hi,if_pos hi]
 clear r2 rU;go_loopw [4,10] (λs i W=>∃k:Nat,k<=l.length/\i=E Ob (k:Int)/\s=E Jx (qbM (l.take k):Int)/\W=w2)
  (λ_ i _=>l.length-(intOf i).toNat)
 case atStart=>exact⟨0,zO,rfl,by simp[qbM],rfl⟩
 case round=>
  obtain⟨k,hk,rfl,rfl,rfl⟩:=hrel;by_cases hlt:k<l.length
  ·have HN:Hid (qbM (l.take (k+1))=YY (qbM (l.take k)) l[k]):=by rw[List.take_succ_eq_append_getElem hlt,qlH];exact rfl
   obtain⟨b,off,rfl,hb,aF⟩:=hr.2 zO;have oH:wr.cell? (b,off+k)=U (bv l[k]):=(bP.cell hb).trans (aF k _ (by rw[List.getElem?_map,zL hlt];rfl));have hs:=qkL (l.take k);generalize qbM (l.take k)=s at*;have hx:=l[k].toNat_lt;generalize l[k]=x at*;obtain⟨n,hn⟩:∃n,n=l.length:=⟨_,rfl⟩
   have H1:=zH (Ug s x.toNat hs zO);have h1:s^^^x.toNat<4294967296:=step32 s x.toNat hs zO;have e1:YY s x=(((s^^^x.toNat)/16^^^XM ((s^^^x.toNat)%16))/16)^^^XM (((s^^^x.toNat)/16^^^XM ((s^^^x.toNat)%16))%16):=rfl;generalize s^^^x.toNat=s1 at*;have H2:=zH (and_15 s1 h1);have hi1:s1%16<16:=zO;have c1:=hT _ hi1;have t1:=qbZ hi1;have H3:=zH (Ug (s1/16) (XM (s1%16)) zO t1);have h2:s1/16^^^XM (s1%16)<4294967296:=VY zO t1;generalize XM (s1%16)=T1 at*;generalize s1/16^^^T1=s2 at*;generalize s1%16=i1 at*;have H4:=zH (and_15 s2 h2);have dK:s2%16<16:=zO;have c2:=hT _ dK;have t2:=qbZ dK;clear hT;have H5:=zH (Ug (s2/16) (XM (s2%16)) zO t2);have h3:s2/16^^^XM (s2%16)<4294967296:=VY zO t2;generalize XM (s2%16)=T2 at*;generalize s2/16^^^T2=s3 at*;generalize s2%16=i2 at*;have q3:((s1/16:Nat):Int)=(s1:Int)/16:=rfl;have q5:((s2/16:Nat):Int)=(s2:Int)/16:=rfl;rw[q3]at H3;rw[q5]at H5;clear q3 q5;have E1:=zH e1;clear e1;go_wp2_with (first|rw[H1.out]|rw[H2.out]|rw[H3.out]|rw[H4.out]|rw[H5.out]);go_roundw
   case rel=>exact⟨k+1,zO,by go_num,by rw[HN.out,E1.out],by first|rfl|trivial⟩
   case measure=>simp[intOf];omega
  obtain rfl:k=l.length:=zO;have hs:=qkL (l.take l.length);rw[List.take_length]at hs⊢;have HS:Hid (bits .xor Jx IntKind.u32.max (qbM l:Int)=(crc l:Int)):=by have h1:=Ug 4294967295 (qbM l) zO hs;rw[Nat.xor_comm,xor_all _ hs]at h1;exact h1
  clear hT;go_wp2;all_goals try (exfalso;revert h;decide)
  go_ret;exact⟨TT HS.out,bP⟩
set_option maxRecDepth 100000 in
theorem qdn(v:X)(l:List UInt8)(hl:l.length<1073741824)(w:D)(h:Bys w w v l):Calls prog 171 #[v] w (zZ (λu w'=>w'.ownsRow w 5 1 u l.length (l.map bv)) w):=by
 obtain⟨i0,hi,aZ,aT,aX⟩:=info_parts Tryz.info_u8;obtain⟨A,c,rfl,hc,hm,hr⟩:=h;have qn:∀(w:D)(a:OA)(n c n' c':Nat),(binOp .eql 26 (J a n c) (J Y n' c')).run prog w=.ok (.bool a.isNone) w:=λw a n c n' c'=>Lib.run_eql_slice_nil w _ _ a n c n' c' underlying26;rcases A with _|⟨b,off,p⟩
 ·have h0:l=[]:=by
   rcases l with _|⟨x,r⟩
   rfl;obtain⟨b,off,h,_⟩:=hr.2 zA3;cases h
  subst h0;go_enter func171,ntmps171;go_wp2;go_ret;exact⟨_,rfl,World.ownsRow_nil _ _ _ _,Below.refl _ _⟩
 go_enter func171,ntmps171;go_wp2_with (at_builtin;refine qV ?_);refine Qm.go (QB _ rfl (.tmp 5) (.tmp 6) 26 rfl w.heap.size 5 i0 (E .u8 0) 1 1 underlying26 hi aZ aT aX rfl zA1 _ 0 [] rfl ?_ w.heap.size _ l.length c (l.map bv) rfl ?_ (Gi l) zO zA1 ?_ ?_);exact World.ownsRow_lit w #[] 0 (zM _) (by simp[maxLen]) rfl;exact hr.keep λp hp=>World.cell?_alloc_lt w _ p hp;simp;intro v' w' aB _ hb _;simp only[Nat.zero_add,List.nil_append]at aB;go_wp2;go_ret;exact⟨_,rfl,aB,Below.trans ((Below.refl _ _).alloc (zM _) _) hb⟩
set_option maxRecDepth 100000 in
theorem Kj(v:X)(l:List UInt8)(hl:l.length<1073741824)(w:D)(h:Bys w w v l):Calls prog 149 #[v] w (zZ (λu w'=>w'.ownsRow w 5 1 u l.length (l.map bv)) w):=by
 obtain⟨i0,hi,aZ,aT,aX⟩:=info_parts Tryz.info_u8;obtain⟨A,c,rfl,hc,hm,hr⟩:=h;have qn:∀(w:D)(a:OA)(n c n' c':Nat),(binOp .eql 26 (J a n c) (J Y n' c')).run prog w=.ok (.bool a.isNone) w:=λw a n c n' c'=>Lib.run_eql_slice_nil w _ _ a n c n' c' underlying26;rcases A with _|⟨b,off,p⟩
 ·have h0:l=[]:=by
   rcases l with _|⟨x,r⟩
   rfl;obtain⟨b,off,h,_⟩:=hr.2 zA3;cases h
  subst h0;go_enter func149,ntmps149;go_wp2;go_ret;exact⟨_,rfl,World.ownsRow_nil _ _ _ _,Below.refl _ _⟩
 go_enter func149,ntmps149;go_wp2_with (at_builtin;refine qV ?_);refine Qm.go (QB _ rfl (.tmp 5) (.tmp 6) 26 rfl w.heap.size 5 i0 (E .u8 0) 1 1 underlying26 hi aZ aT aX rfl zA1 _ 0 [] rfl ?_ w.heap.size _ l.length c (l.map bv) rfl ?_ (Gi l) zO zA1 ?_ ?_);exact World.ownsRow_lit w #[] 0 (zM _) (by simp[maxLen]) rfl;exact hr.keep λp hp=>World.cell?_alloc_lt w _ p hp;simp;intro v' w' aB _ hb _;simp only[Nat.zero_add,List.nil_append]at aB;go_wp2;go_ret;exact⟨_,rfl,aB,Below.trans ((Below.refl _ _).alloc (zM _) _) hb⟩
theorem qja(v v':X)(l l':List UInt8)(w:D)(h:Bys w w v l)(h':Bys w w v' l'):Calls prog 94 #[v,v'] w (Ret (.bool (decide (l=l'))) w):=by have hv:(convert 26 9 v).run prog w=.ok (.string (bstr l)) w:=XI h _ _ _ underlying26 underlying5 underlying9;have wZ:(convert 26 9 v').run prog w=.ok (.string (bstr l')) w:=XI h' _ _ _ underlying26 underlying5 underlying9;clear h h';go_enter func94,ntmps94;go_wp2;go_ret;refine⟨VT ?_,zA5⟩;rw[Bool.eq_iff_iff];simp[qhg, *]
def KE(l:List UInt8):Bool:=l.all (·==0)
def Ti(l:List UInt8):Nat:=l.foldl (λs x=>max s x.toNat) 0
theorem qmg(l:List UInt8)(x:UInt8):Ti (l++[x])=max (Ti l) x.toNat:=by simp[Ti]
theorem qfX(l:List UInt8):Ti l<256:=by
 suffices h:∀(l:List UInt8)s,s<256->l.foldl (λs x=>max s x.toNat) s<256 from h l 0 zO
 intro l;induction l with
 |nil=>intro s h;exact h
 |cons x r ih=>intro s h;have:=x.toNat_lt;exact ih _ (by show max s x.toNat<256;omega)
theorem qcS(l:List UInt8):decide ((Ti l:Int)>0)=!KE l:=by
 suffices h:∀(l:List UInt8)s,decide (l.foldl (λs x=>max s x.toNat) s>0)=(decide (s>0)||!KE l)by have:=h l 0;simp only[Ti];rw[Bool.eq_iff_iff]at this⊢;simp at this⊢;exact this
 intro l;induction l with
 |nil=>intro s;simp[KE]
 |cons x r ih=>
  intro s;rw[List.foldl_cons,ih];have hx:(x==0)=decide (x.toNat=0):=by rw[Bool.eq_iff_iff];simp;constructor;rintro rfl;rfl;intro h;exact UInt8.toNat.inj h
  simp only[KE,List.all_cons,hx];rw[Bool.eq_iff_iff];simp;by_cases h:x.toNat=0<;>simp[h]<;>omega
theorem qiC(v:X)(l:List UInt8)(h0:0<l.length)(hl:l.length<1073741824)(w:D)(h:Bys w w v l):Calls prog 183 #[v] w (Ret (E .u8 (Ti l:Int)) w):=by
 obtain⟨A,c,rfl,hc,hm,hr⟩:=h;obtain⟨b,off,rfl,hb,aF⟩:=hr.2 h0;have oH:∀k,(hk:k<l.length)->w.cell? ⟨b,off+k,Y⟩=U (E .u8 (l[k].toNat:Int)):=λk hk=>aF k _ (by rw[List.getElem?_map,zL hk];rfl);have h1:=oH 0 h0;have hm1:Ti (l.take 1)=l[0].toNat:=by
  rcases l with _|⟨x,r⟩
  simp at h0;simp[Ti]
 rw[Nat.add_zero]at h1;clear aF;go_enter func183,ntmps183;go_wp2;go_loopw [3,4] (λx i wr=>∃k:Nat,1<=k/\k<=l.length/\i=E Ob (k:Int)/\x=E .u8 (Ti (l.take k):Int)/\wr=w)
  (λ_ i _=>l.length-(intOf i).toNat)
 case atStart=>exact⟨1,zO,zO,rfl,by rw[hm1],rfl⟩
 case round=>
  obtain⟨k,hk1,hk,rfl,rfl,rfl⟩:=hrel;by_cases hlt:k<l.length
  ·have HN:Hid (Ti (l.take (k+1))=max (Ti (l.take k)) l[k].toNat):=by rw[List.take_succ_eq_append_getElem hlt,qmg];exact rfl
   have hx:=oH k hlt;clear oH h1 hm1;have hs:=qfX (l.take k);have hu:=l[k].toNat_lt;generalize Ti (l.take k)=q at*;generalize l[k].toNat=u at*;go_wp2;go_roundw
   case rel=>exact⟨k+1,zO,zO,by go_num,by rw[HN.out];go_num,by first|rfl|trivial⟩
   case measure=>simp[intOf];omega
  obtain rfl:k=l.length:=zO;rw[List.take_length]at*;go_wp2;go_ret;exact⟨rfl,Below.refl _ _⟩
def qbC(l:List UInt8):Bool:=decide (vy (l.take 4)=crc (l.drop 4))
def IsOpen(lo:Nat)(l:List UInt8)(v:X)(W:D):Prop:=IsB0 lo 124 (l.drop 4) v W
theorem numAt0(l:List UInt8)(h:l.length=128):ZH l 0 4=(vy (l.take 4):Int):=by unfold ZH;rw[if_pos zO];simp
theorem numE0(l:List UInt8)(h:l.length=128):UU l 0 4=0:=by unfold UU;rw[if_pos zO]
theorem qdU(l:List UInt8)(h:l.length=128):(l.drop 4).take 124=l.drop 4:=List.take_of_length_le zA2
theorem open_len(v:X)(l:List UInt8)(hl:l.length≠128)(w:D)(h:Bys w w v l):Calls prog 180 #[v] w (Ret (.tuple #[J Y 0 0,E Ob 3]) w):=by
 obtain⟨A,c,rfl,hc,hm,hr⟩:=h;have eY:((l.length:Int)!=128)=I:=by rw[bne_iff_ne];omega
 go_enter func180,ntmps180;go_wp2;exact bodyPost_ret (v:=.tuple #[J Y 0 0,E Ob 3]) (by simp[results,results180,go_sem]) rfl ⟨rfl,Below.refl _ _⟩
theorem open_any(v:X)(l:List UInt8)(hl:l.length=128)(w:D)(h:Bys w w v l):Calls prog 180 #[v] w (zZ (λu w'=>if qbC l then IsOpen w l u w' else u=.tuple #[J Y 0 0,E Ob 8]) w):=by
 obtain⟨A,m,c,rfl⟩:∃A m c,v=J A m c:=by obtain⟨A,c,e,_⟩:=h;exact⟨_,_,_,e⟩
 obtain⟨e1,hc,hm,hA⟩:=h.at_;rw[hl]at e1;subst e1;obtain⟨b,off,rfl,hb⟩:=hA zO;have hs:Bys w w (J (b,off+4) 124 (c-4)) (l.drop 4):=by
  have:=h.sub (a:=4) (k:=124) zO
  rwa [qdU l hl]at this
 have hlen:(l.drop 4).length=124:=zA2;have HG:∀W,Ext w W->_:=λW hW=>KM _ l 0 zO W ((h.below hW).more hW.size);rw[numAt0 l hl,numE0 l hl]at HG;have HO:∀W,Ext w W->_:=λW hW=>qfq _ _ W ((hs.below hW).more hW.size) zO;have HC:∀W,Ext w W->_:=λW hW=>qdn _ (l.drop 4) zO W ((hs.below hW).more hW.size);have hx:(vy (l.take 4):Int)<4294967296:=by have:=Tj l 0 4 zO;rw[numAt0 l hl]at this;exact this.2
 have hy:=qjf (l.drop 4);have lQ:qbC l=decide (vy (l.take 4)=crc (l.drop 4)):=rfl;clear h hs;unfold maxLen at hm;generalize vy (l.take 4)=x at*;generalize crc (l.drop 4)=y at*;have HG:=zH HG;have HO:=zH HO;have HC:=zH HC;rw[lQ];by_cases hxy:x=y
 ·subst hxy;simp only[decide_true,if_true];go_enter func180,ntmps180;go_wp2_with fail;refine(HG.out _ (Ext.refl _)).mono ?_;rintro e w1 ⟨rfl,yZ⟩;have yZ:Ext w w1:=yZ;go_wp2_with fail;refine(HO.out _ yZ).mono ?_;rintro e w2 ⟨rfl,dh⟩;have dh:Ext w w2:=Ext.trans yZ dh;go_wp2_with fail;refine(HC.out _ dh).mono ?_;rintro e w3 ⟨u,rfl,aB,sS⟩;have sS:Ext w w3:=Ext.trans dh sS;rw[hlen]at aB;go_wp2;refine bodyPost_ret (v:=.tuple #[u,E Ob 0]) (by simp[results,results180,go_sem]) rfl ⟨_,rfl,?_,sS⟩;obtain⟨A',c',h1,h2,h3⟩:=IsB.of_own aB;exact⟨u,rfl,A',c',h1,h2,h3.mono dh.size⟩
 have eY:((x:Int)!=y)=I:=by rw[bne_iff_ne];omega
 rw[decide_eq_false hxy];simp only[Bool.false_eq_true,if_false];go_enter func180,ntmps180;go_wp2_with fail;refine(HG.out _ (Ext.refl _)).mono ?_;rintro e w1 ⟨rfl,yZ⟩;have yZ:Ext w w1:=yZ;go_wp2_with fail;refine(HO.out _ yZ).mono ?_;rintro e w2 ⟨rfl,dh⟩;have dh:Ext w w2:=Ext.trans yZ dh;go_wp2;exact bodyPost_ret (v:=.tuple #[J Y 0 0,E Ob 8]) (by simp[results,results180,go_sem]) rfl ⟨_,rfl,rfl,dh⟩

abbrev KR(k i o r:Int)(A:OA)(n c:Nat):X:=.agg #[E .u8 k,E Jx i,E Jx o,r,J A n c]
def Va(b:Bool):Int:=if b then 0 else 8
theorem Vx{b:Bool}(h:b=I):Va b=0:=by rw[h];rfl
theorem vF{b:Bool}(h:b=Z):Va b=8:=by rw[h];rfl
def itB(r:Int)(n:Nat):Bool:=decide ((r=0\/(8<=r/\r<256))/\n<=12)
theorem Vj(k i o r:Int)(A:OA)(n c:Nat)(w:D):Calls prog 40 #[KR k i o r A n c] w (Ret (E Ob (Va (itB r n))) w):=by
 go_enter func40,ntmps40;go_wp2;all_goals go_ret
 all_goals refine⟨?_,zA5⟩
 all_goals simp only[ne_eq,bne_eq_false_iff_eq]at*
 all_goals first|exact TT (Vx (by simp[itB];omega)).symm|exact TT (vF (by simp[itB];omega)).symm
def Nz(W:D)(v:X):Prop:=∀a n c,v=J (U a) n c->0<n->∃cs ty,W.heap[a.block]?=U (Oc cs ty)
theorem Nz.ext(h:Nz W v)(hx:Ext W W'):Nz W' v:=λa n c e hn=>by obtain⟨cs,ty,hr⟩:=h a n c e hn;exact⟨cs,ty,(Below.block hx _ (zG.1 hr).1).trans hr⟩
theorem Nz.of_own{base n size:Nat}(h:w.ownsRow base e size v n xs):Nz w v:=λa m c hv hm=>by
 rcases h.2 with⟨rfl,_⟩|⟨g,cap,cur,rfl,_,hg,_⟩
 cases hv;cases hv;exact⟨_,_,hg⟩
theorem Nz.setCell(h:Nz W v)(p:Addr)(u:X):Nz (W.setCell p u) v:=λa n c e hn=>by obtain⟨cs,ty,hr⟩:=h a n c e hn;by_cases hp:a.block=p.block;obtain⟨hlt,iq⟩:=zG.1 hr;refine⟨if p.spot.isSome then cs else cs.setIfInBounds p.off u,ty,?_⟩;unfold Oa;simp only;rw[Array.getElem?_modify,if_pos hp.symm,hr];rfl;exact⟨cs,ty,(zJ _ _ _ _ hp).trans hr⟩
theorem Nz.put(h:Nz W v){l:Nat}{o:Obj}(hl:W.heap[l]?=o)(ho:∀cs ty,o≠Oc cs ty):Nz (W.putObj l o') v:=λa n c e hn=>by obtain⟨cs,ty,hr⟩:=h a n c e hn;refine⟨cs,ty,(World.putObj_heap_other (λx=>?_)).trans hr⟩;rw[x,hl]at hr;exact ho cs ty (Option.some.inj hr)
def IsI(lo:Nat)(k i o r:Int)(l:List UInt8)(v:X)(W:D):Prop:=∃A c,v=KR k i o r A l.length c/\Bys W W (J A l.length c) l/\ZK lo (J A l.length c)
def IsIz(lo:Nat)(k i o r:Int)(l:List UInt8)(v:X)(W:D):Prop:=∃A c,v=KR k i o r A l.length c/\(Bys W W (J A l.length c) l/\ZK lo (J A l.length c))/\Nz W (J A l.length c)
theorem qjG(k i o r:Int)(A n c)(l:List UInt8)(hl:l.length<1073741824)(w:D)(h:Bys w w (J A n c) l):Calls prog 200 #[KR k i o r A n c] w (zZ (IsIz w k i o r l) w):=by
 have HC:∀W,Ext w W->_:=λW hW=>Kj _ l hl W ((h.below hW).more hW.size);replace HC:=zH HC;clear h;go_enter func200,ntmps200;go_wp2_with fail;generalize aA:(World.alloc (World.alloc _ _) _)=w1;have b1:Ext w w1:=by rw[<-aA];exact(zN _ _).trans (zN _ _)
 have hz:w1.heap.size=w+2:=by rw[<-aA];simp
 have r0:w1.heap[w.heap.size]?=U (Oc #[E .u8 k,E Jx i,E Jx o,r,J A n c] 51):=by rw[<-aA];exact(zK _ _ _ zA3).trans (zI _ _ _ rfl)
 have r1:w1.heap[w.heap.size+1]?=U (Oc #[E .u8 0,E Jx 0,E Jx 0,E Ob 0,J Y 0 0] 51):=by rw[<-aA];exact(zI _ _ _ zA3)
 clear aA;refine(HC.out _ b1).mono ?_;rintro e w2 ⟨u,rfl,aB,hB⟩;have nY:=Nz.of_own aB;obtain⟨A',c',e1,af,hfr⟩:=IsB.of_own aB;subst e1;have hzz:=hB.size;have e0:=(hB.block _ zO).trans r0;have e1:=(hB.block _ zO).trans r1;have hb:Below w w w2:=Below.trans b1 (Below.mono hB zO);replace nY:=zH nY;clear r0 r1 aB HC;have k0:=qa e0;have f0:=qe e0;have k1:=qa e1;have f1:=qe e1;go_wp2;refine bodyPost_ret (v:=KR k i o r A' l.length c') (by simp[results,results200,go_sem,k1]) rfl ⟨_,rfl,⟨A',c',rfl,⟨?_,hfr.mono zO⟩,(((((nY.out.setCell _ _).setCell _ _).setCell _ _).setCell _ _).setCell _ _).setCell _ _⟩,?_⟩;simp only[World.size_setCell];rw[hz]at hfr;exact(((((af.setCell hfr zA3 _).setCell hfr zA3 _).setCell hfr zA3 _).setCell hfr zA3 _).setCell hfr zA3 _).setCell hfr zA3 _;exact(by repeat' (first|with_reducible exact Below.refl _ _|with_reducible assumption|with_reducible apply Below.drew|with_reducible apply qT|with_reducible refine Below.alloc ?_ ?_ _|with_reducible refine Below.setCell ?_ ?_ _|(simp;done)|(simp;omega)|omega))
def XJ(k i o r k' i' o' r':Int)(l l':List UInt8):Bool:=decide (k=k'/\i=i'/\o=o'/\r=r'/\l=l')
theorem qeK(k i o r k' i' o' r':Int)(A A':OA)(n c n' c':Nat)(l l':List UInt8)(w:D)(h:Bys w w (J A n c) l)(h':Bys w w (J A' n' c') l'):Calls prog 69 #[KR k i o r A n c,KR k' i' o' r' A' n' c'] w (Ret (.bool (XJ k i o r k' i' o' r' l l')) w):=by
 have HE:∀W,Ext w W->_:=λW hW=>qja _ _ _ _ W ((h.below hW).more hW.size) ((h'.below hW).more hW.size);replace HE:=zH HE;have hx:∀o1 o2,Ext w ((w.alloc o1).alloc o2):=λo1 o2=>(zN _ _).trans (zN _ _);clear h h';go_enter func69,ntmps69;go_wp2_with fail
 ·refine(HE.out _ (hx _ _)).mono ?_;rintro e w2 ⟨rfl,hB⟩;have hb:Below w w w2:=Ext.trans (hx _ _) hB;go_wp2;go_ret;refine⟨VT ?_,hb⟩;rw[Bool.eq_iff_iff];simp[XJ, *]
 all_goals go_ret
 all_goals refine⟨VT ?_,zA5⟩
 all_goals rw[Bool.eq_iff_iff]
 all_goals simp[XJ, *]
structure It where
 k:Int
 i:Int
 o:Int
 r:Int
 val:List UInt8
deriving DecidableEq
def Vs(l:List UInt8):Nat:=12+(l[11]?.getD 0).toNat
def qbN(l:List UInt8):It:=⟨((l[0]?.getD 0).toNat:Int),ZH l 1 4,ZH l 5 4,ZH l 9 2,(l.drop 12).take (Vs l-12)⟩
def Zk(l:List UInt8):Option (It×Nat):=
 if l.length<12\/l.length<Vs l then Y else if itB (qbN l).r (Vs l-12)then U (qbN l,Vs l)else Y
abbrev noIt:X:=.tuple #[KR 0 0 0 0 Y 0 0,E Ob 0,E Ob 8]
def ReadPz(lo:Nat)(q:Option (It×Nat))(u:X)(W:D):Prop:=
 match q with
 |none=>u=noIt
 |some (x,n)=>∃i,u=.tuple #[i,(n:Int),E Ob 0]/\IsIz lo x.k x.i x.o x.r x.val i W
theorem qi{b:Nat}{t:TypeId}(h:w.heap[b]?=U (Oc cs t))(i:Nat)(v:X):(w.setCell (b,i) v).heap[b]?=U (Oc (cs.setIfInBounds i v) t):=by rw[setCell_eq_setRow _ _ _ _ _ _ _ h,setRow_heap _ _ _ _ _ _ h]
theorem qb{b:Nat}{o:Obj}(h:w.heap[b]?=o)(hx:Ext w w'):w'.heap[b]?=o:=(Below.block hx _ (zG.1 h).1).trans h
theorem Bys.sub3{a:Nat}{b off m c:Nat}(h:Bys w B (J (b,off) m c) l)(hk:a+k<=l.length):Bys w B (J (b,off+a) k k) ((l.drop a).take k):=by obtain⟨A,c',e,hc,hm,hr⟩:=h.sub hk;have hl:((l.drop a).take k).length=k:=zA2;simp only[Value.slice.injEq]at e;obtain⟨rfl,e2,rfl⟩:=e;rw[hl]at hr hc;refine⟨_,k,by rw[hl],zO,zO,by rw[hl];exact hr⟩
theorem qjA(v:X)(l:List UInt8)(hl:l.length<1000)(w:D)(h:Bys w w v l):Calls prog 181 #[v] w (zZ (ReadPz w (Zk l)) w):=by
 obtain⟨A,m,c,rfl⟩:∃A m c,v=J A m c:=by obtain⟨A,c,e,_⟩:=h;exact⟨_,_,_,e⟩
 obtain⟨e1,hc,hm,hA⟩:=h.at_;by_cases h12:l.length<12
 ·have hq:Zk l=Y:=by unfold Zk;rw[if_pos (.inl h12)]
  rw[hq];clear h;subst e1;go_enter func181,ntmps181;go_wp2;refine bodyPost_ret (v:=noIt) (by simp[results,results181,go_sem]) rfl ⟨_,rfl,rfl,zA5⟩
 obtain⟨b,off,rfl,hb⟩:=hA zO;have aF:∀j u,(l.map bv)[j]?=U u->w.cell? ⟨b,off+j,Y⟩=U u:=by obtain⟨A,c',e,_,_,hr⟩:=h;cases e;obtain⟨b',off',e,_,aF⟩:=hr.2 zO;cases e;exact aF
 have c0:w.cell? (b,off)=U (E .u8 ((l[0]?.getD 0).toNat:Int)):=aF 0 _ (by rw[List.getElem?_map,zL zO];rfl);have c11:w.cell? (b,off+11)=U (E .u8 ((l[11]?.getD 0).toNat:Int)):=aF 11 _ (by rw[List.getElem?_map,zL zO];rfl);have hs:Vs l=12+(l[11]?.getD 0).toNat:=rfl;have u0:=(l[0]?.getD 0).toNat_lt;have u11:=(l[11]?.getD 0).toNat_lt;clear aF hA;have hbw:b≠w:=zO;by_cases hsz:l.length<Vs l
 ·have hq:Zk l=Y:=by unfold Zk;rw[if_pos (.inr hsz)]
  rw[hq];clear h;subst e1;generalize(l[11]?.getD 0).toNat=q at*;go_enter func181,ntmps181;go_wp2;refine bodyPost_ret (v:=noIt) (by simp[results,results181,go_sem]) rfl ⟨_,rfl,rfl,zA5⟩
 have h48:Bys w w (J (b,off+12) (Vs l-12) (Vs l-12)) ((l.drop 12).take (Vs l-12)):=h.sub3 zO;have hlv:((l.drop 12).take (Vs l-12)).length=Vs l-12:=zA2;have H1:∀W,Ext w W->_:=λW hW=>KM _ l 1 zO W ((h.below hW).more hW.size);have H5:∀W,Ext w W->_:=λW hW=>KM _ l 5 zO W ((h.below hW).more hW.size);have H9:∀W,Ext w W->_:=λW hW=>qcz _ l 9 zO W ((h.below hW).more hW.size);have hq:Zk l=if itB (qbN l).r (Vs l-12)then U (qbN l,Vs l)else Y:=by unfold Zk;rw[if_neg zO]
 have hi:qbN l=⟨((l[0]?.getD 0).toNat:Int),ZH l 1 4,ZH l 5 4,ZH l 9 2,(l.drop 12).take (Vs l-12)⟩:=rfl;rw[hi]at hq;generalize Zk l=R at*;generalize ZH l 1 4=n1 at*;generalize ZH l 5 4=n5 at*;generalize ZH l 9 2=n9 at*;generalize hFP:(l.drop 12).take (Vs l-12)=val at*;have h48':∀O,(O=off+12\/Vs l-12=0)->Bys w w (J (U ⟨b,O,Y⟩) (Vs l-12) (Vs l-12)) val:=by rintro O (rfl|h0);exact h48;rw[h0]at hlv⊢;obtain rfl:val=[]:=List.eq_nil_of_length_eq_zero hlv;exact⟨_,_,rfl,zM _,by simp[maxLen],rfl,λh=>absurd h zA3⟩
 have HT:∀O,(O=off+12\/Vs l-12=0)->∀W,Ext w W->_:=λO hO W hW=>qjG ((l[0]?.getD 0).toNat:Int) n1 n5 n9 _ _ _ val zO W (((h48' O hO).below hW).more hW.size);clear h h48 h48' hFP hi;subst e1;rw[hs]at*;clear hs;generalize(l[11]?.getD 0).toNat=q at*;generalize(l[0]?.getD 0).toNat=k at*;have e12:12+q-12=q:=zO;rw[e12]at hq HT hlv;replace⟨hq,H1,H5,H9,HT⟩:=zH5 hq H1 H5 H9 HT;unfold maxLen at hm;go_enter func181,ntmps181;go_wp2_with fail;generalize aA:(World.alloc _ _)=w1;have b1:Ext w w1:=aA▸zN _ _;have r1:w1.heap[w.heap.size]?=U (Oc #[E .u8 k,E Jx 0,E Jx 0,E Ob 0,J Y 0 0] 51):=aA▸zI _ _ _ rfl;clear aA;refine(H1.out _ b1).mono ?_;rintro e w2 ⟨rfl,hB⟩;have b1':Ext w w2:=Ext.trans b1 hB;have r1':=qb r1 hB;have k1:=qa r1';have f1:=qe r1';clear hB r1;go_wp2_with fail;generalize hw:(Oa _ _ _)=w3;have b2:Ext w w3:=hw▸b1'.setCell (p:=⟨w.heap.size,1,Y⟩) (zM _) _;have r2:w3.heap[w.heap.size]?=U (Oc #[E .u8 k,E Jx n1,E Jx 0,E Ob 0,J Y 0 0] 51):=hw▸qi r1' 1 _;clear hw k1 f1 r1' b1';refine(H5.out _ b2).mono ?_;rintro e w4 ⟨rfl,hB⟩;have b2':Ext w w4:=Ext.trans b2 hB;have r2':=qb r2 hB;have k2:=qa r2';have f2:=qe r2';clear hB r2;go_wp2_with fail;generalize hw:(Oa _ _ _)=w5;have b3:Ext w w5:=hw▸b2'.setCell (p:=⟨w.heap.size,2,Y⟩) (zM _) _;have r3:w5.heap[w.heap.size]?=U (Oc #[E .u8 k,E Jx n1,E Jx n5,E Ob 0,J Y 0 0] 51):=hw▸qi r2' 2 _;clear hw k2 f2 r2' b2';refine(H9.out _ b3).mono ?_;rintro e w6 ⟨rfl,hB⟩;have b4:Ext w w6:=Ext.trans b3 hB;have r4:=qb r3 hB;have k4:=qa r4;have f4:=qe r4;clear hB r3;rcases Nat.eq_zero_or_pos q with hq0|hq0
 ·subst hq0;go_wp2_with fail;generalize hw:(Oa (Oa _ _ _) _ _)=w7;have b5:Ext w w7:=hw▸Below.setCell (Below.setCell b4 (p:=⟨w.heap.size,3,Y⟩) (zM _) _) (p:=⟨w.heap.size,4,Y⟩) (zM _) _;have r5:w7.heap[w.heap.size]?=U (Oc #[E .u8 k,E Jx n1,E Jx n5,n9,J (b,off) 0 0] 51):=hw▸qi (qi r4 3 _) 4 _;clear hw k4 f4 r4 b4;refine(Vj k n1 n5 n9 _ 0 0 _).mono ?_;rintro e w8 ⟨rfl,hB⟩;have b6:Ext w w8:=Ext.trans b5 hB;have r6:=qb r5 hB;have k6:=qa r6;have f6:=qe r6;have mV:w.heap.size<w8:=(zG.1 r6).1;clear hB r5 b5;by_cases hok:itB n9 0=I
  ·have hR:R=U (⟨k,n1,n5,n9,val⟩,12+0):=by rw[hq.out,if_pos hok]
   rw[Vx hok];clear hok hq;subst hR;go_wp2_with fail;refine(HT.out (off) zA3 _ b6).mono ?_;rintro e w9 ⟨u,rfl,⟨A',c',rfl,⟨af,hfr⟩,nY⟩,hB⟩;have b7:Ext w w9:=Ext.trans b6 hB;have r7:=qb r6 hB;have k7:=qa r7;have f7:=qe r7;clear k6 f6 r6;rw[hlv]at af hfr nY⊢;replace nY:=zH nY;go_wp2;refine bodyPost_ret (v:=.tuple #[KR k n1 n5 n9 A' 0 c',E Ob ((12+0:Nat):Int),E Ob 0]) (by simp[results,results181,go_sem,k7]) rfl ⟨_,rfl,⟨_,rfl,?_⟩,?_⟩;refine⟨A',c',by rw[hlv],⟨?_,by rw[hlv];exact hfr.mono b6.size⟩,by rw[hlv];exact((((nY.out.setCell _ _).setCell _ _).setCell _ _).setCell _ _).setCell _ _⟩;rw[hlv];simp only[World.size_setCell];exact((((af.setCell hfr (p:=⟨w.heap.size,0,Y⟩) mV _).setCell hfr (p:=⟨w.heap.size,1,Y⟩) mV _).setCell hfr (p:=⟨w.heap.size,2,Y⟩) mV _).setCell hfr (p:=⟨w.heap.size,3,Y⟩) mV _).setCell hfr (p:=⟨w.heap.size,4,Y⟩) mV _;have b7':Below w w w9:=b7;exact(by repeat' (first|with_reducible exact Below.refl _ _|with_reducible assumption|with_reducible apply Below.drew|with_reducible apply qT|with_reducible refine Below.alloc ?_ ?_ _|with_reducible refine Below.setCell ?_ ?_ _|(simp;done)|(simp;omega)|omega))
  have hR:R=Y:=by rw[hq.out,if_neg hok]
  rw[vF (by simpa using hok)];clear hok hq;subst hR;go_wp2;refine bodyPost_ret (v:=noIt) (by simp[results,results181,go_sem,k6]) rfl ⟨_,rfl,rfl,?_⟩;have b6':Below w w w8:=b6;exact(by repeat' (first|with_reducible exact Below.refl _ _|with_reducible assumption|with_reducible apply Below.drew|with_reducible apply qT|with_reducible refine Below.alloc ?_ ?_ _|with_reducible refine Below.setCell ?_ ?_ _|(simp;done)|(simp;omega)|omega))
 skip
 go_wp2_with fail;generalize hw:(Oa (Oa _ _ _) _ _)=w7;have b5:Ext w w7:=hw▸Below.setCell (Below.setCell b4 (p:=⟨w.heap.size,3,Y⟩) (zM _) _) (p:=⟨w.heap.size,4,Y⟩) (zM _) _;have r5:w7.heap[w.heap.size]?=U (Oc #[E .u8 k,E Jx n1,E Jx n5,n9,J (b,off+12) q q] 51):=hw▸qi (qi r4 3 _) 4 _;clear hw k4 f4 r4 b4;refine(Vj k n1 n5 n9 _ q q _).mono ?_;rintro e w8 ⟨rfl,hB⟩;have b6:Ext w w8:=Ext.trans b5 hB;have r6:=qb r5 hB;have k6:=qa r6;have f6:=qe r6;have mV:w.heap.size<w8:=(zG.1 r6).1;clear hB r5 b5;by_cases hok:itB n9 q=I
 ·have hR:R=U (⟨k,n1,n5,n9,val⟩,12+q):=by rw[hq.out,if_pos hok]
  rw[Vx hok];clear hok hq;subst hR;go_wp2_with fail;refine(HT.out (off+12) zA3 _ b6).mono ?_;rintro e w9 ⟨u,rfl,⟨A',c',rfl,⟨af,hfr⟩,nY⟩,hB⟩;have b7:Ext w w9:=Ext.trans b6 hB;have r7:=qb r6 hB;have k7:=qa r7;have f7:=qe r7;clear k6 f6 r6;rw[hlv]at af hfr nY⊢;replace nY:=zH nY;go_wp2;refine bodyPost_ret (v:=.tuple #[KR k n1 n5 n9 A' q c',E Ob ((12+q:Nat):Int),E Ob 0]) (by simp[results,results181,go_sem,k7]) rfl ⟨_,rfl,⟨_,rfl,?_⟩,?_⟩;refine⟨A',c',by rw[hlv],⟨?_,by rw[hlv];exact hfr.mono b6.size⟩,by rw[hlv];exact((((nY.out.setCell _ _).setCell _ _).setCell _ _).setCell _ _).setCell _ _⟩;rw[hlv];simp only[World.size_setCell];exact((((af.setCell hfr (p:=⟨w.heap.size,0,Y⟩) mV _).setCell hfr (p:=⟨w.heap.size,1,Y⟩) mV _).setCell hfr (p:=⟨w.heap.size,2,Y⟩) mV _).setCell hfr (p:=⟨w.heap.size,3,Y⟩) mV _).setCell hfr (p:=⟨w.heap.size,4,Y⟩) mV _;have b7':Below w w w9:=b7;exact(by repeat' (first|with_reducible exact Below.refl _ _|with_reducible assumption|with_reducible apply Below.drew|with_reducible apply qT|with_reducible refine Below.alloc ?_ ?_ _|with_reducible refine Below.setCell ?_ ?_ _|(simp;done)|(simp;omega)|omega))
 have hR:R=Y:=by rw[hq.out,if_neg hok]
 rw[vF (by simpa using hok)];clear hok hq;subst hR;go_wp2;refine bodyPost_ret (v:=noIt) (by simp[results,results181,go_sem,k6]) rfl ⟨_,rfl,rfl,?_⟩;have b6':Below w w w8:=b6;exact(by repeat' (first|with_reducible exact Below.refl _ _|with_reducible assumption|with_reducible apply Below.drew|with_reducible apply qT|with_reducible refine Below.alloc ?_ ?_ _|with_reducible refine Below.setCell ?_ ?_ _|(simp;done)|(simp;omega)|omega))
theorem qbe{s x:Operand}{t:TypeId}{v u r:X}(ho:o.op=.call {callee:=.builtin .append,args:=#[s,x],argTypes:=#[t,t]})(hs:a.eval s=v)(hx:a.eval x=u)(bH:(Builtin.append_ #[t,t] o.type #[v,u]).run P W=.ok r w'):(execOp a.eval o).run P W=.ok (.value r) w':=by unfold execOp;simp only[ho,resolve,invoke,builtin,Sem.run_bind,Sem.run_pure,Result.andThen_ok,List.map_toArray,List.map_cons,List.map_nil,hs,hx,bH]

def qD:List (It×X)->List X
 |[]=>[]
 |p::r=>E .u8 p.1.k::E Jx p.1.i::E Jx p.1.o::E Ob p.1.r::p.2::qD r
theorem Zt(ps qs:List (It×X)):qD (ps++qs)=qD ps++qD qs:=by
 induction ps with
 |nil=>rfl
 |cons p r ih=>simp[qD,ih]
theorem vt(ps:List (It×X)):∀i (h:i<ps.length),(qD ps)[i*5]?=U (E .u8 ps[i].1.k)/\(qD ps)[i*5+1]?=U (E Jx ps[i].1.i)/\(qD ps)[i*5+2]?=U (E Jx ps[i].1.o)/\(qD ps)[i*5+3]?=U (E Ob ps[i].1.r)/\(qD ps)[i*5+4]?=U ps[i].2:=by
 induction ps with
 |nil=>intro i h;simp at h
 |cons p r ih=>
  intro i h;rcases i with _|i
  simp[qD];have:=ih i (by simpa using h);rw[show(i+1)*5=i*5+5 by omega];simpa [qD]using this
theorem VI(ps:List (It×X))(k:Nat):(qD ps).take (k*5)=qD (ps.take k):=by
 induction ps generalizing k with
 |nil=>simp[qD]
 |cons p r ih=>
  rcases k with _|k
  simp[qD];rw[show(k+1)*5=k*5+5 by omega];simp[qD,ih]
def Its(w:D)(B:Nat)(v:X)(xs:List It):Prop:=
 ∃ps:List (It×X),ps.map (·.1)=xs/\(∃A c,v=J A xs.length c/\xs.length<=c/\c<=maxLen/\Rd w B 5 A xs.length (qD ps))/\∀p∈ps,(∃A c,p.2=J A p.1.val.length c)/\Bys w B p.2 p.1.val
theorem Its.below{xs:List It}(h:Its w B v xs)(hb:Below B w w'):Its w' B v xs:=by obtain⟨ps,e,⟨A,c,e1,e2,e3,hr⟩,hp⟩:=h;exact⟨ps,e,⟨A,c,e1,e2,e3,hr.below hb⟩,λp h=>⟨(hp p h).1,(hp p h).2.below hb⟩⟩
theorem Its.more{xs:List It}(h:Its w B v xs)(hb:B<=B'):Its w B' v xs:=by obtain⟨ps,e,⟨A,c,e1,e2,e3,hr⟩,hp⟩:=h;exact⟨ps,e,⟨A,c,e1,e2,e3,hr.more hb⟩,λp h=>⟨(hp p h).1,(hp p h).2.more hb⟩⟩
theorem Its.ext{xs:List It}(h:Its w w v xs)(hb:Ext w w'):Its w' w' v xs:=(h.below hb).more hb.size
theorem Its.nil(w:D)(B:Nat):Its w B (J Y 0 0) []:=⟨[],rfl,⟨Y,0,rfl,zM _,by simp[maxLen],Rd.none_⟩,λp h=>by cases h⟩
theorem Its.at_{xs:List It}(h:Its w B (J A n c) xs):n=xs.length/\n<=c/\c<=maxLen/\(0<n->∃b off,A=U ⟨b,off,Y⟩/\b<B):=by obtain⟨ps,e,⟨A',c',e1,e2,e3,hr⟩,hp⟩:=h;cases e1;refine⟨rfl,e2,e3,λhn=>?_⟩;obtain⟨b,off,e,hb,_⟩:=hr.2 hn;exact⟨b,off,e,hb⟩
def ItAt(w:D)(B b o:Nat)(x:It)(A:OA)(c:Nat):Prop:=
 w.cell? (b,o)=U (E .u8 x.k)/\w.cell? (b,o+1)=U (E Jx x.i)/\w.cell? (b,o+2)=U (E Jx x.o)/\w.cell? (b,o+3)=U (E Ob x.r)/\w.cell? (b,o+4)=U (J A x.val.length c)/\Bys w B (J A x.val.length c) x.val
theorem Its.item{B b off n c:Nat}{xs:List It}(h:Its w B (J (b,off) n c) xs)(i:Nat)(hi:i<xs.length):∃A' c',ItAt w B b (off+i*5) xs[i] A' c':=by
 obtain⟨ps,e,⟨A,c',e1,e2,e3,hr⟩,hp⟩:=h;cases e1;subst e;have fF:i<ps.length:=by simpa using hi
 obtain⟨b',off',e,hb,hc⟩:=hr.2 zO;cases e;obtain⟨c0,c1,c2,c3,c4⟩:=vt ps i fF;obtain⟨⟨A',c',e5⟩,af⟩:=hp ps[i] (List.getElem_mem fF);rw[e5]at c4 af;refine⟨A',c',?_⟩;simp only[List.getElem_map];refine⟨hc _ _ c0,?_,?_,?_,?_,af⟩;rw[Nat.add_assoc];exact hc _ _ c1;rw[Nat.add_assoc];exact hc _ _ c2;rw[Nat.add_assoc];exact hc _ _ c3;rw[Nat.add_assoc];exact hc _ _ c4
def qfV(a b:It):Bool:=vJ a.k a.i a.o b.k b.i b.o
def qba(above:Bool)(xs:List It)(i:Nat):Bool:=
 match xs[i]? with
 |none=>I
 |some x=>itB x.r x.val.length&&(decide (i=0)||(match xs[i-1]? with|some y=>qfV y x|none=>I))&&!(above&&(decide (x.r=0)||decide (0<x.val.length)))
def YW(above:Bool)(xs:List It)(k:Nat):Bool:=(List.range k).all (qba above xs)
theorem qaZ(above:Bool)(xs:List It)(k:Nat):YW above xs (k+1)=(YW above xs k&&qba above xs k):=by simp[YW,List.range_succ]
theorem qcl{xs:List It}(hk:k<xs.length)(h:qba above xs k=Z):YW above xs xs.length=Z:=by unfold YW;rw[List.all_eq_false];exact⟨k,List.mem_range.2 hk,by simp[h]⟩
def ZV(lvl:Int)(n:Nat):Bool:=decide (0<=lvl/\lvl<6/\n<=5/\(0<lvl->n≠0))
def Qj(lvl:Int)(xs:List It):Bool:=ZV lvl xs.length&&YW (decide (0<lvl)) xs xs.length
abbrev jW(lvl:Int)(A:OA)(n c:Nat):X:=.agg #[lvl,J A n c]
theorem qhW(lvl:Int)(A:OA)(n c:Nat)(h:ZV lvl n=Z)(w:D):Calls prog 182 #[jW lvl A n c] w (Ret (E Ob 8) w):=by
 have h':¬(0<=lvl/\lvl<6/\n<=5/\(0<lvl->n≠0)):=by simpa [ZV]using h
 clear h;go_enter func182,ntmps182;go_wp2;all_goals simp only[beq_iff_eq,ne_eq]at*
 all_goals first|(exfalso;omega)|skip
 all_goals go_ret
 all_goals exact⟨rfl,zA5⟩
structure Rel where
 rel:D->D->Prop
 refl':∀w,rel w w
 trans':∀{a b c},rel a b->rel b c->rel a c
 drew':∀w:D,rel w w.drew
def Rel.r(R:Rel)(a b:D):Prop:=R.rel a b
theorem Rel.refl(R:Rel)(w:D):R.r w w:=R.refl' w
theorem Rel.trans(R:Rel){a b c:D}(h:R.r a b)(k:R.r b c):R.r a c:=R.trans' h k
theorem Rel.drew(R:Rel)(w:D):R.r w w.drew:=R.drew' w
section
variable {R:Rel}
def qS(R:Rel)(φ:D->Prop):Prop:=∀W W',R.r W W'->φ W->φ W'
section
variable {P:Program} {ops:Array Oper} {w0:World}
def Zp(R:Rel)(P:Program)(W:D)(h:Qb):Result Next->Prop
 |.ok (.value u) w'=>∃p,u=h.f p/\h.φ p w'/\R.r W w'
 |.ok .skip w'=>∃p,undef=h.f p/\h.φ p w'/\R.r W w'
 |.ok (.enter f args) w'=>R.r W w'/\Calls P f args w' λe w''=>∃p,e=.returned (h.f p)/\h.φ p w''/\R.r w' w''
 |_=>False
def Qs(R:Rel)(P:Program)(o:Oper)(a:Act)(W:D)(h:Qb):Prop:=Zp R P W h ((execOp a.eval o).run P W)
def Jw(R:Rel)(P:Program)(o:Oper)(a:Act)(W:D)(v:X):Prop:=∃w',(execOp a.eval o).run P W=.ok (.value v) w'/\R.r W w'
def jL(R:Rel)(P:Program)(ops:Array Oper)(w0:D)(H:Nat->Option Qb)(i:Nat)(o:Oper)(a:Act)(F:qN)(h:Qb):Prop:=
 (Region.wanted o (yielded ops a.tmps)=Z/\h=one undef) \/
 (Region.wanted o (yielded ops a.tmps)=I/\H i=Y/\∃v,h=one v/\∀W,R.r w0 W->(∀k∈qO o,F k W)->Jw R P o a W v) \/
 (Region.wanted o (yielded ops a.tmps)=I/\H i=h/\∀W,R.r w0 W->(∀k∈qO o,F k W)->Qs R P o a W h)
def XO(R:Rel)(w0:D)(F:qN):Prop:=∃W,R.r w0 W/\∀k,F k W
def FOpG(R:Rel)(P:Program)(ops:Array Oper)(w0:D)(H:Nat->Option Qb)(i:Nat)(o:Oper)(K:Act->qN->Prop)(a:Act)(F:qN):Prop:=
 ∃h,jL R P ops w0 H i o a F h/\∀p,XO R w0 (upd F i o (h.φ p))->K (a.put o.dst (h.f p)) (upd F i o (h.φ p))
def kR(R:Rel)(P:Program)(ops:Array Oper)(w0:D)(H:Nat->Option Qb)(L:Array Bool)(Q:Act->qN->Prop):Nat->Array Bool->Act->qN->Prop
 |0,listed,a,F=>listed=L/\Q a F
 |fuel+1,listed,a,F=>Region.ready .any ops listed≠[]/\∀i∈Region.ready .any ops listed,∀o,ops[i]?=U o->FOpG R P ops w0 H i o (kR R P ops w0 H L Q fuel (listed.setIfInBounds i I)) a F
theorem jL.unique{H:Nat->Option Qb}{i:Nat}{o:Oper}{a:Act}{F:qN}{h h':Qb}(hc:XO R w0 F)(x:jL R P ops w0 H i o a F h)(y:jL R P ops w0 H i o a F h'):h=h':=by
 obtain⟨W,hW,hF⟩:=hc;rcases x with⟨x1,rfl⟩|⟨x1,x2,v,rfl,x3⟩|⟨x1,x2,x3⟩<;>rcases y with⟨y1,rfl⟩|⟨y1,y2,u,rfl,y3⟩|⟨y1,y2,y3⟩
 rfl;rw[x1]at y1;cases y1;rw[x1]at y1;cases y1;rw[x1]at y1;cases y1;obtain⟨w1,e1,_⟩:=x3 W hW λk _=>hF k;obtain⟨w2,e2,_⟩:=y3 W hW λk _=>hF k;rw[e1]at e2;cases e2;rfl;rw[x2]at y2;cases y2;rw[x1]at y1;cases y1;rw[x2]at y2;cases y2;rw[x2]at y2;cases y2;rfl
theorem jL.some_{H:Nat->Option Qb}{i:Nat}{o:Oper}{a:Act}{F:qN}{h:Qb}(hc:XO R w0 F)(aJ:∀k,qS R (F k))(x:jL R P ops w0 H i o a F h):∃p,XO R w0 (upd F i o (h.φ p)):=by
 obtain⟨W,hW,hF⟩:=hc;have triv:∀(φ:D->Prop)W',R.r W W'->φ W'->XO R w0 (upd F i o φ):=λφ W' he hφ=>⟨W',R.trans hW he,λk=>by
  unfold upd;split;exact⟨hφ,λj _=>aJ j _ _ he (hF j)⟩
  ·exact aJ k _ _ he (hF k)⟩
 rcases x with⟨x1,rfl⟩|⟨x1,x2,v,rfl,x3⟩|⟨x1,x2,x3⟩
 exact⟨(),triv _ W (R.refl W) trivial⟩;exact⟨(),triv _ W (R.refl W) trivial⟩;have h3:=x3 W hW λk _=>hF k;unfold Qs at h3;generalize(execOp a.eval o).run P W=r at h3;cases r with
 |ok n w'=>
  cases n<;>simp only[Zp]at h3
  case value u=>obtain⟨p,_,hp,he⟩:=h3;exact⟨p,triv _ w' he hp⟩
  case skip=>obtain⟨p,_,hp,he⟩:=h3;exact⟨p,triv _ w' he hp⟩
  case enter f args=>obtain⟨he,az⟩:=h3;obtain⟨e,w'',fr,⟨p,_,hp,iW⟩,_⟩:=az [];exact⟨p,triv _ w'' (R.trans he iW) hp⟩
 |halt x w'=>simp only[Zp]at h3
theorem jL.move{H:Nat->Option Qb}{i j:Nat}{oi oj:Oper}{a:Act}{F:qN}{h:Qb}{v:X}{φ:D->Prop}(dW:oi.apart ops oj=I)(pF:∀cs b,oj.op≠.select cs b)(hn:i∉qO oj):jL R P ops w0 H j oj (a.put oi.dst v) (upd F i oi φ) h↔jL R P ops w0 H j oj a F h:=by
 obtain⟨h1,_,_⟩:=Oper.apart_spec dW;have hF:∀W,(∀k∈qO oj,upd F i oi φ k W)↔∀k∈qO oj,F k W:=λW=>by constructor<;>intro hh k hk;have:=hh k hk;unfold upd at this;rwa [if_neg (λe=>hn (by rw[<-e];exact hk))]at this;unfold upd;rw[if_neg (λe=>hn (by rw[<-e];exact hk))];exact hh k hk
 unfold jL Jw Qs;rw[wanted_put oj a oi.dst v h1,execOp_put oj pF a oi.dst v h1];simp only[hF]
theorem jL.move'{H:Nat->Option Qb}{i j:Nat}{oi oj:Oper}{a:Act}{F:qN}{h:Qb}{v:X}{φ:D->Prop}(dW:oi.apart ops oj=I)(uH:∀cs b,oi.op≠.select cs b)(hn:j∉qO oi):jL R P ops w0 H i oi (a.put oj.dst v) (upd F j oj φ) h↔jL R P ops w0 H i oi a F h:=by
 obtain⟨_,_,h3⟩:=Oper.apart_spec dW;have hF:∀W,(∀k∈qO oi,upd F j oj φ k W)↔∀k∈qO oi,F k W:=λW=>by constructor<;>intro hh k hk;have:=hh k hk;unfold upd at this;rwa [if_neg (λe=>hn (by rw[<-e];exact hk))]at this;unfold upd;rw[if_neg (λe=>hn (by rw[<-e];exact hk))];exact hh k hk
 unfold jL Jw Qs;rw[wanted_put oi a oj.dst v h3,execOp_put oi uH a oj.dst v h3];simp only[hF]
theorem jo{F:qN}(aJ:∀k,qS R (F k))(i:Nat)(o:Oper){φ:D->Prop}(hφ:qS R φ):∀k,qS R (upd F i o φ k):=by
 intro k;unfold upd;split;exact λW W' he ⟨h1,h2⟩=>⟨hφ W W' he h1,λj hj=>aJ j W W' he (h2 j hj)⟩
 exact aJ k
theorem jL.stable{H:Nat->Option Qb}(hH:∀i h,H i=U h->∀p,qS R (h.φ p)){i:Nat}{o:Oper}{a:Act}{F:qN}{h:Qb}(x:jL R P ops w0 H i o a F h):∀p,qS R (h.φ p):=by
 rcases x with⟨_,rfl⟩|⟨_,_,v,rfl,_⟩|⟨_,x2,_⟩
 exact λ_ _ _ _ _=>trivial;exact λ_ _ _ _ _=>trivial;exact hH i h x2
theorem qem{H:Nat->Option Qb}(hH:∀i h,H i=U h->∀p,qS R (h.φ p)){A:Nat->Prop}{L:Array Bool}{Q:Act->qN->Prop}{i:Nat}{oi:Oper}(hi:ops[i]?=oi)(him:A i)(iD:∀(j:Nat)(o:Oper)cs b,ops[j]?=o->o.op≠.select cs b)(bJ:∀(j:Nat)(o:Oper),ops[j]?=o->L.getD j I=Z->∀k,A k->k∈qO o):∀(fuel:Nat)(listed:Array Bool)(a:Act)(F:qN), (∀j oj,ops[j]?=U oj->j≠i->listed.getD j I=Z->(∀e∈oj.after,Region.binds .any e=I->e.on≠i)->oi.apart ops oj=I) ->
   i∈Region.ready .any ops listed->(∀k,qS R (F k))->XO R w0 F->(∀k,listed.getD k I=Z->∀W,F k W) ->
   FOpG R P ops w0 H i oi (kR R P ops w0 H L Q fuel (listed.setIfInBounds i I)) a F->kR R P ops w0 H L Q (fuel+1) listed a F:=by
 intro fuel;induction fuel with
 |zero=>
  intro listed a F _ hr aJ hc _ dw;refine⟨λh=>(by rw[h]at hr;cases hr),λj hj oj dD=>?_⟩;by_cases hji:j=i;subst hji;rw[hi]at dD;cases dD;exact dw;exfalso;obtain⟨h,hok,hK⟩:=dw;obtain⟨p,dU⟩:=hok.some_ hc aJ;have hmj:L.getD j I=Z:=by rw[<-(hK p dU).1];exact(mem_ready.1 (ready_mono hj hji)).1
  obtain⟨_,o',rE,aW⟩:=mem_ready.1 hj;rw[dD]at rE;cases rE;have hin:=bJ j oj dD hmj i him;obtain⟨e,he,nJ⟩:=List.mem_map.1 hin;rw[List.mem_filter]at he;have h1:=aW e (by simpa using he.1) he.2;have h0:=(mem_ready.1 hr).1;rw[nJ]at h1;rcases Nat.lt_or_ge i listed.size with h'|h'
  simp[h']at h0 h1;rw[h0]at h1;cases h1;simp[Array.getElem?_eq_none h']at h1
 |succ fuel ih=>
  intro listed a F dF hr aJ hc eU dw;refine⟨λh=>(by rw[h]at hr;cases hr),λj hj oj dD=>?_⟩;by_cases hji:j=i;subst hji;rw[hi]at dD;cases dD;exact dw;obtain⟨bK,oj',iL,aW⟩:=mem_ready.1 hj;rw[dD]at iL;cases iL;obtain⟨iY,oi',lJ,gZ⟩:=mem_ready.1 hr;rw[hi]at lJ;cases lJ;have bad:∀k,listed.getD k I=Z->listed.getD k Z=I->False:=λk h0 h1=>by
   rcases Nat.lt_or_ge k listed.size with h'|h'
   simp[h']at h0 h1;rw[h0]at h1;cases h1;simp[Array.getElem?_eq_none h']at h1
  have lH:∀e∈oj.after,Region.binds .any e=I->e.on≠i:=λe he hb nK=>bad i iY (nK▸aW e he hb);have lI:∀e∈oi.after,Region.binds .any e=I->e.on≠j:=λe he hb nK=>bad j bK (nK▸gZ e he hb);have eF:i∉qO oj:=λhin=>by obtain⟨e,he,nJ⟩:=List.mem_map.1 hin;rw[List.mem_filter]at he;exact lH e (by simpa using he.1) he.2 nJ
  have rG:j∉qO oi:=λhin=>by obtain⟨e,he,nJ⟩:=List.mem_map.1 hin;rw[List.mem_filter]at he;exact lI e (by simpa using he.1) he.2 nJ
  have dW:=dF j oj dD hji bK lH;have uH:∀cs b,oi.op≠.select cs b:=λcs b=>iD i oi cs b hi;have pF:∀cs b,oj.op≠.select cs b:=λcs b=>iD j oj cs b dD;obtain⟨h2,_⟩:=(Oper.apart_spec dW).2;obtain⟨hI,okI,yg⟩:=dw;obtain⟨p0,pO⟩:=okI.some_ hc aJ;obtain⟨hJ,okJ0,_⟩:=(yg p0 pO).2 j (ready_mono hj hji) oj dD;have okJ:jL R P ops w0 H j oj a F hJ:=(jL.move dW pF eF).1 okJ0;refine⟨hJ,okJ,λq hcq=>?_⟩;have stJ:=okJ.stable hH q;have fE:∀k ok,ops[k]?=U ok->k≠i->(listed.setIfInBounds j I).getD k I=Z ->
    (∀e∈ok.after,Region.binds .any e=I->e.on≠i)->oi.apart ops ok=I:=λk ok hk eX lT aj=>by
   refine dF k ok hk eX ?_ aj;by_cases hjk:j=k;subst hjk;exact bK;rw[getD_set_ne I hjk]at lT;exact lT
  refine ih (listed.setIfInBounds j I) _ _ fE (ready_mono hr (Ne.symm hji)) (jo aJ j oj stJ) hcq ?_ ?_;intro k hk W;by_cases hjk:j=k;subst hjk;exfalso;have hlt:j<listed.size:=by
   rcases Nat.lt_or_ge j listed.size with h'|h'
   exact h';simp[Array.getElem?_eq_none h']at bK
  simp[hlt]at hk;rw[getD_set_ne I hjk]at hk;have:=eU k hk W;unfold upd;rw[if_neg (λe=>hjk e.symm)];exact this;refine⟨hI,(jL.move' dW uH rG).2 okI,λp dU=>?_⟩;have tH:XO R w0 (upd F i oi (hI.φ p)):=by
   obtain⟨W,hW,hF⟩:=dU;refine⟨W,hW,λk=>?_⟩;have hk:=hF k;by_cases eX:k=i;subst eX;unfold upd at hk⊢;rw[if_pos rfl]at hk⊢;refine⟨hk.1,λl hl=>?_⟩;have:=hk.2 l hl
   rwa [if_neg (λe=>rG (by rw[<-e];exact hl))]at this
   by_cases hkj:k=j;subst hkj;unfold upd;rw[if_neg eX];exact eU k bK W;unfold upd at hk⊢;rw[if_neg eX,if_neg hkj]at hk;rw[if_neg eX];exact hk
  obtain⟨xH,okJ',sU⟩:=(yg p tH).2 j (ready_mono hj hji) oj dD;have okJ'':jL R P ops w0 H j oj a F xH:=(jL.move dW pF eF).1 okJ';have e:=okJ''.unique hc okJ;subst e;have hq:=sU q (by rw[VX F _ _ (Ne.symm hji) eF rG];exact dU);rw[Array.setIfInBounds_comm _ _ (λe=>hji e.symm),Act.put_comm a (hI.f p) (xH.f q) h2,VX F _ _ (Ne.symm hji) eF rG]at hq;exact hq
def qv:Nat->List Oper->List Bool->List (Nat×Oper)
 |k,o::l,I::m=>(k,o)::qv (k+1) l m
 |k,_::l,Z::m=>qv (k+1) l m
 |_,_,_=>[]
theorem vK:∀(l:List Oper)(m:List Bool)(k:Nat),∀x∈qv k l m,∃j,x.1=k+j/\l[j]?=U x.2:=by
 intro l;induction l with
 |nil=>intro m k x hx;cases m<;>simp[qv]at hx
 |cons o l ih=>
  intro m k x hx;cases m with
  |nil=>simp[qv]at hx
  |cons b m=>
   cases b;simp only[qv]at hx;obtain⟨j,h1,h2⟩:=ih m (k+1) x hx;exact⟨j+1,zO,by simpa using h2⟩;simp only[qv,List.mem_cons]at hx;rcases hx with rfl|hx
   exact⟨0,rfl,rfl⟩;obtain⟨j,h1,h2⟩:=ih m (k+1) x hx;exact⟨j+1,zO,by simpa using h2⟩
def jC(R:Rel)(P:Program)(ops:Array Oper)(w0:D)(H:Nat->Option Qb)(Q:Act->qN->Prop):List (Nat×Oper)->Act->qN->Prop
 |[],a,F=>Q a F
 |(k,o)::rest,a,F=>FOpG R P ops w0 H k o (λa' F'=>jC R P ops w0 H Q rest a' F') a F
def Zu(ops:Array Oper)(L:Array Bool):List Nat->Array Bool->Bool
 |[],listed=>listed==L
 |k::r,listed=>(Region.ready .any ops listed).contains k&&Region.free .any ops listed k&&Zu ops L r (listed.setIfInBounds k I)
def tailM(ops:Array Oper)(L:Array Bool)(ks:List Nat):Bool:=(List.range ops.size).all λj=>L.getD j I||ks.all λk=>(match ops[j]? with|some o=>(qO o).contains k|none=>I)
theorem qks{L:Array Bool}{ks:List Nat}(h:tailM ops L ks=I):∀(j:Nat)(o:Oper),ops[j]?=o->L.getD j I=Z->∀k,k∈ks->k∈qO o:=by intro j o ho hm k hk;have h1:=List.all_eq_true.1 h j (List.mem_range.2 (zG.1 ho).1);rw[hm,Bool.false_or]at h1;have h2:=List.all_eq_true.1 h1 k hk;rw[ho]at h2;simpa using h2
theorem qbJ{H:Nat->Option Qb}(hH:∀i h,H i=U h->∀p,qS R (h.φ p)){L:Array Bool}{ks:List Nat}{Q:Act->qN->Prop}(hs:Region.noSelect ops=I)(bJ:∀(j:Nat)(o:Oper),ops[j]?=o->L.getD j I=Z->∀k,k∈ks->k∈qO o):∀(l:List (Nat×Oper))(listed:Array Bool)(a:Act)(F:qN),(∀x∈l,ops[x.1]?=U x.2/\x.1∈ks) ->
  Zu ops L (l.map (·.1)) listed=I->(∀k,qS R (F k))->XO R w0 F->(∀j,listed.getD j I=Z->∀W,F j W)->jC R P ops w0 H Q l a F->kR R P ops w0 H L Q l.length listed a F
 |[],listed,a,F,_,hB,_,_,_,h=>⟨by simpa [Zu]using hB,h⟩
 |(k,o)::l,listed,a,F,hl,hB,aJ,hc,eU,h=>by
  obtain⟨h0,yJ⟩:=hl (k,o) (List.mem_cons_self);simp only[List.map_cons,Zu,Bool.and_eq_true]at hB;obtain⟨⟨hr,hf⟩,mi⟩:=hB;have wV:k∈Region.ready .any ops listed:=by simpa using hr
  have pV:=(mem_ready.1 wV).1;refine qem (A:=λk=>k∈ks) hH h0 yJ (Region.noSelect_spec hs) bJ l.length listed a F (Region.free_spec h0 hf) wV aJ hc eU ?_;obtain⟨hh,hok,hK⟩:=h;refine⟨hh,hok,λp dU=>?_⟩;refine qbJ hH hs bJ l _ _ _ (λx hx=>hl x (List.mem_cons_of_mem _ hx)) mi (jo aJ k o (hok.stable hH p)) dU (λj hj W=>?_) (hK p dU);by_cases hjk:k=j;subst hjk;have hlt:k<listed.size:=by
   rcases Nat.lt_or_ge k listed.size with h'|h'
   exact h';simp[Array.getElem?_eq_none h']at pV
  simp[hlt]at hj;rw[getD_set_ne I hjk]at hj;have:=eU j hj W;unfold upd;rw[if_neg (λe=>hjk e.symm)];exact this
theorem qeq{H:Nat->Option Qb}{i:Nat}{o:Oper}{a:Act}{F:qN}{K:Act->qN->Prop}{K':Act->D->Prop}{Q':Exit->Act->D->Prop}{W:D}(hi:ops[i]?=o)(hH:∀i h,H i=U h->∀p,qS R (h.φ p))(aJ:∀k,qS R (F k))(hW:R.r w0 W)(hF:∀k,F k W)(hK:∀a' F' W',K a' F'->(∀k,qS R (F' k))->R.r w0 W'->(∀k,F' k W')->K' a' W')(h:FOpG R P ops w0 H i o K a F):wpOp P ops Q' i K' a W:=by
 obtain⟨hh,hok,hn⟩:=h;have go:∀p W',R.r W W'->hh.φ p W'->K' (a.put o.dst (hh.f p)) W':=λp W' he hφ=>by
  have nC:∀k,upd F i o (hh.φ p) k W':=λk=>by unfold upd;split;exact⟨hφ,λj _=>aJ j _ _ he (hF j)⟩;exact aJ k _ _ he (hF k)
  exact hK _ _ W' (hn p ⟨W',R.trans hW he,nC⟩) (jo aJ i o (hok.stable hH p)) (R.trans hW he) nC
 unfold wpOp;simp only[hi];rcases hok with⟨x1,rfl⟩|⟨x1,x2,v,rfl,x3⟩|⟨x1,x2,x3⟩
 simp only[x1,Bool.false_eq_true,if_false];exact go () W (R.refl W) trivial;simp only[x1,if_true];obtain⟨w',hr,he⟩:=x3 W hW λk _=>hF k;refine .inl ?_;unfold Oper.wp;rw[hr];exact go () w' he trivial;simp only[x1,if_true];have h3:=x3 W hW λk _=>hF k;refine .inl ?_;unfold Qs at h3;unfold Oper.wp;generalize(execOp a.eval o).run P W=r at*;cases r with
 |ok n w'=>
  cases n<;>simp only[Zp]at h3<;>simp only[Oper.upon]
  case value u=>obtain⟨p,rfl,hp,he⟩:=h3;exact go p w' he hp
  case skip=>obtain⟨p,hu,hp,he⟩:=h3;rw[hu];exact go p w' he hp
  case enter f args=>obtain⟨he,az⟩:=h3;refine az.mono λe w'' ⟨p,he1,hp,iW⟩=>?_;subst he1;exact go p w'' (R.trans he iW) hp
 |halt x w'=>simp only[Zp]at h3
theorem KD{H:Nat->Option Qb}(hH:∀i h,H i=U h->∀p,qS R (h.φ p)){L:Array Bool}{t:Nat}{Q:Act->qN->Prop}{Q':Exit->Act->D->Prop}(hQ:∀a F W,Q a F->R.r w0 W->(∀k,F k W)->wpAny P .any ops Q' t L a W):∀(fuel:Nat)(listed:Array Bool)(a:Act)(F:qN)(W:D),(∀k,qS R (F k))->R.r w0 W->(∀k,F k W)->kR R P ops w0 H L Q fuel listed a F->wpAny P .any ops Q' (fuel+t) listed a W
 |0,listed,a,F,W,_,hW,hF,h=>by rw[h.1,Nat.zero_add];exact hQ a F W h.2 hW hF
 |fuel+1,listed,a,F,W,aJ,hW,hF,h=>by rw[show fuel+1+t=fuel+t+1 by omega];refine⟨λh0=>absurd h0 h.1,λi hi=>?_⟩;obtain⟨_,o,ho,_⟩:=mem_ready.1 hi;exact qeq ho hH aJ hW hF (λa' F' W' hk eQ bZ nC=>KD hH hQ fuel _ a' F' W' eQ bZ nC hk) (h.2 i hi o ho)
def QN(Q:Exit->Act->D->Prop):Exit->Act->D->Prop:=λe a w=>match e with | .normal=>Q .normal a w|_=>False
theorem Qq{Q:Exit->Act->D->Prop}{a:Act}{w:D}(h:Q .normal a w):QN Q .normal a w:=h
theorem Js{Q:Exit->Act->D->Prop}:¬LetsOut (QN Q):=λ⟨_,_,h⟩=>h
theorem wpOp_QN{Q:Exit->Act->D->Prop}{i:Nat}{a:Act}{w:D}{K K':Act->D->Prop}(hK:∀a w,K a w->K' a w)(h:wpOp P ops (QN Q) i K a w):wpOp P ops Q i K' a w:=by
 unfold wpOp at*;split;exact hK _ _ (by simpa [*]using h);rename_i o ho;simp only[ho]at h;split;rename_i hw;simp only[hw,if_true]at h;rcases h with h|⟨_,h⟩
 refine .inl ?_;unfold Oper.wp at*;generalize(execOp a.eval o).run P w=r at*;cases r with
 |ok n w'=>
  cases n<;>simp only[Oper.upon]at h⊢ <;>
   first
    |exact hK _ _ h
    |exact Calls.mono h (λe w'' he=>by cases e<;>first|exact hK _ _ he|exact absurd he Js|exact False.elim he)
    |exact Rows.mono h (λ_ _ he=>hK _ _ he)
 |halt x w'=>cases x<;>simp only[Oper.upon]at h⊢<;>exact False.elim h
 exact absurd h Js;rename_i hw;simp only[hw]at h;exact hK _ _ h
theorem qiQ{Q:Exit->Act->D->Prop}:∀(fuel:Nat)(listed:Array Bool)(a:Act)(w:D),wpAny P .any ops (QN Q) fuel listed a w->wpAny P .any ops Q fuel listed a w
 |0,_,_,_,h=>⟨h.1,h.2⟩
 |fuel+1,listed,a,w,h=>⟨h.1,λi hi=>wpOp_QN (λa w h=>qiQ fuel _ a w h) (h.2 i hi)⟩
theorem qdH{Q:Exit->Act->D->Prop}{z:Nat}{oz:Oper}{v:X}(hz:ops[z]?=oz)(iD:∀(j:Nat)(o:Oper)cs b,ops[j]?=o->o.op≠.select cs b):∀(fuel:Nat)(listed:Array Bool)(a:Act)(W:D), (∀j oj,ops[j]?=U oj->j≠z->listed.getD j I=Z->(∀e∈oj.after,Region.binds .any e=I->e.on≠z)->oz.apart ops oj=I) ->
   z∈Region.ready .any ops listed->Region.wanted oz (yielded ops a.tmps)=I->(∀W,(execOp a.eval oz).run P W=.ok (.value v) W) ->
   wpAny P .any ops (QN Q) fuel (listed.setIfInBounds z I) (a.put oz.dst v) W->wpAny P .any ops (QN Q) (fuel+1) listed a W:=by
 have first:∀(K:Act->D->Prop)(a:Act)(W:D),Region.wanted oz (yielded ops a.tmps)=I->(∀W,(execOp a.eval oz).run P W=.ok (.value v) W)->K (a.put oz.dst v) W->wpOp P ops (QN Q) z K a W:=by intro K a W hw hp h;unfold wpOp;simp only[hz,hw,if_true];refine .inl ?_;unfold Oper.wp;rw[hp];exact h
 intro fuel;induction fuel with
 |zero=>
  intro listed a W dF hr hw hp h;refine⟨λh0=>(by rw[h0]at hr;cases hr),λi hi=>?_⟩;by_cases hiz:i=z;subst hiz;exact first _ a W hw hp h;exfalso;have:=ready_mono hi hiz;rw[h.1]at this;cases this
 |succ fuel ih=>
  intro listed a W dF hr hw hp h;refine⟨λh0=>(by rw[h0]at hr;cases hr),λi hi=>?_⟩;by_cases hiz:i=z;subst hiz;exact first _ a W hw hp h;have dK:=h.2 i (ready_mono hi hiz);obtain⟨iY,oi,hoi,gZ⟩:=mem_ready.1 hi;obtain⟨hzun,_,_,_⟩:=mem_ready.1 hr;have bad:∀k,listed.getD k I=Z->listed.getD k Z=I->False:=λk h0 h1=>by
   rcases Nat.lt_or_ge k listed.size with h'|h'
   simp[h']at h0 h1;rw[h0]at h1;cases h1;simp[Array.getElem?_eq_none h']at h1
  have dW:=dF i oi hoi hiz iY (λe he hb nK=>bad z hzun (nK▸gZ e he hb));obtain⟨h1,h2,h3⟩:=Oper.apart_spec dW;have uH:∀cs b,oi.op≠.select cs b:=λcs b=>iD i oi cs b hoi;have hsz:∀cs b,oz.op≠.select cs b:=λcs b=>iD z oz cs b hz;have step:∀(b:Act)(u:X)(w':D),b.tmps=a.tmps->wpAny P .any ops (QN Q) fuel ((listed.setIfInBounds z I).setIfInBounds i I) ((b.put oz.dst v).put oi.dst u) w'->wpAny P .any ops (QN Q) (fuel+1) (listed.setIfInBounds i I) (b.put oi.dst u) w':=by
   intro b u w' hb hh;rw[Act.put_comm b v u h2,Array.setIfInBounds_comm _ _ (λe=>hiz e.symm)]at hh;have yC:b.eval=a.eval:=by funext x;cases x<;>simp[Act.eval,hb]
   refine ih _ _ w' (λj oj dD hjz bK aj=>?_) (ready_mono hr (Ne.symm hiz)) ?_ (λW=>?_) hh;refine dF j oj dD hjz ?_ aj;by_cases hij:i=j;subst hij;exact iY;rw[getD_set_ne I hij]at bK;exact bK;rw[wanted_put oz b oi.dst u h3,hb];exact hw;rw[execOp_put oz hsz b oi.dst u h3,yC];exact hp W
  unfold wpOp at dK⊢;simp only[hoi]at dK⊢;rw[wanted_put oi a oz.dst v h1]at dK;split
  ·rename_i hw';rw[if_pos hw']at dK;rcases dK with dK|⟨_,dK⟩
   ·refine .inl ?_;unfold Oper.wp at dK⊢;rw[execOp_put oi uH a oz.dst v h1]at dK;generalize(execOp a.eval oi).run P W=r at*;cases r with
    |ok n w'=>
     cases n<;>simp only[Oper.upon]at dK⊢
     case value u=>exact step a u w' rfl dK
     case skip=>exact step a undef w' rfl dK
     case defer d=>
      refine step {a with defers:=d::a.defers} undef w' rfl ?_;have e:({a.put oz.dst v with defers:=d::(a.put oz.dst v).defers}:Act)=({a with defers:=d::a.defers}:Act).put oz.dst v:=by cases oz.dst<;>rfl
      rw[<-e];exact dK
     case enter f args=>exact Calls.mono dK (λe w'' he=>by cases e<;>first|exact step a _ _ rfl he|exact absurd he Js|exact False.elim he)
     case row=>exact Rows.mono dK (λ_ _ he=>step a _ _ rfl he)
    |halt x w'=>cases x<;>simp only[Oper.upon]at dK⊢<;>exact False.elim dK
   exact absurd dK Js
  rename_i hw';rw[if_neg hw']at dK;exact step a undef W rfl dK
theorem qt{id:Nat}{l:List Oper}{Q:Exit->Act->D->Prop}{a:Act}{w:D}(hm:P.follows .mixedOrders=I)(h:wpAny P .any l.toArray (QN Q) l.length (Array.replicate l.length Z) a w.drew):(Code.region id l.toArray I).wp P Q a w:=
 wp_region_any hm (by simpa using qiQ _ _ _ _ h)
theorem Zz{l:List Oper}{Q:Exit->Act->D->Prop}{n:Nat}{listed:Array Bool}{a:Act}{W:D}(z fuel:Nat){oz:Oper}(v:X)(hn:n=fuel+1)(hz:l.toArray[z]?=oz)(hs:Region.noSelect l.toArray=I)(hf:Region.free .any l.toArray listed z=I)(hr:(Region.ready .any l.toArray listed).contains z=I)(hw:Region.wanted oz (yielded l.toArray a.tmps)=I)(hp:∀W,(execOp a.eval oz).run P W=.ok (.value v) W)(h:wpAny P .any l.toArray (QN Q) fuel (listed.setIfInBounds z I) (a.put oz.dst v) W):wpAny P .any l.toArray (QN Q) n listed a W:=
 hn▸qdH hz (Region.noSelect_spec hs) fuel listed a W (Region.free_spec hz hf) (by simpa using hr) hw hp h
theorem ji{l:List Oper}{Q:Exit->Act->D->Prop}{fuel:Nat}{listed:Array Bool}{a:Act}{w W:D}(R:Rel)(H:Nat->Option Qb)(M:List Bool)(t:Nat)(hs:Region.noSelect l.toArray=I)(ht:tailM l.toArray (QW l.length (l.length-t)) ((qv 0 l M).map (·.1))=I)(hB:Zu l.toArray (QW l.length (l.length-t)) ((qv 0 l M).map (·.1)) listed=I)(mD:qaa l.toArray t (l.length-t) (QW l.length (l.length-t))=I)(hfu:fuel=(qv 0 l M).length+t)(mO:(l.drop (l.length-t)).length=t)(hH:∀i h,H i=U h->∀p,qS R (h.φ p))(hW:R.r w W)(h:∀K:Act->qN->Prop,(∀a' F',(∀W,R.r w W->(∀k,F' k W)->wpList P l.toArray Q (l.drop (l.length-t)) a' W)->K a' F')->jC R P l.toArray w H K (qv 0 l M) a (λ_ _=>True)):wpAny P .any l.toArray Q fuel listed a W:=by
 have h:=h _ (λa' F' hh=>hh);subst hfu;have key:=qbJ (w0:=w) hH hs (qks ht) (qv 0 l M) listed a (λ_ _=>True) (λx hx=>by obtain⟨j,h1,h2⟩:=vK l M 0 x hx;refine⟨?_,List.mem_map.2 ⟨x,hx,rfl⟩⟩;rw[h1,Nat.zero_add];simpa using h2) hB (λ_ _ _ _ _=>trivial) ⟨W,hW,λ_=>trivial⟩ (λ_ _ _=>trivial) h;refine KD (w0:=w) hH (t:=t) (Q':=Q) (λa F W hq hW hF=>?_) _ _ _ _ W (λ_ _ _ _ _=>trivial) hW (λ_=>trivial) key;have:=Kg (l.drop (l.length-t)) (l.length-t) _ a W (λj _=>by rw[List.getElem?_drop];simp) (by rw[mO];exact mD) (hq W hW hF)
 rwa [mO]at this
theorem qk{l:List (Nat×Qb)}(h:∀x∈l,∀p,qS R (x.2.φ p)):∀i hh,qP l i=U hh->∀p,qS R (hh.φ p):=by
 induction l with
 |nil=>intro i hh e;cases e
 |cons x r ih=>
  intro i hh e;obtain⟨j,o⟩:=x;simp only[qP]at e;split at e;cases e;exact h (j,_) (List.mem_cons_self);exact ih (λy hy=>h y (List.mem_cons_of_mem _ hy)) i hh e
theorem qif(v:X):∀p,qS R ((one v).φ p):=λ_ _ _ _ _=>trivial
theorem Qk{o:Oper}{a:Act}{W:D}{hh:Qb}{f:FuncId}{args:Array X}(hr:(execOp a.eval o).run P W=.ok (.enter f args) W)(hc:Calls P f args W λe w''=>∃p,e=.returned (hh.f p)/\hh.φ p w''/\R.r W w''):Qs R P o a W hh:=by unfold Qs;rw[hr];exact⟨R.refl W,hc⟩
theorem jZ{o:Oper}{a:Act}{W w':D}{hh:Qb}{u:X}(hr:(execOp a.eval o).run P W=.ok (.value u) w')(hp:∃p,u=hh.f p/\hh.φ p w'/\R.r W w'):Qs R P o a W hh:=by unfold Qs;rw[hr];exact hp
theorem JA{o:Oper}{a:Act}{W w':D}{hh:Qb}(hr:(execOp a.eval o).run P W=.ok .skip w')(hp:∃p,undef=hh.f p/\hh.φ p w'/\R.r W w'):Qs R P o a W hh:=by unfold Qs;rw[hr];exact hp
/-! ### the steps of the walk -/
section
variable {H:Nat->Option Qb} {Q:Act->qN->Prop} {k:Nat} {o:Oper} {rest:List (Nat×Oper)} {a:Act} {F:qN}
theorem qB(h:Q a F):jC R P ops w0 H Q [] a F:=h
theorem qd(v:X)(hw:Region.wanted o (yielded ops a.tmps)=I)(hH:H k=Y)(hv:∀W,R.r w0 W->(∀j∈qO o,F j W)->Jw R P o a W v)(h:jC R P ops w0 H Q rest (a.put o.dst v) (upd F k o λ_=>True)):jC R P ops w0 H Q ((k,o)::rest) a F:=
 ⟨one v,.inr (.inl ⟨hw,hH,v,rfl,hv⟩),λ_ _=>h⟩
theorem qh(hw:Region.wanted o (yielded ops a.tmps)=Z)(h:jC R P ops w0 H Q rest (a.put o.dst undef) (upd F k o λ_=>True)):jC R P ops w0 H Q ((k,o)::rest) a F:=
 ⟨one undef,.inl ⟨hw,rfl⟩,λ_ _=>h⟩
theorem qH(hh:Qb)(hw:Region.wanted o (yielded ops a.tmps)=I)(hH:H k=hh)(hv:∀W,R.r w0 W->(∀j∈qO o,F j W)->Qs R P o a W hh)(h:∀p,jC R P ops w0 H Q rest (a.put o.dst (hh.f p)) (upd F k o (hh.φ p))):jC R P ops w0 H Q ((k,o)::rest) a F:=
 ⟨hh,.inr (.inr ⟨hw,hH,hv⟩),λp _=>h p⟩
end
end
end
theorem zP{R:Rel}(v:X)(hv:∀W,R.r w0 W->(∀j∈qO o,F j W)->(execOp a.eval o).run P W=.ok (.value v) W)(h:jC R P ops w0 H Q rest (a.put o.dst v) (upd F k o λ_=>True))(hw:Region.wanted o (yielded ops a.tmps)=I:=by rfl)(hH:H k=Y:=by rfl):jC R P ops w0 H Q ((k,o)::rest) a F:=
 qd v hw hH (λW h1 h2=>⟨W,hv W h1 h2,Rel.refl _ W⟩) h
end Go.Proofs.YtmeadnlmepcmbaaGreat
