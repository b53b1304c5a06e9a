/- Texts Clone, Open, OpenR, Itm, ItRead, App, ItReadR, Node, joined. -/
import Derived.WalkSpells
import Derived.RangeFuncRecord
import Derived.Test.YtpbniokljofedaaGreatZI02
set_option linter.unusedSimpArgs false
set_option linter.unusedVariables false
set_option maxHeartbeats 8000000
open Go.Proofs.Tryz
namespace Go.Proofs.YtpbniokljofedaaGreat
open Go.RowKit
set_option maxRecDepth 100000 in
theorem GT (v:Value) (l:List UInt8) (hl:l.length<1073741824) (w:World) (h:Bys w w.heap.size v l):Calls prog 138 #[v] w (QV (fun u w'=>w'.ownsRow w.heap.size 5 1 u l.length (l.map bv)) w):=by
 obtain⟨i0,hi,aY,aV,aX⟩:=info_parts Tryz.info_u8;obtain⟨A,c,rfl,hc,hm,hr⟩:=h;have qn:∀ (w:World) (a:Option Addr) (n c n' c':Nat),(binOp .eql 26 (.slice a n c) (.slice none n' c')).run prog w=.ok (.bool a.isNone) w:=fun w a n c n' c'=>Lib.run_eql_slice_nil w _ _ a n c n' c' underlying26;rcases A with _|⟨b,off,p⟩
 ·have h0:l=[]:=by
   rcases l with _|⟨x,r⟩
   ·rfl
   ·obtain⟨b,off,h,_⟩:=hr.2 zA3;cases h
  subst h0;go_enter func138,ntmps138;go_wp2;go_ret;exact⟨_,rfl,World.ownsRow_nil _ _ _ _,Below.refl _ _⟩
 ·go_enter func138,ntmps138;go_wp2_with (at_builtin;refine qI ?_);refine Qh.go (Qq _ rfl (.tmp 5) (.tmp 6) 26 rfl w.heap.size 5 i0 (.int .u8 0) 1 1 underlying26 hi aY aV aX rfl zA1 _ 0 [] rfl ?_ w.heap.size _ l.length c (l.map bv) rfl ?_ (Xv l) zO zA1 ?_ ?_)
  ·exact World.ownsRow_lit w #[] 0 (zM _) (by simp[maxLen]) rfl
  ·exact hr.keep fun p hp=>World.cell?_alloc_lt w _ p hp
  ·simp
  ·intro v' w' aB _ hb _;simp only[Nat.zero_add,List.nil_append] at aB;go_wp2;go_ret;exact⟨_,rfl,aB,Below.trans ((Below.refl _ _).alloc (zM _) _) hb⟩
set_option maxRecDepth 100000 in
theorem vG (v:Value) (l:List UInt8) (hl:l.length<1073741824) (w:World) (h:Bys w w.heap.size v l):Calls prog 121 #[v] w (QV (fun u w'=>w'.ownsRow w.heap.size 5 1 u l.length (l.map bv)) w):=by
 obtain⟨i0,hi,aY,aV,aX⟩:=info_parts Tryz.info_u8;obtain⟨A,c,rfl,hc,hm,hr⟩:=h;have qn:∀ (w:World) (a:Option Addr) (n c n' c':Nat),(binOp .eql 26 (.slice a n c) (.slice none n' c')).run prog w=.ok (.bool a.isNone) w:=fun w a n c n' c'=>Lib.run_eql_slice_nil w _ _ a n c n' c' underlying26;rcases A with _|⟨b,off,p⟩
 ·have h0:l=[]:=by
   rcases l with _|⟨x,r⟩
   ·rfl
   ·obtain⟨b,off,h,_⟩:=hr.2 zA3;cases h
  subst h0;go_enter func121,ntmps121;go_wp2;go_ret;exact⟨_,rfl,World.ownsRow_nil _ _ _ _,Below.refl _ _⟩
 ·go_enter func121,ntmps121;go_wp2_with (at_builtin;refine qI ?_);refine Qh.go (Qq _ rfl (.tmp 5) (.tmp 6) 26 rfl w.heap.size 5 i0 (.int .u8 0) 1 1 underlying26 hi aY aV aX rfl zA1 _ 0 [] rfl ?_ w.heap.size _ l.length c (l.map bv) rfl ?_ (Xv l) zO zA1 ?_ ?_)
  ·exact World.ownsRow_lit w #[] 0 (zM _) (by simp[maxLen]) rfl
  ·exact hr.keep fun p hp=>World.cell?_alloc_lt w _ p hp
  ·simp
  ·intro v' w' aB _ hb _;simp only[Nat.zero_add,List.nil_append] at aB;go_wp2;go_ret;exact⟨_,rfl,aB,Below.trans ((Below.refl _ _).alloc (zM _) _) hb⟩
theorem YY (v v':Value) (l l':List UInt8) (w:World) (h:Bys w w.heap.size v l) (h':Bys w w.heap.size v' l'):Calls prog 80 #[v,v'] w (Ret (.bool (decide (l=l'))) w):=by
 have hv:(convert 26 9 v).run prog w=.ok (.string (bstr l)) w:=jI h _ _ _ underlying26 underlying5 underlying9;have yL:(convert 26 9 v').run prog w=.ok (.string (bstr l')) w:=jI h' _ _ _ underlying26 underlying5 underlying9;clear h h';go_enter func80,ntmps80;go_wp2;go_ret;refine⟨JM ?_,zA5⟩;rw[Bool.eq_iff_iff];simp[qcX, *]
def kz (l:List UInt8):Bool:=l.all (· == 0)
def KM (l:List UInt8):Nat:=l.foldl (fun s x=>max s x.toNat) 0
theorem qhl (l:List UInt8) (x:UInt8):KM (l++[x])=max (KM l) x.toNat:=by simp[KM]
theorem qbY (l:List UInt8):KM l<256:=by
 suffices h:∀ (l:List UInt8) s,s<256->l.foldl (fun s x=>max s x.toNat) s<256 from h l 0 zO
 intro l;induction l with
 |nil=>intro s h;exact h
 |cons x r ih=>intro s h;have:=x.toNat_lt;exact ih _ (by show max s x.toNat<256;omega)
theorem Gw (l:List UInt8):decide ((KM l:Int)>0)=!kz l:=by
 suffices h:∀ (l:List UInt8) s,decide (l.foldl (fun s x=>max s x.toNat) s>0)=(decide (s>0) || !kz l) by have:=h l 0;simp only[KM];rw[Bool.eq_iff_iff] at this ⊢;simp at this ⊢;exact this
 intro l;induction l with
 |nil=>intro s;simp[kz]
 |cons x r ih =>
  intro s;rw[List.foldl_cons,ih];have hx:(x == 0)=decide (x.toNat=0):=by
   rw[Bool.eq_iff_iff];simp;constructor
   ·rintro rfl;rfl
   ·intro h;exact UInt8.toNat.inj h
  simp only[kz,List.all_cons,hx];rw[Bool.eq_iff_iff];simp;by_cases h:x.toNat=0 <;> simp[h] <;> omega
theorem qen (v:Value) (l:List UInt8) (h0:0<l.length) (hl:l.length<1073741824) (w:World) (h:Bys w w.heap.size v l):Calls prog 90 #[v] w (Ret (.int .u8 (KM l:Int)) w):=by
 obtain⟨A,c,rfl,hc,hm,hr⟩:=h;obtain⟨b,off,rfl,hb,aF⟩:=hr.2 h0;have uK:∀ k,(hk:k<l.length)->w.cell? ⟨b,off+k,none⟩=some (.int .u8 (l[k].toNat:Int)):=fun k hk=>aF k _ (by rw[List.getElem?_map,zL hk];rfl);have h1:=uK 0 h0;have hm1:KM (l.take 1)=l[0].toNat:=by
  rcases l with _|⟨x,r⟩
  ·simp at h0
  ·simp[KM]
 rw[Nat.add_zero] at h1;clear aF;go_enter func90,ntmps90;go_wp2;go_loopw [3,4] (fun x i wr=>∃ k:Nat,1<=k/\k<=l.length/\i=.int .i64 (k:Int)/\x=.int .u8 (KM (l.take k):Int)/\wr=w)
  (fun _ i _=>l.length-(intOf i).toNat)
 case atStart=>exact⟨1,zO,zO,rfl,by rw[hm1],rfl⟩
 case round =>
  obtain⟨k,hk1,hk,rfl,rfl,rfl⟩:=hrel;by_cases hlt:k<l.length
  ·have HN:Hid (KM (l.take (k+1))=max (KM (l.take k)) l[k].toNat):=by rw[List.take_succ_eq_append_getElem hlt,qhl];exact rfl
   have hx:=uK k hlt;clear uK h1 hm1;have hs:=qbY (l.take k);have hu:=l[k].toNat_lt;generalize KM (l.take k)=q at *;generalize l[k].toNat=u at *;go_wp2;go_roundw
   case rel=>exact⟨k+1,zO,zO,by go_num,by rw[HN.out];go_num,by first|rfl|trivial⟩
   case measure=>simp[intOf];omega
  ·obtain rfl:k=l.length:=zO;rw[List.take_length] at *;go_wp2;go_ret;exact⟨rfl,Below.refl _ _⟩
def qbt (l:List UInt8):Bool:=decide (Ji (l.take 4)=crc (l.drop 4))
def IsOpen (lo:Nat) (l:List UInt8) (v:Value) (W:World):Prop:=IsB0 lo 124 (l.drop 4) v W
theorem numAt0 (l:List UInt8) (h:l.length=128):Za l 0 4=(Ji (l.take 4):Int):=by unfold Za;rw[if_pos zO];simp
theorem numE0 (l:List UInt8) (h:l.length=128):Xl l 0 4=0:=by unfold Xl;rw[if_pos zO]
theorem qat (l:List UInt8) (h:l.length=128):(l.drop 4).take 124=l.drop 4:=List.take_of_length_le zA2
theorem open_len (v:Value) (l:List UInt8) (hl:l.length≠128) (w:World) (h:Bys w w.heap.size v l):Calls prog 87 #[v] w (Ret (.tuple #[.slice none 0 0,.int .i64 3]) w):=by
 obtain⟨A,c,rfl,hc,hm,hr⟩:=h;have oQ:((l.length:Int) != 128)=true:=by rw[bne_iff_ne];omega
 go_enter func87,ntmps87;go_wp2;exact bodyPost_ret (v:=.tuple #[.slice none 0 0,.int .i64 3]) (by simp[results,results87,go_sem]) rfl ⟨rfl,Below.refl _ _⟩
theorem open_any (v:Value) (l:List UInt8) (hl:l.length=128) (w:World) (h:Bys w w.heap.size v l):Calls prog 87 #[v] w (QV (fun u w'=>if qbt l then IsOpen w.heap.size l u w' else u=.tuple #[.slice none 0 0,.int .i64 8]) w):=by
 obtain⟨A,m,c,rfl⟩:∃ A m c,v=.slice A m c:=by obtain⟨A,c,e,_⟩:=h;exact⟨_,_,_,e⟩
 obtain⟨e1,hc,hm,hA⟩:=h.at_;rw[hl] at e1;subst e1;obtain⟨b,off,rfl,hb⟩:=hA zO;have hs:Bys w w.heap.size (.slice (some ⟨b,off+4,none⟩) 124 (c-4)) (l.drop 4):=by
  have:=h.sub (a:=4) (k:=124) zO
  rwa [qat l hl] at this
 have hlen:(l.drop 4).length=124:=zA2;have HG:∀ W,Ext w W->_:=fun W hW=>Vc _ l 0 zO W ((h.below hW).more hW.size);rw[numAt0 l hl,numE0 l hl] at HG;have HO:∀ W,Ext w W->_:=fun W hW=>qbu _ _ W ((hs.below hW).more hW.size) zO;have HC:∀ W,Ext w W->_:=fun W hW=>GT _ (l.drop 4) zO W ((hs.below hW).more hW.size);have hx:(Ji (l.take 4):Int)<4294967296:=by have:=KP l 0 4 zO;rw[numAt0 l hl] at this;exact this.2
 have hy:=crc_lt (l.drop 4);have yK:qbt l=decide (Ji (l.take 4)=crc (l.drop 4)):=rfl;clear h hs;unfold maxLen at hm;generalize Ji (l.take 4)=x at *;generalize crc (l.drop 4)=y at *;have HG:=zH HG;have HO:=zH HO;have HC:=zH HC;rw[yK];by_cases hxy:x=y
 ·subst hxy;simp only[decide_true,if_true];go_enter func87,ntmps87;go_wp2_with fail;refine(HG.out _ (Ext.refl _)).mono ?_;rintro e w1 ⟨rfl,wS⟩;have wS:Ext w w1:=wS;go_wp2_with fail;refine(HO.out _ wS).mono ?_;rintro e w2 ⟨rfl,lF⟩;have lF:Ext w w2:=Ext.trans wS lF;go_wp2_with fail;refine(HC.out _ lF).mono ?_;rintro e w3 ⟨u,rfl,aB,pJ⟩;have pJ:Ext w w3:=Ext.trans lF pJ;rw[hlen] at aB;go_wp2;refine bodyPost_ret (v:=.tuple #[u,.int .i64 0]) (by simp[results,results87,go_sem]) rfl ⟨_,rfl,?_,pJ⟩;obtain⟨A',c',h1,h2,h3⟩:=IsB.of_own aB;exact⟨u,rfl,A',c',h1,h2,h3.mono lF.size⟩
 ·have oQ:((x:Int) != y)=true:=by rw[bne_iff_ne];omega
  rw[decide_eq_false hxy];simp only[Bool.false_eq_true,if_false];go_enter func87,ntmps87;go_wp2_with fail;refine(HG.out _ (Ext.refl _)).mono ?_;rintro e w1 ⟨rfl,wS⟩;have wS:Ext w w1:=wS;go_wp2_with fail;refine(HO.out _ wS).mono ?_;rintro e w2 ⟨rfl,lF⟩;have lF:Ext w w2:=Ext.trans wS lF;go_wp2;exact bodyPost_ret (v:=.tuple #[.slice none 0 0,.int .i64 8]) (by simp[results,results87,go_sem]) rfl ⟨_,rfl,rfl,lF⟩

abbrev Vd (k i o r:Int) (A:Option Addr) (n c:Nat):Value:=.agg #[.int .u8 k,.int .u32 i,.int .u32 o,.int .i64 r,.slice A n c]
def Jh (b:Bool):Int:=if b then 0 else 8
theorem Jw {b:Bool} (h:b=true):Jh b=0:=by rw[h];rfl
theorem jX {b:Bool} (h:b=false):Jh b=8:=by rw[h];rfl
def itB (r:Int) (n:Nat):Bool:=decide ((r=0\/(8<=r/\r<256))/\n<=12)
theorem Jn (k i o r:Int) (A:Option Addr) (n c:Nat) (w:World):Calls prog 72 #[Vd k i o r A n c] w (Ret (.int .i64 (Jh (itB r n))) w):=by
 go_enter func72,ntmps72;go_wp2;all_goals go_ret
 all_goals refine⟨?_,zA5⟩
 all_goals simp only[ne_eq,bne_eq_false_iff_eq] at *
 all_goals first|exact Ys (Jw (by simp[itB];omega)).symm|exact Ys (jX (by simp[itB];omega)).symm
def Nz (W:World) (v:Value):Prop:=∀ a n c,v=.slice (some a) n c->0<n->∃ cs ty,W.heap[a.block]?=some (.cells cs ty (0,0))
theorem Nz.ext {W W':World} {v:Value} (h:Nz W v) (hx:Ext W W'):Nz W' v:=fun a n c e hn=>by obtain⟨cs,ty,hr⟩:=h a n c e hn;exact⟨cs,ty,(Below.block hx _ (zG.1 hr).1).trans hr⟩
theorem Nz.of_own {w:World} {base n size:Nat} {e:TypeId} {v:Value} {xs:List Value} (h:w.ownsRow base e size v n xs):Nz w v:=fun a m c hv hm=>by
 rcases h.2 with ⟨rfl,_⟩|⟨g,cap,cur,rfl,_,hg,_⟩
 ·cases hv
 ·cases hv;exact⟨_,_,hg⟩
theorem Nz.setCell {W:World} {v:Value} (h:Nz W v) (p:Addr) (u:Value):Nz (W.setCell p u) v:=fun a n c e hn=>by
 obtain⟨cs,ty,hr⟩:=h a n c e hn;by_cases hp:a.block=p.block
 ·obtain⟨hlt,lY⟩:=zG.1 hr;refine⟨if p.spot.isSome then cs else cs.setIfInBounds p.off u,ty,?_⟩;unfold World.setCell;simp only;rw[Array.getElem?_modify,if_pos hp.symm,hr];rfl
 ·exact⟨cs,ty,(zJ _ _ _ _ hp).trans hr⟩
theorem Nz.put {W:World} {v:Value} (h:Nz W v) {l:Nat} {o o':Obj} (hl:W.heap[l]?=some o) (ho:∀ cs ty,o≠.cells cs ty (0,0)):Nz (W.putObj l o') v:=fun a n c e hn=>by obtain⟨cs,ty,hr⟩:=h a n c e hn;refine⟨cs,ty,(World.putObj_heap_other (fun x=>?_)).trans hr⟩;rw[x,hl] at hr;exact ho cs ty (Option.some.inj hr)
def IsI (lo:Nat) (k i o r:Int) (l:List UInt8) (v:Value) (W:World):Prop:=∃ A c,v=Vd k i o r A l.length c/\Bys W W.heap.size (.slice A l.length c) l/\Ze lo (.slice A l.length c)
def IsIz (lo:Nat) (k i o r:Int) (l:List UInt8) (v:Value) (W:World):Prop:=∃ A c,v=Vd k i o r A l.length c/\(Bys W W.heap.size (.slice A l.length c) l/\Ze lo (.slice A l.length c))/\Nz W (.slice A l.length c)
theorem qfl (k i o r:Int) (A:Option Addr) (n c:Nat) (l:List UInt8) (hl:l.length<1073741824) (w:World) (h:Bys w w.heap.size (.slice A n c) l):Calls prog 140 #[Vd k i o r A n c] w (QV (IsIz w.heap.size k i o r l) w):=by
 have HC:∀ W,Ext w W->_:=fun W hW=>vG _ l hl W ((h.below hW).more hW.size);replace HC:=zH HC;clear h;go_enter func140,ntmps140;go_wp2_with fail;generalize aA:(World.alloc (World.alloc _ _) _)=w1;have b1:Ext w w1:=by rw[<-aA];exact(zN _ _).trans (zN _ _)
 have hz:w1.heap.size=w.heap.size+2:=by rw[<-aA];simp
 have r0:w1.heap[w.heap.size]?=some (.cells #[.int .u8 k,.int .u32 i,.int .u32 o,.int .i64 r,.slice A n c] 68 (0,0)):=by rw[<-aA];exact(zK _ _ _ zA3).trans (zI _ _ _ rfl)
 have r1:w1.heap[w.heap.size+1]?=some (.cells #[.int .u8 0,.int .u32 0,.int .u32 0,.int .i64 0,.slice none 0 0] 68 (0,0)):=by rw[<-aA];exact(zI _ _ _ zA3)
 clear aA;refine(HC.out _ b1).mono ?_;rintro e w2 ⟨u,rfl,aB,hB⟩;have nz:=Nz.of_own aB;obtain⟨A',c',e1,aT,hfr⟩:=IsB.of_own aB;subst e1;have hzz:=hB.size;have e0:=(hB.block _ zO).trans r0;have e1:=(hB.block _ zO).trans r1;have hb:Below w.heap.size w w2:=Below.trans b1 (Below.mono hB zO);replace nz:=zH nz;clear r0 r1 aB HC;have k0:=qa e0;have f0:=qe e0;have k1:=qa e1;have f1:=qe e1;go_wp2;refine bodyPost_ret (v:=Vd k i o r A' l.length c') (by simp[results,results140,go_sem,k1]) rfl ⟨_,rfl,⟨A',c',rfl,⟨?_,hfr.mono zO⟩,(((((nz.out.setCell _ _).setCell _ _).setCell _ _).setCell _ _).setCell _ _).setCell _ _⟩,?_⟩
 ·simp only[World.size_setCell];rw[hz] at hfr;exact(((((aT.setCell hfr zA3 _).setCell hfr zA3 _).setCell hfr zA3 _).setCell hfr zA3 _).setCell hfr zA3 _).setCell hfr zA3 _
 ·exact(by repeat' (first|with_reducible exact Below.refl _ _|with_reducible assumption|with_reducible apply Below.drew|with_reducible apply qz|with_reducible refine Below.alloc ?_ ?_ _|with_reducible refine Below.setCell ?_ ?_ _|(simp;done)|(simp;omega)|omega))
def Ur (k i o r k' i' o' r':Int) (l l':List UInt8):Bool:=decide (k=k'/\i=i'/\o=o'/\r=r'/\l=l')
theorem qhd (k i o r k' i' o' r':Int) (A A':Option Addr) (n c n' c':Nat) (l l':List UInt8) (w:World) (h:Bys w w.heap.size (.slice A n c) l) (h':Bys w w.heap.size (.slice A' n' c') l'):Calls prog 59 #[Vd k i o r A n c,Vd k' i' o' r' A' n' c'] w (Ret (.bool (Ur k i o r k' i' o' r' l l')) w):=by
 have HE:∀ W,Ext w W->_:=fun W hW=>YY _ _ _ _ W ((h.below hW).more hW.size) ((h'.below hW).more hW.size);replace HE:=zH HE;have hx:∀ o1 o2,Ext w ((w.alloc o1).alloc o2):=fun o1 o2=>(zN _ _).trans (zN _ _);clear h h';go_enter func59,ntmps59;go_wp2_with fail
 ·refine(HE.out _ (hx _ _)).mono ?_;rintro e w2 ⟨rfl,hB⟩;have hb:Below w.heap.size w w2:=Ext.trans (hx _ _) hB;go_wp2;go_ret;refine⟨JM ?_,hb⟩;rw[Bool.eq_iff_iff];simp[Ur, *]
 all_goals go_ret
 all_goals refine⟨JM ?_,zA5⟩
 all_goals rw[Bool.eq_iff_iff]
 all_goals simp[Ur, *]
structure It where
 k:Int
 i:Int
 o:Int
 r:Int
 val:List UInt8
deriving DecidableEq
def JW (l:List UInt8):Nat:=12+(l[11]?.getD 0).toNat
def itAt (l:List UInt8):It:=⟨((l[0]?.getD 0).toNat:Int),Za l 1 4,Za l 5 4,Za l 9 2,(l.drop 12).take (JW l-12)⟩
def Zg (l:List UInt8):Option (It×Nat):=
 if l.length<12\/l.length<JW l then none else if itB (itAt l).r (JW l-12) then some (itAt l,JW l) else none
abbrev noIt:Value:=.tuple #[Vd 0 0 0 0 none 0 0,.int .i64 0,.int .i64 8]
def ReadPz (lo:Nat) (q:Option (It×Nat)) (u:Value) (W:World):Prop:=
 match q with
 |none=>u=noIt
 |some (x,n)=>∃ i,u=.tuple #[i,.int .i64 (n:Int),.int .i64 0]/\IsIz lo x.k x.i x.o x.r x.val i W
theorem qi {w:World} {b:Nat} {cs:Array Value} {t:TypeId} (h:w.heap[b]?=some (.cells cs t (0,0))) (i:Nat) (v:Value):(w.setCell ⟨b,i,none⟩ v).heap[b]?=some (.cells (cs.setIfInBounds i v) t (0,0)):=by rw[setCell_eq_setRow _ _ _ _ _ _ _ h,setRow_heap _ _ _ _ _ _ h]
theorem qb {w w':World} {b:Nat} {o:Obj} (h:w.heap[b]?=some o) (hx:Ext w w'):w'.heap[b]?=some o:=(Below.block hx _ (zG.1 h).1).trans h
theorem Bys.sub3 {w:World} {B a k:Nat} {b off m c:Nat} {l:List UInt8} (h:Bys w B (.slice (some ⟨b,off,none⟩) m c) l) (hk:a+k<=l.length):Bys w B (.slice (some ⟨b,off+a,none⟩) k k) ((l.drop a).take k):=by
 obtain⟨A,c',e,hc,hm,hr⟩:=h.sub hk;have hl:((l.drop a).take k).length=k:=zA2;simp only[Value.slice.injEq] at e;obtain⟨rfl,e2,rfl⟩:=e;rw[hl] at hr hc;refine⟨_,k,by rw[hl],zO,zO,by rw[hl];exact hr⟩
theorem qfh (v:Value) (l:List UInt8) (hl:l.length<1000) (w:World) (h:Bys w w.heap.size v l):Calls prog 88 #[v] w (QV (ReadPz w.heap.size (Zg l)) w):=by
 obtain⟨A,m,c,rfl⟩:∃ A m c,v=.slice A m c:=by obtain⟨A,c,e,_⟩:=h;exact⟨_,_,_,e⟩
 obtain⟨e1,hc,hm,hA⟩:=h.at_;by_cases h12:l.length<12
 ·have hq:Zg l=none:=by unfold Zg;rw[if_pos (.inl h12)]
  rw[hq];clear h;subst e1;go_enter func88,ntmps88;go_wp2;refine bodyPost_ret (v:=noIt) (by simp[results,results88,go_sem]) rfl ⟨_,rfl,rfl,zA5⟩
 ·obtain⟨b,off,rfl,hb⟩:=hA zO;have aF:∀ j u,(l.map bv)[j]?=some u->w.cell? ⟨b,off+j,none⟩=some u:=by obtain⟨A,c',e,_,_,hr⟩:=h;cases e;obtain⟨b',off',e,_,aF⟩:=hr.2 zO;cases e;exact aF
  have c0:w.cell? ⟨b,off,none⟩=some (.int .u8 ((l[0]?.getD 0).toNat:Int)):=aF 0 _ (by rw[List.getElem?_map,zL zO];rfl);have c11:w.cell? ⟨b,off+11,none⟩=some (.int .u8 ((l[11]?.getD 0).toNat:Int)):=aF 11 _ (by rw[List.getElem?_map,zL zO];rfl);have hs:JW l=12+(l[11]?.getD 0).toNat:=rfl;have u0:=(l[0]?.getD 0).toNat_lt;have u11:=(l[11]?.getD 0).toNat_lt;clear aF hA;have hbw:b≠w.heap.size:=zO;by_cases hsz:l.length<JW l
  ·have hq:Zg l=none:=by unfold Zg;rw[if_pos (.inr hsz)]
   rw[hq];clear h;subst e1;generalize (l[11]?.getD 0).toNat=q at *;go_enter func88,ntmps88;go_wp2;refine bodyPost_ret (v:=noIt) (by simp[results,results88,go_sem]) rfl ⟨_,rfl,rfl,zA5⟩
  ·have h48:Bys w w.heap.size (.slice (some ⟨b,off+12,none⟩) (JW l-12) (JW l-12)) ((l.drop 12).take (JW l-12)):=h.sub3 zO;have hlv:((l.drop 12).take (JW l-12)).length=JW l-12:=zA2;have H1:∀ W,Ext w W->_:=fun W hW=>Vc _ l 1 zO W ((h.below hW).more hW.size);have H5:∀ W,Ext w W->_:=fun W hW=>Vc _ l 5 zO W ((h.below hW).more hW.size);have H9:∀ W,Ext w W->_:=fun W hW=>Gj _ l 9 zO W ((h.below hW).more hW.size);have hq:Zg l=if itB (itAt l).r (JW l-12) then some (itAt l,JW l) else none:=by unfold Zg;rw[if_neg zO]
   have hi:itAt l=⟨((l[0]?.getD 0).toNat:Int),Za l 1 4,Za l 5 4,Za l 9 2,(l.drop 12).take (JW l-12)⟩:=rfl;rw[hi] at hq;generalize Zg l=R at *;generalize Za l 1 4=n1 at *;generalize Za l 5 4=n5 at *;generalize Za l 9 2=n9 at *;generalize hFP:(l.drop 12).take (JW l-12)=val at *;have h48':∀ O,(O=off+12\/JW l-12=0)->Bys w w.heap.size (.slice (some ⟨b,O,none⟩) (JW l-12) (JW l-12)) val:=by
    rintro O (rfl|h0)
    ·exact h48
    ·rw[h0] at hlv ⊢;obtain rfl:val=[]:=List.eq_nil_of_length_eq_zero hlv;exact⟨_,_,rfl,zM _,by simp[maxLen],rfl,fun h=>absurd h zA3⟩
   have HT:∀ O,(O=off+12\/JW l-12=0)->∀ W,Ext w W->_:=fun O hO W hW=>qfl ((l[0]?.getD 0).toNat:Int) n1 n5 n9 _ _ _ val zO W (((h48' O hO).below hW).more hW.size);clear h h48 h48' hFP hi;subst e1;rw[hs] at *;clear hs;generalize (l[11]?.getD 0).toNat=q at *;generalize (l[0]?.getD 0).toNat=k at *;have e12:12+q-12=q:=zO;rw[e12] at hq HT hlv;replace hq:=zH hq;replace H1:=zH H1;replace H5:=zH H5;replace H9:=zH H9;replace HT:=zH HT;unfold maxLen at hm;go_enter func88,ntmps88;go_wp2_with fail;generalize aA:(World.alloc _ _)=w1;have b1:Ext w w1:=by rw[<-aA];exact zN _ _
   have r1:w1.heap[w.heap.size]?=some (.cells #[.int .u8 k,.int .u32 0,.int .u32 0,.int .i64 0,.slice none 0 0] 68 (0,0)):=by rw[<-aA];exact zI _ _ _ rfl
   clear aA;refine(H1.out _ b1).mono ?_;rintro e w2 ⟨rfl,hB⟩;have b1':Ext w w2:=Ext.trans b1 hB;have r1':=qb r1 hB;have k1:=qa r1';have f1:=qe r1';clear hB r1;go_wp2_with fail;generalize hw:(World.setCell _ _ _)=w3;have b2:Ext w w3:=by rw[<-hw];exact b1'.setCell (p:=⟨w.heap.size,1,none⟩) (zM _) _
   have r2:w3.heap[w.heap.size]?=some (.cells #[.int .u8 k,.int .u32 n1,.int .u32 0,.int .i64 0,.slice none 0 0] 68 (0,0)):=by rw[<-hw];exact qi r1' 1 _
   clear hw k1 f1 r1' b1';refine(H5.out _ b2).mono ?_;rintro e w4 ⟨rfl,hB⟩;have b2':Ext w w4:=Ext.trans b2 hB;have r2':=qb r2 hB;have k2:=qa r2';have f2:=qe r2';clear hB r2;go_wp2_with fail;generalize hw:(World.setCell _ _ _)=w5;have b3:Ext w w5:=by rw[<-hw];exact b2'.setCell (p:=⟨w.heap.size,2,none⟩) (zM _) _
   have r3:w5.heap[w.heap.size]?=some (.cells #[.int .u8 k,.int .u32 n1,.int .u32 n5,.int .i64 0,.slice none 0 0] 68 (0,0)):=by rw[<-hw];exact qi r2' 2 _
   clear hw k2 f2 r2' b2';refine(H9.out _ b3).mono ?_;rintro e w6 ⟨rfl,hB⟩;have b4:Ext w w6:=Ext.trans b3 hB;have r4:=qb r3 hB;have k4:=qa r4;have f4:=qe r4;clear hB r3;rcases Nat.eq_zero_or_pos q with hq0|hq0
   ·subst hq0;go_wp2_with fail;generalize hw:(World.setCell (World.setCell _ _ _) _ _)=w7;have b5:Ext w w7:=by rw[<-hw];exact Below.setCell (Below.setCell b4 (p:=⟨w.heap.size,3,none⟩) (zM _) _) (p:=⟨w.heap.size,4,none⟩) (zM _) _
    have r5:w7.heap[w.heap.size]?=some (.cells #[.int .u8 k,.int .u32 n1,.int .u32 n5,.int .i64 n9,.slice (some ⟨b,off,none⟩) 0 0] 68 (0,0)):=by rw[<-hw];exact qi (qi r4 3 _) 4 _
    clear hw k4 f4 r4 b4;refine(Jn k n1 n5 n9 _ 0 0 _).mono ?_;rintro e w8 ⟨rfl,hB⟩;have b6:Ext w w8:=Ext.trans b5 hB;have r6:=qb r5 hB;have k6:=qa r6;have f6:=qe r6;have lK:w.heap.size<w8.heap.size:=(zG.1 r6).1;clear hB r5 b5;by_cases hok:itB n9 0=true
    ·have hR:R=some (⟨k,n1,n5,n9,val⟩,12+0):=by rw[hq.out,if_pos hok]
     rw[Jw hok];clear hok hq;subst hR;go_wp2_with fail;refine(HT.out (off) zA3 _ b6).mono ?_;rintro e w9 ⟨u,rfl,⟨A',c',rfl,⟨aT,hfr⟩,nz⟩,hB⟩;have b7:Ext w w9:=Ext.trans b6 hB;have r7:=qb r6 hB;have k7:=qa r7;have f7:=qe r7;clear k6 f6 r6;rw[hlv] at aT hfr nz ⊢;replace nz:=zH nz;go_wp2;refine bodyPost_ret (v:=.tuple #[Vd k n1 n5 n9 A' 0 c',.int .i64 ((12+0:Nat):Int),.int .i64 0]) (by simp[results,results88,go_sem,k7]) rfl ⟨_,rfl,⟨_,rfl,?_⟩,?_⟩
     ·refine⟨A',c',by rw[hlv],⟨?_,by rw[hlv];exact hfr.mono b6.size⟩,by rw[hlv];exact((((nz.out.setCell _ _).setCell _ _).setCell _ _).setCell _ _).setCell _ _⟩;rw[hlv];simp only[World.size_setCell];exact((((aT.setCell hfr (p:=⟨w.heap.size,0,none⟩) lK _).setCell hfr (p:=⟨w.heap.size,1,none⟩) lK _).setCell hfr (p:=⟨w.heap.size,2,none⟩) lK _).setCell hfr (p:=⟨w.heap.size,3,none⟩) lK _).setCell hfr (p:=⟨w.heap.size,4,none⟩) lK _
     ·have b7':Below w.heap.size w w9:=b7;exact(by repeat' (first|with_reducible exact Below.refl _ _|with_reducible assumption|with_reducible apply Below.drew|with_reducible apply qz|with_reducible refine Below.alloc ?_ ?_ _|with_reducible refine Below.setCell ?_ ?_ _|(simp;done)|(simp;omega)|omega))
    ·have hR:R=none:=by rw[hq.out,if_neg hok]
     rw[jX (by simpa using hok)];clear hok hq;subst hR;go_wp2;refine bodyPost_ret (v:=noIt) (by simp[results,results88,go_sem,k6]) rfl ⟨_,rfl,rfl,?_⟩;have b6':Below w.heap.size w w8:=b6;exact(by repeat' (first|with_reducible exact Below.refl _ _|with_reducible assumption|with_reducible apply Below.drew|with_reducible apply qz|with_reducible refine Below.alloc ?_ ?_ _|with_reducible refine Below.setCell ?_ ?_ _|(simp;done)|(simp;omega)|omega))
   ·skip
    go_wp2_with fail;generalize hw:(World.setCell (World.setCell _ _ _) _ _)=w7;have b5:Ext w w7:=by rw[<-hw];exact Below.setCell (Below.setCell b4 (p:=⟨w.heap.size,3,none⟩) (zM _) _) (p:=⟨w.heap.size,4,none⟩) (zM _) _
    have r5:w7.heap[w.heap.size]?=some (.cells #[.int .u8 k,.int .u32 n1,.int .u32 n5,.int .i64 n9,.slice (some ⟨b,off+12,none⟩) q q] 68 (0,0)):=by rw[<-hw];exact qi (qi r4 3 _) 4 _
    clear hw k4 f4 r4 b4;refine(Jn k n1 n5 n9 _ q q _).mono ?_;rintro e w8 ⟨rfl,hB⟩;have b6:Ext w w8:=Ext.trans b5 hB;have r6:=qb r5 hB;have k6:=qa r6;have f6:=qe r6;have lK:w.heap.size<w8.heap.size:=(zG.1 r6).1;clear hB r5 b5;by_cases hok:itB n9 q=true
    ·have hR:R=some (⟨k,n1,n5,n9,val⟩,12+q):=by rw[hq.out,if_pos hok]
     rw[Jw hok];clear hok hq;subst hR;go_wp2_with fail;refine(HT.out (off+12) zA3 _ b6).mono ?_;rintro e w9 ⟨u,rfl,⟨A',c',rfl,⟨aT,hfr⟩,nz⟩,hB⟩;have b7:Ext w w9:=Ext.trans b6 hB;have r7:=qb r6 hB;have k7:=qa r7;have f7:=qe r7;clear k6 f6 r6;rw[hlv] at aT hfr nz ⊢;replace nz:=zH nz;go_wp2;refine bodyPost_ret (v:=.tuple #[Vd k n1 n5 n9 A' q c',.int .i64 ((12+q:Nat):Int),.int .i64 0]) (by simp[results,results88,go_sem,k7]) rfl ⟨_,rfl,⟨_,rfl,?_⟩,?_⟩
     ·refine⟨A',c',by rw[hlv],⟨?_,by rw[hlv];exact hfr.mono b6.size⟩,by rw[hlv];exact((((nz.out.setCell _ _).setCell _ _).setCell _ _).setCell _ _).setCell _ _⟩;rw[hlv];simp only[World.size_setCell];exact((((aT.setCell hfr (p:=⟨w.heap.size,0,none⟩) lK _).setCell hfr (p:=⟨w.heap.size,1,none⟩) lK _).setCell hfr (p:=⟨w.heap.size,2,none⟩) lK _).setCell hfr (p:=⟨w.heap.size,3,none⟩) lK _).setCell hfr (p:=⟨w.heap.size,4,none⟩) lK _
     ·have b7':Below w.heap.size w w9:=b7;exact(by repeat' (first|with_reducible exact Below.refl _ _|with_reducible assumption|with_reducible apply Below.drew|with_reducible apply qz|with_reducible refine Below.alloc ?_ ?_ _|with_reducible refine Below.setCell ?_ ?_ _|(simp;done)|(simp;omega)|omega))
    ·have hR:R=none:=by rw[hq.out,if_neg hok]
     rw[jX (by simpa using hok)];clear hok hq;subst hR;go_wp2;refine bodyPost_ret (v:=noIt) (by simp[results,results88,go_sem,k6]) rfl ⟨_,rfl,rfl,?_⟩;have b6':Below w.heap.size w w8:=b6;exact(by repeat' (first|with_reducible exact Below.refl _ _|with_reducible assumption|with_reducible apply Below.drew|with_reducible apply qz|with_reducible refine Below.alloc ?_ ?_ _|with_reducible refine Below.setCell ?_ ?_ _|(simp;done)|(simp;omega)|omega))
theorem TV {P:Program} {o:Oper} {a:Act} {W w':World} {s x:Operand} {t:TypeId} {v u r:Value} (ho:o.op=.call { callee:=.builtin .append,args:=#[s,x],argTypes:=#[t,t] }) (hs:a.eval s=v) (hx:a.eval x=u) (au:(Builtin.append_ #[t,t] o.type #[v,u]).run P W=.ok r w'):(execOp a.eval o).run P W=.ok (.value r) w':=by
 unfold execOp;simp only[ho,resolve,invoke,builtin,Sem.run_bind,Sem.run_pure,Result.andThen_ok,List.map_toArray,List.map_cons,List.map_nil,hs,hx,au]

def qP:List (It×Value)->List Value
 | []=>[]
 |p :: r=>.int .u8 p.1.k :: .int .u32 p.1.i :: .int .u32 p.1.o :: .int .i64 p.1.r :: p.2 :: qP r
theorem Jv (ps qs:List (It×Value)):qP (ps++qs)=qP ps++qP qs:=by
 induction ps with
 |nil=>rfl
 |cons p r ih=>simp[qP,ih]
theorem vz (ps:List (It×Value)):∀ i (h:i<ps.length),(qP ps)[i*5]?=some (.int .u8 ps[i].1.k)/\(qP ps)[i*5+1]?=some (.int .u32 ps[i].1.i)/\(qP ps)[i*5+2]?=some (.int .u32 ps[i].1.o)/\(qP ps)[i*5+3]?=some (.int .i64 ps[i].1.r)/\(qP ps)[i*5+4]?=some ps[i].2:=by
 induction ps with
 |nil=>intro i h;simp at h
 |cons p r ih =>
  intro i h;rcases i with _|i
  ·simp[qP]
  ·have:=ih i (by simpa using h);rw[show (i+1)*5=i*5+5 by omega];simpa [qP] using this
theorem TS (ps:List (It×Value)) (k:Nat):(qP ps).take (k*5)=qP (ps.take k):=by
 induction ps generalizing k with
 |nil=>simp[qP]
 |cons p r ih =>
  rcases k with _|k
  ·simp[qP]
  ·rw[show (k+1)*5=k*5+5 by omega];simp[qP,ih]
def Its (w:World) (B:Nat) (v:Value) (xs:List It):Prop:=
 ∃ ps:List (It×Value),ps.map (·.1)=xs/\(∃ A c,v=.slice A xs.length c/\xs.length<=c/\c<=maxLen/\Rd w B 5 A xs.length (qP ps))/\∀ p∈ps,(∃ A c,p.2=.slice A p.1.val.length c)/\Bys w B p.2 p.1.val
theorem Its.below {w w':World} {B:Nat} {v:Value} {xs:List It} (h:Its w B v xs) (hb:Below B w w'):Its w' B v xs:=by obtain⟨ps,e,⟨A,c,e1,e2,e3,hr⟩,hp⟩:=h;exact⟨ps,e,⟨A,c,e1,e2,e3,hr.below hb⟩,fun p h=>⟨(hp p h).1,(hp p h).2.below hb⟩⟩
theorem Its.more {w:World} {B B':Nat} {v:Value} {xs:List It} (h:Its w B v xs) (hb:B<=B'):Its w B' v xs:=by obtain⟨ps,e,⟨A,c,e1,e2,e3,hr⟩,hp⟩:=h;exact⟨ps,e,⟨A,c,e1,e2,e3,hr.more hb⟩,fun p h=>⟨(hp p h).1,(hp p h).2.more hb⟩⟩
theorem Its.ext {w w':World} {v:Value} {xs:List It} (h:Its w w.heap.size v xs) (hb:Ext w w'):Its w' w'.heap.size v xs:=(h.below hb).more hb.size
theorem Its.nil (w:World) (B:Nat):Its w B (.slice none 0 0) []:=⟨[],rfl,⟨none,0,rfl,zM _,by simp[maxLen],Rd.none_⟩,fun p h=>by cases h⟩
theorem Its.at_ {w:World} {B:Nat} {A:Option Addr} {n c:Nat} {xs:List It} (h:Its w B (.slice A n c) xs):n=xs.length/\n<=c/\c<=maxLen/\(0<n->∃ b off,A=some ⟨b,off,none⟩/\b<B):=by obtain⟨ps,e,⟨A',c',e1,e2,e3,hr⟩,hp⟩:=h;cases e1;refine⟨rfl,e2,e3,fun hn=>?_⟩;obtain⟨b,off,e,hb,_⟩:=hr.2 hn;exact⟨b,off,e,hb⟩
def ItAt (w:World) (B b o:Nat) (x:It) (A:Option Addr) (c:Nat):Prop:=
 w.cell? ⟨b,o,none⟩=some (.int .u8 x.k)/\w.cell? ⟨b,o+1,none⟩=some (.int .u32 x.i)/\w.cell? ⟨b,o+2,none⟩=some (.int .u32 x.o)/\w.cell? ⟨b,o+3,none⟩=some (.int .i64 x.r)/\w.cell? ⟨b,o+4,none⟩=some (.slice A x.val.length c)/\Bys w B (.slice A x.val.length c) x.val
theorem Its.item {w:World} {B b off n c:Nat} {xs:List It} (h:Its w B (.slice (some ⟨b,off,none⟩) n c) xs) (i:Nat) (hi:i<xs.length):∃ A' c',ItAt w B b (off+i*5) xs[i] A' c':=by
 obtain⟨ps,e,⟨A,c',e1,e2,e3,hr⟩,hp⟩:=h;cases e1;subst e;have iK:i<ps.length:=by simpa using hi
 obtain⟨b',off',e,hb,hc⟩:=hr.2 zO;cases e;obtain⟨c0,c1,c2,c3,c4⟩:=vz ps i iK;obtain⟨⟨A',c',e5⟩,aT⟩:=hp ps[i] (List.getElem_mem iK);rw[e5] at c4 aT;refine⟨A',c',?_⟩;simp only[List.getElem_map];refine⟨hc _ _ c0,?_,?_,?_,?_,aT⟩
 ·rw[Nat.add_assoc];exact hc _ _ c1
 ·rw[Nat.add_assoc];exact hc _ _ c2
 ·rw[Nat.add_assoc];exact hc _ _ c3
 ·rw[Nat.add_assoc];exact hc _ _ c4
def qbX (a b:It):Bool:=VO a.k a.i a.o b.k b.i b.o
def TU (above:Bool) (xs:List It) (i:Nat):Bool:=
 match xs[i]? with
 |none=>true
 |some x=>itB x.r x.val.length && (decide (i=0) || (match xs[i-1]? with|some y=>qbX y x|none=>true)) && !(above && (decide (x.r=0) || decide (0<x.val.length)))
def kH (above:Bool) (xs:List It) (k:Nat):Bool:=(List.range k).all (TU above xs)
theorem TT (above:Bool) (xs:List It) (k:Nat):kH above xs (k+1)=(kH above xs k && TU above xs k):=by simp[kH,List.range_succ]
theorem UZ {above:Bool} {xs:List It} {k:Nat} (hk:k<xs.length) (h:TU above xs k=false):kH above xs xs.length=false:=by unfold kH;rw[List.all_eq_false];exact⟨k,List.mem_range.2 hk,by simp[h]⟩
def jv (lvl:Int) (n:Nat):Bool:=decide (0<=lvl/\lvl<6/\n<=5/\(0<lvl->n≠0))
def Qe (lvl:Int) (xs:List It):Bool:=jv lvl xs.length && kH (decide (0<lvl)) xs xs.length
abbrev je (lvl:Int) (A:Option Addr) (n c:Nat):Value:=.agg #[.int .i64 lvl,.slice A n c]
theorem qdM (lvl:Int) (A:Option Addr) (n c:Nat) (h:jv lvl n=false) (w:World):Calls prog 89 #[je lvl A n c] w (Ret (.int .i64 8) w):=by
 have h':¬(0<=lvl/\lvl<6/\n<=5/\(0<lvl->n≠0)):=by simpa [jv] using h
 clear h;go_enter func89,ntmps89;go_wp2;all_goals simp only[beq_iff_eq,ne_eq] at *
 all_goals first|(exfalso;omega)|skip
 all_goals go_ret
 all_goals exact⟨rfl,zA5⟩
end Go.Proofs.YtpbniokljofedaaGreat
