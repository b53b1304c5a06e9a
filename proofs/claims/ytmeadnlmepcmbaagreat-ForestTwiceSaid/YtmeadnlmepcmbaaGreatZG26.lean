/- scionrylaw14.ForestTwice is true of every pool and every number, and leaves its arguments as they were; no condition. -/
import Derived.Test.YtmeadnlmepcmbaaGreatZG25
set_option linter.all false
set_option maxHeartbeats 8000000
open Go.Proofs.Tryz
namespace Go.Proofs.YtmeadnlmepcmbaaGreat
open Go.RowKit
def qec(lo:Nat)(zs:List It):qZ:=⟨OA×Nat,λp=>.tuple #[.slice p.1 zs.length p.2,.int .i64 0],λp W=>ZB lo W (.slice p.1 zs.length p.2) zs⟩
theorem Vn(lo:Nat)(zs:List It)(A c):(qec lo zs).f (A,c)=.tuple #[.slice A zs.length c,.int .i64 0]:=rfl
theorem Gb(lo:Nat)(zs:List It):∀p,QV ((qec lo zs).φ p):=λp W W' he h=>ZB.ext h he
theorem sm14_ret{R:Ending->World->Prop}{a:Act}{W:World}{u:Value}(h4:a.tmps[6]?.getD undef=u)(hd:a.defers=[])(hR:R (.returned u) W):bodyPost prog Tryz.f20 R .ret a W:=by refine bodyPost_ret (v:=u) ?_ hd hR;simp[results,results20,go_sem,h4]
theorem Rd.extW{w W:World}{size n:Nat}{A:OA}{xs:List Value}(h:Rd w w.heap.size size A n xs)(hx:Ext w W):Rd W W.heap.size size A n xs:=(h.keep λp hp=>Below.cell hx hp).more hx.size
structure SmI(vs:List Vol)(w:World)(v i:Value)(wr:World):Prop where
 ex:∃k:Nat,k<=vs.length/\i=.int .i64 (k:Int)/\wr.ownsRow w.heap.size 36 4 v k (ZT (vs.take k))/\Ext w wr
theorem SmI.next{vs:List Vol}{w wr w':World}{v':Value}{k:Nat}(hk:k<vs.length)(hx:Ext w wr)(ho:w'.ownsRow w.heap.size 36 4 v' (k+1) (ZT (vs.take k)++[.int .u32 vs[k].id,.int .i64 vs[k].root,.bool vs[k].fz,.int .u32 vs[k].frm]))(hb:Below w.heap.size wr w'):SmI vs w v' (.int .i64 ((k:Int)+1)) w':=
 ⟨k+1,hk,rfl,by rw[List.take_succ_eq_append_getElem hk,qak];exact ho,Below.trans hx hb⟩
theorem qcu{S:Sto}{root next:Int}{dead:List Int}{vs:List Vol}(h:jq S root next dead vs){v:Vol}(hv:v∈vs):qm S=true/\∃(a lvl:Nat)(xs:List It),v.root=(a:Int)/\8<=a/\a<256/\qk S a=some ((lvl:Int),xs)/\(qz S lvl xs).isSome=true/\allS S v.root=Vt S lvl (0,0,0) (255,4294967295,4294967295) xs:=by obtain⟨refs,nodes,hp,-,-⟩:=h;obtain⟨a,ha,ht⟩:=qlg hp hv;obtain⟨h8,h256,lvl,xs,hn,hsp⟩:=ht;refine⟨hp.may,a,lvl,xs,ha,h8,h256,hn,hsp,?_⟩;unfold allS Ul;rw[ha,Int.toNat_natCast,hn];simp
set_option maxRecDepth 100000 in
theorem sm14_any(A1 n1 c1 A2 n2 c2 A3 n3 c3 A4 n4 c4)(gen root next:Int)(A5 c5)(S:Sto)(dead:List Int)(B1 m1 d1 B2 m2 d2 B3 m3 d3 B4 m4 d4)(gen' root' next':Int)(B5 d5)(T:Sto)(dead':List Int)(vs:List Vol)(w:World)(hok:jq S root next dead vs)(hRA:jq T root' next' dead' vs)(hid:∀v∈vs,v.id≠0)(hl:vs.length<=16)(hCV:∀v∈vs,allS T v.root=allS S v.root)(h:Qq w w.heap.size (.slice A1 n1 c1) (.slice A2 n2 c2) (.slice A3 n3 c3) (.slice A4 n4 c4) S)(hd:jH w w.heap.size (.slice A5 dead.length c5) dead)(h':Qq w w.heap.size (.slice B1 m1 d1) (.slice B2 m2 d2) (.slice B3 m3 d3) (.slice B4 m4 d4) T)(hd':jH w w.heap.size (.slice B5 dead'.length d5) dead'):Calls prog 20 #[.agg (Qk (.slice A1 n1 c1) (.slice A2 n2 c2) (.slice A3 n3 c3) (.slice A4 n4 c4) gen root next (.slice A5 dead.length c5)),.agg (Qk (.slice B1 m1 d1) (.slice B2 m2 d2) (.slice B3 m3 d3) (.slice B4 m4 d4) gen' root' next' (.slice B5 dead'.length d5)),.int .u32 0] w (Ret (.bool true) w):=by
 have HV:=zH (λW (hx:Ext w W)=>qdL A1 n1 c1 A2 n2 c2 A3 n3 c3 A4 n4 c4 gen root next A5 c5 S dead W (h.ext hx) (hd.ext_ hx));have HV':=zH (λW (hx:Ext w W)=>qdL B1 m1 d1 B2 m2 d2 B3 m3 d3 B4 m4 d4 gen' root' next' B5 d5 T dead' W (h'.ext hx) (hd'.ext_ hx));have HR:=zH (λk (hk:k<vs.length) W (hx:Ext w W)=>by obtain⟨hS,a,lvl,xs,ha,h8,h256,hn,hsp,he⟩:=qcu hok (List.getElem_mem hk);have:=qek A1 n1 c1 A2 n2 c2 A3 n3 c3 A4 n4 c4 S hS a lvl xs h8 h256 hn hsp 0 0 0 255 4294967295 4294967295 W (h.ext hx);rw[<-he,<-ha]at this;exact this);have HR':=zH (λk (hk:k<vs.length) W (hx:Ext w W)=>by obtain⟨hS,a,lvl,xs,ha,h8,h256,hn,hsp,he⟩:=qcu hRA (List.getElem_mem hk);have:=qek B1 m1 d1 B2 m2 d2 B3 m3 d3 B4 m4 d4 T hS a lvl xs h8 h256 hn hsp 0 0 0 255 4294967295 4294967295 W (h'.ext hx);rw[<-he,<-ha,hCV vs[k] (List.getElem_mem hk)]at this;exact this);replace⟨hok,hRA,hid⟩:=zH3 hok hRA hid;clear h hd h' hd' hCV;go_enter func20,ntmps20;go_wp2_with fail;generalize hw1:World.alloc (World.alloc w _) _=w1;have x1:Ext w w1:=by rw[<-hw1];exact(zN _ _).trans (zN _ _)
 have rp1:w1.heap[w.heap.size]?=some (.cells (Qk (.slice A1 n1 c1) (.slice A2 n2 c2) (.slice A3 n3 c3) (.slice A4 n4 c4) gen root next (.slice A5 dead.length c5)) 32 (0,0)):=by rw[<-hw1];exact(zK _ _ _ zA3).trans (zI _ _ _ rfl)
 have rq1:w1.heap[w.heap.size+1]?=some (.cells (Qk (.slice B1 m1 d1) (.slice B2 m2 d2) (.slice B3 m3 d3) (.slice B4 m4 d4) gen' root' next' (.slice B5 dead'.length d5)) 32 (0,0)):=by rw[<-hw1];exact zI _ _ _ zA3
 clear hw1;refine(HV.out w1 x1).mono ?_;clear HV;rintro e w2 ⟨hB,hQ⟩;have x2:Ext w w2:=x1.trans hB;have rp2:=qb rp1 hB;have rq2:=qb rq1 hB;have kq2:=qa rq2;clear hB rp1 rq1 x1;rcases hQ with⟨rfl,hno⟩|⟨vs1,refs,nodes,cb,ca,vv,lo,rfl,hlo,hT⟩
 ·obtain⟨refs,nodes,k1,k2,k3⟩:=hok.out;exact(ZC.no hno k1 k2 k3).elim
 obtain⟨refs1,nodes1,hp1,-,-⟩:=hok.out;obtain rfl:=QR.same hp1 hT.pool;obtain⟨AV,cV,rfl,-,-⟩:=qG hT.own;have hrd:=zH (Rd.of_own hT.own);clear hT hp1 hlo;go_wp2_with fail;refine(HV'.out w2 x2).mono ?_;clear HV';rintro e w3 ⟨hB,hQ⟩;have x3:Ext w w3:=x2.trans hB;have rp3:=qb rp2 hB;have rq3:=qb rq2 hB;replace hrd:=zH (hrd.out.extW hB);clear hB rp2 rq2 kq2 x2;rcases hQ with⟨rfl,hno⟩|⟨vs1,refs,nodes,cb,ca,vv,lo,rfl,hlo,hT⟩
 ·obtain⟨refs,nodes,k1,k2,k3⟩:=hRA.out;exact(ZC.no hno k1 k2 k3).elim
 obtain⟨refs1,nodes1,hp1,-,-⟩:=hRA.out;obtain rfl:=QR.same hp1 hT.pool;obtain⟨AU,cU,rfl,-,-⟩:=qG hT.own;have wOI:=zH (Rd.of_own hT.own);clear hT hp1 hlo;go_wp2_with fail;go_loopw [11,13] (λv i wr=>SmI vs w3 v i wr) (λ_ i _=>vs.length-(intOf i).toNat)
 case atStart=>exact⟨0,Nat.zero_le _,rfl,World.ownsRow_nil _ _ _ _,Ext.refl _⟩
 case round=>
  obtain⟨k,hk,rfl,own,xr⟩:=hrel.ex;clear hrel;by_cases hlt:k<vs.length
  ·have wBE:=zH (λv' w'=>@SmI.next vs w3 wr w' v' k hlt xr);obtain⟨bv,ov,rfl,hbv,hCF⟩:=hrd.out.2 zO;obtain⟨d0,d1,d2,d3⟩:=vX vs k hlt;replace d0:=Ext.cell xr (hCF _ _ d0);replace d1:=Ext.cell xr (hCF _ _ d1);replace d2:=Ext.cell xr (hCF _ _ d2);replace d3:=Ext.cell xr (hCF _ _ d3);have hne:=hid.out vs[k] (List.getElem_mem hlt);generalize vs[k]=u at*;obtain⟨ui,ur,uf,um⟩:=u;simp only at hne d0 d1 d2 d3;rw[<-Nat.add_assoc]at d1 d2 d3;have hn2:(ui != 0)=true:=by rw[bne_iff_ne];exact hne
   have hwk:=zH (IntWalk.wrap64_in ((k:Int)+1) zO);obtain⟨AR,cR,rfl,wJG,wJI⟩:=qG own;obtain⟨i0,hi,hz0,hz1,hz2⟩:=info_parts Tryz.info_vol;replace own:=zH own;clear hCF hbv hne;go_wp2_with (at_builtin;refine qY ?_);refine Qm.go (zZ _ rfl (.tmp 50) (.tmp 55) 91 rfl w3.heap.size 36 i0 (.agg #[.int .u32 0,.int .i64 0,.bool false,.int .u32 0]) 4 24 underlying91 hi hz0 hz1 hz2 rfl zA1 _ _ _ rfl own.out #[.int .u32 ui,.int .i64 ur,.bool uf,.int .u32 um] rfl rfl zA8 zO zA1 xr.size ?_);intro v8 w8 own8 _ hB8 _;have IR:=zH (wBE.out v8 w8 own8 hB8);clear own8 hB8 hi hz0 hz1 hz2 d0 d1 d2 d3;go_wp2_with fail;refine⟨IR.out,?_⟩;simp[intOf];omega
  ·obtain rfl:k=vs.length:=zO;rw[List.take_length]at own;obtain⟨AX,cX,rfl,-,-⟩:=qG own;have hx:=zH (Rd.of_own own);clear own;replace wOI:=zH (wOI.out.extW xr);have x4:=x3.trans xr;have rp4:=qb rp3 xr;have rq4:=qb rq3 xr;generalize wr=w4 at*;clear xr hrd rp3 rq3 x3;go_wp2_with fail;go_loopw [12,14] (λv i wr=>SmI vs w4 v i wr) (λ_ i _=>vs.length-(intOf i).toNat)
   case atStart=>exact⟨0,Nat.zero_le _,rfl,World.ownsRow_nil _ _ _ _,Ext.refl _⟩
   case round=>
    obtain⟨k,hk,rfl,own,xr⟩:=hrel.ex;clear hrel;by_cases hlt:k<vs.length
    ·have wBE:=zH (λv' w'=>@SmI.next vs w4 wr w' v' k hlt xr);obtain⟨bv,ov,rfl,hbv,hCF⟩:=wOI.out.2 zO;obtain⟨d0,d1,d2,d3⟩:=vX vs k hlt;replace d0:=Ext.cell xr (hCF _ _ d0);replace d1:=Ext.cell xr (hCF _ _ d1);replace d2:=Ext.cell xr (hCF _ _ d2);replace d3:=Ext.cell xr (hCF _ _ d3);have hne:=hid.out vs[k] (List.getElem_mem hlt);generalize vs[k]=u at*;obtain⟨ui,ur,uf,um⟩:=u;simp only at hne d0 d1 d2 d3;rw[<-Nat.add_assoc]at d1 d2 d3;have hn2:(ui != 0)=true:=by rw[bne_iff_ne];exact hne
     have hwk:=zH (IntWalk.wrap64_in ((k:Int)+1) zO);obtain⟨AR,cR,rfl,wJG,wJI⟩:=qG own;obtain⟨i0,hi,hz0,hz1,hz2⟩:=info_parts Tryz.info_vol;replace own:=zH own;clear hCF hbv hne;go_wp2_with (at_builtin;refine qY ?_);refine Qm.go (zZ _ rfl (.tmp 70) (.tmp 75) 91 rfl w4.heap.size 36 i0 (.agg #[.int .u32 0,.int .i64 0,.bool false,.int .u32 0]) 4 24 underlying91 hi hz0 hz1 hz2 rfl zA1 _ _ _ rfl own.out #[.int .u32 ui,.int .i64 ur,.bool uf,.int .u32 um] rfl rfl zA8 zO zA1 xr.size ?_);intro v8 w8 own8 _ hB8 _;have IR:=zH (wBE.out v8 w8 own8 hB8);clear own8 hB8 hi hz0 hz1 hz2 d0 d1 d2 d3;go_wp2_with fail;refine⟨IR.out,?_⟩;simp[intOf];omega
    ·obtain rfl:k=vs.length:=zO;rw[List.take_length]at own;obtain⟨AY,cY,rfl,-,-⟩:=qG own;have hy:=zH (Rd.of_own own);clear own;have hx5:=zH (hx.out.extW xr);have x5:=x4.trans xr;have rp5:=qb rp4 xr;have rq5:=qb rq4 xr;generalize wr=w5 at*;clear xr wOI rp4 rq4 x4 hx;go_wp2_with fail;go_loopw [6,15,16,17,18,19,20] (λ_ i _ _ _ _ _ wr=>∃k:Nat,k<=vs.length/\i=.int .i64 (k:Int)/\Ext w5 wr) (λ_ i _ _ _ _ _ _=>vs.length-(intOf i).toNat)
     case atStart=>exact⟨0,Nat.zero_le _,rfl,Ext.refl _⟩
     case round=>
      obtain⟨k,hk,rfl,xr⟩:=hrel;by_cases hlt:k<vs.length
      ·have HRk:=zH (λW (hx:Ext wr W)=>HR.out k hlt W ((x5.trans xr).trans hx));have HRk':=zH (λW (hx:Ext wr W)=>HR'.out k hlt W ((x5.trans xr).trans hx));obtain⟨bx,ox,rfl,hbx,hcx⟩:=hx5.out.2 zO;obtain⟨bb,oy,rfl,hby,hcy⟩:=hy.out.2 zO;obtain⟨f0,f1,f2,f3⟩:=vX vs k hlt;have e0:=Ext.cell xr (hcy _ _ f0);have e1:=Ext.cell xr (hcy _ _ f1);have e2:=Ext.cell xr (hcy _ _ f2);have e3:=Ext.cell xr (hcy _ _ f3);replace f0:=Ext.cell xr (hcx _ _ f0);replace f1:=Ext.cell xr (hcx _ _ f1);replace f2:=Ext.cell xr (hcx _ _ f2);replace f3:=Ext.cell xr (hcx _ _ f3);obtain⟨zs,hzs⟩:∃zs,allS S vs[k].root=zs:=⟨_,rfl⟩
       have hzl:zs.length<=15625:=by rw[<-hzs];exact qla _ _ _ _
       rw[hzs]at HRk HRk';generalize vs[k]=u at*;obtain⟨ui,ur,uf,um⟩:=u;simp only at f0 f1 f2 f3 e0 e1 e2 e3;rw[<-Nat.add_assoc]at f1 f2 f3 e1 e2 e3;have hwk:=zH (IntWalk.wrap64_in ((k:Int)+1) zO);have hltH:=zH hlt;clear hcx hcy hbx hby hzs;generalize hwo:wr=wo at*;clear hwo;have rpo:=qb rp5 xr;have rqo:=qb rq5 xr;have gP:∀W,qj.r wo W->∀i,W.cell? ⟨w.heap.size,i,none⟩=(Qk (.slice A1 n1 c1) (.slice A2 n2 c2) (.slice A3 n3 c3) (.slice A4 n4 c4) gen root next (.slice A5 dead.length c5))[i]?:=λW h=>qa (qb rpo h);have gQ:∀W,qj.r wo W->∀i,W.cell? ⟨w.heap.size+1,i,none⟩=(Qk (.slice B1 m1 d1) (.slice B2 m2 d2) (.slice B3 m3 d3) (.slice B4 m4 d4) gen' root' next' (.slice B5 dead'.length d5))[i]?:=λW h=>qa (qb rqo h);have g1:∀W,qj.r wo W->W.cell? ⟨bx,ox+k*4+1,none⟩=some (.int .i64 ur):=λW h=>Ext.cell h f1;go_upto_region 21 with fail;refine qt zQ ?_;refine qX (w:=wo) qj (qQ [(9,qec wo.heap.size zs)]) (List.replicate 15 true) 0 zQ zQ zQ zQ zQ zQ zQ ?st (Rel.drew _ _) ?walk
       case st=>exact qi (by simp only[List.forall_mem_cons];exact⟨λp=>Qo (Gb _ _ p),λ_ h=>by cases h⟩)
       case walk=>
       intro K hK;dsimp only[qw,List.replicate];refine zD2 ?_;refine qH (qec wo.heap.size zs) zA0 zA0 (λW hW _=>?_) (λp9=>?_)
       ·have hW:Ext wo W:=hW;refine YG ?_ ((HRk.out W hW).mono λe w' h=>?_)
        ·go_simp
        obtain⟨u,rfl,⟨ps,q,rfl,hps,hR,-⟩,hB⟩:=h;obtain⟨hBC,A,c,rfl⟩:=hR.its (zM _);have hl:ps.length=zs.length:=by rw[<-List.length_map (f:=(·.1)),hps]
        rw[hps,hl]at hBC;exact⟨(A,c),by rw[hl];rfl,hBC.mono hW.size,hB⟩
       obtain⟨AP,cAP⟩:OA×Nat:=p9;refine zD2 ?_;refine qD (hK _ _ λW hW hF=>?_);have hP:Hid (ZB wo.heap.size W (.slice AP zs.length cAP) zs):=zH (hF 9).1;have hW:Ext wo W:=hW;clear hF hK gP gQ g1 HRk;replace HRk':=zH (λV (hx:Ext W V)=>HRk'.out V (hW.trans hx));have rqW:=qb rqo hW;replace e0:=Ext.cell hW e0;replace e1:=Ext.cell hW e1;replace e2:=Ext.cell hW e2;replace e3:=Ext.cell hW e3;replace f0:=Ext.cell hW f0;replace f1:=Ext.cell hW f1;replace f2:=Ext.cell hW f2;replace f3:=Ext.cell hW f3;have xW:=zH (xr.trans hW);clear hW rpo rqo;refine zB6 ?_;go_wp2;refine Qn ?_;go_upto_region 22 with fail;have gQ:∀V,qj.r W V->∀i,V.cell? ⟨w.heap.size+1,i,none⟩=(Qk (.slice B1 m1 d1) (.slice B2 m2 d2) (.slice B3 m3 d3) (.slice B4 m4 d4) gen' root' next' (.slice B5 dead'.length d5))[i]?:=λV h=>qa (qb rqW h);have g1:∀V,qj.r W V->V.cell? ⟨bb,oy+k*4+1,none⟩=some (.int .i64 ur):=λV h=>Ext.cell h e1;refine qt zQ ?_;refine qX (w:=W) qj (qQ [(9,qec W.heap.size zs)]) (List.replicate 15 true) 0 zQ zQ zQ zQ zQ zQ zQ ?st (Rel.drew _ _) ?walk
       case st=>exact qi (by simp only[List.forall_mem_cons];exact⟨λp=>Qo (Gb _ _ p),λ_ h=>by cases h⟩)
       case walk=>
       intro K hK;dsimp only[qw,List.replicate];refine zD2 ?_;refine qH (qec W.heap.size zs) zA0 zA0 (λV hV _=>?_) (λp9=>?_)
       ·have hV:Ext W V:=hV;refine YG ?_ ((HRk'.out V hV).mono λe w' h=>?_)
        ·go_simp
        obtain⟨u,rfl,⟨ps,q,rfl,hps,hR,-⟩,hB⟩:=h;obtain⟨hBC,A,c,rfl⟩:=hR.its (zM _);have hl:ps.length=zs.length:=by rw[<-List.length_map (f:=(·.1)),hps]
        rw[hps,hl]at hBC;exact⟨(A,c),by rw[hl];rfl,hBC.mono hV.size,hB⟩
       obtain⟨AQ,cAQ⟩:OA×Nat:=p9;refine zD2 ?_;refine qD (hK _ _ λV hV hF=>?_);have hQ:Hid (ZB W.heap.size V (.slice AQ zs.length cAQ) zs):=zH (hF 9).1;have hV:Ext W V:=hV;replace hP:=zH (hP.out.ext hV);clear hF hK gQ g1 HRk';replace e0:=Ext.cell hV e0;replace e1:=Ext.cell hV e1;replace e2:=Ext.cell hV e2;replace e3:=Ext.cell hV e3;replace f0:=Ext.cell hV f0;replace f1:=Ext.cell hV f1;replace f2:=Ext.cell hV f2;replace f3:=Ext.cell hV f3;replace xW:=zH (xW.out.trans hV);clear hV rqW;refine zB6 ?_;go_wp2;refine Qn ?_;go_upto_region 23 with fail;have hV0:qj.r V V:=Ext.refl V;have g0:∀X,qj.r V X->X.cell? ⟨bx,ox+k*4,none⟩=some (.int .u32 ui):=λX h=>Ext.cell h f0;have j0:∀X,qj.r V X->X.cell? ⟨bb,oy+k*4,none⟩=some (.int .u32 ui):=λX h=>Ext.cell h e0;have g1:∀X,qj.r V X->X.cell? ⟨bx,ox+k*4+1,none⟩=some (.int .i64 ur):=λX h=>Ext.cell h f1;have j1:∀X,qj.r V X->X.cell? ⟨bb,oy+k*4+1,none⟩=some (.int .i64 ur):=λX h=>Ext.cell h e1;have g2:∀X,qj.r V X->X.cell? ⟨bx,ox+k*4+2,none⟩=some (.bool uf):=λX h=>Ext.cell h f2;have j2:∀X,qj.r V X->X.cell? ⟨bb,oy+k*4+2,none⟩=some (.bool uf):=λX h=>Ext.cell h e2;have g3:∀X,qj.r V X->X.cell? ⟨bx,ox+k*4+3,none⟩=some (.int .u32 um):=λX h=>Ext.cell h f3;have j3:∀X,qj.r V X->X.cell? ⟨bb,oy+k*4+3,none⟩=some (.int .u32 um):=λX h=>Ext.cell h e3;clear f0 f1 f2 f3 e0 e1 e2 e3 hV0;refine qt zQ ?_;refine qX (w:=V) qj (qQ []) (List.replicate 24 true) 0 zQ zQ zQ zQ zQ zQ zQ ?st (Rel.drew _ _) ?walk
       case st=>exact qi (by intro _ h;cases h)
       case walk=>
       intro K hK;dsimp only[qw,List.replicate];refine zD2 ?_;refine qD (hK _ _ λX hX hF=>?_);have hX:Ext V X:=hX;clear hF hK g0 g1 g2 g3 j0 j1 j2 j3;have xX:=zH (xW.out.trans hX);replace hP:=zH (hP.out.ext hX).its;replace hQ:=zH (hQ.out.ext hX).its;have hA:=hP.out.at_.2.2.2;have hA':=hQ.out.at_.2.2.2;clear hX xW;refine zB6 ?_;go_wp2;refine Qn ?_;go_wp2_with fail;go_loopw [6,20] (λ_ i wr=>∃j:Nat,j<=zs.length/\i=.int .i64 (j:Int)/\Ext X wr) (λ_ i _=>zs.length-(intOf i).toNat)
       case atStart=>exact⟨0,Nat.zero_le _,rfl,Ext.refl _⟩
       case round=>
        obtain⟨n,hn,rfl,yr⟩:=hrel;by_cases hlu:n<zs.length
        ·obtain⟨b,off,rfl,hb⟩:=hA zO;obtain⟨b',off',rfl,hb'⟩:=hA' zO;obtain⟨Y1,y1,f0,f1,f2,f3,f4,hby⟩:=(hP.out.ext yr).item n hlu;obtain⟨Y2,y2,e0,e1,e2,e3,e4,wGE⟩:=(hQ.out.ext yr).item n hlu;generalize zs[n]=x at*;have hw1:=zH (IntWalk.wrap64_in ((n:Int)+1) zO);have HC:=zH (λW (hx:Ext wr W)=>qdR x.k x.i x.o x.r x.k x.i x.o x.r Y1 Y2 x.val.length y1 x.val.length y2 x.val x.val W ((hby.below hx).more hx.size) ((wGE.below hx).more hx.size));go_wp2_with fail;have g0:∀W,qj.r wr W->W.cell? ⟨b,off+n*5,none⟩=some (.int .u8 x.k):=λW h=>Ext.cell h f0;have g1:∀W,qj.r wr W->W.cell? ⟨b,off+n*5+1,none⟩=some (.int .u32 x.i):=λW h=>Ext.cell h f1;have g2:∀W,qj.r wr W->W.cell? ⟨b,off+n*5+2,none⟩=some (.int .u32 x.o):=λW h=>Ext.cell h f2;have g3:∀W,qj.r wr W->W.cell? ⟨b,off+n*5+3,none⟩=some (.int .i64 x.r):=λW h=>Ext.cell h f3;have g4:∀W,qj.r wr W->W.cell? ⟨b,off+n*5+4,none⟩=some (.slice Y1 x.val.length y1):=λW h=>Ext.cell h f4;have k0:∀W,qj.r wr W->W.cell? ⟨b',off'+n*5,none⟩=some (.int .u8 x.k):=λW h=>Ext.cell h e0;have k1:∀W,qj.r wr W->W.cell? ⟨b',off'+n*5+1,none⟩=some (.int .u32 x.i):=λW h=>Ext.cell h e1;have k2:∀W,qj.r wr W->W.cell? ⟨b',off'+n*5+2,none⟩=some (.int .u32 x.o):=λW h=>Ext.cell h e2;have k3:∀W,qj.r wr W->W.cell? ⟨b',off'+n*5+3,none⟩=some (.int .i64 x.r):=λW h=>Ext.cell h e3;have k4:∀W,qj.r wr W->W.cell? ⟨b',off'+n*5+4,none⟩=some (.slice Y2 x.val.length y2):=λW h=>Ext.cell h e4;clear f0 f1 f2 f3 f4 e0 e1 e2 e3 e4 hby wGE;refine qt zQ ?_;refine qX (w:=wr) qj (qQ [(8,one (.bool true))]) [true,true,true,true,true,true,true,true,true,true] 0 zQ zQ zQ zQ zQ zQ zQ ?st (Rel.drew _ _) ?walk
         case st=>exact qi (by simp only[List.forall_mem_cons];exact⟨λp=>Qo (Zy _ p),λ_ h=>by cases h⟩)
         case walk=>
         intro K hK;dsimp only[qw];refine zD2 ?_;refine qH (one (.bool true)) zA0 zA0 (λW hW _=>?_) (λ(p:Unit)=>?_)
         ·refine YG ?_ ((HC.out W hW).mono λe w' h=>⟨(),by rw[h.1,qho];rfl,trivial,h.2⟩);go_simp
         refine zD2 ?_;refine qD (hK _ _ λW hW hF=>?_);clear hF hK g0 g1 g2 g3 g4 k0 k1 k2 k3 k4;have yW:Hid (Ext X W):=zH (yr.trans hW);have hw2:=hw1.out;refine zB6 ?_;go_wp2;refine Qn ?_;go_wp2_with fail;refine⟨⟨n+1,hlu,rfl,yW.out⟩,?_⟩;simp[intOf];omega
        ·obtain rfl:n=zs.length:=zO;have xr':=xX.out.trans yr;have hw2:=hwk.out;go_wp2_with fail;refine⟨⟨k+1,hltH.out,rfl,xr'⟩,?_⟩;simp[intOf];omega
      ·obtain rfl:k=vs.length:=zO;go_wp2_with fail;exact sm14_ret rfl rfl ⟨rfl,x5.trans xr⟩
def okOf{α:Type}(q:Except Int (Nat×α))(d:α):α:=match q with
 |.ok (_,x)=>x
 |.error _=>d
def isAt_{α:Type}(q:Except Int (Nat×α))(r:Nat):Bool:=match q with
 |.ok (n,_)=>decide (n=r)
 |.error _=>false
theorem qjN{α:Type}{q:Except Int (Nat×α)}{r:Nat}(d:α)(h:isAt_ q r=true):q=.ok (r,okOf q d):=by
 rcases q with e|⟨n,x⟩
 ·cases h
 ·simp only[isAt_,decide_eq_true_eq]at h;subst h;rfl
def st1:Sto:=okOf (qcf Qc) Qc
theorem qjZ:qcf Qc=.ok (9,st1):=qjN _ (by decide +kernel)
def vol1:Vol:=⟨1,9,false,0⟩
def st2:Sto:=okOf (qbe st1 8 vol1) st1
theorem qfy:qbe st1 8 vol1=.ok (10,st2):=qjN _ (by decide +kernel)
theorem qht:qhc st1 8 2 []=some ([],[8],[8]):=by decide +kernel
theorem qcI:qhc st2 10 2 []=some ([vol1],[9,10],[10,9]):=by decide +kernel
theorem st1_ok:okL st1 (-1) 9=true:=by decide +kernel
theorem st1_fask:jJ st1 2 vol1 [] (λb=>[8].count b)=0:=by decide +kernel
theorem ZC.not{S:Sto}{root next:Int}{dead:List Int}{vs:List Vol}{met refs:List Nat}(hb:ZC S root next dead)(h:qhc S root next dead=some (vs,met,refs)):False:=by obtain⟨h1,h2,h3⟩:=qcq h;obtain⟨refs',nodes',hc,hn⟩:=hb vs h1;obtain⟨_,e⟩:=Jy.same hc.mkd h2.mkd;subst e;exact hn h3
theorem set1{w w':World}{e:Ending}(h:SetQ st1 0 8 2 [] vol1 w e w'):Below w.heap.size w w'/\∃u,e=.returned (.tuple #[u,.int .i64 0])/\Xo w.heap.size st2 0 10 2 [] u w':=by
 obtain⟨hB,h⟩:=h;refine⟨hB,?_⟩;rcases h with⟨_,hb⟩|⟨vs,refs,nodes,hp,hc,he,h⟩
 ·exact(hb.not qht).elim
 ·obtain⟨h1,h2,h3⟩:=qcq qht;obtain⟨rfl,rfl,-⟩:=QR.unique h1 h2 hp hc;rcases h with⟨er,hne,_,h⟩|⟨r,S',vs',u,_,hs,_,rfl,hN⟩
  ·exfalso;rcases h with h|⟨_,h|⟨_,r,S',h,hb⟩⟩
   ·rw[st1_fask]at h;exact hne h.symm
   ·rw[qfy]at h;cases h
   ·rw[qfy]at h;simp only[Except.ok.injEq,Prod.mk.injEq]at h;obtain⟨rfl,rfl⟩:=h;exact hb.not qcI
  ·rw[qfy]at hs;simp only[Except.ok.injEq,Prod.mk.injEq]at hs;obtain⟨rfl,rfl⟩:=hs;exact⟨u,rfl,hN⟩
theorem jH.nil_(w:World)(B:Nat):jH w B (.slice none 0 0) []:=⟨none,0,rfl,zM _,by simp[maxLen],Rd.none_⟩
theorem qjk{R:Ending->World->Prop}{a:Act}{W:World}{b:Nat}{x0 x1 x2 x3 x4 x5 x6 x7 v:Value}(h4:a.tmps[0]?.getD undef=.pointer (some ⟨b,0,none⟩))(h5:a.tmps[1]?.getD undef=v)(hd:a.defers=[])(hBT:W.heap[b]?=some (.cells #[x0,x1,x2,x3,x4,x5,x6,x7] 32 (0,0)))(hR:R (.returned (.tuple #[.agg #[x0,x1,x2,x3,x4,x5,x6,x7],v])) W):bodyPost prog Tryz.f57 R .ret a W:=by
 refine bodyPost_ret (v:=.tuple #[.agg #[x0,x1,x2,x3,x4,x5,x6,x7],v]) ?_ hd hR;have k:=qa hBT;simp[results,results57,go_sem,h4,h5,k]
set_option maxRecDepth 100000 in
theorem qjj(w:World):Calls prog 57 #[] w (zm (λu W=>∃v,u=.tuple #[v,.bool true]/\Xo w.heap.size st2 0 10 2 [] v W) w):=by
 go_enter func57,ntmps57;go_wp2_with fail;generalize hw1:World.alloc _ _=w1;have x1:Ext w w1:=by rw[<-hw1];exact zN _ _
 have q1:w1.heap[w.heap.size]?=some (.cells (Qk (.slice none 0 0) (.slice none 0 0) (.slice none 0 0) (.slice none 0 0) 0 0 0 (.slice none 0 0)) 32 (0,0)):=by rw[<-hw1];exact zI _ _ _ zA3
 clear hw1;refine(fnew_any w1).mono ?_;rintro e w2 ⟨u,rfl,hp,hB⟩;have x12:Ext w1 w2:=hB;have x2:Ext w w2:=x1.trans x12;have q2:=qb q1 x12;obtain⟨A1,c1,A2,c2,A3,c3,A4,c4,rfl,hS⟩:=hp.sto;obtain⟨l1,l2,l3,l4⟩:=Xv;have HN:=zH (λW (hx:Ext w2 W)=>pnew_any A1 256 c1 A2 1 c2 A3 256 c3 A4 256 c4 Qc W (hS.ext hx));rw[qjZ]at HN;clear hS hp l1 l2 l3 l4 hB;go_wp2_with fail;generalize hw3:World.alloc w2 _=w3;have x23:Ext w2 w3:=by rw[<-hw3];exact zN _ _
 have p3:w3.heap[w2.heap.size]?=some (.cells (Qk (.slice A1 256 c1) (.slice A2 1 c2) (.slice A3 256 c3) (.slice A4 256 c4) 0 8 1 (.slice none 0 0)) 32 (0,0)):=by rw[<-hw3];exact zI _ _ _ zA3
 clear hw3;refine(HN.out w3 x23).mono ?_;clear HN;rintro e w4 ⟨u,rfl,⟨v,rfl,hT⟩,hB⟩;have x34:Ext w3 w4:=hB;have p4:=qb p3 x34;have q4:=qb q2 (x23.trans x34);have x4:Ext w w4:=(x2.trans x23).trans x34;obtain⟨BB,WW,gg,B3,d3,B4,d4,rfl,-⟩:=id hT;have hns:=zH (GO (hT.newSto (jF (newE_may qjZ).2.2.1)));have kp4:=qa p4;have fp4:=qg p4;have zp4:=(zG.1 p4).1;have z23:w2.heap.size<w3.heap.size:=(zG.1 p3).1;clear hB hT p3 q2 x2;go_wp2_with fail;generalize hw5:World.alloc (World.setCell (World.setCell (World.setCell (World.setCell (World.setCell w4 _ _) _ _) _ _) _ _) _ _) _=w5;have z45:w4.heap.size<=w5.heap.size:=by rw[<-hw5];simp
 have o5:∀k,k<w4.heap.size->k≠w2.heap.size->w5.heap[k]?=w4.heap[k]?:=λk h1 h2=>by rw[<-hw5,zK _ _ _ (by simpa using h1),zJ _ _ _ _ h2,zJ _ _ _ _ h2,zJ _ _ _ _ h2,zJ _ _ _ _ h2,zJ _ _ _ _ h2]
 have z12:w1.heap.size<=w2.heap.size:=x12.size;have x5:Below w.heap.size w w5:=by rw[<-hw5];have:=x1.size;have:=x4.size;exact Below.alloc (Below.setCell (vR x4 (b:=w2.heap.size) zO _ _ _ _) (p:=⟨w2.heap.size,6,none⟩) zA2 _) (by simpa using this) _
 clear hw5 kp4 fp4;have wKY:=(hns.out w5 (qaL λk h1 h2=>o5 k h2 zO)).more z45;have z01:w.heap.size<w1.heap.size:=(zG.1 q1).1;have q5:=(o5 w.heap.size zO zO).trans q4;have HS:=zH (qgy (some ⟨BB,0,none⟩) st1.bs.length st1.bs.length (some ⟨WW,0,none⟩) st1.ws.length (st1.ws.length+1) B3 st1.now.length d3 B4 st1.last.length d4 0 8 2 none 0 st1 [] vol1 (by refine⟨⟨?_,?_⟩,⟨?_,?_⟩,⟨?_,?_⟩⟩<;>decide) (λ_ _ _=>st1_ok) w5 wKY (jH.nil_ _ _));clear wKY hns q4 p4;refine HS.out.mono ?_;clear HS;intro e w6 hq;obtain⟨hB6,u,rfl,hN⟩:=set1 hq;have x6:Below w.heap.size w w6:=x5.trans (Below.mono hB6 x5.size);have q6:=qb q5 hB6;obtain⟨E1,m1,E2,m2,E3,m3,E4,m4,E5,m5,rfl,-⟩:=id hN;have kq:=qa q6;have fq:=qg q6;have zq:=(zG.1 q6).1;replace hN:=zH hN;clear hq hB6 q5;go_wp2_with fail;refine qjk (b:=w.heap.size) rfl rfl rfl (qb (row8 q6 _ _ _ _ _ _ _ _) (zN _ _)) ⟨_,rfl,⟨_,rfl,Xo.keep hN.out x5.size zA3 λk h1 h2=>?_⟩,Below.alloc (Yy x6 (zM _) _ _ _ _ _ _ _ _) (by have:=x6.size;simpa using this) _⟩;exact(zK _ _ _ (by simpa using h2)).trans (qiL zO _ _ _ _ _ _ _ _)
theorem qfR{R:Ending->World->Prop}{a:Act}{W:World}{v:Value}(h0:a.tmps[0]?.getD undef=v)(hd:a.defers=[])(hR:R (.returned v) W):bodyPost prog Tryz.f15 R .ret a W:=by refine bodyPost_ret (v:=v) ?_ hd hR;simp[results,results15,go_sem,h0]
theorem st2_vol{w w':World}{e:Ending}(h:VolFQ st2 10 2 [] 1 w e w'):e=.returned (volQ (some vol1)):=by
 obtain⟨h1,h2,h3⟩:=qcq qcI;rcases h.2 with⟨_,hb⟩|⟨vs,refs,nodes,hp,hc,_,rfl⟩
 ·exact(ZC.not hb qcI).elim
 ·obtain⟨rfl,-,-⟩:=QR.unique h1 h2 hp hc;rfl
set_option maxRecDepth 100000 in
theorem qfQ(w:World):Calls prog 15 #[] w (Ret (.bool true) w):=by
 go_enter func15,ntmps15;go_wp2_with fail;refine(qjj w).mono ?_;rintro e w1 ⟨u,rfl,⟨v,rfl,hN⟩,hB⟩;have x1:Ext w w1:=hB;obtain⟨A1,c1,A2,c2,A3,c3,A4,c4,A5,c5,rfl,hS,hI⟩:=hN.sto;have HV:=zH (λW (hx:Ext w1 W)=>UF A1 _ c1 A2 _ c2 A3 _ c3 A4 _ c4 0 10 2 A5 c5 st2 [] 1 W (hS.ext hx) (hI.ext_ hx));clear hS hI hN hB;go_wp2_with fail;generalize hw2:World.alloc w1 _=w2;have x12:Ext w1 w2:=by rw[<-hw2];exact zN _ _
 clear hw2;refine(HV.out w2 x12).mono ?_;clear HV;intro e w3 hq;have x3:Ext w w3:=(x1.trans x12).trans hq.1;obtain rfl:=st2_vol hq;clear hq;unfold volQ;go_wp2_with fail;exact qfR rfl rfl ⟨rfl,x3.trans (zN _ _)⟩
def VF(ls:List (List UInt8)):Nat:=(ls.map λl=>min l.length 1000000).sum
theorem qcH{ls:List (List UInt8)}{k:Nat}(h:k<ls.length):VF (ls.take (k+1))=VF (ls.take k)+min ls[k].length 1000000:=by unfold VF;rw[List.take_succ_eq_append_getElem h,List.map_append,List.sum_append];simp
theorem sizeL_le(ls:List (List UInt8)):VF ls<=ls.length*1000000:=by
 induction ls with
 |nil=>simp[VF]
 |cons l r ih=>simp only[VF,List.map_cons,List.sum_cons,List.length_cons]at ih⊢;omega
theorem TG{ls:List (List UInt8)}{n:Nat}(h:ls.length<=n)(k:Nat):VF (ls.take k)<=n*1000000:=by
 have h1:=sizeL_le (ls.take k);have h2:(ls.take k).length<=n:=by rw[List.length_take];omega
 have h3:(ls.take k).length*1000000<=n*1000000:=Nat.mul_le_mul_right _ h2;exact Nat.le_trans h1 h3
def qgB(n m:Nat):Bool:=decide (300<n\/5000<m\/(600<m/\m<4096))
def Xz(bs:List (List UInt8))(ws:List (Int×List UInt8)):Bool:=qgB bs.length ws.length||decide (800000<VF bs+VF (ws.map (·.2)))
set_option maxRecDepth 100000 in
theorem qil(A1 n1 c1 A2 n2 c2)(bs:List (List UInt8))(ws:List (Int×List UInt8))(w:World)(hb:Bls w w.heap.size (.slice A1 n1 c1) bs)(hw:Wrs w w.heap.size (.slice A2 n2 c2) ws):Calls prog 107 #[Xu A1 n1 c1 A2 n2 c2] w (Ret (.bool (Xz bs ws)) w):=by
 obtain⟨e1,hc1,hm1,hA1⟩:=hb.at_;obtain⟨e2,hc2,hm2,hA2⟩:=hw.at_;subst e1;subst e2;by_cases hh:qgB bs.length ws.length=true
 case pos=>
  have hM:Xz bs ws=true:=by unfold Xz;rw[hh];rfl
  rw[hM];have hh':300<bs.length\/5000<ws.length\/(600<ws.length/\ws.length<4096):=by simpa [qgB]using hh
  clear hM hb hw hA1 hA2 hh;generalize bs.length=n1 at*;generalize ws.length=n2 at*;go_enter func107,ntmps107;go_wp2;all_goals try simp only[beq_iff_eq,beq_eq_false_iff_ne,ne_eq,bne_iff_ne,bne_eq_false_iff_eq]at*
  all_goals first|(exfalso;omega)|skip
  all_goals go_ret
  all_goals exact⟨rfl,zA5⟩
 case neg=>
  have hM:Xz bs ws=decide (800000<VF bs+VF (ws.map (·.2))):=by unfold Xz;rw[show qgB bs.length ws.length=false by simpa using hh];rfl
  have hh':¬(300<bs.length\/5000<ws.length\/(600<ws.length/\ws.length<4096)):=by simpa [qgB]using hh
  have hn1:bs.length<=300:=zO;have hn2:ws.length<=5000:=zO;have hn3:¬(600<ws.length/\ws.length<4096):=λh=>hh' (.inr (.inr h));rw[hM];clear hM hh hh';have HB:=zH hb;have HW:=zH hw;have HTB:=zH (λk h=>@qcH bs k h);have HTW:=zH (λk (h:k<(ws.map (·.2)).length)=>@qcH (ws.map (·.2)) k h);have HLB:=zH (λk=>TG hn1 k);have HLW:=zH (λk=>TG (ls:=ws.map (·.2)) (n:=5000) (by rw[List.length_map];exact hn2) k);have HE1:Hid (bs.take bs.length=bs):=zH (List.take_length);have HE2:Hid ((ws.map (·.2)).take ws.length=ws.map (·.2)):=zH (by rw[<-List.length_map (f:=(·.2))];exact List.take_length);clear hb hw;have hd1:decide ((bs.length:Int)>300)=false:=decide_eq_false zO;have hd2:decide ((ws.length:Int)>5000)=false:=decide_eq_false zO;go_enter func107,ntmps107;go_wp2;all_goals first|(exfalso;omega)|skip
  all_goals
   generalize hw1:(World.alloc _ _)=w1;have x1:Ext w w1:=by rw[<-hw1];exact zN _ _
   have r1:w1.heap[w.heap.size]?=some (.cells #[.slice A1 bs.length c1,.slice A2 ws.length c2] 25 (0,0)):=by rw[<-hw1];exact zI _ _ _ rfl
   clear hw1;go_loopw [3,4] (λt i wr=>∃k:Nat,k<=bs.length/\i=.int .i64 (k:Int)/\t=.int .i64 (VF (bs.take k):Int)/\Ext w1 wr) (λ_ i _=>bs.length-(intOf i).toNat)
   case atStart=>exact⟨0,zO,rfl,rfl,Ext.refl _⟩
   case round=>
    obtain⟨k,hk,rfl,rfl,hE⟩:=hrel;have hEw:=x1.trans hE;have rr:=qb r1 hE;have kr:=qa rr;have hlb:=HLB.out k;by_cases hlt:k<bs.length
    ·have hCB:=hlt;obtain⟨b1,o1,rfl,hb1⟩:=hA1 zO;obtain⟨A',c',hc,hby⟩:=((HB.out.below hEw).more hEw.size).get k hlt;have hm64:=hby.at_.2.1;have wRT:=hby.at_.2.2.1;have ht:=HTB.out k hlt;replace ht:=zH ht;clear hby;unfold maxLen at wRT;generalize bs[k].length=m at*;generalize VF (bs.take k)=q at*;go_wp2;go_roundw
     case rel=>exact⟨k+1,zO,by go_num,by rw[ht.out];go_num,hE⟩
     case measure=>simp[intOf];omega
    ·obtain rfl:k=bs.length:=zO;rw[HE1.out]at hlb⊢;clear HB HTB HLB r1 hd1 hd2;go_wp2;clear kr;go_loopw [3,5] (λt i wq=>∃j:Nat,j<=ws.length/\i=.int .i64 (j:Int)/\t=.int .i64 ((VF bs+VF ((ws.map (·.2)).take j):Nat):Int)/\Ext wr wq) (λ_ i _=>ws.length-(intOf i).toNat)
     case atStart=>exact⟨0,zO,rfl,rfl,Ext.refl _⟩
     case round=>
      obtain⟨j,hj,rfl,rfl,hE2⟩:=hrel;have hEq:=hEw.trans hE2;have kr:=qa (qb rr hE2);have hlw:=HLW.out j;by_cases hlt2:j<ws.length
      ·have wWQ:=hlt2;obtain⟨b2,o2,rfl,hb2⟩:=hA2 zO;obtain⟨A',c',hca,hcb,hby⟩:=((HW.out.below hEq).more hEq.size).get j hlt2;have hm64:=hby.at_.2.1;have wRT:=hby.at_.2.2.1;have ht:=HTW.out j (by rw[List.length_map];exact hlt2);rw[List.getElem_map]at ht;replace ht:=zH ht;clear hby;unfold maxLen at wRT;generalize ws[j].2.length=m at*;generalize ws[j].1=a at*;generalize VF ((ws.map (·.2)).take j)=q at*;generalize VF bs=s0 at*;go_wp2;go_roundw
       case rel=>exact⟨j+1,zO,by go_num,by rw[ht.out];go_num,hE2⟩
       case measure=>simp[intOf];omega
      ·obtain rfl:j=ws.length:=zO;rw[HE2.out]at hlw⊢;go_wp2;go_ret;refine⟨VE ?_,hEq⟩;rw[Bool.eq_iff_iff];simp;omega
def GI(S:Sto):Bool:=Xz S.bs S.ws||(decide (10000<S.now.length)||decide (10000<S.last.length))
abbrev poolV(A1:OA)(n1 c1:Nat)(A2:OA)(n2 c2:Nat)(A3:OA)(n3 c3:Nat)(A4:OA)(n4 c4:Nat)(g r x:Int)(A5:OA)(n5 c5:Nat):Value:=
 .agg #[.slice A1 n1 c1,.slice A2 n2 c2,.slice A3 n3 c3,.slice A4 n4 c4,.int .u32 g,.int .i64 r,.int .u32 x,.slice A5 n5 c5]
set_option maxRecDepth 100000 in
theorem qim(A1 n1 c1 A2 n2 c2 A3 n3 c3 A4 n4 c4)(S:Sto)(w:World)(h:Qq w w.heap.size (.slice A1 n1 c1) (.slice A2 n2 c2) (.slice A3 n3 c3) (.slice A4 n4 c4) S):Calls prog 58 #[Qp A1 n1 c1 A2 n2 c2 A3 n3 c3 A4 n4 c4] w (Ret (.bool (GI S)) w):=by
 have HD:=zH (λW (hW:Ext w W)=>qil A1 n1 c1 A2 n2 c2 S.bs S.ws W (h.ext hW).bs (h.ext hW).ws);have e3:S.now.length=n3:=h.now.at_.1.symm;have e4:S.last.length=n4:=h.last.at_.1.symm;have hS:GI S=(Xz S.bs S.ws||(decide (10000<n3)||decide (10000<n4))):=by unfold GI;rw[e3,e4]
 rw[hS];clear hS h e3 e4;generalize Xz S.bs S.ws=d at*;go_enter func58,ntmps58;go_wp2_with fail;generalize hw1:(World.alloc _ _)=w1;have x1:Ext w w1:=by rw[<-hw1];exact zN _ _
 have r1:w1.heap[w.heap.size]?=some (.cells #[.slice A1 n1 c1,.slice A2 n2 c2,.slice A3 n3 c3,.slice A4 n4 c4] 28 (0,0)):=by rw[<-hw1];exact zI _ _ _ rfl
 clear hw1;refine(HD.out _ x1).mono ?_;rintro e w2 ⟨rfl,hB⟩;have x2:=x1.trans hB;have r2:=qb r1 hB;have k2:=qa r2;clear hB r1 x1 HD;cases d;all_goals
  go_wp2;all_goals
   go_ret;refine⟨VE ?_,x2⟩;rw[Bool.eq_iff_iff];simp;try omega
def qin(S:Sto)(dead:Nat):Bool:=GI S||decide (1000<dead)
set_option maxRecDepth 100000 in
theorem qgz(A1 n1 c1 A2 n2 c2 A3 n3 c3 A4 n4 c4)(g r x:Int)(A5:OA)(n5 c5:Nat)(S:Sto)(w:World)(h:Qq w w.heap.size (.slice A1 n1 c1) (.slice A2 n2 c2) (.slice A3 n3 c3) (.slice A4 n4 c4) S):Calls prog 16 #[poolV A1 n1 c1 A2 n2 c2 A3 n3 c3 A4 n4 c4 g r x A5 n5 c5] w (Ret (.bool (qin S n5)) w):=by
 have HD:=zH (λW (hW:Ext w W)=>qim A1 n1 c1 A2 n2 c2 A3 n3 c3 A4 n4 c4 S W (h.ext hW));have hS:qin S n5=(GI S||decide (1000<n5)):=rfl;rw[hS];clear hS h;generalize GI S=d at*;go_enter func16,ntmps16;go_wp2_with fail;generalize hw1:(World.alloc _ _)=w1;have x1:Ext w w1:=by rw[<-hw1];exact zN _ _
 have r1:w1.heap[w.heap.size]?=some (.cells #[.slice A1 n1 c1,.slice A2 n2 c2,.slice A3 n3 c3,.slice A4 n4 c4,.int .u32 g,.int .i64 r,.int .u32 x,.slice A5 n5 c5] 32 (0,0)):=by rw[<-hw1];exact zI _ _ _ rfl
 clear hw1;refine(HD.out _ x1).mono ?_;rintro e w2 ⟨rfl,hB⟩;have x2:=x1.trans hB;have r2:=qb r1 hB;have k2:=qa r2;clear hB r1 x1 HD;cases d;all_goals
  go_wp2;all_goals
   go_ret;refine⟨VE ?_,x2⟩;rw[Bool.eq_iff_iff];simp;try omega
theorem VolFQ.known_{S:Sto}{root next:Int}{dead:List Int}{id:Int}{w w':World}{e:Ending}{vs:List Vol}(h:VolFQ S root next dead id w e w')(hk:jq S root next dead vs):e=.returned (volQ (jf vs id)):=by
 obtain⟨refs,nodes,h1,h2,h3⟩:=hk;rcases h.2 with⟨_,hb⟩|⟨vs',refs',nodes',hp,hc,_,rfl⟩
 ·exact(ZC.no hb h1 h2 h3).elim
 ·obtain⟨rfl,-,-⟩:=QR.unique h1 h2 hp hc;rfl
theorem qhQ.no{S:Sto}{gen root next:Int}{dead:List Int}{id:Int}{w w':World}{e:Ending}{er:Int}(h:qhQ S gen root next dead id w e w')(hn:(er=8/\ZC S root next dead)\/(er=6/\∃vs,jq S root next dead vs/\jf vs id=none)):e=.returned (.tuple #[qaK,.int .i64 er]):=by
 rcases hn with⟨rfl,hb⟩|⟨rfl,vs,⟨refs,nodes,h1,h2,h3⟩,hv⟩
 ·rcases h.2 with⟨er,hne,rfl,hE⟩|⟨vs',v,r,S4,u,⟨refs,nodes,k1,k2,k3⟩,-⟩
  ·rcases hE with⟨rfl,_⟩|⟨vs',⟨refs,nodes,k1,k2,k3⟩,_⟩
   ·rfl
   ·exact(ZC.no hb k1 k2 k3).elim
  ·exact(ZC.no hb k1 k2 k3).elim
 ·rcases h.2 with⟨er,hne,rfl,hE⟩|⟨vs',v,r,S4,u,⟨refs',nodes',k1,k2,k3⟩,k4,-⟩
  ·rcases hE with⟨_,hb⟩|⟨vs',⟨refs',nodes',k1,k2,k3⟩,⟨rfl,_⟩|⟨v,k4,_⟩⟩
   ·exact(ZC.no hb h1 h2 h3).elim
   ·rfl
   ·obtain rfl:=QR.same h1 k1;rw[hv]at k4;cases k4
  ·obtain rfl:=QR.same h1 k1;rw[hv]at k4;cases k4
theorem UE{R:Ending->World->Prop}{a:Act}{W:World}{u:Value}(h4:a.tmps[4]?.getD undef=u)(hd:a.defers=[])(hR:R (.returned u) W):bodyPost prog Tryz.f3 R .ret a W:=by refine bodyPost_ret (v:=u) ?_ hd hR;simp[results,results3,go_sem,h4]
set_option maxRecDepth 100000 in
theorem ftw_any(A1 n1 c1 A2 n2 c2 A3 n3 c3 A4 n4 c4)(gen root next:Int)(A5 c5)(S:Sto)(dead:List Int)(id:Int)(w:World)(h:Qq w w.heap.size (.slice A1 n1 c1) (.slice A2 n2 c2) (.slice A3 n3 c3) (.slice A4 n4 c4) S)(hd:jH w w.heap.size (.slice A5 dead.length c5) dead):Calls prog 3 #[.agg (Qk (.slice A1 n1 c1) (.slice A2 n2 c2) (.slice A3 n3 c3) (.slice A4 n4 c4) gen root next (.slice A5 dead.length c5)),.int .u32 id] w (Ret (.bool true) w):=by
 have HG:=zH (λW (hx:Ext w W)=>qgz A1 n1 c1 A2 n2 c2 A3 n3 c3 A4 n4 c4 gen root next A5 dead.length c5 S W (h.ext hx));have HO:=zH (λW (hx:Ext w W)=>UF A1 n1 c1 A2 n2 c2 A3 n3 c3 A4 n4 c4 gen root next A5 c5 S dead id W (h.ext hx) (hd.ext_ hx));have HU:=zH (λW (hx:Ext w W)=>qbG A1 n1 c1 A2 n2 c2 A3 n3 c3 A4 n4 c4 gen root next A5 c5 S dead id W (h.ext hx) (hd.ext_ hx));replace⟨h,hd⟩:=zH2 h hd;go_enter func3,ntmps3;go_wp2_with fail;generalize hw1:World.alloc w _=w1;have x1:Ext w w1:=by rw[<-hw1];exact zN _ _
 have rp1:w1.heap[w.heap.size]?=some (.cells (Qk (.slice A1 n1 c1) (.slice A2 n2 c2) (.slice A3 n3 c3) (.slice A4 n4 c4) gen root next (.slice A5 dead.length c5)) 32 (0,0)):=by rw[<-hw1];exact zI _ _ _ rfl
 clear hw1;refine(qfQ w1).mono ?_;rintro e w2 ⟨rfl,hB⟩;have x2:Ext w w2:=x1.trans hB;have rp2:=qb rp1 hB;have kp2:=qa rp2;clear hB rp1 x1;go_wp2_with fail;refine(HG.out w2 x2).mono ?_;clear HG;rintro e w3 ⟨rfl,hB⟩;have x3:Ext w w3:=x2.trans hB;have rp3:=qb rp2 hB;have kp3:=qa rp3;clear hB rp2 x2 kp2;cases hgr:qin S dead.length
 case true=>go_wp2_with fail;exact UE rfl rfl ⟨rfl,x3⟩
 case false=>
 clear hgr;go_wp2_with fail;refine(HO.out w3 x3).mono ?_;clear HO;intro e w4 hq;have x4:Ext w w4:=x3.trans hq.1;have rp4:=qb rp3 hq.1;have kp4:=qa rp4;have zp4:=(zG.1 rp4).1;clear rp3 kp3 x3;have hBU:(∃er,er≠0/\e=.returned (.tuple #[VR vol0,.int .i64 er])/\((er=8/\ZC S root next dead)\/(er=6/\∃vs,jq S root next dead vs/\jf vs id=none)))\/∃vs v,jq S root next dead vs/\jf vs id=some v/\e=.returned (.tuple #[VR v,.int .i64 0]):=by
  rcases hq.2 with⟨rfl,hb⟩|⟨vs,refs,nodes,k1,k2,k3,rfl⟩
  ·exact .inl ⟨8,zA1,rfl,.inl ⟨rfl,hb⟩⟩
  ·rcases hv:jf vs id with _|v
   ·exact .inl ⟨6,zA1,rfl,.inr ⟨rfl,vs,⟨refs,nodes,k1,k2,k3⟩,hv⟩⟩
   ·exact .inr ⟨vs,v,⟨refs,nodes,k1,k2,k3⟩,hv,rfl⟩
 clear hq;rcases hBU with⟨er,hne,rfl,hno⟩|⟨vs,v,hok,hv,rfl⟩
 ·have hb:(er != 0)=true:=by rw[bne_iff_ne];exact hne
  have hb2:(er==er)=true:=zA3;replace⟨hne,hno⟩:=zH2 hne hno;unfold VR vol0;go_wp2_with fail;generalize hw5:World.alloc w4 _=w5;have x5:Ext w w5:=by rw[<-hw5];exact x4.trans (zN _ _)
  clear hw5 x4 rp4 kp4 zp4;refine(HU.out w5 x5).mono ?_;clear HU;intro e w6 hq;have x6:Ext w w6:=x5.trans hq.1;obtain rfl:=hq.no hno.out;clear hq x5;go_wp2_with fail;exact UE rfl rfl ⟨rfl,x6.trans (zN _ _)⟩
 ·replace⟨hok,hv⟩:=zH2 hok hv;unfold VR;go_wp2_with fail;generalize hw5:World.alloc w4 _=w5;have x45:Ext w4 w5:=by rw[<-hw5];exact zN _ _
  have x5:Ext w w5:=x4.trans x45;have rv5:w5.heap[w4.heap.size]?=some (.cells #[.int .u32 v.id,.int .i64 v.root,.bool v.fz,.int .u32 v.frm] 36 (0,0)):=by rw[<-hw5];exact zI _ _ _ rfl
  have rp5:=qb rp4 x45;clear hw5 x4 rp4 kp4 zp4 x45;refine(HU.out w5 x5).mono ?_;clear HU;rintro e w6 ⟨hB,hq⟩;have x6:Ext w w6:=x5.trans hB;have rp6:=qb rp5 hB;have rv6:=qb rv5 hB;have zp6:=(zG.1 rp6).1;clear hB rp5 rv5 x5;rcases hq with⟨er,hne,rfl,-⟩|⟨vs',v',r1,S1,u,hRA,hv',hun,rfl,hN⟩
  ·have hb:(er != 0)=true:=by rw[bne_iff_ne];exact hne
   replace hne:=zH hne;unfold qaK Qk;go_wp2_with fail;exact UE rfl rfl ⟨rfl,x6.trans (zN _ _)⟩
  ·obtain⟨refs0,nodes0,k1,-⟩:=hok.out;obtain⟨refs9,nodes9,k2,-⟩:=hRA;obtain rfl:=QR.same k1 k2;rw[hv.out]at hv';cases hv';have hid:v.id=id:=by simpa using List.find?_some hv.out
   have hvo:=zH (qhF k1 v (Yu hv.out));have hWV:=zH (un_ok hok.out hv.out hun);have hrt:=zH (un_root hok.out hv.out hun);replace hun:=zH hun;obtain⟨B1,d1,B2,d2,B3,d3,B4,d4,B5,d5,rfl,hS,hI⟩:=hN.sto;have HU2:=zH (λW (hx:Ext w6 W)=>qbG B1 _ d1 B2 _ d2 B3 _ d3 B4 _ d4 gen (r1:Int) next B5 d5 S1 dead id W (hS.ext hx) (hI.ext_ hx));have HS2:=zH (λW (hx:Ext w6 W)=>qgy B1 _ d1 B2 _ d2 B3 _ d3 B4 _ d4 gen (r1:Int) next B5 d5 S1 dead v hvo.out (λ_ _ _=>hrt.out) W (hS.ext hx) (hI.ext_ hx));replace hid:=zH hid;clear hN hS hI k1 k2 refs0 nodes0 refs9 nodes9;go_wp2_with fail;generalize hw7:World.alloc w6 _=w7;have x67:Ext w6 w7:=by rw[<-hw7];exact zN _ _
   have rq7:w7.heap[w6.heap.size]?=some (.cells (Qk (.slice B1 S1.bs.length d1) (.slice B2 S1.ws.length d2) (.slice B3 S1.now.length d3) (.slice B4 S1.last.length d4) gen (r1:Int) next (.slice B5 dead.length d5)) 32 (0,0)):=by rw[<-hw7];exact zI _ _ _ rfl
   have rp7:=qb rp6 x67;have rv7:=qb rv6 x67;clear hw7 rp6 rv6 zp6;refine(HU2.out w7 x67).mono ?_;clear HU2;intro e w8 hq;have x68:Ext w6 w8:=x67.trans hq.1;have rp8:=qb rp7 hq.1;have rv8:=qb rv7 hq.1;have rq8:=qb rq7 hq.1;obtain rfl:=hq.no (.inr ⟨rfl,_,hWV.out,qld id vs⟩);have kq8:=qa rq8;have zq8:=(zG.1 rq8).1;have kv8:=qa rv8;have zv8:=(zG.1 rv8).1;clear hq rp7 rv7 rq7 x67;unfold qaK Qk;go_wp2_with fail;generalize hw9:World.alloc w8 _=w9;have x89:Ext w8 w9:=by rw[<-hw9];exact zN _ _
   have x69:=x68.trans x89;have rp9:=qb rp8 x89;have rv9:=qb rv8 x89;clear hw9 rp8 rv8 rq8 kq8 zq8 kv8 zv8 x68 x89;refine(HS2.out w9 x69).mono ?_;clear HS2;intro e wa hq;have x6a:Ext w6 wa:=x69.trans hq.1;have rpa:=qb rp9 hq.1;have rva:=qb rv9 hq.1;have zpa:=(zG.1 rpa).1;have hq2:=hq.split.2;clear hq rp9 rv9 x69;rcases hq2 with⟨er,hne,rfl,-⟩|⟨r2,S2,vs2,u,hso,rfl,hN⟩
   ·have hb:(er != 0)=true:=by rw[bne_iff_ne];exact hne
    replace hne:=zH hne;unfold qaK Qk;go_wp2_with fail;exact UE rfl rfl ⟨rfl,(x6.trans x6a).trans (zN _ _)⟩
   ·obtain⟨hUY,hCV⟩:=qhw hok.out hv.out hun.out hso hvo.out;obtain⟨C1,e1,C2,e2,C3,e3,C4,e4,C5,e5,rfl,hS,hI⟩:=hN.sto;have HO2:=zH (λW (hx:Ext wa W)=>UF C1 _ e1 C2 _ e2 C3 _ e3 C4 _ e4 gen (r2:Int) next C5 e5 S2 dead id W (hS.ext hx) (hI.ext_ hx));obtain⟨rf,wHH⟩:∃rf,VolsL S root next vs rf:=by obtain⟨refs0,nodes0,k1,k2,k3⟩:=hok.out;exact⟨_,qej k1 k2 k3⟩
    have HM:=zH (λW (hx:Ext wa W)=>sm14_any A1 n1 c1 A2 n2 c2 A3 n3 c3 A4 n4 c4 gen root next A5 c5 S dead C1 _ e1 C2 _ e2 C3 _ e3 C4 _ e4 gen (r2:Int) next C5 e5 S2 dead vs W hok.out hUY (λu hu=>by have:=(wHH.num u hu).1;omega) wHH.len hCV
     (h.out.ext ((x6.trans x6a).trans hx)) (hd.out.ext_ ((x6.trans x6a).trans hx)) (hS.ext hx) (hI.ext_ hx))
    replace hUY:=zH hUY;clear hN hS hI wHH hCV hso;go_wp2_with fail;generalize hwb:World.alloc wa _=wb;have xab:Ext wa wb:=by rw[<-hwb];exact zN _ _
    have rrb:wb.heap[wa.heap.size]?=some (.cells (Qk (.slice C1 S2.bs.length e1) (.slice C2 S2.ws.length e2) (.slice C3 S2.now.length e3) (.slice C4 S2.last.length e4) gen (r2:Int) next (.slice C5 dead.length e5)) 32 (0,0)):=by rw[<-hwb];exact zI _ _ _ rfl
    have rpb:=qb rpa xab;have rvb:=qb rva xab;clear hwb rpa rva zpa;refine(HO2.out wb xab).mono ?_;clear HO2;intro e wc hq;have xac:Ext wa wc:=xab.trans hq.1;have rpc:=qb rpb hq.1;have rvc:=qb rvb hq.1;have rrc:=qb rrb hq.1;obtain rfl:=hq.known_ hUY.out;rw[hv.out];have kpc:=qa rpc;have zpc:=(zG.1 rpc).1;have kvc:=qa rvc;have zvc:=(zG.1 rvc).1;have krc:=qa rrc;have zrc:=(zG.1 rrc).1;clear hq rpb rvb rrb xab;unfold volQ VR;go_wp2_with fail;generalize hwd:World.alloc wc _=wd;have xad:Ext wa wd:=by rw[<-hwd];exact xac.trans (zN _ _)
    clear hwd;refine(HM.out wd xad).mono ?_;clear HM;rintro e we ⟨rfl,hB⟩;have xe:Ext w we:=((x6.trans x6a).trans xad).trans hB;clear hB;go_wp2_with fail;exact UE rfl rfl ⟨rfl,xe⟩
end Go.Proofs.YtmeadnlmepcmbaaGreat
namespace Go.Proofs.YtmeadnlmepcmbaaGreat
open Go.RowKit Go.ChangeShapes Go.WideShapes Go.ChangeAt
section
variable {H:Type} {enc:TypeId×Value->H} {P:Program} {W:World}
theorem qeZ(zs:List Int)(h:∀n∈zs,(Lit.int .u8 n).wf=true):∃l:List UInt8,zs.map (Value.int .u8)=l.map bv:=by
 induction zs with
 |nil=>exact⟨[],rfl⟩
 |cons z r ih=>
  obtain⟨l,hl⟩:=ih (λn hn=>h n (List.mem_cons_of_mem _ hn));have hz:=h z (List.mem_cons_self);have hb:0<=z/\z<=255:=by simpa [Lit.wf,IntKind.min,IntKind.max,IntKind.signed,IntKind.bits]using hz
  refine⟨UInt8.ofNat z.toNat::l,?_⟩;simp only[List.map_cons,hl];congr 1;simp only[bv];congr 1;have:(UInt8.ofNat z.toNat).toNat=z.toNat%256:=zA3;rw[this];omega
theorem XQ{a:Addr}{n c:Nat}{xs:List Value}(hn:n<=c)(hlen:xs.length=n)(hb:∀x∈MemPlace.row a c,x.block<W.heap.size)(hc:∀i u,xs[i]?=some u->W.cell? (a.add i)=some u):Rd W W.heap.size 1 (some a) n xs:=by
 refine⟨zO,λh0=>?_⟩;obtain⟨u,hu⟩:∃u,xs[0]?=some u:=⟨_,zL zO⟩
 have h1:=hc 0 u hu;have hsp:a.spot=none:=by
  have:(a.add 0)=a:=by simp[Addr.add]
  rw[this]at h1;unfold World.cell? at h1;split at h1
  ·cases hs:a.spot with
   |none=>rfl
   |some s=>rw[hs]at h1;simp at h1
  ·cases h1
 obtain⟨b,off,sp⟩:=a;simp only at hsp;subst hsp;have hbl:b<W.heap.size:=by have:W.cell? ((⟨b,off,none⟩:Addr).add 0)=some u:=h1;have h2:=World.block_lt_of_cell? W _ this;simpa [Addr.add]using h2
 refine⟨b,off,rfl,hbl,λj v hv=>?_⟩;rw[<-hc j v hv];unfold Addr.add;split
 ·subst_vars;rfl
 ·rfl
theorem Gi{t e:TypeId}{fuel:Nat}{cs:List Value}{d:DataW H}{p:List MemPlace}(ht:P.underlying t=some (.slice e))(he:P.underlying e=some (.int .u8))(hc:P.cellsOf e=1)(h:DataW.trod enc P W 0 (λ_=>true) true fuel t cs=some (d,p))(hlt:∀x∈p,x.block<W.heap.size):∃A n c,cs=[.slice A n c]/\n<=c/\∃l:List UInt8,Bys W W.heap.size (.slice A n c) l/\l.length=n:=by
 rcases open_ints ht he hc h with⟨rfl,_⟩|⟨a,len,cap,zs,rfl,_,hl,hm,hz,hx,hAL,hwf⟩
 ·exact⟨none,0,0,rfl,zM _,[],Bys.nil W _,rfl⟩
 ·simp only[if_true]at hz;obtain⟨l,hl'⟩:=qeZ (zs.take len) (λn hn=>hwf n (List.mem_of_mem_take hn));have hll:l.length=len:=by have:=congrArg List.length hl';simp only[List.length_map,List.length_take]at this;omega
  refine⟨some a,len,cap,rfl,hl,l,⟨some a,cap,by rw[hll],zO,hm,?_⟩,hll⟩;rw[hll];refine XQ (c:=cap) hl (by simp[hll]) (λx hx'=>hlt x ?_) (λi u hu=>?_)
  ·have e2:p=MemPlace.row a zs.length:=by injection hx
   rw[e2,hz];exact hx'
  ·rw[<-hl']at hu;rw[List.getElem?_map,List.getElem?_take]at hu;split at hu
   ·rename_i hi;rw[hAL i zO];rw[<-hu];simp[zL (show i<zs.length by omega)]
   ·cases hu
theorem KJ{t:TypeId}{fs:Array Field}{fuel:Nat}{cs:List Value}{x:DataW H×List MemPlace}(ht:P.underlying t=some (.struct fs))(h:DataW.trod enc P W 0 (λ_=>true) true fuel t cs=some x):∃(xs:List (DataW H×List MemPlace))(n:Nat),cs.length=P.cellsOf t/\xs.length=fs.size/\x.2=xs.flatMap (·.2)/\∀(i:Nat)(T:TypeId)(off m:Nat),(fs[i]?).map (λf=>(f.type,f.offset))=some (T,off)->P.cellsOf T=m->DataW.trod enc P W 0 (λ_=>true) true n T ((cs.drop off).take m)=xs[i]?:=by
 obtain⟨xs,n,_,hx,hl,hxl,hf⟩:=DataW.trod_struct ht h;refine⟨xs,n,hl,hxl,by rw[hx],λi T off m hi hm=>?_⟩;obtain⟨f,hfi,he⟩:=Option.map_eq_some_iff.1 hi;have:=hf i f hfi;simp only[Prod.mk.injEq]at he;rw[he.1,he.2,hm]at this;exact this
end
section
variable {H:Type} {enc:TypeId×Value->H} {P:Program}
theorem TJ(hl:laidOutB P=true){W W':World}{sp:Nat->Bool}:∀(ts:List TypeId)(vs:List Value)(ds:List (DataW H))(p:List MemPlace),DataW.TrodAll enc P W 0 (λ_=>true) true ts vs ds p -> (∀t∈ts,P.readableRec t=true/\t<P.types.size)->(∀x∈p,W.sameAt W' x)->(∀x∈p,sp x.block=true)->DataW.TrodAll enc P W' 0 sp true ts vs ds p
 |[],vs,ds,p,h,_,_,_=>by obtain⟨rfl,rfl,rfl⟩:=trodAll_nil h;exact trodAll_mk0
 |t::ts,vs,ds,p,h,ht,hs,hsp=>by
  obtain⟨v,vs',d,ds',p0,q0,rfl,rfl,rfl,h0,h1⟩:=trodAll_cons h;have e:=ht t (List.mem_cons_self);exact trodAll_cons_mk (WideElems.Trod_stays hl e.1 e.2 h0 (λx hx=>hs x (List.mem_append_left _ hx)) (λx hx=>hsp x (List.mem_append_left _ hx)))
   (TJ hl ts vs' ds' q0 h1 (λt' h'=>ht t' (List.mem_cons_of_mem _ h')) (λx hx=>hs x (List.mem_append_right _ hx)) (λx hx=>hsp x (List.mem_append_right _ hx)))
theorem law_post{f:Func}{s:ChangeSpec}{W W':World}{args:Array Value}{ds gs:List (DataW H)}{before:List MemPlace}{b:TypeId}(hv:s.vars=[])(hl:laidOutB P=true)(hr:f.resultTypes=#[b])(hb:P.underlying b=some .bool)(ht:∀t∈f.params.toList,P.readableRec t=true/\t<P.types.size)(hW:DataW.Whole enc P f.params.toList s.vars false W args.toList ds gs before)(hs:s.fn H (ds++gs)={results:=[.lit (.bool true)],args:=ds,vars:=[]})(hB:Below W.heap.size W W'):s.post enc P f false true false false W args (.bool true) W':=by
 have hlt:∀x∈before,x.block<W.heap.size:=λx hx=>hW.lt x hx;have hW0:=hW;obtain⟨p,q,hA,hV,rfl,_,_⟩:=hW;have hq:q=[]:=by
  rw[hv]at hV;cases gs with
  |nil=>exact hV
  |cons g gs=>cases hV
 subst hq;refine⟨ds,gs,p++[],[],p,[],hW0,?_,?_,?_,?_,λh=>by cases h⟩
 ·rw[hs,hr];exact trodAll_cons_mk (shut_bool hb true) trodAll_mk0
 ·rw[hs];exact TJ hl _ _ _ _ hA ht (λx hx=>hB.same (hlt x (by simpa using hx))) (λx hx=>by simpa using hlt x (by simpa using hx))
 ·rw[hs,hv];exact rfl
 ·exact World.keptBut_mono (λx hx=>⟨by simpa using hx,Or.inr (Or.inl hx)⟩) (hB.frame (· ∈ p))
end
end Go.Proofs.YtmeadnlmepcmbaaGreat
namespace Go.Proofs.YtmeadnlmepcmbaaGreat
open Go.RowKit Go.ChangeShapes Go.WideShapes Go.ChangeAt Go.Deep
theorem Tryz.cc_u8:Tryz.prog.cellsOf 5=1:=zQ
theorem Tryz.cc_u32:Tryz.prog.cellsOf 29=1:=zQ
theorem Tryz.cc_int:Tryz.prog.cellsOf 3=1:=zQ
theorem Tryz.cc_bytes:Tryz.prog.cellsOf 26=1:=zQ
theorem Tryz.cc_blocks:Tryz.prog.cellsOf 22=1:=zQ
theorem Tryz.cc_writes:Tryz.prog.cellsOf 23=1:=zQ
theorem Tryz.cc_ints:Tryz.prog.cellsOf 30=1:=zQ
theorem Tryz.cc_write:Tryz.prog.cellsOf 142=2:=zQ
theorem Tryz.cc_disk:Tryz.prog.cellsOf 25=2:=zQ
theorem Tryz.cc_store:Tryz.prog.cellsOf 28=4:=zQ
theorem Tryz.cc_pool:Tryz.prog.cellsOf 32=8:=zQ
section
variable {H:Type} {enc:TypeId×Value->H} {W:World}
theorem qfn{size:Nat}{a:Addr}{n:Nat}{xs:List Value}(hlen:xs.length=n*size)(hz:0<size)(hb:∀x∈MemPlace.row a (n*size),x.block<W.heap.size)(hc:∀i u,xs[i]?=some u->W.cell? (a.add i)=some u):Rd W W.heap.size size (some a) n xs:=by
 refine⟨hlen,λh0=>?_⟩;have hGA:0<xs.length:=by rw[hlen];exact Nat.mul_pos h0 hz
 obtain⟨u,hu⟩:∃u,xs[0]?=some u:=⟨_,zL hGA⟩
 have h1:=hc 0 u hu;have hsp:a.spot=none:=by
  have:(a.add 0)=a:=by simp[Addr.add]
  rw[this]at h1;unfold World.cell? at h1;split at h1
  ·cases hs:a.spot with
   |none=>rfl
   |some s=>rw[hs]at h1;simp at h1
  ·cases h1
 obtain⟨b,off,sp⟩:=a;simp only at hsp;subst hsp;have hbl:b<W.heap.size:=by have:W.cell? ((⟨b,off,none⟩:Addr).add 0)=some u:=h1;have h2:=World.block_lt_of_cell? W _ this;simpa [Addr.add]using h2
 refine⟨b,off,rfl,hbl,λj v hv=>?_⟩;rw[<-hc j v hv];unfold Addr.add;split
 ·subst_vars;rfl
 ·rfl
theorem qlb{fuel:Nat}{cs:List Value}{d:DataW H}{p:List MemPlace}(h:DataW.trod enc prog W 0 (λ_=>true) true fuel 22 cs=some (d,p))(hlt:∀x∈p,x.block<W.heap.size):∃A c bs,cs=[.slice A bs.length c]/\Bls W W.heap.size (.slice A bs.length c) bs:=by
 rcases open_slice1 underlying22 Tryz.cc_bytes h with⟨rfl,_⟩|⟨a,len,cap,m,n,V,D,Pl,rfl,_,hl,hm,hmm,hx,hel⟩
 ·exact⟨none,0,[],rfl,[],none,0,rfl,zM _,by simp[maxLen],Rd.none_,λi u l hu=>by simp at hu⟩
 ·simp only[if_true]at hmm;subst hmm;have hp:p=MemPlace.row a m++(List.range m).flatMap Pl:=congrArg Prod.snd hx;have hb:∀i,i<len->∃l:List UInt8,Bys W W.heap.size (V i) l:=λi hi=>by obtain⟨_,h2⟩:=hel i zO;obtain⟨A,n',c',e,_,l,hby,_⟩:=Gi underlying26 underlying5 Tryz.cc_u8 h2 (λx hx'=>hlt x (by rw[hp];exact List.mem_append_right _ (List.mem_flatMap.2 ⟨i,List.mem_range.2 zO,hx'⟩)));simp only[List.cons.injEq,and_true]at e;exact⟨l,by rw[e];exact hby⟩
  obtain⟨L,hL⟩:=choose_lt (α:=List UInt8) (p:=λi l=>Bys W W.heap.size (V i) l) hb;refine⟨some a,m,(List.range len).map L,zA3,(List.range len).map V,some a,m,zA3,by simpa using hl,hm,?_,λi u l hu hll=>?_⟩
  ·rw[List.length_map,List.length_range];refine XQ (c:=m) hl zA3 (λx hx'=>hlt x (by rw[hp];exact List.mem_append_left _ hx')) (λi u hu=>?_);have hi:i<len:=by have:=(List.getElem?_eq_some_iff.1 hu).1;simpa using this
   rw[List.getElem?_map,List.getElem?_range hi]at hu;cases hu;exact(hel i zO).1
  ·have hi:i<len:=by have:=(List.getElem?_eq_some_iff.1 hu).1;simpa using this
   rw[List.getElem?_map,List.getElem?_range hi]at hu hll;cases hu;cases hll;exact hL i hi
theorem rd_write{fuel:Nat}{cs:List Value}{d:DataW H}{p:List MemPlace}(h:DataW.trod enc prog W 0 (λ_=>true) true fuel 142 cs=some (d,p))(hlt:∀x∈p,x.block<W.heap.size):∃a A l c,cs=[.int .i64 a,.slice A l.length c]/\Bys W W.heap.size (.slice A l.length c) l/\(Lit.int .i64 a).wf=true:=by
 obtain⟨xs,n,hl,hxl,hp,hf⟩:=KJ underlying142 h;rw[Tryz.cc_write]at hl
 match cs,hl with
 |[c0,c1],_=>
  match xs,hxl with
  |[y0,y1],_=>
   have g0:_=some y0:=hf 0 3 0 1 rfl Tryz.cc_int;have g1:_=some y1:=hf 1 26 1 1 rfl Tryz.cc_bytes;simp only[List.drop,List.take]at g0 g1;obtain⟨a,ea,_,wa⟩:=DataW.trod_int underlying3 g0;have hp2:p=y0.2++(y1.2++[]):=hp;obtain⟨d1,p1⟩:=y1;obtain⟨A,m,c,es,hmc,l,hb,hlen⟩:=Gi underlying26 underlying5 Tryz.cc_u8 g1 (λx hx=>hlt x (by rw[hp2];simp[hx]));simp only[List.cons.injEq,and_true]at ea es;subst ea es hlen;exact⟨a,A,l,c,rfl,hb,wa⟩
theorem qlc{fuel:Nat}{cs:List Value}{d:DataW H}{p:List MemPlace}(h:DataW.trod enc prog W 0 (λ_=>true) true fuel 23 cs=some (d,p))(hlt:∀x∈p,x.block<W.heap.size):∃A c ws,cs=[.slice A ws.length c]/\Wrs W W.heap.size (.slice A ws.length c) ws:=by
 rcases open_slice underlying23 h with⟨rfl,_⟩|⟨a,len,cap,m,n,D,Pl,rfl,_,hl,hm,hmm,hx,hel⟩
 ·exact⟨none,0,[],rfl,[],rfl,⟨none,0,rfl,zM _,by simp[maxLen],Rd.none_⟩,λp h=>by cases h⟩
 ·simp only[if_true]at hmm;subst hmm;rw[Tryz.cc_write]at hx hel;have hp:p=MemPlace.row a (m*2)++(List.range m).flatMap Pl:=congrArg Prod.snd hx;have hb:∀i,i<len->∃q:(Int×List UInt8)×Value,(∃A c,q.2=.slice A q.1.2.length c)/\Bys W W.heap.size q.2 q.1.2/\W.cell? (a.add (i*2))=some (.int .i64 q.1.1)/\W.cell? (a.add (i*2+1))=some q.2:=λi hi=>by
   obtain⟨cs',h1,h2⟩:=hel i zO;obtain⟨_,_,h3⟩:=World.cells?_some h1;obtain⟨r,A,l,c,rfl,hby,_⟩:=rd_write h2 (λx hx'=>hlt x (by rw[hp];exact List.mem_append_right _ (List.mem_flatMap.2 ⟨i,List.mem_range.2 zO,hx'⟩)));have e0:=h3 0 zO;have e1:=h3 1 zO;have ea:∀j,(a.add (i*2)).add j=a.add (i*2+j):=λj=>by
    unfold Addr.add
    repeat' split
    all_goals simp_all
    all_goals omega
   rw[ea]at e0 e1;exact⟨((r,l),.slice A l.length c),⟨A,c,rfl⟩,hby,e0,e1⟩
  obtain⟨Q,hQ⟩:=choose_lt (α:=(Int×List UInt8)×Value) (p:=λi q=>(∃A c,q.2=.slice A q.1.2.length c)/\Bys W W.heap.size q.2 q.1.2/\W.cell? (a.add (i*2))=some (.int .i64 q.1.1)/\W.cell? (a.add (i*2+1))=some q.2) hb;refine⟨some a,m,((List.range len).map Q).map (·.1),zA3,(List.range len).map Q,rfl,⟨some a,m,zA3,by simpa using hl,hm,?_⟩,λq hq=>?_⟩
  ·rw[List.length_map,List.length_map,List.length_range];refine qfn (by rw[YA];simp) zO (λx hx'=>hlt x ?_) (λj u hu=>?_)
   ·rw[hp];refine List.mem_append_left _ ?_;unfold MemPlace.row at hx'⊢;rw[List.mem_map]at hx'⊢;obtain⟨k,hk,e⟩:=hx';exact⟨k,List.mem_range.2 (by have:=List.mem_range.1 hk;omega),e⟩
   ·have hj:j<len*2:=by have:=(List.getElem?_eq_some_iff.1 hu).1;rw[YA]at this;simpa using this
    obtain⟨c0,c1⟩:=Yd ((List.range len).map Q) (j/2) zA2;obtain⟨_,_,q0,q1⟩:=hQ (j/2) zO;rcases(show j=j/2*2\/j=j/2*2+1 by omega)with e|e
    ·have hu':some u=some _:=(hu.symm.trans (congrArg (λt=>(js ((List.range len).map Q))[t]?) e)).trans c0;cases hu';rw[show a.add j=a.add (j/2*2)from congrArg _ e,q0];simp
    ·have hu':some u=some _:=(hu.symm.trans (congrArg (λt=>(js ((List.range len).map Q))[t]?) e)).trans c1;cases hu';rw[show a.add j=a.add (j/2*2+1)from congrArg _ e,q1];simp
  ·obtain⟨i,hi,rfl⟩:=List.mem_map.1 hq;obtain⟨q0,q1,_⟩:=hQ i (List.mem_range.1 hi);exact⟨q0,q1⟩
theorem rd_ints{fuel:Nat}{cs:List Value}{d:DataW H}{p:List MemPlace}(h:DataW.trod enc prog W 0 (λ_=>true) true fuel 30 cs=some (d,p))(hlt:∀x∈p,x.block<W.heap.size):∃A c l,cs=[.slice A l.length c]/\jH W W.heap.size (.slice A l.length c) l/\∀a∈l,(Lit.int .i64 a).wf=true:=by
 rcases open_ints underlying30 underlying3 Tryz.cc_int h with⟨rfl,_⟩|⟨a,len,cap,zs,rfl,_,hl,hm,hz,hx,hAL,hwf⟩
 ·exact⟨none,0,[],rfl,⟨none,0,rfl,zM _,by simp[maxLen],Rd.none_⟩,λa h=>by cases h⟩
 ·simp only[if_true]at hz;have hp:p=MemPlace.row a zs.length:=congrArg Prod.snd hx;have hll:(zs.take len).length=len:=by rw[List.length_take];omega
  refine⟨some a,cap,zs.take len,by rw[hll],⟨some a,cap,rfl,zO,hm,?_⟩,λn hn=>hwf n (List.mem_of_mem_take hn)⟩;rw[hll];refine XQ (c:=cap) hl zA2 (λx hx'=>hlt x (by rw[hp,hz];exact hx')) (λi u hu=>?_);rw[List.getElem?_map,List.getElem?_take]at hu;split at hu
  ·rename_i hi;rw[hAL i zO,<-hu];simp[zL (show i<zs.length by omega)]
  ·cases hu
theorem rd_disk{fuel:Nat}{cs:List Value}{d:DataW H}{p:List MemPlace}(h:DataW.trod enc prog W 0 (λ_=>true) true fuel 25 cs=some (d,p))(hlt:∀x∈p,x.block<W.heap.size):∃A1 c1 A2 c2 bs ws,cs=[.slice A1 (List.length bs) c1,.slice A2 (List.length ws) c2]/\Bls W W.heap.size (.slice A1 bs.length c1) bs/\Wrs W W.heap.size (.slice A2 ws.length c2) ws:=by
 obtain⟨xs,n,hl,hxl,hp,hf⟩:=KJ underlying25 h;rw[Tryz.cc_disk]at hl
 match cs,hl with
 |[c0,c1],_=>
  match xs,hxl with
  |[(d0,p0),(d1,p1)],_=>
   have g0:_=some (d0,p0):=hf 0 22 0 1 rfl Tryz.cc_blocks;have g1:_=some (d1,p1):=hf 1 23 1 1 rfl Tryz.cc_writes;simp only[List.drop,List.take]at g0 g1;have hp2:p=p0++(p1++[]):=hp;obtain⟨A1,k1,bs,e1,h1⟩:=qlb g0 (λx hx=>hlt x (by rw[hp2];simp[hx]));obtain⟨A2,k2,ws,e2,h2⟩:=qlc g1 (λx hx=>hlt x (by rw[hp2];simp[hx]));simp only[List.cons.injEq,and_true]at e1 e2;subst e1 e2;exact⟨A1,k1,A2,k2,bs,ws,rfl,h1,h2⟩
theorem rd_store{fuel:Nat}{cs:List Value}{d:DataW H}{p:List MemPlace}(h:DataW.trod enc prog W 0 (λ_=>true) true fuel 28 cs=some (d,p))(hlt:∀x∈p,x.block<W.heap.size):∃A1 c1 A2 c2 A3 c3 A4 c4,∃S:Sto,cs=[.slice A1 S.bs.length c1,.slice A2 S.ws.length c2,.slice A3 S.now.length c3,.slice A4 S.last.length c4]/\Qq W W.heap.size (.slice A1 S.bs.length c1) (.slice A2 S.ws.length c2) (.slice A3 S.now.length c3) (.slice A4 S.last.length c4) S:=by
 obtain⟨xs,n,hl,hxl,hp,hf⟩:=KJ underlying28 h;rw[Tryz.cc_store]at hl
 match cs,hl with
 |[c0,c1,c2,c3],_=>
  match xs,hxl with
  |[(d0,p0),(d1,p1),(d2,p2)],_=>
   have g0:_=some (d0,p0):=hf 0 25 0 2 rfl Tryz.cc_disk;have g1:_=some (d1,p1):=hf 1 26 2 1 rfl Tryz.cc_bytes;have g2:_=some (d2,p2):=hf 2 26 3 1 rfl Tryz.cc_bytes;simp only[List.drop,List.take]at g0 g1 g2;have hp2:p=p0++(p1++(p2++[])):=hp;obtain⟨A1,k1,A2,k2,bs,ws,e1,h1,h2⟩:=rd_disk g0 (λx hx=>hlt x (by rw[hp2];simp[hx]));obtain⟨A3,n3,k3,e3,_,l3,h3,q3⟩:=Gi underlying26 underlying5 Tryz.cc_u8 g1 (λx hx=>hlt x (by rw[hp2];simp[hx]));obtain⟨A4,n4,k4,e4,_,l4,h4,q4⟩:=Gi underlying26 underlying5 Tryz.cc_u8 g2 (λx hx=>hlt x (by rw[hp2];simp[hx]));simp only[List.cons.injEq,and_true]at e1 e3 e4;obtain⟨rfl,rfl⟩:=e1;subst e3 e4 q3 q4;exact⟨A1,k1,A2,k2,A3,k3,A4,k4,⟨bs,ws,l3,l4⟩,rfl,h1,h2,h3,h4⟩
theorem rd_pool{fuel:Nat}{cs:List Value}{d:DataW H}{p:List MemPlace}(h:DataW.trod enc prog W 0 (λ_=>true) true fuel 32 cs=some (d,p))(hlt:∀x∈p,x.block<W.heap.size):∃A1 c1 A2 c2 A3 c3 A4 c4 gen root next A5 c5,∃(S:Sto)(dead:List Int),cs=(Qk (.slice A1 S.bs.length c1) (.slice A2 S.ws.length c2) (.slice A3 S.now.length c3) (.slice A4 S.last.length c4) gen root next (.slice A5 dead.length c5)).toList /\
   Qq W W.heap.size (.slice A1 S.bs.length c1) (.slice A2 S.ws.length c2) (.slice A3 S.now.length c3) (.slice A4 S.last.length c4) S/\jH W W.heap.size (.slice A5 dead.length c5) dead /\
   (Lit.int .u32 gen).wf=true/\(Lit.int .i64 root).wf=true/\(Lit.int .u32 next).wf=true/\∀a∈dead,(Lit.int .i64 a).wf=true:=by
 obtain⟨xs,n,hl,hxl,hp,hf⟩:=KJ underlying32 h;rw[Tryz.cc_pool]at hl
 match cs,hl with
 |[c0,c1,c2,c3,c4,c5,c6,c7],_=>
  match xs,hxl with
  |[(d0,p0),(d1,p1),(d2,p2),(d3,p3),(d4,p4)],_=>
   have g0:_=some (d0,p0):=hf 0 28 0 4 rfl Tryz.cc_store;have g1:_=some (d1,p1):=hf 1 29 4 1 rfl Tryz.cc_u32;have g2:_=some (d2,p2):=hf 2 3 5 1 rfl Tryz.cc_int;have g3:_=some (d3,p3):=hf 3 29 6 1 rfl Tryz.cc_u32;have g4:_=some (d4,p4):=hf 4 30 7 1 rfl Tryz.cc_ints;simp only[List.drop,List.take]at g0 g1 g2 g3 g4;have hp2:p=p0++(p1++(p2++(p3++(p4++[])))):=hp;obtain⟨A1,k1,A2,k2,A3,k3,A4,k4,S,e0,hS⟩:=rd_store g0 (λx hx=>hlt x (by rw[hp2];simp[hx]));obtain⟨gen,e1,_,w1⟩:=DataW.trod_int underlying29 g1;obtain⟨root,e2,_,w2⟩:=DataW.trod_int underlying3 g2;obtain⟨next,e3,_,w3⟩:=DataW.trod_int underlying29 g3;obtain⟨A5,k5,dead,e4,hd,w4⟩:=rd_ints g4 (λx hx=>hlt x (by rw[hp2];simp[hx]));simp only[List.cons.injEq,and_true]at e0 e1 e2 e3 e4;obtain⟨rfl,rfl,rfl,rfl⟩:=e0;subst e1 e2 e3 e4;exact⟨A1,k1,A2,k2,A3,k3,A4,k4,gen,root,next,A5,k5,S,dead,rfl,hS,hd,w1,w2,w3,w4⟩
end
end Go.Proofs.YtmeadnlmepcmbaaGreat
namespace Go.Proofs.YtmeadnlmepcmbaaGreat.forestTwice
set_option linter.unusedSimpArgs false
set_option linter.unusedVariables false
open Go.ChangeShapes Go.WideShapes Go.ChangeAt Go.RowKit
theorem own:ownKnob Tryz.prog.godebug=none:=zQ
theorem laidOut:laidOutB prog=true:=zQ
set_option maxRecDepth 100000 in
theorem lifted(os:Os)(started:os.Started)(H:Type)(enc:TypeId×Value->H):ReturnsInHanded {} checked os 3 .any (Rows.forestTwiceSpec.pre6 enc prog Tryz.f3 Rows.forestTwiceRow.domain false) (Rows.forestTwiceSpec.post enc prog Tryz.f3 false true false false):=by
 refine returnsInHanded_of_change (C:=checked) own started zQ func3
  (ChangeSpec.witness6 (enc:=enc) (C:=checked) false ⟨#[],#[.agg (Qk (.slice none 0 0) (.slice none 0 0) (.slice none 0 0) (.slice none 0 0) 0 0 0 (.slice none 0 0)),.int .u32 0],[]⟩ 8 zQ zQ zQ zQ) ?_
 intro W base args ds gs before wYJ hW hcnd _;have wLB:∀(j:Nat)t v,Tryz.f3.params[j]?=some t->args[j]?=some v->Value.okWide prog W .any base t v:=wYJ;have hW':=hW;have hlt:∀x∈before,x.block<W.heap.size:=λx hx=>hW.lt x hx;obtain⟨p,q,hA0,hV,rfl,hfz,hnd⟩:=hW;have hA:DataW.TrodAll enc prog W 0 (λ_=>true) true Tryz.f3.params.toList args.toList ds p:=hA0;rw[params3]at hA wLB;obtain⟨v0,vs0,d0,ds0,p0,q0,hargs,rfl,rfl,h0,r0⟩:=trodAll_cons hA;obtain⟨v1,vs1,d1,ds1,p1,q1,rfl,rfl,rfl,h1,r1⟩:=trodAll_cons r0;obtain⟨rfl,rfl,rfl⟩:=trodAll_nil r1;obtain rfl:args=#[v0,v1]:=by cases args;simp_all
 obtain⟨rfl,rfl⟩:=trodVars_none hV;obtain⟨cs0,rfl,_⟩:=okWide_struct underlying32 (wLB 0 32 v0 rfl rfl);obtain⟨id,rfl⟩:=okWide_int underlying29 (wLB 1 29 v1 rfl rfl);obtain⟨n0,h0⟩:=h0;obtain⟨A1,c1,A2,c2,A3,c3,A4,c4,gen,root,next,A5,c5,S,dead,e0,hS,hd,_,_,_,_⟩:=rd_pool h0 (λx hx=>hlt x (by simp[hx]));have e0':cs0=Qk (.slice A1 S.bs.length c1) (.slice A2 S.ws.length c2) (.slice A3 S.now.length c3) (.slice A4 S.last.length c4) gen root next (.slice A5 dead.length c5):=by obtain⟨cs0⟩:=cs0;have:cs0=_:=e0;rw[this]
 subst e0';have walk:Calls prog 3 #[.agg (Qk (.slice A1 S.bs.length c1) (.slice A2 S.ws.length c2) (.slice A3 S.now.length c3) (.slice A4 S.last.length c4) gen root next (.slice A5 dead.length c5)),.int .u32 id] W (Ret (.bool true) W):=ftw_any A1 _ c1 A2 _ c2 A3 _ c3 A4 _ c4 gen root next A5 c5 S dead id W hS hd
 refine walk.mono λe W' ⟨he,hB⟩=>?_;subst he;exact⟨_,rfl,law_post rfl laidOut rfl underlying4 (by
  intro t ht;have:t=32\/t=29:=by rw[params3]at ht;simpa using ht
  rcases this with rfl|rfl
  ·exact⟨zQ,of_decide_eq_true zQ⟩
  ·exact⟨zQ,of_decide_eq_true zQ⟩) hW' rfl hB⟩
theorem over:Rows.forestTwiceRow.holds Tryz.pinned (OpenSpec.ofChange Rows.forestTwiceSpec):=
 OpenClaim.holds_of_wide 3 Tryz.f3 rfl rfl rfl rfl rfl rfl rfl ⟨rfl,rfl,rfl,rfl,rfl⟩ rfl rfl rfl rfl rfl zQ func3 zQ
  (of_decide_eq_true zQ) (by unfold Func.isWrapper;first|(rw[if_pos (by decide +kernel)];kernel_rfl)|(rw[if_neg (by decide +kernel)];exact⟨rfl,rfl⟩))
  (λos started H enc _=>lifted os started H enc)
theorem proved:Rows.ForestTwiceSaid:=over
end Go.Proofs.YtmeadnlmepcmbaaGreat.forestTwice
