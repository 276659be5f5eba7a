/- A tree that is no bulk has no great condition. -/
import Derived.Test.YtmopichdofgndaaGreatDoorRfTop
import Derived.Test.YtmopichdofgndaaGreatDoorJgFlRK
import Derived.Test.YtmopichdofgndaaGreatDoorJgSoftW
set_option linter.all false
namespace Go.Proofs.YtmopichdofgndaaGreatDoor
open Go.RowKit Go.Shelf Go.Maps
theorem zkC:∀c:Cds,szN c<=2*mC c
 | .nil =>lrq _
 | .cons _ args of_ _ r=>by
  have h1:=zkC of_;have h2:=zkC r;simp only[szN,mC];omega
theorem zgk:∀xs:Sts,mS xs<=1048576->cdM 1000000000 xs
 | .nil,_=>trivial
 | .cons _ nm args cond body els _ r,h=>by
  simp only[mS]at h;have h1:=zkC cond;exact⟨by omega,zgk body (by omega),zgk els (by omega),zgk r (by omega)⟩
theorem zmq:∀ {l:List Prc} {x:Prc},x∈l->mS x.body<=mP l
 | [],_,h=>by simp at h
 |p::r,x,h=>by
  simp only[mP];rcases List.mem_cons.1 h with rfl|h
  ·omega
  ·have:=zmq h;omega
theorem zmr {t:Tre}(h:mT t<=1048576):CdT 1000000000 t:=by
 unfold mT at h;exact⟨zgk _ (by omega),λx hx=>zgk _ (by have:=zmq hx;omega)⟩
open Go.RowKit Go.Shelf
theorem zcn:∀xs:Exs,zbf xs xs=true
 | .nil =>rfl
 | .cons k nm n args at_ rest=>by simp[zbf,zcn args,zcn rest]
theorem zgl (e:Ed):zcK e e=true:=by simp[zcK,zcn]
theorem zd8:∀l:List Ed,zd6 zcK l l=true
 | []=>rfl
 |e::r=>by simp[zd6,zgl,zd8 r]
theorem zg1 (g:Gr):zlQ g g=true:=by simp[zlQ,zd8]
theorem EgR.at9 {w:World}{S:Nat->Prop}:∀ {l:List Ed} {b o i:Nat},EgR w S l b o->i < l.length->S b/\∃xs A c,w.cell? ⟨b,o+i*7+5,none⟩=some (.slice A (Exs.len xs) c)/\SlR (λb o=>ExR w S True xs b o) xs.len 64 A c
 | [],_,_,_,_,h=>by simp at h
 |x::r,b,o,0,h,_=>by
  obtain⟨⟨hb,_⟩,⟨A,c,h7,h8⟩,_⟩:=h;exact⟨hb,x.args,A,c,by simpa using h7,h8⟩
 |x::r,b,o,i+1,h,hi=>by
  have:=EgR.at9 (i:=i) h.2.2 (by simpa using hi);rw[show o+(i+1)*7+5=o+7+i*7+5 from by omega];exact this
theorem ExR.at9 {w:World}{S:Nat->Prop}{xs:Exs}{b o k:Nat}(h:ExR w S True xs b o)(hk:k < xs.len):S b/\(∃n,w.cell? ⟨b,o+k*5,none⟩=some (.int .u8 n))/\w.frozen? ⟨b,o+k*5,none⟩=false/\∃ys A c,w.cell? ⟨b,o+k*5+3,none⟩=some (.slice A (Exs.len ys) c)/\SlR (λb' o'=>ExR w S True ys b' o') ys.len 64 A c:=by
 have h1:=ExR.drop k h;obtain⟨a0,a1,a2,a3,a4,ar,hd⟩:=Exs.drop_cons hk;rw[hd]at h1;obtain⟨⟨hb,hf,_,_,_,h0,_⟩,⟨A,c,h3,hs⟩,_⟩:=h1;exact⟨hb,⟨_,h0⟩,by have:=hf trivial 0 (by decide);rwa [Nat.add_zero]at this,a3,A,c,h3,hs⟩
set_option maxRecDepth 100000 in
set_option maxHeartbeats 6400000 in
theorem ziA (t:Tre)(w:World)(S:Nat->Prop)(Z:Prop)(Av Aa Ap Am:Option Addr)(cv ca cp cm:Nat)(he:TwEnv w)(hS:∀b,S b->b < w.heap.size)(Ht:SzT t)(hx:TrR w S Z t Av Aa Ap Am cv ca cp cm)(hm:mT t<=1048576):
  Calls Tryz.prog 5 #[trV t Av Aa Ap Am cv ca cp cm] w (zlq w):=by
 have hX:=λ(W:World)(hf:Fr NoT w W)=>hx.keep (hf.same λb hb=>⟨hS b hb,id⟩);have KN:=λ(W:World)(hf:Fr NoT w W) b (hb:S b)=>ltq (hS b hb) hf.size;have h1:=λ(W:World)(hf:Fr NoT w W)=>zhJ t W S Z Av Aa Ap Am cv ca cp cm (KN W hf) (hX W hf);have h2:=λ(W:World)(hf:Fr NoT w W)=>zlk t W S Z Av Aa Ap Am cv ca cp cm (KN W hf) (hX W hf);have h3:=λ(W:World)(hf:Fr NoT w W)=>zkl t W S Z Av Aa Ap Am cv ca cp cm (he.keep hf.plain).sp (he.keep hf.plain).tab (KN W hf) Ht (zmr hm) (hX W hf);have h4:=λ(W:World)(hf:Fr NoT w W)=>ziw t W S Z Av Aa Ap Am cv ca cp cm (he.keep hf.plain).tab (KN W hf) Ht (zmr hm) (hX W hf);have h6:=λ(W:World)(hf:Below w.heap.size w W)(S':Nat->Prop)(Z':Prop)(Bv Ba Bp Bm:Option Addr)(dv da dp dm:Nat)(hs:∀b,S' b->b < W.heap.size)(hb:TrR W S' Z' t.bare Bv Ba Bp Bm dv da dp dm)=>
  zjX t.bare t W S' S Z' Z Bv Ba Bp Bm Av Aa Ap Am dv da dp dm cv ca cp cm hs (λb h=>ltq (hS b h) hf.size) hb (hx.keep (SameS.of hf hS))
 rw[zjw (zig t)]at h6;obtain⟨⟨g,er⟩,hp⟩:=nmq (graT t);rw[<-hp]at h3 h4;have h5:=λ(W:World)(S1 S2:Nat->Prop)(Aa Ae Ca Ce:Option Addr)(da de ea ee:Nat)(k1:∀b,S1 b->b < W.heap.size)(k2:∀b,S2 b->b < W.heap.size)(k3:GrR W S1 g Aa da Ae de)(k4:GrR W S2 g Ca ea Ce ee)=>
  zkB g g Aa Ae Ca Ce da de ea ee W.heap.size W (lrq _) (k3.grSl k1) (k4.grSl k2)
 rw[zg1]at h5;unfold zg2 grV at h5;unfold GraP grV at h3 h4;unfold BaP at h2;unfold trV at h1 h2 h3 h4 h6 ⊢;obtain⟨n1,Gk⟩:=nmq t.vars.length;obtain⟨n2,Gu⟩:=nmq t.arrays.length;obtain⟨n3,GJ⟩:=nmq t.procs.length;obtain⟨n4,GV⟩:=nmq t.main.len;obtain⟨b1,Gi⟩:=nmq t.bare.vars.length;obtain⟨b2,FL⟩:=nmq t.bare.arrays.length;obtain⟨b3,J0⟩:=nmq t.bare.procs.length;obtain⟨b4,LQ⟩:=nmq t.bare.main.len;obtain⟨v1,FF⟩:=nmq g.vars;obtain⟨v2,JZ⟩:=nmq g.nodes;obtain⟨v3,LK⟩:=nmq g.start;obtain⟨v4,TG⟩:=nmq g.last;obtain⟨na,VW⟩:=nmq g.arrays.length;obtain⟨ne,GU⟩:=nmq g.edges.length;rw[<-Gk,<-Gu,<-GJ,<-GV]at h1 h2 h3 h4 h6 ⊢;rw[<-Gi,<-FL,<-J0,<-LQ]at h2 h6;simp only at h3 h4;rw[<-FF,<-JZ,<-LK,<-TG,<-VW,<-GU]at h3 h4 h5;have Hn:=hdq (show Fr NoT w (w.alloc (.cells #[.slice Av n1 cv,.slice Aa n2 ca,.slice Ap n3 cp,.slice Am n4 cm] 27))from(Fr.refl _ _).alloc _);have Gv:=hdq (Bk.new w 27 #[.slice Av n1 cv,.slice Aa n2 ca,.slice Ap n3 cp,.slice Am n4 cm]);have H1:=hdq h1;have H2:=hdq h2;have H3:=hdq h3;have H4:=hdq h4;have H5:=hdq h5;have H6:=hdq h6;have HU:=hdq GU;clear hX KN h1 h2 h3 h4 h5 h6 hx Ht hS he hp Gk Gu GJ GV Gi FL J0 LQ FF JZ LK TG VW GU hm;go_enter Tryz.func5,Tryz.ntmps5;go_wp2_with fail;refine(H1 _ Hn.out).mono ?_;rintro _ w2 ⟨g0,rfl,Gd⟩;have Hy:=hdq (Hn.trans Gd);have FX:=hdq (Gv.fr0 Gd);obtain⟨x0,x1,x2,x3,Hv⟩:=bk4 FX.out;clear Gd;cases g0;rotate_left
 ·go_wp2_with fail;go_ret;exact⟨rfl,Hy.plain⟩
 go_wp2_with fail;refine(H2 _ Hy.out).mono ?_;rintro _ w3 ⟨Bv,Ba,Bp,Bm,dv,da,dp,dm,rfl,zi,GQ⟩;obtain⟨w4,G7⟩:=nmq (w3.alloc (.cells #[.slice Bv b1 dv,.slice Ba b2 da,.slice Bp b3 dp,.slice Bm b4 dm] 27));have Hm:Bk w4 w3.heap.size 27 #[.slice Bv b1 dv,.slice Ba b2 da,.slice Bp b3 dp,.slice Bm b4 dm]:=by rw[G7];exact Bk.new _ _ _
 have GB:Fr NoT w3 w4:=by rw[G7];exact(Fr.refl _ _).alloc _
 have HT:=hdq (λ(W:World)(hf:Below w4.heap.size w4 W)=>zi.keep (SameS.trans (GB.same λb hb=>⟨hb.2,id⟩) (SameS.of hf λb hb=>ltq hb.2 GB.size)));have uF:=hdq (λ(W:World)(hf:Below w4.heap.size w4 W) b (hb:New w2.heap.size w3 b)=>ltq (ltq hb.2 GB.size) hf.size);have GO:=hdq Hm;have KO:=hdq (FX.fr0 (GQ.trans GB));have F5:=hdq (FX.fr0 GQ);have GL:=hdq ((Hy.trans GQ).trans GB);have LU:=hdq G7;have uG:=hdq (show w3.heap.size < w4.heap.size from by rw[G7];simp);clear H1 H2 zi GQ Hm GB G7 x0 x1 x2 x3 Hv;obtain⟨x0,x1,x2,x3,Hv⟩:=bk4 F5.out;go_wp2_with fail;rw[<-LU.out];refine(H3 _ GL.out).mono ?_;rintro _ w5 ⟨Ca,Ce,ea,ee,rfl,zj,Hs⟩;obtain⟨w6,GM⟩:=nmq (w5.alloc (.cells #[.int .i64 v1,.slice Ca na ea,.int .i64 v2,.int .i64 v3,.int .i64 v4,.slice Ce ne ee] 53));have Fy:Bk w6 w5.heap.size 53 #[.int .i64 v1,.slice Ca na ea,.int .i64 v2,.int .i64 v3,.int .i64 v4,.slice Ce ne ee]:=by rw[GM];exact Bk.new _ _ _
 have Fk:Fr NoT w5 w6:=by rw[GM];exact(Fr.refl _ _).alloc _
 have Lw:=hdq Fy;have GF:=hdq (Hs.trans Fk);have HY:=hdq (λ(W:World)(hf:Fr NoT w6 W)=>zj.keep ((Fk.trans hf).same λb hb=>⟨hb.2,id⟩));have vh:=hdq (λ(W:World)(hf:Fr NoT w6 W) b (hb:New w4.heap.size w5 b)=>ltq hb.2 (Fk.trans hf).size);have Lx:=hdq GM;have uH:=hdq (KO.fr0 (Hs.trans Fk));have vi:=hdq (KO.fr0 Hs);have uI:=hdq (show w5.heap.size < w6.heap.size from by rw[GM];simp);have uJ:=hdq Hs.size;clear H3 zj Hs Fy Fk GM x0 x1 x2 x3 Hv;obtain⟨x0,x1,x2,x3,Hv⟩:=bk4 vi.out;go_wp2_with fail;rw[<-Lx.out];refine(H4 _ (GL.trans GF.out)).mono ?_;rintro _ w7 ⟨Da,De,fa,fe,rfl,zm,Gw⟩;obtain⟨w8,GG⟩:=nmq (w7.alloc (.cells #[.int .i64 v1,.slice Da na fa,.int .i64 v2,.int .i64 v3,.int .i64 v4,.slice De ne fe] 53));have Gj:Fr NoT w7 w8:=by rw[GG];exact(Fr.refl _ _).alloc _
 have K8:=hdq GG;have GD:=hdq (Gw.trans Gj);have Ru:=hdq (H5 w8 _ _ Ca Ce Da De ea ee fa fe (vh _ (Gw.trans Gj)) (λb hb=>ltq hb.2 Gj.size) (HY _ (Gw.trans Gj)) (zm.keep (Gj.same λb hb=>⟨hb.2,id⟩)));have Pg:=hdq (Lw.fr0 Gw);have uK:=hdq (Lw.fr0 (Gw.trans Gj));clear H4 H5 zm Gw Gj GG x0 x1 x2 x3 Hv;have y0:=(Pg.out).cell 0;have y1:=(Pg.out).cell 1;have y2:=(Pg.out).cell 2;have y3:=(Pg.out).cell 3;have y4:=(Pg.out).cell 4;have y5:=(Pg.out).cell 5;have yl:=(Pg.out).lt;simp only[getsL]at y0 y1 y2 y3 y4 y5;go_wp2_with fail;rw[<-K8.out];refine Ru.mono ?_;rintro _ w9 ⟨rfl,Gm⟩;have zn:=hdq (GD.plain.trans (Gm.mono GD.size));have uL:=hdq GD.size;have uM:=hdq Gm.size;have HM:=hdq ((HY _ GD.out).keep (SameS.of (B:=w8.heap.size) Gm λb hb=>vh _ GD.out b hb));clear Ru K8 Gm y0 y1 y2 y3 y4 y5 yl;have ZL:=hdq (show ∀W,Soft w4.heap.size w5.heap.size w9 W->Below w4.heap.size w4 W from λW h=>by
  have Gi:=(GF.plain).trans (zn.mono GF.size);have FL:=h.fr.to_below (B:=w4.heap.size) Gi.size λi hi e=>by omega
  exact Below.trans Gi FL)
 have HG:=hdq (show ∀W,Soft w4.heap.size w5.heap.size w9 W->Bk W w5.heap.size 53 #[.int .i64 v1,.slice Ca na ea,.int .i64 v2,.int .i64 v3,.int .i64 v4,.slice Ce ne ee]from λW h=>Bk.fr ((zn.block _ Lw.lt).trans Lw.out) h.fr λe=>by have:=e.2;omega);clear HY vh Lw Pg;have ji:=hdq (Soft.refl w4.heap.size w5.heap.size w9);have GU:ne<=9223372036854775807:=by rw[HU.out];exact leq9 HM.edges.1 HM.edges.2.1.1
 have y5:=(HG w9 ji.out).cell 5;have yl:=(HG w9 ji.out).lt;simp only[getsL]at y5;go_wp2_with fail;clear y5 yl;go_loopw [8] (λi wr=>∃k:Nat,k<=ne/\i= .int .i64 k/\Hid (Soft w4.heap.size w5.heap.size w9 wr)) (λi _=>ne - (intOf i).toNat);case atStart=>exact⟨0,Nat.zero_le _,rfl,ji⟩
 case round=>
  clear ji;obtain⟨k,hk,rfl,HR⟩:=hrel;have y5:=(HG wr HR.out).cell 5;have yl:=(HG wr HR.out).lt;simp only[getsL]at y5;by_cases Hr:k < ne
  ·obtain⟨eb,eo,rfl,hE⟩:=HM.edges.2.2 (by rw[<-HU.out];omega);obtain⟨Hf,xs,XA,xc,c5,Fh⟩:=hE.at9 (i:=k) (by rw[<-HU.out];exact Hr);obtain⟨xl,S7⟩:=nmq (Exs.len xs);rw[<-S7]at c5 Fh;have zo:xl<=9223372036854775807:=leq9 Fh.1 Fh.2.1.1;have Uq:eb < wr.heap.size:=by have:=HR.fr.size;have:=Hf.2;have:=yl;omega
   have d5:=HR.slice c5;have J7:=hdq Fh;have uN:=hdq S7;have Ru:=hdq c5;have zq:=hdq Hf;have Hl:(k:Int) < (ne:Int):=by omega
   have Fb:(0:Int)<=(k:Int):=by omega
   clear hE c5 Fh S7 Hf;go_wp2_with fail;clear d5 y5 yl Uq;go_loopw [9] (λi wx=>∃k2:Nat,k2<=xl/\i= .int .i64 k2/\Hid (Soft w4.heap.size w5.heap.size w9 wx)) (λi _=>xl - (intOf i).toNat);case atStart=>exact⟨0,Nat.zero_le _,rfl,HR⟩
   case round=>
    clear HR;obtain⟨k2,He,rfl,Fu⟩:=hrel;have y5:=(HG wr Fu.out).cell 5;have yl:=(HG wr Fu.out).lt;simp only[getsL]at y5;have d5:=Fu.slice Ru.out;have Uq:eb < wr.heap.size:=by have:=zq.2;omega
    by_cases LT:k2 < xl
    ·obtain⟨xb,xo,rfl,Gf⟩:=J7.2.2 (by omega);obtain⟨jj,⟨q5,c5⟩,NO,ys,YA,yc,c3,gj⟩:=Gf.at9 (k:=k2) (by rw[<-uN.out];exact LT);obtain⟨m5,e5⟩:=Fu.int c5;have z5:=Fu.thaw NO;obtain⟨DI,Me⟩:=nmq (wr.setCell ⟨xb,xo+k2*5,none⟩ (.int .u8 99));have gk:=hdq (show Soft w4.heap.size w5.heap.size w9 DI by rw[Me];exact Fu.putInt 99 e5 jj);have gm:xb < wr.heap.size:=by have:=jj.2;omega
     have gn:(k2:Int) < (xl:Int):=by omega
     have uO:(0:Int)<=(k2:Int):=by omega
     obtain⟨zl,vj⟩:=nmq (Exs.len ys);rw[<-vj]at c3 gj;have zt:zl<=9223372036854775807:=leq9 gj.1 gj.2.1.1;have uP:=hdq gj;have uQ:=hdq vj;have TF:=hdq c3;have Xo:=hdq Me;have uR:=hdq jj;clear Gf c5 NO jj c3 gj vj Me;go_wp2_with fail;rw[<-Xo.out];clear d5 y5 yl Uq e5 z5 gm;go_loopw [10] (λi wx=>∃k3:Nat,k3<=zl/\i= .int .i64 k3/\Hid (Soft w4.heap.size w5.heap.size w9 wx)) (λi _=>zl - (intOf i).toNat);case atStart=>exact⟨0,Nat.zero_le _,rfl,gk⟩
     case round=>
      clear gk;obtain⟨k3,Hw,rfl,Mw⟩:=hrel;have y5:=(HG wr Mw.out).cell 5;have yl:=(HG wr Mw.out).lt;simp only[getsL]at y5;have d5:=Mw.slice Ru.out;have d3:=Mw.slice TF.out;have Uq:eb < wr.heap.size:=by have:=zq.2;omega
      have gm:xb < wr.heap.size:=by have:=uR.2;omega
      by_cases vm:k3 < zl
      ·obtain⟨ub,uo,rfl,zu⟩:=uP.2.2 (by omega);obtain⟨vp,⟨q2,c2⟩,Gn⟩:=ExR.at_ (k:=k3) zu (by rw[<-uQ.out];exact vm);obtain⟨m2,e2⟩:=Mw.int c2;have z2:=Mw.thaw Gn;have HN:=hdq (Mw.putInt 99 e2 vp);have uS:ub < wr.heap.size:=by have:=vp.2;omega
       have gp:(k3:Int) < (zl:Int):=by omega
       have uT:(0:Int)<=(k3:Int):=by omega
       clear zu c2 Gn vp;go_wp2_with fail;go_roundw;case rel=>exact⟨k3+1,by omega,by go_num,HN⟩
       case measure=>simp[intOf];omega
      ·have gp:¬(k3:Int) < (zl:Int):=by omega
       go_wp2_with fail;go_roundw;case rel=>exact⟨k2+1,by omega,by go_num,Mw⟩
       case measure=>simp[intOf];omega
    ·have gn:¬(k2:Int) < (xl:Int):=by omega
     go_wp2_with fail;go_roundw;case rel=>exact⟨k+1,by omega,by go_num,Fu⟩
     case measure=>simp[intOf];omega
  ·have Hl:¬(k:Int) < (ne:Int):=by omega
   have HB:=hdq (ZL wr HR.out);obtain⟨x0,x1,x2,x3,Hv⟩:=bk4 (show Bk wr _ _ _ from(HB.block _ KO.lt).trans KO.out);obtain⟨z0,z1,z2,z3,Gz⟩:=bk4 (show Bk wr _ _ _ from(HB.block _ GO.lt).trans GO.out);have X8:=hdq (GL.plain.trans (HB.mono GL.size));have Yh:=hdq (H6 wr X8.out _ _ Bv Ba Bp Bm dv da dp dm (uF _ HB.out) (HT _ HB.out));go_wp2_with fail;refine Yh.mono ?_;rintro _ y ⟨rfl,hy⟩;have HE:=hdq (X8.trans (hy.plain.mono X8.size));clear hy;go_wp2_with fail;go_ret;exact⟨rfl,HE.out⟩
