/-
  law12: InlineDoes.
-/
import Derived.Test.YtmopichdofgndaaGreatDoorR2Top
import Derived.Test.YtmopichdofgndaaGreatDoorJgTwLaid
set_option linter.unusedVariables false
set_option linter.unusedSimpArgs false
namespace Go.Proofs.YtmopichdofgndaaGreatDoor
open Go.RowKit Go.Shelf

set_option maxRecDepth 100000 in
set_option maxHeartbeats 3200000 in
theorem indoes_any (t:Tre) (w:World) (S:Nat→Prop) (Z:Prop) (Av Aa Ap Am:Option Addr) (cv ca cp cm:Nat) (he:TwEnv w) (hS:∀b,S b→b < w.heap.size) (hsz:SzT t) (hx:TrR w S Z t Av Aa Ap Am cv ca cp cm):
  Calls Tryz.prog 3 #[trV t Av Aa Ap Am cv ca cp cm] w (TruePost w):=by
 have hX:=fun(W:World) (hf:Fr NoT w W)=>hx.keep (hf.same fun b hb=>⟨hS b hb,id⟩)
 have hSW:=fun(W:World) (hf:Fr NoT w W) b (hb:S b)=>ltq (hS b hb) hf.size
 have h1:=fun(W:World) (hf:Fr NoT w W)=>tgreat_any t W S Z Av Aa Ap Am cv ca cp cm (hSW W hf) (hX W hf)
 have h2:=fun(W:World) (hf:Fr NoT w W)=>bare_any t W S Z Av Aa Ap Am cv ca cp cm (hSW W hf) (hX W hf)
 have h3:=fun(W:World) (hf:Fr NoT w W)=>inl_any t W S Z Av Aa Ap Am cv ca cp cm (he.keep hf.plain).sp (he.keep hf.plain).tab (hSW W hf) hsz (hX W hf)
 have h4:=fun(W:World) (hf:Fr NoT w W)=>rinl_any t W S Z Av Aa Ap Am cv ca cp cm (he.keep hf.plain).tab (hSW W hf) hsz (hX W hf)
 have h6:=fun(W:World) (hf:Below w.heap.size w W) (S':Nat→Prop) (Z':Prop) (Bv Ba Bp Bm:Option Addr) (dv da dp dm:Nat) (hs:∀b,S' b→b < W.heap.size) (hb:TrR W S' Z' t.bare Bv Ba Bp Bm dv da dp dm)=>
  ralikeT_any t.bare t W S' S Z' Z Bv Ba Bp Bm Av Aa Ap Am dv da dp dm cv ca cp cm hs (fun b h=>ltq (hS b h) hf.size) hb (hx.keep (SameS.of hf hS))
 rw[eqT_alike (bareT_bare t)]at h6
 obtain⟨⟨u,er⟩,hp⟩:=nmq (inlT t)
 rw[←hp]at h3 h4
 have h5:=fun(W:World) (S1 S2:Nat→Prop) (Z1 Z2:Prop) (Bv Ba Bp Bm Cv Ca Cp Cm:Option Addr) (dv da dp dm ev ea ep em:Nat) (k1:∀b,S1 b→b < W.heap.size) (k2:∀b,S2 b→b < W.heap.size) (k3:TrR W S1 Z1 u Bv Ba Bp Bm dv da dp dm) (k4:TrR W S2 Z2 u Cv Ca Cp Cm ev ea ep em)=>
  rsameT_any u u W S1 S2 Z1 Z2 Bv Ba Bp Bm Cv Ca Cp Cm dv da dp dm ev ea ep em k1 k2 k3 k4
 rw[eqT_refl]at h5
 unfold InlP at h3 h4
 unfold BaP at h2
 unfold trV at h1 h2 h3 h4 h5 h6 ⊢
 obtain⟨n1,hn1⟩:=nmq t.vars.length
 obtain⟨n2,hn2⟩:=nmq t.arrays.length
 obtain⟨n3,hn3⟩:=nmq t.procs.length
 obtain⟨n4,hn4⟩:=nmq t.main.len
 obtain⟨b1,hb1⟩:=nmq t.bare.vars.length
 obtain⟨b2,hb2⟩:=nmq t.bare.arrays.length
 obtain⟨b3,hb3⟩:=nmq t.bare.procs.length
 obtain⟨b4,hb4⟩:=nmq t.bare.main.len
 obtain⟨u1,hu1⟩:=nmq u.vars.length
 obtain⟨u2,hu2⟩:=nmq u.arrays.length
 obtain⟨u3,hu3⟩:=nmq u.procs.length
 obtain⟨u4,hu4⟩:=nmq u.main.len
 rw[←hn1,←hn2,←hn3,←hn4]at h1 h2 h3 h4 h6 ⊢
 rw[←hb1,←hb2,←hb3,←hb4]at h2 h6
 simp only at h3 h4
 rw[←hu1,←hu2,←hu3,←hu4]at h3 h4 h5
 have HF1:=hdq (show Fr NoT w (w.alloc (.cells #[.slice Av n1 cv,.slice Aa n2 ca,.slice Ap n3 cp,.slice Am n4 cm] 27))from(Fr.refl _ _).alloc _)
 have HK1:=hdq (Bk.new w 27 #[.slice Av n1 cv,.slice Aa n2 ca,.slice Ap n3 cp,.slice Am n4 cm])
 have H1:=hdq h1
 have H2:=hdq h2
 have H3:=hdq h3
 have H4:=hdq h4
 have H5:=hdq h5
 have H6:=hdq h6
 have HU:=hdq (aiq hu1 hu4)
 clear hX hSW h1 h2 h3 h4 h5 h6 hx hsz hS he hp hn1 hn2 hn3 hn4 hb1 hb2 hb3 hb4 hu1 hu2 hu3 hu4
 go_enter Tryz.func3,Tryz.ntmps3
 go_wp2_with fail
 refine(H1.out _ HF1.out).mono ?_
 rintro _ w2 ⟨g0,rfl,hf2⟩
 have HF2:=hdq (HF1.out.trans hf2)
 have HK2:=hdq (HK1.out.fr0 hf2)
 obtain⟨x0,x1,x2,x3,hl1⟩:=bk4 HK2.out
 clear hf2
 cases g0
 rotate_left
 ·go_wp2_with fail
  go_ret
  exact⟨rfl,HF2.out.plain⟩
 go_wp2_with fail
 refine(H2.out _ HF2.out).mono ?_
 rintro _ w3 ⟨Bv,Ba,Bp,Bm,dv,da,dp,dm,rfl,htr,hf3⟩
 obtain⟨w4,hw4⟩:=nmq (w3.alloc (.cells #[.slice Bv b1 dv,.slice Ba b2 da,.slice Bp b3 dp,.slice Bm b4 dm] 27))
 have hk5:Bk w4 w3.heap.size 27 #[.slice Bv b1 dv,.slice Ba b2 da,.slice Bp b3 dp,.slice Bm b4 dm]:=by rw[hw4];exact Bk.new _ _ _
 have hf4:Fr NoT w3 w4:=by rw[hw4];exact(Fr.refl _ _).alloc _
 have HT:=hdq (fun(W:World) (hf:Below w4.heap.size w4 W)=>htr.keep (SameS.trans (hf4.same fun b hb=>⟨hb.2,id⟩) (SameS.of hf fun b hb=>ltq hb.2 hf4.size)))
 have HTS:=hdq (fun(W:World) (hf:Below w4.heap.size w4 W) b (hb:New w2.heap.size w3 b)=>ltq (ltq hb.2 hf4.size) hf.size)
 have HK5:=hdq hk5
 have HK4:=hdq (HK2.out.fr0 (hf3.trans hf4))
 have HK3:=hdq (HK2.out.fr0 hf3)
 have HF4:=hdq ((HF2.out.trans hf3).trans hf4)
 have HW4:=hdq hw4
 have HL34:=hdq (show w3.heap.size < w4.heap.size from by rw[hw4];simp)
 clear H1 H2 htr hf3 hk5 hf4 hw4 x0 x1 x2 x3 hl1
 obtain⟨x0,x1,x2,x3,hl1⟩:=bk4 HK3.out
 go_wp2_with fail
 rw[←HW4.out]
 refine(H3.out _ HF4.out).mono ?_
 rintro _ w5 ⟨Cv,Ca,Cp,Cm,ev,ea,ep,em,rfl,hty,hf5⟩
 obtain⟨w6,hw6⟩:=nmq (w5.alloc (.cells #[.slice Cv u1 ev,.slice Ca u2 ea,.slice Cp u3 ep,.slice Cm u4 em] 27))
 have hk6:Bk w6 w5.heap.size 27 #[.slice Cv u1 ev,.slice Ca u2 ea,.slice Cp u3 ep,.slice Cm u4 em]:=by rw[hw6];exact Bk.new _ _ _
 have hf6:Fr NoT w5 w6:=by rw[hw6];exact(Fr.refl _ _).alloc _
 have HK6:=hdq hk6
 have HF6:=hdq (hf5.trans hf6)
 have HY:=hdq (fun(W:World) (hf:Fr NoT w6 W)=>hty.keep ((hf6.trans hf).same fun b hb=>⟨hb.2,id⟩))
 have HYS:=hdq (fun(W:World) (hf:Fr NoT w6 W) b (hb:New w4.heap.size w5 b)=>ltq hb.2 (hf6.trans hf).size)
 have HW6:=hdq hw6
 have HK46:=hdq (HK4.out.fr0 (hf5.trans hf6))
 have HK45:=hdq (HK4.out.fr0 hf5)
 have HL56:=hdq (show w5.heap.size < w6.heap.size from by rw[hw6];simp)
 have HL45:=hdq hf5.size
 clear H3 hty hf5 hk6 hf6 hw6 x0 x1 x2 x3 hl1
 obtain⟨x0,x1,x2,x3,hl1⟩:=bk4 HK45.out
 go_wp2_with fail
 rw[←HW6.out]
 refine(H4.out _ (HF4.out.trans HF6.out)).mono ?_
 rintro _ w7 ⟨Dv,Da,Dp,Dm,fv,fa,fp,fm,rfl,htz,hf7⟩
 obtain⟨w8,hw8⟩:=nmq (w7.alloc (.cells #[.slice Dv u1 fv,.slice Da u2 fa,.slice Dp u3 fp,.slice Dm u4 fm] 27))
 have hf8:Fr NoT w7 w8:=by rw[hw8];exact(Fr.refl _ _).alloc _
 have HW8:=hdq hw8
 have HF8:=hdq (hf7.trans hf8)
 have HC5:=hdq (H5.out w8 _ _ _ _ Cv Ca Cp Cm Dv Da Dp Dm ev ea ep em fv fa fp fm (HYS.out _ (hf7.trans hf8)) (fun b hb=>ltq hb.2 hf8.size) (HY.out _ (hf7.trans hf8)) (htz.keep (hf8.same fun b hb=>⟨hb.2,id⟩)))
 have HK67:=hdq (HK6.out.fr0 hf7)
 clear H4 H5 htz hf7 hf8 hw8 x0 x1 x2 x3 hl1
 obtain⟨y0,y1,y2,y3,hl2⟩:=bk4 HK67.out
 go_wp2_with fail
 rw[←HW8.out]
 refine HC5.out.mono ?_
 rintro _ w9 ⟨rfl,hf9⟩
 have HF9:=hdq (HF8.out.trans hf9)
 clear HC5 HW8 HF8 hf9 y0 y1 y2 y3 hl2
 have HM:=hdq (HY.out _ HF9.out)
 have HS9:=hdq (show ∀W,Soft w4.heap.size w5.heap.size w9 W→Below w4.heap.size w4 W from fun W h=>by
  have hb1:=(HF6.out.trans HF9.out).plain
  have hb2:=h.fr.to_below (B:=w4.heap.size) (HF6.out.trans HF9.out).size fun i hi e=>by omega
  exact Below.trans hb1 hb2)
 have HG:=hdq (show ∀W,Soft w4.heap.size w5.heap.size w9 W→Bk W w5.heap.size 27 #[.slice Cv u1 ev,.slice Ca u2 ea,.slice Cp u3 ep,.slice Cm u4 em]from fun W h=>(HK6.out.fr0 HF9.out).fr h.fr fun e=>by have:=e.2;omega)
 clear HY HYS HK6 HK67 HF9
 have HX0:=hdq (Soft.refl w4.heap.size w5.heap.size w9)
 have hu4:u4≤9223372036854775807:=by rw[HU.out.2];exact leq9 HM.out.main.1 HM.out.main.2.1.1
 have hu1:u1≤9223372036854775807:=by rw[HU.out.1];exact leq9 HM.out.vars.1 HM.out.vars.2.1.1
 obtain⟨y0,y1,y2,y3,hl2⟩:=bk4 (HG.out w9 HX0.out)
 go_wp2_with fail
 clear y0 y1 y2 y3 hl2
 go_loopw [8] (fun i wr=>∃k:Nat,k≤u4∧i= .int .i64 k∧Hid (Soft w4.heap.size w5.heap.size w9 wr)) (fun i _=>u4 - (intOf i).toNat)
 case atStart=>exact⟨0,Nat.zero_le _,rfl,HX0⟩
 case round=>
  clear HX0
  obtain⟨k,hk,rfl,HR⟩:=hrel
  obtain⟨y0,y1,y2,y3,hl2⟩:=bk4 (HG.out wr HR.out)
  by_cases hlt:k < u4
  ·obtain⟨a0,a1,a2,a3,a4,a5,a6,ar,hd⟩:=Sts.drop_cons (show k < u.main.len from by rw[←HU.out.2];exact hlt)
   obtain⟨mb,mo,rfl,hrow⟩:=HM.out.main.2.2 (by rw[←HU.out.2];omega)
   obtain⟨hbS,⟨q0,c0⟩,hz0,XA,xc,c2,hsl⟩:=hrow.at_ hd
   obtain⟨m0,d0⟩:=HR.out.int c0
   have z0:=HR.out.thaw hz0
   obtain⟨w10,hw10⟩:=nmq (wr.setCell ⟨mb,mo+k*7,none⟩ (.int .u8 99))
   have HR10:=hdq (show Soft w4.heap.size w5.heap.size w9 w10 by rw[hw10];exact HR.out.putInt 99 d0 hbS)
   have hmbl:mb < wr.heap.size:=by have:=HR.out.fr.size;have:=hl2;have:=hbS.2;omega
   obtain⟨xl,hxl⟩:=nmq a2.len
   rw[←hxl]at c2 hsl
   have hxl63:xl≤9223372036854775807:=leq9 hsl.1 hsl.2.1.1
   have HSL:=hdq hsl
   have HXL:=hdq hxl
   have HC2:=hdq c2
   have HW10:=hdq hw10
   have HBS:=hdq hbS
   have hlt':(k:Int) < (u4:Int):=by omega
   have hge:(0:Int)≤(k:Int):=by omega
   clear hd hrow hz0 c0 c2 hsl hxl hw10 hbS
   go_wp2_with fail
   rw[←HW10.out]
   clear d0 z0 y0 y1 y2 y3 hl2 hmbl
   go_loopw [9] (fun i wx=>∃k2:Nat,k2≤xl∧i= .int .i64 k2∧Hid (Soft w4.heap.size w5.heap.size w9 wx)) (fun i _=>xl - (intOf i).toNat)
   case atStart=>exact⟨0,Nat.zero_le _,rfl,HR10⟩
   case round=>
    clear HR10
    obtain⟨k2,hk2,rfl,HR2⟩:=hrel
    obtain⟨y0,y1,y2,y3,hl2⟩:=bk4 (HG.out wr HR2.out)
    have d2:=HR2.out.slice HC2.out
    have hmbl:mb < wr.heap.size:=by have:=HR2.out.fr.size;have:=hl2;have:=HBS.out.2;omega
    by_cases hlt2:k2 < xl
    ·obtain⟨xb,xo,rfl,hxr⟩:=HSL.out.2.2 (by omega)
     obtain⟨hxS,⟨q5,c5⟩,hz5⟩:=hxr.at_ (k:=k2) (by rw[←HXL.out];exact hlt2)
     obtain⟨m5,d5⟩:=HR2.out.int c5
     have z5:=HR2.out.thaw hz5
     have HN:=hdq (HR2.out.putInt 99 d5 hxS)
     have hxbl:xb < wr.heap.size:=by have:=HR2.out.fr.size;have:=hl2;have:=hxS.2;omega
     have hlt2':(k2:Int) < (xl:Int):=by omega
     have hge2:(0:Int)≤(k2:Int):=by omega
     clear hxr c5 hz5 hxS
     go_wp2_with fail
     go_roundw
     case rel=>exact⟨k2+1,by omega,by go_num,HN⟩
     case measure=>simp[intOf];omega
    ·have hlt2':¬(k2:Int) < (xl:Int):=by omega
     go_wp2_with fail
     go_roundw
     case rel=>exact⟨k+1,by omega,by go_num,HR2⟩
     case measure=>simp[intOf];omega
  ·have hlt':¬(k:Int) < (u4:Int):=by omega
   go_wp2_with fail
   clear y0 y1 y2 y3 hl2
   go_loopw [10] (fun i wx=>∃k2:Nat,k2≤u1∧i= .int .i64 k2∧Hid (Soft w4.heap.size w5.heap.size w9 wx)) (fun i _=>u1 - (intOf i).toNat)
   case atStart=>exact⟨0,Nat.zero_le _,rfl,HR⟩
   case round=>
    clear HR
    obtain⟨k2,hk2,rfl,HR2⟩:=hrel
    obtain⟨y0,y1,y2,y3,hl2⟩:=bk4 (HG.out wr HR2.out)
    by_cases hlt2:k2 < u1
    ·obtain⟨xb,xo,rfl,hxr⟩:=HM.out.vars.2.2 (by rw[←HU.out.1];omega)
     obtain⟨hxS,⟨q5,c5⟩,hz5⟩:=hxr.at_ (k:=k2) (by rw[←HU.out.1];exact hlt2)
     obtain⟨m5,d5⟩:=HR2.out.str c5
     have z5:=HR2.out.thaw hz5
     have HN:=hdq (HR2.out.putStr ⟨#[113]⟩ d5 hxS)
     have hxbl:xb < wr.heap.size:=by have:=HR2.out.fr.size;have:=hl2;have:=hxS.2;omega
     have hlt2':(k2:Int) < (u1:Int):=by omega
     have hge2:(0:Int)≤(k2:Int):=by omega
     clear hxr c5 hz5 hxS
     go_wp2_with fail
     go_roundw
     case rel=>exact⟨k2+1,by omega,by go_num,HN⟩
     case measure=>simp[intOf];omega
    ·have hlt2':¬(k2:Int) < (u1:Int):=by omega
     have HB:=hdq (HS9.out wr HR2.out)
     obtain⟨x0,x1,x2,x3,hl1⟩:=bk4 (show Bk wr _ _ _ from(HB.out.block _ HK4.out.lt).trans HK4.out)
     obtain⟨z0,z1,z2,z3,hl3⟩:=bk4 (show Bk wr _ _ _ from(HB.out.block _ HK5.out.lt).trans HK5.out)
     have HBW:=hdq (HF4.out.plain.trans (HB.out.mono HF4.out.size))
     have HC6:=hdq (H6.out wr HBW.out _ _ Bv Ba Bp Bm dv da dp dm (HTS.out _ HB.out) (HT.out _ HB.out))
     go_wp2_with fail
     refine HC6.out.mono ?_
     rintro _ y ⟨rfl,hy⟩
     have HE:=hdq (HBW.out.trans (hy.plain.mono HBW.out.size))
     clear hy
     go_wp2_with fail
     go_ret
     exact⟨rfl,HE.out⟩
end Go.Proofs.YtmopichdofgndaaGreatDoor
