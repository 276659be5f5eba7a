/- print.stmt: an if. -/
import Derived.Test.YtfomomaomggpbaaGreatDoorJgCkB
set_option linter.all false
set_option maxHeartbeats 3200000
set_option maxRecDepth 100000
namespace Go.Proofs.YtfomomaomggpbaaGreatDoor
open Go.RowKit Go.Shelf
theorem zik (k:Int)(nm:ByteArray)(at_:Int)(A:Option Addr)(l c:Nat)(B:Option Addr)(m d:Nat)(D:Option Addr)(u e:Nat)(E:Option Addr)(v f:Nat)(r1 r2 r3 r4:Bool)(w:World)(he:SpEnv w)(hs:nm.size<=9223372036854775807)
  (hl:l<=9223372036854775807) (hm:m<=9223372036854775807) (hu:u<=9223372036854775807) (hv:v<=9223372036854775807)
  (h1:AllC 168 169 w A l c r1) (h2:AllC 170 171 w B m d r2) (h3:AllC 93 94 w D u e r3) (h4:AllC 93 94 w E v f r4)
  (k1:1<=k) (k2:k<=9) (Lp:k=7) (a o c2:Int) (b:Bool) (Fi:∀w,(Instr.index 271 (tabV zaQ) (.int .u8 k)).run Tryz.prog w= .ok (.agg #[.int .i64 a,.int .i64 o,.int .i64 c2,.bool b]) w) (FE:decide (a < 0)=false):
  Calls Tryz.prog 94 #[.agg #[.int .u8 k,.string nm,.slice A l c,.slice B m d,.slice D u e,.slice E v f,.int .i64 at_]] w (zap (nmdB b nm&&((l:Int)==a)&&((m:Int)==c2)&&r1&&r2&&r3&&r4) w):=by
 subst Lp;obtain⟨R,hR⟩:=nmq ((nmdB b nm&&((l:Int)==a)&&((m:Int)==c2)&&r1&&r2&&r3&&r4));rw[<-hR];have H1:=hdq h1;have H2:=hdq h2;have H3:=hdq h3;have H4:=hdq h4;have LO:=hdq (λ(W:World)(h:Fr NoT w W)=>zbq b nm hs W (he.keep h.plain));obtain⟨q,hq⟩:=nmq (nmdB b nm);rw[<-hq]at LO hR;have G3:=hdq hR;have e1:decide ((7:Int) < 1)=false:=by decide
 have e2:decide (9 < (7:Int))=false:=by decide
 have Gs:=hdq (Bk.new w 51 #[.int .u8 7,.string nm,.slice A l c,.slice B m d,.slice D u e,.slice E v f,.int .i64 at_]);obtain⟨w1,Hc⟩:=nmq (w.alloc (.cells #[.int .u8 7,.string nm,.slice A l c,.slice B m d,.slice D u e,.slice E v f,.int .i64 at_] 51));rw[<-Hc]at Gs;have Hs:=hdq (show Fr NoT w w1 from by rw[Hc];exact(Fr.refl _ _).alloc _);have Gg:=hdq Hc;clear h1 h2 h3 h4 hq hR Hc k1 k2 he hs;go_enter Tryz.func94,Tryz.ntmps94
 go_upto_region 3 with fail
 rw[<-Gg.out];have yo:=Gs.cell 0;have Fo:=Gs.lt;simp only[getsL]at yo;go_cut [3] (λs3 wx=>∃P:Nat,s3= .pointer (some ⟨P,0,none⟩)/\Fr NoT w1 wx/\P < wx.heap.size/\wx.cell? ⟨P,0,none⟩=some (.int .i64 a)/\wx.cell? ⟨P,1,none⟩=some (.int .i64 o)/\wx.cell? ⟨P,2,none⟩=some (.int .i64 c2)/\wx.cell? ⟨P,3,none⟩=some (.bool b));case first=>
  go_region_law
   (first
    |(go_simp
      go_at_call 166
      with_reducible refine(zba (w1.alloc (.cells #[.int .i64 0,.int .i64 0,.int .i64 0,.bool false] 270)).drew).mono ?_
      rintro _ w5 ⟨rfl,hb⟩;have Hj:Fr NoT w1 w5:=(Fr.drew ((Fr.refl _ _).alloc _)).trans (Fr.below hb);have Gb:=((Bk.new w1 270 #[.int .i64 0,.int .i64 0,.int .i64 0,.bool false]).fr0 (Fr.drew (Fr.refl NoT _))).fr0 (Fr.below hb);have ym:=(Gs.fr0 Hj).cell 0;have z0:=Gb.cell 0;have z1:=Gb.cell 1;have z2:=Gb.cell 2;have z3:=Gb.cell 3;have y0:=Gb.frozen 0;have y1:=Gb.frozen 1;have y2:=Gb.frozen 2;have y3:=Gb.frozen 3;have Jf:=(Gs.fr0 Hj).lt;have FU:=Gb.lt;simp only[getsL]at ym z0 z1 z2 z3;have Gl:=hdq Hj;have JU:=hdq Gb;clear hb Hj Gb;dsimp only)
    |(go_simp
      go_at_call 166
      with_reducible refine(zba w1.drew).mono ?_
      rintro _ w5 ⟨rfl,hb⟩;have Hj:Fr NoT w1 w5:=(Fr.drew (Fr.refl _ _)).trans (Fr.below hb);have ym:=(Gs.fr0 Hj).cell 0;simp only[getsL]at ym;have Jf:=(Gs.fr0 Hj).lt;have Gl:=hdq Hj;clear hb Hj;dsimp only))
  all_goals
   go_wp2_with fail
   go_meet
   first
    |(refine⟨_,rfl,Gl.alloc _,by simp,?_⟩
      simp)
    |(refine⟨_,rfl,(((Gl.high (lrq _) 0 _).high (lrq _) 1 _).high (lrq _) 2 _).high (lrq _) 3 _,by simpa using FU,?_⟩
      have h:=(((JU.set_ 0 (.int .i64 a)).set_ 1 (.int .i64 o)).set_ 2 (.int .i64 c2)).set_ 3 (.bool b);exact⟨h.cell 0,h.cell 1,h.cell 2,h.cell 3⟩)
 case rest=>
  obtain⟨P,rfl,Jj,hP,p0,p1,p2,p3⟩:=hcut;have hbx:=Gs.fr0 Jj;have b0:=hbx.cell 0;have b1:=hbx.cell 1;have Vj:=hbx.lt;simp only[getsL]at b0 b1;have L4:=hdq (Hs.trans Jj);have JC:=hdq hbx;clear Jj hbx yo Fi;go_wp2_with fail
  go_quiet (fail)
  go_wp2_with fail;refine(LO _ (L4.drewN _)).mono ?_;rintro _ w6 ⟨rfl,hb⟩;have FJ:=(show Fr NoT _ _ from(Fr.refl NoT _).drewN _).trans hb;have Hu:=JC.fr0 FJ;have b2:=Hu.cell 2;have b3:=Hu.cell 3;have b4:=Hu.cell 4;have b5:=Hu.cell 5;have FU:=Hu.lt;have yy:=(FJ.cell (p:=⟨P,0,none⟩) hP id).trans p0;have yD:=(FJ.cell (p:=⟨P,2,none⟩) hP id).trans p2;have W4:=ltq hP FJ.size;simp only[getsL]at b2 b3 b4 b5;have G1:=hdq (L4.trans FJ);have LC:=hdq Hu;clear hb FJ Hu b0 b1 p0 p1 p2 p3;cases q
  ·have HF:=hdq (show R=false from by rw[G3.out];simp);go_wp2_with fail;go_ret;exact⟨by rw[HF.out];rfl,G1.out⟩
  cases h7:(l:Int)==a
  ·have HF:=hdq (show R=false from by rw[G3.out,h7];simp);go_wp2_with fail;go_ret;exact⟨by rw[HF.out];rfl,G1.out⟩
  cases h8:(m:Int)==c2
  ·have HF:=hdq (show R=false from by rw[G3.out,h7,h8];simp);go_wp2_with fail;go_ret;exact⟨by rw[HF.out];rfl,G1.out⟩
  have Nd:=G3.out;simp only[h7,h8,Bool.true_and]at Nd;have GB:=hdq Nd;clear Nd G3;go_wp2_with fail;refine(H1 _ G1.out).mono ?_;rintro _ y1 ⟨rfl,hb⟩;have KX:=hdq (G1.trans hb);have Hu:=LC.fr0 hb;have Nf:=hdq Hu;have S7:=Hu.lt;have b3_1:=Hu.cell 3;have b4_1:=Hu.cell 4;have b5_1:=Hu.cell 5;simp only[getsL]at b3_1 b4_1 b5_1;clear hb Hu b2 b3 b4 b5 yy yD;cases r1
  ·have HF:=hdq (show R=false from by rw[GB.out];simp);go_wp2_with fail;go_ret;exact⟨by rw[HF.out];rfl,KX.out⟩
  go_wp2_with fail;refine(H2 _ KX.out).mono ?_;rintro _ y2 ⟨rfl,hb⟩;have LD:=hdq (KX.trans hb);have Hu:=Nf.fr0 hb;have Ng:=hdq Hu;have S8:=Hu.lt;have b4_2:=Hu.cell 4;have b5_2:=Hu.cell 5;simp only[getsL]at b4_2 b5_2;clear hb Hu b3_1 b4_1 b5_1;cases r2
  ·have HF:=hdq (show R=false from by rw[GB.out];simp);go_wp2_with fail;go_ret;exact⟨by rw[HF.out];rfl,LD.out⟩
  go_wp2_with fail;refine(H3 _ LD.out).mono ?_;rintro _ y3 ⟨rfl,hb⟩;have Nh:=hdq (LD.trans hb);have Hu:=Ng.fr0 hb;have Ni:=hdq Hu;have S9:=Hu.lt;have b5_3:=Hu.cell 5;simp only[getsL]at b5_3;clear hb Hu b4_2 b5_2;cases r3
  ·have HF:=hdq (show R=false from by rw[GB.out];simp);go_wp2_with fail;go_ret;exact⟨by rw[HF.out];rfl,Nh.out⟩
  go_wp2_with fail;refine(H4 _ Nh.out).mono ?_;rintro _ y4 ⟨rfl,hb⟩;have PX:=hdq (Nh.trans hb);have Hu:=Ni.fr0 hb;have Ta:=hdq Hu;have Tb:=Hu.lt;clear hb Hu b5_3;cases r4
  ·have HF:=hdq (show R=false from by rw[GB.out];simp);go_wp2_with fail;go_ret;exact⟨by rw[HF.out];rfl,PX.out⟩
  have HF:=hdq (show R=true from by rw[GB.out];rfl);go_wp2_with fail;go_ret;exact⟨by rw[HF.out];rfl,PX.out⟩
theorem zil (k:Int)(nm:ByteArray)(at_:Int)(A:Option Addr)(l c:Nat)(B:Option Addr)(m d:Nat)(D:Option Addr)(u e:Nat)(E:Option Addr)(v f:Nat)(r1 r2 r3 r4:Bool)(w:World)(he:SpEnv w)(hs:nm.size<=9223372036854775807)
  (hl:l<=9223372036854775807) (hm:m<=9223372036854775807) (hu:u<=9223372036854775807) (hv:v<=9223372036854775807)
  (h1:AllC 168 169 w A l c r1) (h2:AllC 170 171 w B m d r2) (h3:AllC 93 94 w D u e r3) (h4:AllC 93 94 w E v f r4)
  (k1:1<=k) (k2:k<=9) (J8:k=8) (a o c2:Int) (b:Bool) (Fi:∀w,(Instr.index 271 (tabV zaQ) (.int .u8 k)).run Tryz.prog w= .ok (.agg #[.int .i64 a,.int .i64 o,.int .i64 c2,.bool b]) w) (FE:decide (a < 0)=false):
  Calls Tryz.prog 94 #[.agg #[.int .u8 k,.string nm,.slice A l c,.slice B m d,.slice D u e,.slice E v f,.int .i64 at_]] w (zap (nmdB b nm&&((l:Int)==a)&&((m:Int)==c2)&&(v==0)&&r1&&r2&&r3&&r4) w):=by
 subst J8;obtain⟨R,hR⟩:=nmq ((nmdB b nm&&((l:Int)==a)&&((m:Int)==c2)&&(v==0)&&r1&&r2&&r3&&r4));rw[<-hR];have H1:=hdq h1;have H2:=hdq h2;have H3:=hdq h3;have H4:=hdq h4;have LO:=hdq (λ(W:World)(h:Fr NoT w W)=>zbq b nm hs W (he.keep h.plain));obtain⟨q,hq⟩:=nmq (nmdB b nm);rw[<-hq]at LO hR;have G3:=hdq hR;have e1:decide ((8:Int) < 1)=false:=by decide
 have e2:decide (9 < (8:Int))=false:=by decide
 have Gs:=hdq (Bk.new w 51 #[.int .u8 8,.string nm,.slice A l c,.slice B m d,.slice D u e,.slice E v f,.int .i64 at_]);obtain⟨w1,Hc⟩:=nmq (w.alloc (.cells #[.int .u8 8,.string nm,.slice A l c,.slice B m d,.slice D u e,.slice E v f,.int .i64 at_] 51));rw[<-Hc]at Gs;have Hs:=hdq (show Fr NoT w w1 from by rw[Hc];exact(Fr.refl _ _).alloc _);have Gg:=hdq Hc;clear h1 h2 h3 h4 hq hR Hc k1 k2 he hs;go_enter Tryz.func94,Tryz.ntmps94
 go_upto_region 3 with fail
 rw[<-Gg.out];have yo:=Gs.cell 0;have Fo:=Gs.lt;simp only[getsL]at yo;go_cut [3] (λs3 wx=>∃P:Nat,s3= .pointer (some ⟨P,0,none⟩)/\Fr NoT w1 wx/\P < wx.heap.size/\wx.cell? ⟨P,0,none⟩=some (.int .i64 a)/\wx.cell? ⟨P,1,none⟩=some (.int .i64 o)/\wx.cell? ⟨P,2,none⟩=some (.int .i64 c2)/\wx.cell? ⟨P,3,none⟩=some (.bool b));case first=>
  go_region_law
   (first
    |(go_simp
      go_at_call 166
      with_reducible refine(zba (w1.alloc (.cells #[.int .i64 0,.int .i64 0,.int .i64 0,.bool false] 270)).drew).mono ?_
      rintro _ w5 ⟨rfl,hb⟩;have Hj:Fr NoT w1 w5:=(Fr.drew ((Fr.refl _ _).alloc _)).trans (Fr.below hb);have Gb:=((Bk.new w1 270 #[.int .i64 0,.int .i64 0,.int .i64 0,.bool false]).fr0 (Fr.drew (Fr.refl NoT _))).fr0 (Fr.below hb);have ym:=(Gs.fr0 Hj).cell 0;have z0:=Gb.cell 0;have z1:=Gb.cell 1;have z2:=Gb.cell 2;have z3:=Gb.cell 3;have y0:=Gb.frozen 0;have y1:=Gb.frozen 1;have y2:=Gb.frozen 2;have y3:=Gb.frozen 3;have Jf:=(Gs.fr0 Hj).lt;have FU:=Gb.lt;simp only[getsL]at ym z0 z1 z2 z3;have Gl:=hdq Hj;have JU:=hdq Gb;clear hb Hj Gb;dsimp only)
    |(go_simp
      go_at_call 166
      with_reducible refine(zba w1.drew).mono ?_
      rintro _ w5 ⟨rfl,hb⟩;have Hj:Fr NoT w1 w5:=(Fr.drew (Fr.refl _ _)).trans (Fr.below hb);have ym:=(Gs.fr0 Hj).cell 0;simp only[getsL]at ym;have Jf:=(Gs.fr0 Hj).lt;have Gl:=hdq Hj;clear hb Hj;dsimp only))
  all_goals
   go_wp2_with fail
   go_meet
   first
    |(refine⟨_,rfl,Gl.alloc _,by simp,?_⟩
      simp)
    |(refine⟨_,rfl,(((Gl.high (lrq _) 0 _).high (lrq _) 1 _).high (lrq _) 2 _).high (lrq _) 3 _,by simpa using FU,?_⟩
      have h:=(((JU.set_ 0 (.int .i64 a)).set_ 1 (.int .i64 o)).set_ 2 (.int .i64 c2)).set_ 3 (.bool b);exact⟨h.cell 0,h.cell 1,h.cell 2,h.cell 3⟩)
 case rest=>
  obtain⟨P,rfl,Jj,hP,p0,p1,p2,p3⟩:=hcut;have hbx:=Gs.fr0 Jj;have b0:=hbx.cell 0;have b1:=hbx.cell 1;have Vj:=hbx.lt;simp only[getsL]at b0 b1;have L4:=hdq (Hs.trans Jj);have JC:=hdq hbx;clear Jj hbx yo Fi;go_wp2_with fail
  go_quiet (fail)
  go_wp2_with fail;refine(LO _ (L4.drewN _)).mono ?_;rintro _ w6 ⟨rfl,hb⟩;have FJ:=(show Fr NoT _ _ from(Fr.refl NoT _).drewN _).trans hb;have Hu:=JC.fr0 FJ;have b2:=Hu.cell 2;have b3:=Hu.cell 3;have b4:=Hu.cell 4;have b5:=Hu.cell 5;have FU:=Hu.lt;have yy:=(FJ.cell (p:=⟨P,0,none⟩) hP id).trans p0;have yD:=(FJ.cell (p:=⟨P,2,none⟩) hP id).trans p2;have W4:=ltq hP FJ.size;simp only[getsL]at b2 b3 b4 b5;have G1:=hdq (L4.trans FJ);have LC:=hdq Hu;clear hb FJ Hu b0 b1 p0 p1 p2 p3;cases q
  ·have HF:=hdq (show R=false from by rw[G3.out];simp);go_wp2_with fail;go_ret;exact⟨by rw[HF.out];rfl,G1.out⟩
  cases h7:(l:Int)==a
  ·have HF:=hdq (show R=false from by rw[G3.out,h7];simp);go_wp2_with fail;go_ret;exact⟨by rw[HF.out];rfl,G1.out⟩
  cases h8:(m:Int)==c2
  ·have HF:=hdq (show R=false from by rw[G3.out,h7,h8];simp);go_wp2_with fail;go_ret;exact⟨by rw[HF.out];rfl,G1.out⟩
  cases Jn:v==0
  ·have HF:=hdq (show R=false from by rw[G3.out,h7,h8,Jn];simp);have PY:((v:Int)==0)=false:=by simpa using Jn
   go_wp2_with fail;go_ret;exact⟨by rw[HF.out];rfl,G1.out⟩
  have PY:((v:Int)==0)=true:=by simpa using Jn
  have Nd:=G3.out;simp only[h7,h8,Jn,Bool.true_and]at Nd;have GB:=hdq Nd;clear Nd G3;go_wp2_with fail;refine(H1 _ G1.out).mono ?_;rintro _ y1 ⟨rfl,hb⟩;have KX:=hdq (G1.trans hb);have Hu:=LC.fr0 hb;have Nf:=hdq Hu;have S7:=Hu.lt;have b3_1:=Hu.cell 3;have b4_1:=Hu.cell 4;have b5_1:=Hu.cell 5;simp only[getsL]at b3_1 b4_1 b5_1;clear hb Hu b2 b3 b4 b5 yy yD;cases r1
  ·have HF:=hdq (show R=false from by rw[GB.out];simp);go_wp2_with fail;go_ret;exact⟨by rw[HF.out];rfl,KX.out⟩
  go_wp2_with fail;refine(H2 _ KX.out).mono ?_;rintro _ y2 ⟨rfl,hb⟩;have LD:=hdq (KX.trans hb);have Hu:=Nf.fr0 hb;have Ng:=hdq Hu;have S8:=Hu.lt;have b4_2:=Hu.cell 4;have b5_2:=Hu.cell 5;simp only[getsL]at b4_2 b5_2;clear hb Hu b3_1 b4_1 b5_1;cases r2
  ·have HF:=hdq (show R=false from by rw[GB.out];simp);go_wp2_with fail;go_ret;exact⟨by rw[HF.out];rfl,LD.out⟩
  go_wp2_with fail;refine(H3 _ LD.out).mono ?_;rintro _ y3 ⟨rfl,hb⟩;have Nh:=hdq (LD.trans hb);have Hu:=Ng.fr0 hb;have Ni:=hdq Hu;have S9:=Hu.lt;have b5_3:=Hu.cell 5;simp only[getsL]at b5_3;clear hb Hu b4_2 b5_2;cases r3
  ·have HF:=hdq (show R=false from by rw[GB.out];simp);go_wp2_with fail;go_ret;exact⟨by rw[HF.out];rfl,Nh.out⟩
  go_wp2_with fail;refine(H4 _ Nh.out).mono ?_;rintro _ y4 ⟨rfl,hb⟩;have PX:=hdq (Nh.trans hb);have Hu:=Ni.fr0 hb;have Ta:=hdq Hu;have Tb:=Hu.lt;clear hb Hu b5_3;cases r4
  ·have HF:=hdq (show R=false from by rw[GB.out];simp);go_wp2_with fail;go_ret;exact⟨by rw[HF.out];rfl,PX.out⟩
  have HF:=hdq (show R=true from by rw[GB.out];rfl);go_wp2_with fail;go_ret;exact⟨by rw[HF.out];rfl,PX.out⟩
theorem zim (k:Int)(nm:ByteArray)(at_:Int)(A:Option Addr)(l c:Nat)(B:Option Addr)(m d:Nat)(D:Option Addr)(u e:Nat)(E:Option Addr)(v f:Nat)(r1 r2 r3 r4:Bool)(w:World)(he:SpEnv w)(hs:nm.size<=9223372036854775807)
  (hl:l<=9223372036854775807) (hm:m<=9223372036854775807) (hu:u<=9223372036854775807) (hv:v<=9223372036854775807)
  (h1:AllC 168 169 w A l c r1) (h2:AllC 170 171 w B m d r2) (h3:AllC 93 94 w D u e r3) (h4:AllC 93 94 w E v f r4)
  (k1:1<=k) (k2:k<=9) (Lp:k≠7) (J8:k≠8) (a o c2:Int) (b:Bool) (Fi:∀w,(Instr.index 271 (tabV zaQ) (.int .u8 k)).run Tryz.prog w= .ok (.agg #[.int .i64 a,.int .i64 o,.int .i64 c2,.bool b]) w) (FE:decide (a < 0)=false):
  Calls Tryz.prog 94 #[.agg #[.int .u8 k,.string nm,.slice A l c,.slice B m d,.slice D u e,.slice E v f,.int .i64 at_]] w (zap (nmdB b nm&&((l:Int)==a)&&((m:Int)==c2)&&(u==0)&&(v==0)&&r1&&r2&&r3&&r4) w):=by
 obtain⟨R,hR⟩:=nmq ((nmdB b nm&&((l:Int)==a)&&((m:Int)==c2)&&(u==0)&&(v==0)&&r1&&r2&&r3&&r4));rw[<-hR];have H1:=hdq h1;have H2:=hdq h2;have H3:=hdq h3;have H4:=hdq h4;have LO:=hdq (λ(W:World)(h:Fr NoT w W)=>zbq b nm hs W (he.keep h.plain));obtain⟨q,hq⟩:=nmq (nmdB b nm);rw[<-hq]at LO hR;have G3:=hdq hR;have e1:decide (k < 1)=false:=by simp;omega
 have e2:decide (9 < k)=false:=by simp;omega
 have e7:(k==7)=false:=by simpa using Lp
 have e8:(k==8)=false:=by simpa using J8
 have Gs:=hdq (Bk.new w 51 #[.int .u8 k,.string nm,.slice A l c,.slice B m d,.slice D u e,.slice E v f,.int .i64 at_]);obtain⟨w1,Hc⟩:=nmq (w.alloc (.cells #[.int .u8 k,.string nm,.slice A l c,.slice B m d,.slice D u e,.slice E v f,.int .i64 at_] 51));rw[<-Hc]at Gs;have Hs:=hdq (show Fr NoT w w1 from by rw[Hc];exact(Fr.refl _ _).alloc _);have Gg:=hdq Hc;clear h1 h2 h3 h4 hq hR Hc k1 k2 he hs;go_enter Tryz.func94,Tryz.ntmps94
 go_upto_region 3 with fail
 rw[<-Gg.out];have yo:=Gs.cell 0;have Fo:=Gs.lt;simp only[getsL]at yo;go_cut [3] (λs3 wx=>∃P:Nat,s3= .pointer (some ⟨P,0,none⟩)/\Fr NoT w1 wx/\P < wx.heap.size/\wx.cell? ⟨P,0,none⟩=some (.int .i64 a)/\wx.cell? ⟨P,1,none⟩=some (.int .i64 o)/\wx.cell? ⟨P,2,none⟩=some (.int .i64 c2)/\wx.cell? ⟨P,3,none⟩=some (.bool b));case first=>
  go_region_law
   (first
    |(go_simp
      go_at_call 166
      with_reducible refine(zba (w1.alloc (.cells #[.int .i64 0,.int .i64 0,.int .i64 0,.bool false] 270)).drew).mono ?_
      rintro _ w5 ⟨rfl,hb⟩;have Hj:Fr NoT w1 w5:=(Fr.drew ((Fr.refl _ _).alloc _)).trans (Fr.below hb);have Gb:=((Bk.new w1 270 #[.int .i64 0,.int .i64 0,.int .i64 0,.bool false]).fr0 (Fr.drew (Fr.refl NoT _))).fr0 (Fr.below hb);have ym:=(Gs.fr0 Hj).cell 0;have z0:=Gb.cell 0;have z1:=Gb.cell 1;have z2:=Gb.cell 2;have z3:=Gb.cell 3;have y0:=Gb.frozen 0;have y1:=Gb.frozen 1;have y2:=Gb.frozen 2;have y3:=Gb.frozen 3;have Jf:=(Gs.fr0 Hj).lt;have FU:=Gb.lt;simp only[getsL]at ym z0 z1 z2 z3;have Gl:=hdq Hj;have JU:=hdq Gb;clear hb Hj Gb;dsimp only)
    |(go_simp
      go_at_call 166
      with_reducible refine(zba w1.drew).mono ?_
      rintro _ w5 ⟨rfl,hb⟩;have Hj:Fr NoT w1 w5:=(Fr.drew (Fr.refl _ _)).trans (Fr.below hb);have ym:=(Gs.fr0 Hj).cell 0;simp only[getsL]at ym;have Jf:=(Gs.fr0 Hj).lt;have Gl:=hdq Hj;clear hb Hj;dsimp only))
  all_goals
   go_wp2_with fail
   go_meet
   first
    |(refine⟨_,rfl,Gl.alloc _,by simp,?_⟩
      simp)
    |(refine⟨_,rfl,(((Gl.high (lrq _) 0 _).high (lrq _) 1 _).high (lrq _) 2 _).high (lrq _) 3 _,by simpa using FU,?_⟩
      have h:=(((JU.set_ 0 (.int .i64 a)).set_ 1 (.int .i64 o)).set_ 2 (.int .i64 c2)).set_ 3 (.bool b);exact⟨h.cell 0,h.cell 1,h.cell 2,h.cell 3⟩)
 case rest=>
  obtain⟨P,rfl,Jj,hP,p0,p1,p2,p3⟩:=hcut;have hbx:=Gs.fr0 Jj;have b0:=hbx.cell 0;have b1:=hbx.cell 1;have Vj:=hbx.lt;simp only[getsL]at b0 b1;have L4:=hdq (Hs.trans Jj);have JC:=hdq hbx;clear Jj hbx yo Fi;go_wp2_with fail
  go_quiet (fail)
  go_wp2_with fail;refine(LO _ (L4.drewN _)).mono ?_;rintro _ w6 ⟨rfl,hb⟩;have FJ:=(show Fr NoT _ _ from(Fr.refl NoT _).drewN _).trans hb;have Hu:=JC.fr0 FJ;have b2:=Hu.cell 2;have b3:=Hu.cell 3;have b4:=Hu.cell 4;have b5:=Hu.cell 5;have FU:=Hu.lt;have yy:=(FJ.cell (p:=⟨P,0,none⟩) hP id).trans p0;have yD:=(FJ.cell (p:=⟨P,2,none⟩) hP id).trans p2;have W4:=ltq hP FJ.size;simp only[getsL]at b2 b3 b4 b5;have G1:=hdq (L4.trans FJ);have LC:=hdq Hu;clear hb FJ Hu b0 b1 p0 p1 p2 p3;cases q
  ·have HF:=hdq (show R=false from by rw[G3.out];simp);go_wp2_with fail;go_ret;exact⟨by rw[HF.out];rfl,G1.out⟩
  cases h7:(l:Int)==a
  ·have HF:=hdq (show R=false from by rw[G3.out,h7];simp);go_wp2_with fail;go_ret;exact⟨by rw[HF.out];rfl,G1.out⟩
  cases h8:(m:Int)==c2
  ·have HF:=hdq (show R=false from by rw[G3.out,h7,h8];simp);go_wp2_with fail;go_ret;exact⟨by rw[HF.out];rfl,G1.out⟩
  cases h9:u==0
  ·have HF:=hdq (show R=false from by rw[G3.out,h7,h8,h9];simp);have Yd:((u:Int)==0)=false:=by simpa using h9
   go_wp2_with fail;go_ret;exact⟨by rw[HF.out];rfl,G1.out⟩
  have Yd:((u:Int)==0)=true:=by simpa using h9
  cases Jn:v==0
  ·have HF:=hdq (show R=false from by rw[G3.out,h7,h8,h9,Jn];simp);have PY:((v:Int)==0)=false:=by simpa using Jn
   go_wp2_with fail;go_ret;exact⟨by rw[HF.out];rfl,G1.out⟩
  have PY:((v:Int)==0)=true:=by simpa using Jn
  have Nd:=G3.out;simp only[h7,h8,h9,Jn,Bool.true_and]at Nd;have GB:=hdq Nd;clear Nd G3;go_wp2_with fail;refine(H1 _ G1.out).mono ?_;rintro _ y1 ⟨rfl,hb⟩;have KX:=hdq (G1.trans hb);have Hu:=LC.fr0 hb;have Nf:=hdq Hu;have S7:=Hu.lt;have b3_1:=Hu.cell 3;have b4_1:=Hu.cell 4;have b5_1:=Hu.cell 5;simp only[getsL]at b3_1 b4_1 b5_1;clear hb Hu b2 b3 b4 b5 yy yD;cases r1
  ·have HF:=hdq (show R=false from by rw[GB.out];simp);go_wp2_with fail;go_ret;exact⟨by rw[HF.out];rfl,KX.out⟩
  go_wp2_with fail;refine(H2 _ KX.out).mono ?_;rintro _ y2 ⟨rfl,hb⟩;have LD:=hdq (KX.trans hb);have Hu:=Nf.fr0 hb;have Ng:=hdq Hu;have S8:=Hu.lt;have b4_2:=Hu.cell 4;have b5_2:=Hu.cell 5;simp only[getsL]at b4_2 b5_2;clear hb Hu b3_1 b4_1 b5_1;cases r2
  ·have HF:=hdq (show R=false from by rw[GB.out];simp);go_wp2_with fail;go_ret;exact⟨by rw[HF.out];rfl,LD.out⟩
  go_wp2_with fail;refine(H3 _ LD.out).mono ?_;rintro _ y3 ⟨rfl,hb⟩;have Nh:=hdq (LD.trans hb);have Hu:=Ng.fr0 hb;have Ni:=hdq Hu;have S9:=Hu.lt;have b5_3:=Hu.cell 5;simp only[getsL]at b5_3;clear hb Hu b4_2 b5_2;cases r3
  ·have HF:=hdq (show R=false from by rw[GB.out];simp);go_wp2_with fail;go_ret;exact⟨by rw[HF.out];rfl,Nh.out⟩
  go_wp2_with fail;refine(H4 _ Nh.out).mono ?_;rintro _ y4 ⟨rfl,hb⟩;have PX:=hdq (Nh.trans hb);have Hu:=Ni.fr0 hb;have Ta:=hdq Hu;have Tb:=Hu.lt;clear hb Hu b5_3;cases r4
  ·have HF:=hdq (show R=false from by rw[GB.out];simp);go_wp2_with fail;go_ret;exact⟨by rw[HF.out];rfl,PX.out⟩
  have HF:=hdq (show R=true from by rw[GB.out];rfl);go_wp2_with fail;go_ret;exact⟨by rw[HF.out];rfl,PX.out⟩
theorem zin (k:Int)(nm:ByteArray)(at_:Int)(A:Option Addr)(l c:Nat)(B:Option Addr)(m d:Nat)(D:Option Addr)(u e:Nat)(E:Option Addr)(v f:Nat)(r1 r2 r3 r4:Bool)(w:World)(he:SpEnv w)(hs:nm.size<=9223372036854775807)
  (hl:l<=9223372036854775807) (hm:m<=9223372036854775807) (hu:u<=9223372036854775807) (hv:v<=9223372036854775807)
  (h1:AllC 168 169 w A l c r1) (h2:AllC 170 171 w B m d r2) (h3:AllC 93 94 w D u e r3) (h4:AllC 93 94 w E v f r4)
  (k1:1<=k) (k2:k<=9) (Lp:k≠7) (J8:k≠8) (a o c2:Int) (b:Bool) (Fi:∀w,(Instr.index 271 (tabV zaQ) (.int .u8 k)).run Tryz.prog w= .ok (.agg #[.int .i64 a,.int .i64 o,.int .i64 c2,.bool b]) w) (FE:decide (a < 0)=true):
  Calls Tryz.prog 94 #[.agg #[.int .u8 k,.string nm,.slice A l c,.slice B m d,.slice D u e,.slice E v f,.int .i64 at_]] w (zap (nmdB b nm&&((m:Int)==c2)&&(u==0)&&(v==0)&&r1&&r2&&r3&&r4) w):=by
 obtain⟨R,hR⟩:=nmq ((nmdB b nm&&((m:Int)==c2)&&(u==0)&&(v==0)&&r1&&r2&&r3&&r4));rw[<-hR];have H1:=hdq h1;have H2:=hdq h2;have H3:=hdq h3;have H4:=hdq h4;have LO:=hdq (λ(W:World)(h:Fr NoT w W)=>zbq b nm hs W (he.keep h.plain));obtain⟨q,hq⟩:=nmq (nmdB b nm);rw[<-hq]at LO hR;have G3:=hdq hR;have e1:decide (k < 1)=false:=by simp;omega
 have e2:decide (9 < k)=false:=by simp;omega
 have e7:(k==7)=false:=by simpa using Lp
 have e8:(k==8)=false:=by simpa using J8
 have Gs:=hdq (Bk.new w 51 #[.int .u8 k,.string nm,.slice A l c,.slice B m d,.slice D u e,.slice E v f,.int .i64 at_]);obtain⟨w1,Hc⟩:=nmq (w.alloc (.cells #[.int .u8 k,.string nm,.slice A l c,.slice B m d,.slice D u e,.slice E v f,.int .i64 at_] 51));rw[<-Hc]at Gs;have Hs:=hdq (show Fr NoT w w1 from by rw[Hc];exact(Fr.refl _ _).alloc _);have Gg:=hdq Hc;clear h1 h2 h3 h4 hq hR Hc k1 k2 he hs;go_enter Tryz.func94,Tryz.ntmps94
 go_upto_region 3 with fail
 rw[<-Gg.out];have yo:=Gs.cell 0;have Fo:=Gs.lt;simp only[getsL]at yo;go_cut [3] (λs3 wx=>∃P:Nat,s3= .pointer (some ⟨P,0,none⟩)/\Fr NoT w1 wx/\P < wx.heap.size/\wx.cell? ⟨P,0,none⟩=some (.int .i64 a)/\wx.cell? ⟨P,1,none⟩=some (.int .i64 o)/\wx.cell? ⟨P,2,none⟩=some (.int .i64 c2)/\wx.cell? ⟨P,3,none⟩=some (.bool b));case first=>
  go_region_law
   (first
    |(go_simp
      go_at_call 166
      with_reducible refine(zba (w1.alloc (.cells #[.int .i64 0,.int .i64 0,.int .i64 0,.bool false] 270)).drew).mono ?_
      rintro _ w5 ⟨rfl,hb⟩;have Hj:Fr NoT w1 w5:=(Fr.drew ((Fr.refl _ _).alloc _)).trans (Fr.below hb);have Gb:=((Bk.new w1 270 #[.int .i64 0,.int .i64 0,.int .i64 0,.bool false]).fr0 (Fr.drew (Fr.refl NoT _))).fr0 (Fr.below hb);have ym:=(Gs.fr0 Hj).cell 0;have z0:=Gb.cell 0;have z1:=Gb.cell 1;have z2:=Gb.cell 2;have z3:=Gb.cell 3;have y0:=Gb.frozen 0;have y1:=Gb.frozen 1;have y2:=Gb.frozen 2;have y3:=Gb.frozen 3;have Jf:=(Gs.fr0 Hj).lt;have FU:=Gb.lt;simp only[getsL]at ym z0 z1 z2 z3;have Gl:=hdq Hj;have JU:=hdq Gb;clear hb Hj Gb;dsimp only)
    |(go_simp
      go_at_call 166
      with_reducible refine(zba w1.drew).mono ?_
      rintro _ w5 ⟨rfl,hb⟩;have Hj:Fr NoT w1 w5:=(Fr.drew (Fr.refl _ _)).trans (Fr.below hb);have ym:=(Gs.fr0 Hj).cell 0;simp only[getsL]at ym;have Jf:=(Gs.fr0 Hj).lt;have Gl:=hdq Hj;clear hb Hj;dsimp only))
  all_goals
   go_wp2_with fail
   go_meet
   first
    |(refine⟨_,rfl,Gl.alloc _,by simp,?_⟩
      simp)
    |(refine⟨_,rfl,(((Gl.high (lrq _) 0 _).high (lrq _) 1 _).high (lrq _) 2 _).high (lrq _) 3 _,by simpa using FU,?_⟩
      have h:=(((JU.set_ 0 (.int .i64 a)).set_ 1 (.int .i64 o)).set_ 2 (.int .i64 c2)).set_ 3 (.bool b);exact⟨h.cell 0,h.cell 1,h.cell 2,h.cell 3⟩)
 case rest=>
  obtain⟨P,rfl,Jj,hP,p0,p1,p2,p3⟩:=hcut;have hbx:=Gs.fr0 Jj;have b0:=hbx.cell 0;have b1:=hbx.cell 1;have Vj:=hbx.lt;simp only[getsL]at b0 b1;have L4:=hdq (Hs.trans Jj);have JC:=hdq hbx;clear Jj hbx yo Fi;go_wp2_with fail
  go_quiet (fail)
  go_wp2_with fail;refine(LO _ (L4.drewN _)).mono ?_;rintro _ w6 ⟨rfl,hb⟩;have FJ:=(show Fr NoT _ _ from(Fr.refl NoT _).drewN _).trans hb;have Hu:=JC.fr0 FJ;have b2:=Hu.cell 2;have b3:=Hu.cell 3;have b4:=Hu.cell 4;have b5:=Hu.cell 5;have FU:=Hu.lt;have yy:=(FJ.cell (p:=⟨P,0,none⟩) hP id).trans p0;have yD:=(FJ.cell (p:=⟨P,2,none⟩) hP id).trans p2;have W4:=ltq hP FJ.size;simp only[getsL]at b2 b3 b4 b5;have G1:=hdq (L4.trans FJ);have LC:=hdq Hu;clear hb FJ Hu b0 b1 p0 p1 p2 p3;cases q
  ·have HF:=hdq (show R=false from by rw[G3.out];simp);go_wp2_with fail;go_ret;exact⟨by rw[HF.out];rfl,G1.out⟩
  cases h8:(m:Int)==c2
  ·have HF:=hdq (show R=false from by rw[G3.out,h8];simp);go_wp2_with fail;go_ret;exact⟨by rw[HF.out];rfl,G1.out⟩
  cases h9:u==0
  ·have HF:=hdq (show R=false from by rw[G3.out,h8,h9];simp);have Yd:((u:Int)==0)=false:=by simpa using h9
   go_wp2_with fail;go_ret;exact⟨by rw[HF.out];rfl,G1.out⟩
  have Yd:((u:Int)==0)=true:=by simpa using h9
  cases Jn:v==0
  ·have HF:=hdq (show R=false from by rw[G3.out,h8,h9,Jn];simp);have PY:((v:Int)==0)=false:=by simpa using Jn
   go_wp2_with fail;go_ret;exact⟨by rw[HF.out];rfl,G1.out⟩
  have PY:((v:Int)==0)=true:=by simpa using Jn
  have Nd:=G3.out;simp only[h8,h9,Jn,Bool.true_and]at Nd;have GB:=hdq Nd;clear Nd G3;go_wp2_with fail;refine(H1 _ G1.out).mono ?_;rintro _ y1 ⟨rfl,hb⟩;have KX:=hdq (G1.trans hb);have Hu:=LC.fr0 hb;have Nf:=hdq Hu;have S7:=Hu.lt;have b3_1:=Hu.cell 3;have b4_1:=Hu.cell 4;have b5_1:=Hu.cell 5;simp only[getsL]at b3_1 b4_1 b5_1;clear hb Hu b2 b3 b4 b5 yy yD;cases r1
  ·have HF:=hdq (show R=false from by rw[GB.out];simp);go_wp2_with fail;go_ret;exact⟨by rw[HF.out];rfl,KX.out⟩
  go_wp2_with fail;refine(H2 _ KX.out).mono ?_;rintro _ y2 ⟨rfl,hb⟩;have LD:=hdq (KX.trans hb);have Hu:=Nf.fr0 hb;have Ng:=hdq Hu;have S8:=Hu.lt;have b4_2:=Hu.cell 4;have b5_2:=Hu.cell 5;simp only[getsL]at b4_2 b5_2;clear hb Hu b3_1 b4_1 b5_1;cases r2
  ·have HF:=hdq (show R=false from by rw[GB.out];simp);go_wp2_with fail;go_ret;exact⟨by rw[HF.out];rfl,LD.out⟩
  go_wp2_with fail;refine(H3 _ LD.out).mono ?_;rintro _ y3 ⟨rfl,hb⟩;have Nh:=hdq (LD.trans hb);have Hu:=Ng.fr0 hb;have Ni:=hdq Hu;have S9:=Hu.lt;have b5_3:=Hu.cell 5;simp only[getsL]at b5_3;clear hb Hu b4_2 b5_2;cases r3
  ·have HF:=hdq (show R=false from by rw[GB.out];simp);go_wp2_with fail;go_ret;exact⟨by rw[HF.out];rfl,Nh.out⟩
  go_wp2_with fail;refine(H4 _ Nh.out).mono ?_;rintro _ y4 ⟨rfl,hb⟩;have PX:=hdq (Nh.trans hb);have Hu:=Ni.fr0 hb;have Ta:=hdq Hu;have Tb:=Hu.lt;clear hb Hu b5_3;cases r4
  ·have HF:=hdq (show R=false from by rw[GB.out];simp);go_wp2_with fail;go_ret;exact⟨by rw[HF.out];rfl,PX.out⟩
  have HF:=hdq (show R=true from by rw[GB.out];rfl);go_wp2_with fail;go_ret;exact⟨by rw[HF.out];rfl,PX.out⟩
theorem zlE (k:Int)(nm:ByteArray)(at_:Int)(A:Option Addr)(l c:Nat)(B:Option Addr)(m d:Nat)(D:Option Addr)(u e:Nat)(E:Option Addr)(v f:Nat)(r1 r2 r3 r4:Bool)(w:World)(he:SpEnv w)(hs:nm.size<=9223372036854775807)
  (hl:l<=9223372036854775807) (hm:m<=9223372036854775807) (hu:u<=9223372036854775807) (hv:v<=9223372036854775807)
  (h1:AllC 168 169 w A l c r1) (h2:AllC 170 171 w B m d r2) (h3:AllC 93 94 w D u e r3) (h4:AllC 93 94 w E v f r4):
  Calls Tryz.prog 94 #[.agg #[.int .u8 k,.string nm,.slice A l c,.slice B m d,.slice D u e,.slice E v f,.int .i64 at_]] w (zap (decide (1<=k)&&decide (k<=9)&&nmdB (tabA zaQ k).2.2.2 nm&&(decide ((tabA zaQ k).1 < 0) || (l:Int)==(tabA zaQ k).1)&&((m:Int)==(tabA zaQ k).2.2.1)&&(k==7 || k==8 || u==0)&&(k==7 || v==0)&&r1&&r2&&r3&&r4) w):=by
 by_cases k1:1<=k
 rotate_left
 ·have hF:(decide (1<=k)&&decide (k<=9)&&nmdB (tabA zaQ k).2.2.2 nm&&(decide ((tabA zaQ k).1 < 0) || (l:Int)==(tabA zaQ k).1)&&((m:Int)==(tabA zaQ k).2.2.1)&&(k==7 || k==8 || u==0)&&(k==7 || v==0)&&r1&&r2&&r3&&r4)=false:=by simp[k1]
  rw[hF];have e1:decide (k < 1)=true:=by simp;omega
  clear hF k1 h1 h2 h3 h4 he hs;go_enter Tryz.func94,Tryz.ntmps94;go_wp2_with fail;go_ret;exact⟨rfl,(Fr.refl _ _).alloc _⟩
 by_cases k2:k<=9
 rotate_left
 ·have hF:(decide (1<=k)&&decide (k<=9)&&nmdB (tabA zaQ k).2.2.2 nm&&(decide ((tabA zaQ k).1 < 0) || (l:Int)==(tabA zaQ k).1)&&((m:Int)==(tabA zaQ k).2.2.1)&&(k==7 || k==8 || u==0)&&(k==7 || v==0)&&r1&&r2&&r3&&r4)=false:=by simp[k2]
  rw[hF];have e1:decide (k < 1)=false:=by simp;omega
  have e2:decide (9 < k)=true:=by simp;omega
  clear hF k1 k2 h1 h2 h3 h4 he hs;go_enter Tryz.func94,Tryz.ntmps94;go_wp2_with fail;go_ret;exact⟨rfl,(Fr.refl _ _).alloc _⟩
 obtain⟨a,o,c2,b,Nb,Fi⟩:=zlz k k1 k2;have Nc:tabA zaQ k=(a,o,c2,b):=by unfold tabA;rw[Nb];rfl
 have x1:decide (1<=k)=true:=by simpa using k1
 have x2:decide (k<=9)=true:=by simpa using k2
 rw[Nc,x1,x2];simp only[Bool.true_and];by_cases Lp:k=7
 ·have hn:decide (a < 0)=false:=by
   subst Lp;have:zaQ[(7:Int).toNat]?=some (0,0,1,false):=rfl;rw[this]at Nb;simp only[Option.some.injEq,Prod.mk.injEq]at Nb;rw[<-Nb.1];rfl
  have:=zik k nm at_ A l c B m d D u e E v f r1 r2 r3 r4 w he hs hl hm hu hv h1 h2 h3 h4 k1 k2 Lp a o c2 b Fi hn;have y7:(k==7)=true:=by simpa using Lp
  rw[hn,y7];simpa only[Bool.false_or,Bool.true_or,Bool.and_true]using this
 have y7:(k==7)=false:=by simpa using Lp
 by_cases J8:k=8
 ·have hn:decide (a < 0)=false:=by
   subst J8;have:zaQ[(8:Int).toNat]?=some (0,0,1,false):=rfl;rw[this]at Nb;simp only[Option.some.injEq,Prod.mk.injEq]at Nb;rw[<-Nb.1];rfl
  have:=zil k nm at_ A l c B m d D u e E v f r1 r2 r3 r4 w he hs hl hm hu hv h1 h2 h3 h4 k1 k2 J8 a o c2 b Fi hn;have y8:(k==8)=true:=by simpa using J8
  rw[hn,y7,y8];simpa only[Bool.false_or,Bool.true_or,Bool.and_true]using this
 have y8:(k==8)=false:=by simpa using J8
 rw[y7,y8];cases hn:decide (a < 0)
 ·have:=zim k nm at_ A l c B m d D u e E v f r1 r2 r3 r4 w he hs hl hm hu hv h1 h2 h3 h4 k1 k2 Lp J8 a o c2 b Fi hn;simpa only[Bool.false_or,Bool.true_or,Bool.and_true]using this
 ·have:=zin k nm at_ A l c B m d D u e E v f r1 r2 r3 r4 w he hs hl hm hu hv h1 h2 h3 h4 k1 k2 Lp J8 a o c2 b Fi hn;simpa only[Bool.false_or,Bool.true_or,Bool.and_true]using this
theorem zcL:∀(xs:Sts)(w:World)(S:Nat->Prop)(Z:Prop),SpEnv w->(∀b,S b->b < w.heap.size)->szS xs->AskSt 94 #[] w S Z okT xs
 | .nil,_,_,_,_,_,_=>λi _ _ _ _ _ _ _ _ hd=>by cases i<;>simp[Sts.drop]at hd
 | .cons k nm args cond body els at_ rest,w,S,Z,he,hS,Ht=>λi _ _ _ _ _ _ _ _ hd r1 W A2 q2 A3 q3 A4 q4 A5 q5 hw s2 s3 s4 s5=>by
  cases i with
  |zero=>
   simp only[Sts.drop]at hd;injection hd with e1 e2 e3 e4 e5 e6 e7 e8;subst e1 e2 e3 e4 e5 e6 e7 e8;rw[Array.append_empty];have Pq:∀W2,Fr NoT W W2->∀b,S b->b < W2.heap.size:=λW2 h2 b hb=>ltq (hS b hb) (hw.trans h2).size;have W5:∀b,S b->b < W.heap.size:=λb hb=>ltq (hS b hb) hw.size;refine zlE k nm at_ A2 args.len q2 A3 cond.len q3 A4 body.len q4 A5 els.len q5 (okX args) (okC cond) (okS body) (okS els) W (he.keep hw.plain) Ht.1 (leq9 s2.1 s2.2.1.1) (leq9 s3.1 s3.2.1.1) (leq9 s4.1 s4.2.1.1) (leq9 s5.1 s5.2.1.1) (λW2 h2=>?_) (λW2 h2=>?_) (λW2 h2=>?_) (λW2 h2=>?_)
   ·exact zf7 args A2 q2 W2 S Z (he.keep (hw.trans h2).plain) (Pq W2 h2) Ht.2.1 (s2.imp λ_ _ hx=>ExR.keep (h2.same λb hb=>⟨W5 b hb,id⟩) hx)
   ·exact zjv cond A3 q3 W2 S Z (he.keep (hw.trans h2).plain) (Pq W2 h2) Ht.2.2.1 (s3.imp λ_ _ hx=>CdR.keep (h2.same λb hb=>⟨W5 b hb,id⟩) hx)
   ·have:=zdZ okT body A4 q4 94 #[] W2 S Z (Pq W2 h2) (s4.imp λ_ _ hx=>StR.keep (h2.same λb hb=>⟨W5 b hb,id⟩) hx) (enters_of Tryz.func94 (by kernel_rfl) rfl) (zcL body W2 S Z (he.keep (hw.trans h2).plain) (Pq W2 h2) Ht.2.2.2.1);rw[zfj]at this;exact this
   ·have:=zdZ okT els A5 q5 94 #[] W2 S Z (Pq W2 h2) (s5.imp λ_ _ hx=>StR.keep (h2.same λb hb=>⟨W5 b hb,id⟩) hx) (enters_of Tryz.func94 (by kernel_rfl) rfl) (zcL els W2 S Z (he.keep (hw.trans h2).plain) (Pq W2 h2) Ht.2.2.2.2.1);rw[zfj]at this;exact this
  |succ i=>
   simp only[Sts.drop]at hd;exact zcL rest w S Z he hS Ht.2.2.2.2.2 i _ _ _ _ _ _ _ _ hd r1 W A2 q2 A3 q3 A4 q4 A5 q5 hw s2 s3 s4 s5
theorem zeG (xs:Sts)(A:Option Addr)(c:Nat)(w:World)(S:Nat->Prop)(Z:Prop)(he:SpEnv w)(hS:∀b,S b->b < w.heap.size)(Ht:szS xs)(hx:SlR (λb o=>StR w S Z xs b o) xs.len 128 A c):
  Calls Tryz.prog 93 #[.slice A xs.len c,.func (.func 94) #[] #[]] w (zap (okS xs) w):=by
 have:=zdZ okT xs A c 94 #[] w S Z hS hx (enters_of Tryz.func94 (by kernel_rfl) rfl) (zcL xs w S Z he hS Ht);rw[zfj]at this;exact this
def okVs (xs:List Va):Bool:=zdu (λnm _=>zbj nm.data.toList) xs
def okAs (xs:List Arr):Bool:=zdv (λnm size _=>zbj nm.data.toList&&decide (0<=size)) xs
def okPs (xs:List Prc):Bool:=zc5 (λnm ps body _=>zbj nm.data.toList&&okVs ps&&okS body) xs
def okTr (t:Tre):Bool:=okVs t.vars&&okS t.main&&okAs t.arrays&&okPs t.procs
structure SzT (t:Tre):Prop where
 vars:∀x∈t.vars,x.nm.size<=9223372036854775807
 arrays:∀x∈t.arrays,x.nm.size<=9223372036854775807
 procs:∀x∈t.procs,x.nm.size<=9223372036854775807/\(∀y∈x.params,y.nm.size<=9223372036854775807)/\szS x.body
 main:szS t.main
theorem zaY {α:Type}{l:List α}{i:Nat}{x:α}{r:List α}(h:l.drop i=x::r):x∈l:=List.mem_of_mem_drop (i:=i) (by rw[h];simp)
theorem zlF (xs:List Va)(w:World)(S:Nat->Prop)(Z:Prop)(he:SpEnv w)(Ht:∀x∈xs,x.nm.size<=9223372036854775807):AskVa 90 #[] w S Z (λnm _=>zbj nm.data.toList) xs:=by
 intro i a0 a1 ar hd W hw;rw[Array.append_empty];have hx:a0.size<=9223372036854775807:=Ht _ (zaY hd);have Hg:Fr NoT W (W.alloc (.cells #[.string a0,.int .i64 a1] 77)):=(Fr.refl _ _).alloc _;have HN:=hdq (zdM a0 hx _ (he.keep (hw.trans Hg).plain));have HF:=hdq Hg;clear hd hw Hg he Ht hx;go_enter Tryz.func90,Tryz.ntmps90;go_wp2_with fail;refine HN.mono ?_;rintro _ w2 ⟨rfl,hb⟩;have Hv:=hdq (HF.trans (Fr.below hb));clear hb;go_wp2_with fail;go_ret;exact⟨rfl,Hv.out⟩
theorem zht (xs:List Va)(A:Option Addr)(c:Nat)(w:World)(S:Nat->Prop)(Z:Prop)(he:SpEnv w)(hS:∀b,S b->b < w.heap.size)(Ht:∀x∈xs,x.nm.size<=9223372036854775807)(hx:SlR (λb o=>VaR w S Z xs b o) xs.length 24 A c):
  Calls Tryz.prog 92 #[.slice A xs.length c,.func (.func 90) #[] #[]] w (zap (okVs xs) w):=
 zjs _ xs A c 90 #[] w S Z hS hx (enters_of Tryz.func90 (by kernel_rfl) rfl) (zlF xs w S Z he Ht)
theorem zlG (xs:List Arr)(w:World)(S:Nat->Prop)(Z:Prop)(he:SpEnv w)(Ht:∀x∈xs,x.nm.size<=9223372036854775807):AskAr 96 #[] w S Z (λnm size _=>zbj nm.data.toList&&decide (0<=size)) xs:=by
 intro i a0 a1 a2 ar hd W hw;rw[Array.append_empty];have hx:a0.size<=9223372036854775807:=Ht _ (zaY hd);have Gw:=Bk.new W 61 #[.string a0,.int .i64 a1,.int .i64 a2];have Hg:Fr NoT W (W.alloc (.cells #[.string a0,.int .i64 a1,.int .i64 a2] 61)):=(Fr.refl _ _).alloc _;have hn:=zdM a0 hx _ (he.keep (hw.trans Hg).plain);obtain⟨r,hr⟩:=nmq (zbj a0.data.toList);show Calls _ _ _ _ (zap (zbj a0.data.toList&&decide (0<=a1)) W)
 rw[<-hr]at hn ⊢;have HN:=hdq hn;have HF:=hdq Hg;have HB:=hdq Gw;obtain⟨q,hq⟩:=nmq (decide (0<=a1));rw[<-hq];have e1:=hq.symm;clear hd hw Hg he Ht hx hr hn Gw hq;cases r;all_goals cases q
 all_goals
  go_enter Tryz.func96,Tryz.ntmps96;go_wp2_with fail;refine HN.mono ?_;rintro _ w2 ⟨rfl,hb⟩;have GP:=HB.fr0 (Fr.below hb);have c1:=GP.cell 1;have hl:=GP.lt;simp only[getsL]at c1;have Hv:=hdq (HF.trans (Fr.below hb));clear hb GP;go_wp2_with fail;go_ret;exact⟨rfl,Hv.out⟩
theorem zio (xs:List Arr)(A:Option Addr)(c:Nat)(w:World)(S:Nat->Prop)(Z:Prop)(he:SpEnv w)(hS:∀b,S b->b < w.heap.size)(Ht:∀x∈xs,x.nm.size<=9223372036854775807)(hx:SlR (λb o=>ArR w S Z xs b o) xs.length 32 A c):
  Calls Tryz.prog 95 #[.slice A xs.length c,.func (.func 96) #[] #[]] w (zap (okAs xs) w):=
 zjt _ xs A c 96 #[] w S Z hS hx (enters_of Tryz.func96 (by kernel_rfl) rfl) (zlG xs w S Z he Ht)
theorem zlH (xs:List Prc)(w:World)(S:Nat->Prop)(Z:Prop)(B:Nat)(Gm:Bk w B 209 #[.func (.func 90) #[] #[]])(he:SpEnv w)(hS:∀b,S b->b < w.heap.size)
  (Ht:∀x∈xs,x.nm.size<=9223372036854775807/\(∀y∈x.params,y.nm.size<=9223372036854775807)/\szS x.body):AskPr 98 #[.pointer (some ⟨B,0,none⟩)] w S Z (λnm ps body _=>zbj nm.data.toList&&okVs ps&&okS body) xs:=by
 intro i a0 a1 a2 a3 ar hd W A1 q1 A2 q2 hw s1 s2;have hx:=Ht _ (zaY hd);have Gw:=Bk.new W 63 #[.string a0,.slice A1 a1.length q1,.slice A2 a2.len q2,.int .i64 a3];have Hg:Fr NoT W (W.alloc (.cells #[.string a0,.slice A1 a1.length q1,.slice A2 a2.len q2,.int .i64 a3] 63)):=(Fr.refl _ _).alloc _;have hn:=zdM a0 hx.1 _ (he.keep (hw.trans Hg).plain);have N3:∀b,S b->b < W.heap.size:=λb hb=>ltq (hS b hb) hw.size;have hv:∀W2,Fr NoT W W2->Calls Tryz.prog 92 #[.slice A1 a1.length q1,.func (.func 90) #[] #[]] W2 (zap (okVs a1) W2):=λW2 h2=>zht a1 A1 q1 W2 S Z (he.keep (hw.trans h2).plain) (λb hb=>ltq (N3 b hb) h2.size) hx.2.1 (s1.imp λ_ _ hx=>VaR.keep (h2.same λb hb=>⟨N3 b hb,id⟩) hx);have hs:∀W2,Fr NoT W W2->Calls Tryz.prog 93 #[.slice A2 a2.len q2,.func (.func 94) #[] #[]] W2 (zap (okS a2) W2):=λW2 h2=>zeG a2 A2 q2 W2 S Z (he.keep (hw.trans h2).plain) (λb hb=>ltq (N3 b hb) h2.size) hx.2.2 (s2.imp λ_ _ hx=>StR.keep (h2.same λb hb=>⟨N3 b hb,id⟩) hx);obtain⟨r,hr⟩:=nmq (zbj a0.data.toList);obtain⟨q,hq⟩:=nmq (okVs a1);obtain⟨t,ht⟩:=nmq (okS a2);rw[<-hr]at hn;rw[<-hq]at hv;rw[<-ht]at hs;have HR:=hdq (show(zbj a0.data.toList&&okVs a1&&okS a2)=(r&&q&&t)from by rw[hr,hq,ht]);have HN:=hdq hn;have HV:=hdq hv;have HS:=hdq hs;have HF:=hdq Hg;have HB:=hdq Gw;have HK:=hdq (Gm.fr0 hw);clear hd hw Hg he Ht hx hr hn Gw hq ht hv hs s1 s2 hS N3 Gm;go_enter Tryz.func98,Tryz.ntmps98;go_wp2_with fail
 refine HN.mono ?_;rintro _ w2 ⟨rfl,hb⟩;have GP:=HB.fr0 (Fr.below hb);have c1:=GP.cell 1;have hl:=GP.lt;have FK:=(HK.fr0 HF.out).fr0 (Fr.below hb);have d0:=FK.cell 0;have Fp:=FK.lt;simp only[getsL]at c1 d0;have Hv:=hdq (HF.trans (Fr.below hb));have Lv:=hdq GP;clear hb GP FK;cases r
 ·go_wp2_with fail;go_ret;exact⟨by rw[HR.out];rfl,Hv.out⟩
 go_wp2_with fail;refine(HV _ Hv.out).mono ?_;rintro _ w3 ⟨rfl,hb⟩;have Fv:=Lv.fr0 hb;have c2:=Fv.cell 2;have Jx:=Fv.lt;simp only[getsL]at c2;have Ge:=hdq (Hv.trans hb);clear hb Fv c1 d0;cases q
 ·go_wp2_with fail;go_ret;exact⟨by rw[HR.out];rfl,Ge.out⟩
 go_wp2_with fail;refine(HS _ Ge.out).mono ?_;rintro _ w4 ⟨rfl,hb⟩;have GN:=hdq (Ge.trans hb);clear hb;go_wp2_with fail;go_ret;exact⟨by rw[HR.out];simp,GN.out⟩
def ErrI (n:Int)(W:World)(e:Ending)(w':World):Prop:=e= .returned (.int .i64 n)/\Fr NoT W w'
theorem zjw (t:Tre)(w:World)(S:Nat->Prop)(Z:Prop)(Av Aa Ap Am:Option Addr)(cv ca cp cm:Nat)(he:SpEnv w)(hS:∀b,S b->b < w.heap.size)(Ht:SzT t)(hx:TrR w S Z t Av Aa Ap Am cv ca cp cm)
  (h2:∀W,Fr NoT w W->Calls Tryz.prog 93 #[.slice Am t.main.len cm,.func (.func 94) #[] #[]] W (zap (okS t.main) W))
  (h3:∀W,Fr NoT w W->Calls Tryz.prog 95 #[.slice Aa t.arrays.length ca,.func (.func 96) #[] #[]] W (zap (okAs t.arrays) W))
  (h4:∀W,Fr NoT w W->Bk W (w.heap.size+1) 209 #[.func (.func 90) #[] #[]]->Calls Tryz.prog 97 #[.slice Ap t.procs.length cp,.func (.func 98) #[] #[.pointer (some ⟨w.heap.size+1,0,none⟩)]] W (zap (okPs t.procs) W)):
  Calls Tryz.prog 47 #[trV t Av Aa Ap Am cv ca cp cm] w (ErrI (if okTr t then 0 else 8) w):=by
 have Jt:= @makeF Tryz.prog;obtain⟨w1,Hc⟩:=nmq ((w.alloc (.cells #[.slice Av t.vars.length cv,.slice Aa t.arrays.length ca,.slice Ap t.procs.length cp,.slice Am t.main.len cm] 27)).alloc (.cells #[.func (.func 90) #[] #[]] 209));have Hg:Fr NoT w w1:=by rw[Hc];exact((Fr.refl _ _).alloc _).alloc _
 have Gw:Bk w1 w.heap.size 27 #[.slice Av t.vars.length cv,.slice Aa t.arrays.length ca,.slice Ap t.procs.length cp,.slice Am t.main.len cm]:=by rw[Hc];exact(Bk.new _ _ _).alloc _
 have F0:Bk w1 (w.heap.size+1) 209 #[.func (.func 90) #[] #[]]:=by rw[Hc];exact Bk.new_at _ _ _ (by simp)
 have keep:∀W,Fr NoT w W->TrR W S Z t Av Aa Ap Am cv ca cp cm:=λW h=>hx.keep (h.same λb hb=>⟨hS b hb,id⟩);have N3:∀W,Fr NoT w W->∀b,S b->b < W.heap.size:=λW h b hb=>ltq (hS b hb) h.size;have H1:=hdq (λW (h:Fr NoT w W)=>zht t.vars Av cv W S Z (he.keep h.plain) (N3 W h) Ht.vars (keep W h).vars);have H2:=hdq h2;have H3:=hdq h3;have H4:=hdq h4;clear h2 h3 h4;obtain⟨r1,h1⟩:=nmq (okVs t.vars);obtain⟨r2,h2⟩:=nmq (okS t.main);obtain⟨r3,h3⟩:=nmq (okAs t.arrays);obtain⟨r4,h4⟩:=nmq (okPs t.procs);have hR:okTr t=(r1&&r2&&r3&&r4):=by unfold okTr;rw[h1,h2,h3,h4]
 rw[hR];obtain⟨n,hn⟩:∃n:Int,n=(if(r1&&r2&&r3&&r4)=true then 0 else 8):=⟨_,rfl⟩;rw[<-hn];have HN:=hdq hn;rw[<-h1]at H1;rw[<-h2]at H2;rw[<-h3]at H3;rw[<-h4]at H4;have Gg:=hdq Hc;have Hs:=hdq Hg;have Gs:=hdq Gw;have Lq:=hdq F0;unfold trV;clear Hc Hg Gw F0 keep N3 h1 h2 h3 h4 hR hx he hS Ht hn;go_enter Tryz.func47,Tryz.ntmps47;go_wp2_with fail;rw[<-Gg.out];refine(H1 _ Hs.out).mono ?_;rintro _ w2 ⟨rfl,hb⟩;have GP:=Gs.fr0 hb;obtain⟨x0,x1,x2,x3,Fp⟩:=bk4 GP;have Hv:=hdq (Hs.trans hb);have Lv:=hdq GP;have Kh:=hdq (Lq.fr0 hb);clear hb GP;cases r1
 ·go_wp2_with fail;go_ret;exact⟨by rw[HN.out];rfl,Hv.out⟩
 go_wp2_with fail;refine(H2 _ Hv.out).mono ?_;rintro _ w3 ⟨rfl,hb⟩;have Fv:=Lv.fr0 hb;clear x0 x1 x2 x3 Fp;obtain⟨x0,x1,x2,x3,Fp⟩:=bk4 Fv;have Ge:=hdq (Hv.trans hb);have PZ:=hdq Fv;have LP:=hdq (Kh.fr0 hb);clear hb Fv;cases r2
 ·go_wp2_with fail;go_ret;exact⟨by rw[HN.out];rfl,Ge.out⟩
 go_wp2_with fail;refine(H3 _ Ge.out).mono ?_;rintro _ w4 ⟨rfl,hb⟩;have P0:=PZ.fr0 hb;clear x0 x1 x2 x3 Fp;obtain⟨x0,x1,x2,x3,Fp⟩:=bk4 P0;have GN:=hdq (Ge.trans hb);have Lr:=hdq (LP.fr0 hb);clear hb P0;cases r3
 ·go_wp2_with fail;go_ret;exact⟨by rw[HN.out];rfl,GN.out⟩
 go_wp2_with fail;refine(H4 _ GN.out Lr.out).mono ?_;rintro _ w5 ⟨rfl,hb⟩;have Gl:=hdq (GN.trans hb);clear hb x0 x1 x2 x3;cases r4;all_goals
  go_wp2_with fail;go_ret;exact⟨by rw[HN.out];rfl,Gl.out⟩
theorem zc6 (t:Tre)(w:World)(S:Nat->Prop)(Z:Prop)(Av Aa Ap Am:Option Addr)(cv ca cp cm:Nat)(he:SpEnv w)(hS:∀b,S b->b < w.heap.size)(Ht:SzT t)(hx:TrR w S Z t Av Aa Ap Am cv ca cp cm):
  Calls Tryz.prog 47 #[trV t Av Aa Ap Am cv ca cp cm] w (ErrI (if okTr t then 0 else 8) w):=
 have keep:∀W,Fr NoT w W->TrR W S Z t Av Aa Ap Am cv ca cp cm:=λW h=>hx.keep (h.same λb hb=>⟨hS b hb,id⟩);have N3:∀W,Fr NoT w W->∀b,S b->b < W.heap.size:=λW h b hb=>ltq (hS b hb) h.size
 zjw t w S Z Av Aa Ap Am cv ca cp cm he hS Ht hx
  (λW h=>zeG t.main Am cm W S Z (he.keep h.plain) (N3 W h) Ht.main (keep W h).main)
  (λW h=>zio t.arrays Aa ca W S Z (he.keep h.plain) (N3 W h) Ht.arrays (keep W h).arrays)
  λW h hb=>zju _ t.procs Ap cp 98 #[.pointer (some ⟨w.heap.size+1,0,none⟩)] W S Z (N3 W h) (keep W h).procs (enters_of Tryz.func98 (by kernel_rfl) rfl) (zlH t.procs W S Z (w.heap.size+1) hb (he.keep h.plain) (N3 W h) Ht.procs)
