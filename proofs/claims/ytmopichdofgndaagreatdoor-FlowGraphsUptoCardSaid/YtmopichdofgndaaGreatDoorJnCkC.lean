/- print.stmt: an if. -/
import Derived.Test.YtmopichdofgndaaGreatDoorJgRm
set_option linter.all false
set_option maxHeartbeats 3200000
set_option maxRecDepth 100000
namespace Go.Proofs.YtmopichdofgndaaGreatDoor
open Go.RowKit Go.Shelf
theorem zhL (k:Int)(nm:ByteArray)(at_:Int)(A:Option Addr)(l c:Nat)(B:Option Addr)(m d:Nat)(D:Option Addr)(u e:Nat)(E:Option Addr)(v f:Nat)(r1 r2 r3 r4:Bool)(w:World)(he:SpEnv w)(hs:nm.size<=9223372036854775807)
  (hl:l<=9223372036854775807) (hm:m<=9223372036854775807) (hu:u<=9223372036854775807) (hv:v<=9223372036854775807)
  (h1:AllC 127 128 w A l c r1) (h2:AllC 129 130 w B m d r2) (h3:AllC 55 56 w D u e r3) (h4:AllC 55 56 w E v f r4)
  (k1:1<=k) (k2:k<=9) (GK:k=7) (a o c2:Int) (b:Bool) (JU:∀w,(Instr.index 197 (tabV za3) (.int .u8 k)).run Tryz.prog w= .ok (.agg #[.int .i64 a,.int .i64 o,.int .i64 c2,.bool b]) w) (Tj:decide (a < 0)=false):
  Calls Tryz.prog 56 #[.agg #[.int .u8 k,.string nm,.slice A l c,.slice B m d,.slice D u e,.slice E v f,.int .i64 at_]] w (zae (nmdB b nm&&((l:Int)==a)&&((m:Int)==c2)&&r1&&r2&&r3&&r4) w):=by
 subst GK;obtain⟨R,hR⟩:=nmq ((nmdB b nm&&((l:Int)==a)&&((m:Int)==c2)&&r1&&r2&&r3&&r4));rw[<-hR];have H1:=hdq h1;have H2:=hdq h2;have H3:=hdq h3;have H4:=hdq h4;have F4:=hdq (λ(W:World)(h:Fr NoT w W)=>zbo b nm hs W (he.keep h.plain));obtain⟨q,hq⟩:=nmq (nmdB b nm);rw[<-hq]at F4 hR;have FJ:=hdq hR;have e1:decide ((7:Int) < 1)=false:=by decide
 have e2:decide (9 < (7:Int))=false:=by decide
 have Hu:=hdq (Bk.new w 39 #[.int .u8 7,.string nm,.slice A l c,.slice B m d,.slice D u e,.slice E v f,.int .i64 at_]);obtain⟨w1,Hc⟩:=nmq (w.alloc (.cells #[.int .u8 7,.string nm,.slice A l c,.slice B m d,.slice D u e,.slice E v f,.int .i64 at_] 39));rw[<-Hc]at Hu;have Hn:=hdq (show Fr NoT w w1 from by rw[Hc];exact(Fr.refl _ _).alloc _);have Ga:=hdq Hc;clear h1 h2 h3 h4 hq hR Hc k1 k2 he hs;go_enter Tryz.func56,Tryz.ntmps56
 go_upto_region 3 with fail
 rw[<-Ga.out];have k01:=Hu.cell 0;have Hv:=Hu.lt;simp only[getsL]at k01;go_cut [3] (λs3 wx=>∃P:Nat,s3= .pointer (some ⟨P,0,none⟩)/\Fr NoT w1 wx/\P < wx.heap.size/\wx.cell? ⟨P,0,none⟩=some (.int .i64 a)/\wx.cell? ⟨P,1,none⟩=some (.int .i64 o)/\wx.cell? ⟨P,2,none⟩=some (.int .i64 c2)/\wx.cell? ⟨P,3,none⟩=some (.bool b));case first=>
  go_region_law
   (first
    |(go_simp
      go_at_call 125
      with_reducible refine(zbg (w1.alloc (.cells #[.int .i64 0,.int .i64 0,.int .i64 0,.bool false] 196)).drew).mono ?_
      rintro _ w5 ⟨rfl,hb⟩;have Hs:Fr NoT w1 w5:=(Fr.drew ((Fr.refl _ _).alloc _)).trans (Fr.below hb);have Hm:=((Bk.new w1 196 #[.int .i64 0,.int .i64 0,.int .i64 0,.bool false]).fr0 (Fr.drew (Fr.refl NoT _))).fr0 (Fr.below hb);have k05:=(Hu.fr0 Hs).cell 0;have z0:=Hm.cell 0;have z1:=Hm.cell 1;have z2:=Hm.cell 2;have z3:=Hm.cell 3;have y0:=Hm.frozen 0;have y1:=Hm.frozen 1;have y2:=Hm.frozen 2;have y3:=Hm.frozen 3;have GN:=(Hu.fr0 Hs).lt;have Jc:=Hm.lt;simp only[getsL]at k05 z0 z1 z2 z3;have Hx:=hdq Hs;have GO:=hdq Hm;clear hb Hs Hm;dsimp only)
    |(go_simp
      go_at_call 125
      with_reducible refine(zbg w1.drew).mono ?_
      rintro _ w5 ⟨rfl,hb⟩;have Hs:Fr NoT w1 w5:=(Fr.drew (Fr.refl _ _)).trans (Fr.below hb);have k05:=(Hu.fr0 Hs).cell 0;simp only[getsL]at k05;have GN:=(Hu.fr0 Hs).lt;have Hx:=hdq Hs;clear hb Hs;dsimp only))
  all_goals
   go_wp2_with fail
   go_meet
   first
    |(refine⟨_,rfl,Hx.alloc _,by simp,?_⟩
      simp)
    |(refine⟨_,rfl,(((Hx.high (lrq _) 0 _).high (lrq _) 1 _).high (lrq _) 2 _).high (lrq _) 3 _,by simpa using Jc,?_⟩
      have h:=(((GO.set_ 0 (.int .i64 a)).set_ 1 (.int .i64 o)).set_ 2 (.int .i64 c2)).set_ 3 (.bool b);exact⟨h.cell 0,h.cell 1,h.cell 2,h.cell 3⟩)
 case rest=>
  obtain⟨P,rfl,Kk,hP,p0,p1,p2,p3⟩:=hcut;have GZ:=Hu.fr0 Kk;have b0:=GZ.cell 0;have b1:=GZ.cell 1;have Q3:=GZ.lt;simp only[getsL]at b0 b1;have K4:=hdq (Hn.trans Kk);have GC:=hdq GZ;clear Kk GZ k01 JU;go_wp2_with fail
  go_quiet (fail)
  go_wp2_with fail;refine(F4 _ (K4.drewN _)).mono ?_;rintro _ w6 ⟨rfl,hb⟩;have Je:=(show Fr NoT _ _ from(Fr.refl NoT _).drewN _).trans hb;have Gg:=GC.fr0 Je;have b2:=Gg.cell 2;have b3:=Gg.cell 3;have b4:=Gg.cell 4;have b5:=Gg.cell 5;have Jc:=Gg.lt;have p0':=(Je.cell (p:=⟨P,0,none⟩) hP id).trans p0;have p2':=(Je.cell (p:=⟨P,2,none⟩) hP id).trans p2;have gt:=ltq hP Je.size;simp only[getsL]at b2 b3 b4 b5;have GF:=hdq (K4.trans Je);have VA:=hdq Gg;clear hb Je Gg b0 b1 p0 p1 p2 p3;cases q
  ·have HF:=hdq (show R=false from by rw[FJ.out];simp);go_wp2_with fail;go_ret;exact⟨by rw[HF.out];rfl,GF.out⟩
  cases h7:(l:Int)==a
  ·have HF:=hdq (show R=false from by rw[FJ.out,h7];simp);go_wp2_with fail;go_ret;exact⟨by rw[HF.out];rfl,GF.out⟩
  cases h8:(m:Int)==c2
  ·have HF:=hdq (show R=false from by rw[FJ.out,h7,h8];simp);go_wp2_with fail;go_ret;exact⟨by rw[HF.out];rfl,GF.out⟩
  have MZ:=FJ.out;simp only[h7,h8,Bool.true_and]at MZ;have Fu:=hdq MZ;clear MZ FJ;go_wp2_with fail;refine(H1 _ GF.out).mono ?_;rintro _ y1 ⟨rfl,hb⟩;have No:=hdq (GF.trans hb);have Gg:=VA.fr0 hb;have Pt:=hdq Gg;have VB:=Gg.lt;have b3_1:=Gg.cell 3;have b4_1:=Gg.cell 4;have b5_1:=Gg.cell 5;simp only[getsL]at b3_1 b4_1 b5_1;clear hb Gg b2 b3 b4 b5 p0' p2';cases r1
  ·have HF:=hdq (show R=false from by rw[Fu.out];simp);go_wp2_with fail;go_ret;exact⟨by rw[HF.out];rfl,No.out⟩
  go_wp2_with fail;refine(H2 _ No.out).mono ?_;rintro _ y2 ⟨rfl,hb⟩;have Pu:=hdq (No.trans hb);have Gg:=Pt.fr0 hb;have Pv:=hdq Gg;have VC:=Gg.lt;have b4_2:=Gg.cell 4;have b5_2:=Gg.cell 5;simp only[getsL]at b4_2 b5_2;clear hb Gg b3_1 b4_1 b5_1;cases r2
  ·have HF:=hdq (show R=false from by rw[Fu.out];simp);go_wp2_with fail;go_ret;exact⟨by rw[HF.out];rfl,Pu.out⟩
  go_wp2_with fail;refine(H3 _ Pu.out).mono ?_;rintro _ y3 ⟨rfl,hb⟩;have Pw:=hdq (Pu.trans hb);have Gg:=Pv.fr0 hb;have Px:=hdq Gg;have VD:=Gg.lt;have b5_3:=Gg.cell 5;simp only[getsL]at b5_3;clear hb Gg b4_2 b5_2;cases r3
  ·have HF:=hdq (show R=false from by rw[Fu.out];simp);go_wp2_with fail;go_ret;exact⟨by rw[HF.out];rfl,Pw.out⟩
  go_wp2_with fail;refine(H4 _ Pw.out).mono ?_;rintro _ y4 ⟨rfl,hb⟩;have Rm:=hdq (Pw.trans hb);have Gg:=Px.fr0 hb;have VE:=hdq Gg;have VF:=Gg.lt;clear hb Gg b5_3;cases r4
  ·have HF:=hdq (show R=false from by rw[Fu.out];simp);go_wp2_with fail;go_ret;exact⟨by rw[HF.out];rfl,Rm.out⟩
  have HF:=hdq (show R=true from by rw[Fu.out];rfl);go_wp2_with fail;go_ret;exact⟨by rw[HF.out];rfl,Rm.out⟩
theorem zhM (k:Int)(nm:ByteArray)(at_:Int)(A:Option Addr)(l c:Nat)(B:Option Addr)(m d:Nat)(D:Option Addr)(u e:Nat)(E:Option Addr)(v f:Nat)(r1 r2 r3 r4:Bool)(w:World)(he:SpEnv w)(hs:nm.size<=9223372036854775807)
  (hl:l<=9223372036854775807) (hm:m<=9223372036854775807) (hu:u<=9223372036854775807) (hv:v<=9223372036854775807)
  (h1:AllC 127 128 w A l c r1) (h2:AllC 129 130 w B m d r2) (h3:AllC 55 56 w D u e r3) (h4:AllC 55 56 w E v f r4)
  (k1:1<=k) (k2:k<=9) (Hk:k=8) (a o c2:Int) (b:Bool) (JU:∀w,(Instr.index 197 (tabV za3) (.int .u8 k)).run Tryz.prog w= .ok (.agg #[.int .i64 a,.int .i64 o,.int .i64 c2,.bool b]) w) (Tj:decide (a < 0)=false):
  Calls Tryz.prog 56 #[.agg #[.int .u8 k,.string nm,.slice A l c,.slice B m d,.slice D u e,.slice E v f,.int .i64 at_]] w (zae (nmdB b nm&&((l:Int)==a)&&((m:Int)==c2)&&(v==0)&&r1&&r2&&r3&&r4) w):=by
 subst Hk;obtain⟨R,hR⟩:=nmq ((nmdB b nm&&((l:Int)==a)&&((m:Int)==c2)&&(v==0)&&r1&&r2&&r3&&r4));rw[<-hR];have H1:=hdq h1;have H2:=hdq h2;have H3:=hdq h3;have H4:=hdq h4;have F4:=hdq (λ(W:World)(h:Fr NoT w W)=>zbo b nm hs W (he.keep h.plain));obtain⟨q,hq⟩:=nmq (nmdB b nm);rw[<-hq]at F4 hR;have FJ:=hdq hR;have e1:decide ((8:Int) < 1)=false:=by decide
 have e2:decide (9 < (8:Int))=false:=by decide
 have Hu:=hdq (Bk.new w 39 #[.int .u8 8,.string nm,.slice A l c,.slice B m d,.slice D u e,.slice E v f,.int .i64 at_]);obtain⟨w1,Hc⟩:=nmq (w.alloc (.cells #[.int .u8 8,.string nm,.slice A l c,.slice B m d,.slice D u e,.slice E v f,.int .i64 at_] 39));rw[<-Hc]at Hu;have Hn:=hdq (show Fr NoT w w1 from by rw[Hc];exact(Fr.refl _ _).alloc _);have Ga:=hdq Hc;clear h1 h2 h3 h4 hq hR Hc k1 k2 he hs;go_enter Tryz.func56,Tryz.ntmps56
 go_upto_region 3 with fail
 rw[<-Ga.out];have k01:=Hu.cell 0;have Hv:=Hu.lt;simp only[getsL]at k01;go_cut [3] (λs3 wx=>∃P:Nat,s3= .pointer (some ⟨P,0,none⟩)/\Fr NoT w1 wx/\P < wx.heap.size/\wx.cell? ⟨P,0,none⟩=some (.int .i64 a)/\wx.cell? ⟨P,1,none⟩=some (.int .i64 o)/\wx.cell? ⟨P,2,none⟩=some (.int .i64 c2)/\wx.cell? ⟨P,3,none⟩=some (.bool b));case first=>
  go_region_law
   (first
    |(go_simp
      go_at_call 125
      with_reducible refine(zbg (w1.alloc (.cells #[.int .i64 0,.int .i64 0,.int .i64 0,.bool false] 196)).drew).mono ?_
      rintro _ w5 ⟨rfl,hb⟩;have Hs:Fr NoT w1 w5:=(Fr.drew ((Fr.refl _ _).alloc _)).trans (Fr.below hb);have Hm:=((Bk.new w1 196 #[.int .i64 0,.int .i64 0,.int .i64 0,.bool false]).fr0 (Fr.drew (Fr.refl NoT _))).fr0 (Fr.below hb);have k05:=(Hu.fr0 Hs).cell 0;have z0:=Hm.cell 0;have z1:=Hm.cell 1;have z2:=Hm.cell 2;have z3:=Hm.cell 3;have y0:=Hm.frozen 0;have y1:=Hm.frozen 1;have y2:=Hm.frozen 2;have y3:=Hm.frozen 3;have GN:=(Hu.fr0 Hs).lt;have Jc:=Hm.lt;simp only[getsL]at k05 z0 z1 z2 z3;have Hx:=hdq Hs;have GO:=hdq Hm;clear hb Hs Hm;dsimp only)
    |(go_simp
      go_at_call 125
      with_reducible refine(zbg w1.drew).mono ?_
      rintro _ w5 ⟨rfl,hb⟩;have Hs:Fr NoT w1 w5:=(Fr.drew (Fr.refl _ _)).trans (Fr.below hb);have k05:=(Hu.fr0 Hs).cell 0;simp only[getsL]at k05;have GN:=(Hu.fr0 Hs).lt;have Hx:=hdq Hs;clear hb Hs;dsimp only))
  all_goals
   go_wp2_with fail
   go_meet
   first
    |(refine⟨_,rfl,Hx.alloc _,by simp,?_⟩
      simp)
    |(refine⟨_,rfl,(((Hx.high (lrq _) 0 _).high (lrq _) 1 _).high (lrq _) 2 _).high (lrq _) 3 _,by simpa using Jc,?_⟩
      have h:=(((GO.set_ 0 (.int .i64 a)).set_ 1 (.int .i64 o)).set_ 2 (.int .i64 c2)).set_ 3 (.bool b);exact⟨h.cell 0,h.cell 1,h.cell 2,h.cell 3⟩)
 case rest=>
  obtain⟨P,rfl,Kk,hP,p0,p1,p2,p3⟩:=hcut;have GZ:=Hu.fr0 Kk;have b0:=GZ.cell 0;have b1:=GZ.cell 1;have Q3:=GZ.lt;simp only[getsL]at b0 b1;have K4:=hdq (Hn.trans Kk);have GC:=hdq GZ;clear Kk GZ k01 JU;go_wp2_with fail
  go_quiet (fail)
  go_wp2_with fail;refine(F4 _ (K4.drewN _)).mono ?_;rintro _ w6 ⟨rfl,hb⟩;have Je:=(show Fr NoT _ _ from(Fr.refl NoT _).drewN _).trans hb;have Gg:=GC.fr0 Je;have b2:=Gg.cell 2;have b3:=Gg.cell 3;have b4:=Gg.cell 4;have b5:=Gg.cell 5;have Jc:=Gg.lt;have p0':=(Je.cell (p:=⟨P,0,none⟩) hP id).trans p0;have p2':=(Je.cell (p:=⟨P,2,none⟩) hP id).trans p2;have gt:=ltq hP Je.size;simp only[getsL]at b2 b3 b4 b5;have GF:=hdq (K4.trans Je);have VA:=hdq Gg;clear hb Je Gg b0 b1 p0 p1 p2 p3;cases q
  ·have HF:=hdq (show R=false from by rw[FJ.out];simp);go_wp2_with fail;go_ret;exact⟨by rw[HF.out];rfl,GF.out⟩
  cases h7:(l:Int)==a
  ·have HF:=hdq (show R=false from by rw[FJ.out,h7];simp);go_wp2_with fail;go_ret;exact⟨by rw[HF.out];rfl,GF.out⟩
  cases h8:(m:Int)==c2
  ·have HF:=hdq (show R=false from by rw[FJ.out,h7,h8];simp);go_wp2_with fail;go_ret;exact⟨by rw[HF.out];rfl,GF.out⟩
  cases M0:v==0
  ·have HF:=hdq (show R=false from by rw[FJ.out,h7,h8,M0];simp);have Rn:((v:Int)==0)=false:=by simpa using M0
   go_wp2_with fail;go_ret;exact⟨by rw[HF.out];rfl,GF.out⟩
  have Rn:((v:Int)==0)=true:=by simpa using M0
  have MZ:=FJ.out;simp only[h7,h8,M0,Bool.true_and]at MZ;have Fu:=hdq MZ;clear MZ FJ;go_wp2_with fail;refine(H1 _ GF.out).mono ?_;rintro _ y1 ⟨rfl,hb⟩;have No:=hdq (GF.trans hb);have Gg:=VA.fr0 hb;have Pt:=hdq Gg;have VB:=Gg.lt;have b3_1:=Gg.cell 3;have b4_1:=Gg.cell 4;have b5_1:=Gg.cell 5;simp only[getsL]at b3_1 b4_1 b5_1;clear hb Gg b2 b3 b4 b5 p0' p2';cases r1
  ·have HF:=hdq (show R=false from by rw[Fu.out];simp);go_wp2_with fail;go_ret;exact⟨by rw[HF.out];rfl,No.out⟩
  go_wp2_with fail;refine(H2 _ No.out).mono ?_;rintro _ y2 ⟨rfl,hb⟩;have Pu:=hdq (No.trans hb);have Gg:=Pt.fr0 hb;have Pv:=hdq Gg;have VC:=Gg.lt;have b4_2:=Gg.cell 4;have b5_2:=Gg.cell 5;simp only[getsL]at b4_2 b5_2;clear hb Gg b3_1 b4_1 b5_1;cases r2
  ·have HF:=hdq (show R=false from by rw[Fu.out];simp);go_wp2_with fail;go_ret;exact⟨by rw[HF.out];rfl,Pu.out⟩
  go_wp2_with fail;refine(H3 _ Pu.out).mono ?_;rintro _ y3 ⟨rfl,hb⟩;have Pw:=hdq (Pu.trans hb);have Gg:=Pv.fr0 hb;have Px:=hdq Gg;have VD:=Gg.lt;have b5_3:=Gg.cell 5;simp only[getsL]at b5_3;clear hb Gg b4_2 b5_2;cases r3
  ·have HF:=hdq (show R=false from by rw[Fu.out];simp);go_wp2_with fail;go_ret;exact⟨by rw[HF.out];rfl,Pw.out⟩
  go_wp2_with fail;refine(H4 _ Pw.out).mono ?_;rintro _ y4 ⟨rfl,hb⟩;have Rm:=hdq (Pw.trans hb);have Gg:=Px.fr0 hb;have VE:=hdq Gg;have VF:=Gg.lt;clear hb Gg b5_3;cases r4
  ·have HF:=hdq (show R=false from by rw[Fu.out];simp);go_wp2_with fail;go_ret;exact⟨by rw[HF.out];rfl,Rm.out⟩
  have HF:=hdq (show R=true from by rw[Fu.out];rfl);go_wp2_with fail;go_ret;exact⟨by rw[HF.out];rfl,Rm.out⟩
theorem zhN (k:Int)(nm:ByteArray)(at_:Int)(A:Option Addr)(l c:Nat)(B:Option Addr)(m d:Nat)(D:Option Addr)(u e:Nat)(E:Option Addr)(v f:Nat)(r1 r2 r3 r4:Bool)(w:World)(he:SpEnv w)(hs:nm.size<=9223372036854775807)
  (hl:l<=9223372036854775807) (hm:m<=9223372036854775807) (hu:u<=9223372036854775807) (hv:v<=9223372036854775807)
  (h1:AllC 127 128 w A l c r1) (h2:AllC 129 130 w B m d r2) (h3:AllC 55 56 w D u e r3) (h4:AllC 55 56 w E v f r4)
  (k1:1<=k) (k2:k<=9) (GK:k≠7) (Hk:k≠8) (a o c2:Int) (b:Bool) (JU:∀w,(Instr.index 197 (tabV za3) (.int .u8 k)).run Tryz.prog w= .ok (.agg #[.int .i64 a,.int .i64 o,.int .i64 c2,.bool b]) w) (Tj:decide (a < 0)=false):
  Calls Tryz.prog 56 #[.agg #[.int .u8 k,.string nm,.slice A l c,.slice B m d,.slice D u e,.slice E v f,.int .i64 at_]] w (zae (nmdB b nm&&((l:Int)==a)&&((m:Int)==c2)&&(u==0)&&(v==0)&&r1&&r2&&r3&&r4) w):=by
 obtain⟨R,hR⟩:=nmq ((nmdB b nm&&((l:Int)==a)&&((m:Int)==c2)&&(u==0)&&(v==0)&&r1&&r2&&r3&&r4));rw[<-hR];have H1:=hdq h1;have H2:=hdq h2;have H3:=hdq h3;have H4:=hdq h4;have F4:=hdq (λ(W:World)(h:Fr NoT w W)=>zbo b nm hs W (he.keep h.plain));obtain⟨q,hq⟩:=nmq (nmdB b nm);rw[<-hq]at F4 hR;have FJ:=hdq hR;have e1:decide (k < 1)=false:=by simp;omega
 have e2:decide (9 < k)=false:=by simp;omega
 have e7:(k==7)=false:=by simpa using GK
 have e8:(k==8)=false:=by simpa using Hk
 have Hu:=hdq (Bk.new w 39 #[.int .u8 k,.string nm,.slice A l c,.slice B m d,.slice D u e,.slice E v f,.int .i64 at_]);obtain⟨w1,Hc⟩:=nmq (w.alloc (.cells #[.int .u8 k,.string nm,.slice A l c,.slice B m d,.slice D u e,.slice E v f,.int .i64 at_] 39));rw[<-Hc]at Hu;have Hn:=hdq (show Fr NoT w w1 from by rw[Hc];exact(Fr.refl _ _).alloc _);have Ga:=hdq Hc;clear h1 h2 h3 h4 hq hR Hc k1 k2 he hs;go_enter Tryz.func56,Tryz.ntmps56
 go_upto_region 3 with fail
 rw[<-Ga.out];have k01:=Hu.cell 0;have Hv:=Hu.lt;simp only[getsL]at k01;go_cut [3] (λs3 wx=>∃P:Nat,s3= .pointer (some ⟨P,0,none⟩)/\Fr NoT w1 wx/\P < wx.heap.size/\wx.cell? ⟨P,0,none⟩=some (.int .i64 a)/\wx.cell? ⟨P,1,none⟩=some (.int .i64 o)/\wx.cell? ⟨P,2,none⟩=some (.int .i64 c2)/\wx.cell? ⟨P,3,none⟩=some (.bool b));case first=>
  go_region_law
   (first
    |(go_simp
      go_at_call 125
      with_reducible refine(zbg (w1.alloc (.cells #[.int .i64 0,.int .i64 0,.int .i64 0,.bool false] 196)).drew).mono ?_
      rintro _ w5 ⟨rfl,hb⟩;have Hs:Fr NoT w1 w5:=(Fr.drew ((Fr.refl _ _).alloc _)).trans (Fr.below hb);have Hm:=((Bk.new w1 196 #[.int .i64 0,.int .i64 0,.int .i64 0,.bool false]).fr0 (Fr.drew (Fr.refl NoT _))).fr0 (Fr.below hb);have k05:=(Hu.fr0 Hs).cell 0;have z0:=Hm.cell 0;have z1:=Hm.cell 1;have z2:=Hm.cell 2;have z3:=Hm.cell 3;have y0:=Hm.frozen 0;have y1:=Hm.frozen 1;have y2:=Hm.frozen 2;have y3:=Hm.frozen 3;have GN:=(Hu.fr0 Hs).lt;have Jc:=Hm.lt;simp only[getsL]at k05 z0 z1 z2 z3;have Hx:=hdq Hs;have GO:=hdq Hm;clear hb Hs Hm;dsimp only)
    |(go_simp
      go_at_call 125
      with_reducible refine(zbg w1.drew).mono ?_
      rintro _ w5 ⟨rfl,hb⟩;have Hs:Fr NoT w1 w5:=(Fr.drew (Fr.refl _ _)).trans (Fr.below hb);have k05:=(Hu.fr0 Hs).cell 0;simp only[getsL]at k05;have GN:=(Hu.fr0 Hs).lt;have Hx:=hdq Hs;clear hb Hs;dsimp only))
  all_goals
   go_wp2_with fail
   go_meet
   first
    |(refine⟨_,rfl,Hx.alloc _,by simp,?_⟩
      simp)
    |(refine⟨_,rfl,(((Hx.high (lrq _) 0 _).high (lrq _) 1 _).high (lrq _) 2 _).high (lrq _) 3 _,by simpa using Jc,?_⟩
      have h:=(((GO.set_ 0 (.int .i64 a)).set_ 1 (.int .i64 o)).set_ 2 (.int .i64 c2)).set_ 3 (.bool b);exact⟨h.cell 0,h.cell 1,h.cell 2,h.cell 3⟩)
 case rest=>
  obtain⟨P,rfl,Kk,hP,p0,p1,p2,p3⟩:=hcut;have GZ:=Hu.fr0 Kk;have b0:=GZ.cell 0;have b1:=GZ.cell 1;have Q3:=GZ.lt;simp only[getsL]at b0 b1;have K4:=hdq (Hn.trans Kk);have GC:=hdq GZ;clear Kk GZ k01 JU;go_wp2_with fail
  go_quiet (fail)
  go_wp2_with fail;refine(F4 _ (K4.drewN _)).mono ?_;rintro _ w6 ⟨rfl,hb⟩;have Je:=(show Fr NoT _ _ from(Fr.refl NoT _).drewN _).trans hb;have Gg:=GC.fr0 Je;have b2:=Gg.cell 2;have b3:=Gg.cell 3;have b4:=Gg.cell 4;have b5:=Gg.cell 5;have Jc:=Gg.lt;have p0':=(Je.cell (p:=⟨P,0,none⟩) hP id).trans p0;have p2':=(Je.cell (p:=⟨P,2,none⟩) hP id).trans p2;have gt:=ltq hP Je.size;simp only[getsL]at b2 b3 b4 b5;have GF:=hdq (K4.trans Je);have VA:=hdq Gg;clear hb Je Gg b0 b1 p0 p1 p2 p3;cases q
  ·have HF:=hdq (show R=false from by rw[FJ.out];simp);go_wp2_with fail;go_ret;exact⟨by rw[HF.out];rfl,GF.out⟩
  cases h7:(l:Int)==a
  ·have HF:=hdq (show R=false from by rw[FJ.out,h7];simp);go_wp2_with fail;go_ret;exact⟨by rw[HF.out];rfl,GF.out⟩
  cases h8:(m:Int)==c2
  ·have HF:=hdq (show R=false from by rw[FJ.out,h7,h8];simp);go_wp2_with fail;go_ret;exact⟨by rw[HF.out];rfl,GF.out⟩
  cases h9:u==0
  ·have HF:=hdq (show R=false from by rw[FJ.out,h7,h8,h9];simp);have Ya:((u:Int)==0)=false:=by simpa using h9
   go_wp2_with fail;go_ret;exact⟨by rw[HF.out];rfl,GF.out⟩
  have Ya:((u:Int)==0)=true:=by simpa using h9
  cases M0:v==0
  ·have HF:=hdq (show R=false from by rw[FJ.out,h7,h8,h9,M0];simp);have Rn:((v:Int)==0)=false:=by simpa using M0
   go_wp2_with fail;go_ret;exact⟨by rw[HF.out];rfl,GF.out⟩
  have Rn:((v:Int)==0)=true:=by simpa using M0
  have MZ:=FJ.out;simp only[h7,h8,h9,M0,Bool.true_and]at MZ;have Fu:=hdq MZ;clear MZ FJ;go_wp2_with fail;refine(H1 _ GF.out).mono ?_;rintro _ y1 ⟨rfl,hb⟩;have No:=hdq (GF.trans hb);have Gg:=VA.fr0 hb;have Pt:=hdq Gg;have VB:=Gg.lt;have b3_1:=Gg.cell 3;have b4_1:=Gg.cell 4;have b5_1:=Gg.cell 5;simp only[getsL]at b3_1 b4_1 b5_1;clear hb Gg b2 b3 b4 b5 p0' p2';cases r1
  ·have HF:=hdq (show R=false from by rw[Fu.out];simp);go_wp2_with fail;go_ret;exact⟨by rw[HF.out];rfl,No.out⟩
  go_wp2_with fail;refine(H2 _ No.out).mono ?_;rintro _ y2 ⟨rfl,hb⟩;have Pu:=hdq (No.trans hb);have Gg:=Pt.fr0 hb;have Pv:=hdq Gg;have VC:=Gg.lt;have b4_2:=Gg.cell 4;have b5_2:=Gg.cell 5;simp only[getsL]at b4_2 b5_2;clear hb Gg b3_1 b4_1 b5_1;cases r2
  ·have HF:=hdq (show R=false from by rw[Fu.out];simp);go_wp2_with fail;go_ret;exact⟨by rw[HF.out];rfl,Pu.out⟩
  go_wp2_with fail;refine(H3 _ Pu.out).mono ?_;rintro _ y3 ⟨rfl,hb⟩;have Pw:=hdq (Pu.trans hb);have Gg:=Pv.fr0 hb;have Px:=hdq Gg;have VD:=Gg.lt;have b5_3:=Gg.cell 5;simp only[getsL]at b5_3;clear hb Gg b4_2 b5_2;cases r3
  ·have HF:=hdq (show R=false from by rw[Fu.out];simp);go_wp2_with fail;go_ret;exact⟨by rw[HF.out];rfl,Pw.out⟩
  go_wp2_with fail;refine(H4 _ Pw.out).mono ?_;rintro _ y4 ⟨rfl,hb⟩;have Rm:=hdq (Pw.trans hb);have Gg:=Px.fr0 hb;have VE:=hdq Gg;have VF:=Gg.lt;clear hb Gg b5_3;cases r4
  ·have HF:=hdq (show R=false from by rw[Fu.out];simp);go_wp2_with fail;go_ret;exact⟨by rw[HF.out];rfl,Rm.out⟩
  have HF:=hdq (show R=true from by rw[Fu.out];rfl);go_wp2_with fail;go_ret;exact⟨by rw[HF.out];rfl,Rm.out⟩
theorem zhO (k:Int)(nm:ByteArray)(at_:Int)(A:Option Addr)(l c:Nat)(B:Option Addr)(m d:Nat)(D:Option Addr)(u e:Nat)(E:Option Addr)(v f:Nat)(r1 r2 r3 r4:Bool)(w:World)(he:SpEnv w)(hs:nm.size<=9223372036854775807)
  (hl:l<=9223372036854775807) (hm:m<=9223372036854775807) (hu:u<=9223372036854775807) (hv:v<=9223372036854775807)
  (h1:AllC 127 128 w A l c r1) (h2:AllC 129 130 w B m d r2) (h3:AllC 55 56 w D u e r3) (h4:AllC 55 56 w E v f r4)
  (k1:1<=k) (k2:k<=9) (GK:k≠7) (Hk:k≠8) (a o c2:Int) (b:Bool) (JU:∀w,(Instr.index 197 (tabV za3) (.int .u8 k)).run Tryz.prog w= .ok (.agg #[.int .i64 a,.int .i64 o,.int .i64 c2,.bool b]) w) (Tj:decide (a < 0)=true):
  Calls Tryz.prog 56 #[.agg #[.int .u8 k,.string nm,.slice A l c,.slice B m d,.slice D u e,.slice E v f,.int .i64 at_]] w (zae (nmdB b nm&&((m:Int)==c2)&&(u==0)&&(v==0)&&r1&&r2&&r3&&r4) w):=by
 obtain⟨R,hR⟩:=nmq ((nmdB b nm&&((m:Int)==c2)&&(u==0)&&(v==0)&&r1&&r2&&r3&&r4));rw[<-hR];have H1:=hdq h1;have H2:=hdq h2;have H3:=hdq h3;have H4:=hdq h4;have F4:=hdq (λ(W:World)(h:Fr NoT w W)=>zbo b nm hs W (he.keep h.plain));obtain⟨q,hq⟩:=nmq (nmdB b nm);rw[<-hq]at F4 hR;have FJ:=hdq hR;have e1:decide (k < 1)=false:=by simp;omega
 have e2:decide (9 < k)=false:=by simp;omega
 have e7:(k==7)=false:=by simpa using GK
 have e8:(k==8)=false:=by simpa using Hk
 have Hu:=hdq (Bk.new w 39 #[.int .u8 k,.string nm,.slice A l c,.slice B m d,.slice D u e,.slice E v f,.int .i64 at_]);obtain⟨w1,Hc⟩:=nmq (w.alloc (.cells #[.int .u8 k,.string nm,.slice A l c,.slice B m d,.slice D u e,.slice E v f,.int .i64 at_] 39));rw[<-Hc]at Hu;have Hn:=hdq (show Fr NoT w w1 from by rw[Hc];exact(Fr.refl _ _).alloc _);have Ga:=hdq Hc;clear h1 h2 h3 h4 hq hR Hc k1 k2 he hs;go_enter Tryz.func56,Tryz.ntmps56
 go_upto_region 3 with fail
 rw[<-Ga.out];have k01:=Hu.cell 0;have Hv:=Hu.lt;simp only[getsL]at k01;go_cut [3] (λs3 wx=>∃P:Nat,s3= .pointer (some ⟨P,0,none⟩)/\Fr NoT w1 wx/\P < wx.heap.size/\wx.cell? ⟨P,0,none⟩=some (.int .i64 a)/\wx.cell? ⟨P,1,none⟩=some (.int .i64 o)/\wx.cell? ⟨P,2,none⟩=some (.int .i64 c2)/\wx.cell? ⟨P,3,none⟩=some (.bool b));case first=>
  go_region_law
   (first
    |(go_simp
      go_at_call 125
      with_reducible refine(zbg (w1.alloc (.cells #[.int .i64 0,.int .i64 0,.int .i64 0,.bool false] 196)).drew).mono ?_
      rintro _ w5 ⟨rfl,hb⟩;have Hs:Fr NoT w1 w5:=(Fr.drew ((Fr.refl _ _).alloc _)).trans (Fr.below hb);have Hm:=((Bk.new w1 196 #[.int .i64 0,.int .i64 0,.int .i64 0,.bool false]).fr0 (Fr.drew (Fr.refl NoT _))).fr0 (Fr.below hb);have k05:=(Hu.fr0 Hs).cell 0;have z0:=Hm.cell 0;have z1:=Hm.cell 1;have z2:=Hm.cell 2;have z3:=Hm.cell 3;have y0:=Hm.frozen 0;have y1:=Hm.frozen 1;have y2:=Hm.frozen 2;have y3:=Hm.frozen 3;have GN:=(Hu.fr0 Hs).lt;have Jc:=Hm.lt;simp only[getsL]at k05 z0 z1 z2 z3;have Hx:=hdq Hs;have GO:=hdq Hm;clear hb Hs Hm;dsimp only)
    |(go_simp
      go_at_call 125
      with_reducible refine(zbg w1.drew).mono ?_
      rintro _ w5 ⟨rfl,hb⟩;have Hs:Fr NoT w1 w5:=(Fr.drew (Fr.refl _ _)).trans (Fr.below hb);have k05:=(Hu.fr0 Hs).cell 0;simp only[getsL]at k05;have GN:=(Hu.fr0 Hs).lt;have Hx:=hdq Hs;clear hb Hs;dsimp only))
  all_goals
   go_wp2_with fail
   go_meet
   first
    |(refine⟨_,rfl,Hx.alloc _,by simp,?_⟩
      simp)
    |(refine⟨_,rfl,(((Hx.high (lrq _) 0 _).high (lrq _) 1 _).high (lrq _) 2 _).high (lrq _) 3 _,by simpa using Jc,?_⟩
      have h:=(((GO.set_ 0 (.int .i64 a)).set_ 1 (.int .i64 o)).set_ 2 (.int .i64 c2)).set_ 3 (.bool b);exact⟨h.cell 0,h.cell 1,h.cell 2,h.cell 3⟩)
 case rest=>
  obtain⟨P,rfl,Kk,hP,p0,p1,p2,p3⟩:=hcut;have GZ:=Hu.fr0 Kk;have b0:=GZ.cell 0;have b1:=GZ.cell 1;have Q3:=GZ.lt;simp only[getsL]at b0 b1;have K4:=hdq (Hn.trans Kk);have GC:=hdq GZ;clear Kk GZ k01 JU;go_wp2_with fail
  go_quiet (fail)
  go_wp2_with fail;refine(F4 _ (K4.drewN _)).mono ?_;rintro _ w6 ⟨rfl,hb⟩;have Je:=(show Fr NoT _ _ from(Fr.refl NoT _).drewN _).trans hb;have Gg:=GC.fr0 Je;have b2:=Gg.cell 2;have b3:=Gg.cell 3;have b4:=Gg.cell 4;have b5:=Gg.cell 5;have Jc:=Gg.lt;have p0':=(Je.cell (p:=⟨P,0,none⟩) hP id).trans p0;have p2':=(Je.cell (p:=⟨P,2,none⟩) hP id).trans p2;have gt:=ltq hP Je.size;simp only[getsL]at b2 b3 b4 b5;have GF:=hdq (K4.trans Je);have VA:=hdq Gg;clear hb Je Gg b0 b1 p0 p1 p2 p3;cases q
  ·have HF:=hdq (show R=false from by rw[FJ.out];simp);go_wp2_with fail;go_ret;exact⟨by rw[HF.out];rfl,GF.out⟩
  cases h8:(m:Int)==c2
  ·have HF:=hdq (show R=false from by rw[FJ.out,h8];simp);go_wp2_with fail;go_ret;exact⟨by rw[HF.out];rfl,GF.out⟩
  cases h9:u==0
  ·have HF:=hdq (show R=false from by rw[FJ.out,h8,h9];simp);have Ya:((u:Int)==0)=false:=by simpa using h9
   go_wp2_with fail;go_ret;exact⟨by rw[HF.out];rfl,GF.out⟩
  have Ya:((u:Int)==0)=true:=by simpa using h9
  cases M0:v==0
  ·have HF:=hdq (show R=false from by rw[FJ.out,h8,h9,M0];simp);have Rn:((v:Int)==0)=false:=by simpa using M0
   go_wp2_with fail;go_ret;exact⟨by rw[HF.out];rfl,GF.out⟩
  have Rn:((v:Int)==0)=true:=by simpa using M0
  have MZ:=FJ.out;simp only[h8,h9,M0,Bool.true_and]at MZ;have Fu:=hdq MZ;clear MZ FJ;go_wp2_with fail;refine(H1 _ GF.out).mono ?_;rintro _ y1 ⟨rfl,hb⟩;have No:=hdq (GF.trans hb);have Gg:=VA.fr0 hb;have Pt:=hdq Gg;have VB:=Gg.lt;have b3_1:=Gg.cell 3;have b4_1:=Gg.cell 4;have b5_1:=Gg.cell 5;simp only[getsL]at b3_1 b4_1 b5_1;clear hb Gg b2 b3 b4 b5 p0' p2';cases r1
  ·have HF:=hdq (show R=false from by rw[Fu.out];simp);go_wp2_with fail;go_ret;exact⟨by rw[HF.out];rfl,No.out⟩
  go_wp2_with fail;refine(H2 _ No.out).mono ?_;rintro _ y2 ⟨rfl,hb⟩;have Pu:=hdq (No.trans hb);have Gg:=Pt.fr0 hb;have Pv:=hdq Gg;have VC:=Gg.lt;have b4_2:=Gg.cell 4;have b5_2:=Gg.cell 5;simp only[getsL]at b4_2 b5_2;clear hb Gg b3_1 b4_1 b5_1;cases r2
  ·have HF:=hdq (show R=false from by rw[Fu.out];simp);go_wp2_with fail;go_ret;exact⟨by rw[HF.out];rfl,Pu.out⟩
  go_wp2_with fail;refine(H3 _ Pu.out).mono ?_;rintro _ y3 ⟨rfl,hb⟩;have Pw:=hdq (Pu.trans hb);have Gg:=Pv.fr0 hb;have Px:=hdq Gg;have VD:=Gg.lt;have b5_3:=Gg.cell 5;simp only[getsL]at b5_3;clear hb Gg b4_2 b5_2;cases r3
  ·have HF:=hdq (show R=false from by rw[Fu.out];simp);go_wp2_with fail;go_ret;exact⟨by rw[HF.out];rfl,Pw.out⟩
  go_wp2_with fail;refine(H4 _ Pw.out).mono ?_;rintro _ y4 ⟨rfl,hb⟩;have Rm:=hdq (Pw.trans hb);have Gg:=Px.fr0 hb;have VE:=hdq Gg;have VF:=Gg.lt;clear hb Gg b5_3;cases r4
  ·have HF:=hdq (show R=false from by rw[Fu.out];simp);go_wp2_with fail;go_ret;exact⟨by rw[HF.out];rfl,Rm.out⟩
  have HF:=hdq (show R=true from by rw[Fu.out];rfl);go_wp2_with fail;go_ret;exact⟨by rw[HF.out];rfl,Rm.out⟩
theorem zkM (k:Int)(nm:ByteArray)(at_:Int)(A:Option Addr)(l c:Nat)(B:Option Addr)(m d:Nat)(D:Option Addr)(u e:Nat)(E:Option Addr)(v f:Nat)(r1 r2 r3 r4:Bool)(w:World)(he:SpEnv w)(hs:nm.size<=9223372036854775807)
  (hl:l<=9223372036854775807) (hm:m<=9223372036854775807) (hu:u<=9223372036854775807) (hv:v<=9223372036854775807)
  (h1:AllC 127 128 w A l c r1) (h2:AllC 129 130 w B m d r2) (h3:AllC 55 56 w D u e r3) (h4:AllC 55 56 w E v f r4):
  Calls Tryz.prog 56 #[.agg #[.int .u8 k,.string nm,.slice A l c,.slice B m d,.slice D u e,.slice E v f,.int .i64 at_]] w (zae (decide (1<=k)&&decide (k<=9)&&nmdB (tabA za3 k).2.2.2 nm&&(decide ((tabA za3 k).1 < 0) || (l:Int)==(tabA za3 k).1)&&((m:Int)==(tabA za3 k).2.2.1)&&(k==7 || k==8 || u==0)&&(k==7 || v==0)&&r1&&r2&&r3&&r4) w):=by
 by_cases k1:1<=k
 rotate_left
 ·have hF:(decide (1<=k)&&decide (k<=9)&&nmdB (tabA za3 k).2.2.2 nm&&(decide ((tabA za3 k).1 < 0) || (l:Int)==(tabA za3 k).1)&&((m:Int)==(tabA za3 k).2.2.1)&&(k==7 || k==8 || u==0)&&(k==7 || v==0)&&r1&&r2&&r3&&r4)=false:=by simp[k1]
  rw[hF];have e1:decide (k < 1)=true:=by simp;omega
  clear hF k1 h1 h2 h3 h4 he hs;go_enter Tryz.func56,Tryz.ntmps56;go_wp2_with fail;go_ret;exact⟨rfl,(Fr.refl _ _).alloc _⟩
 by_cases k2:k<=9
 rotate_left
 ·have hF:(decide (1<=k)&&decide (k<=9)&&nmdB (tabA za3 k).2.2.2 nm&&(decide ((tabA za3 k).1 < 0) || (l:Int)==(tabA za3 k).1)&&((m:Int)==(tabA za3 k).2.2.1)&&(k==7 || k==8 || u==0)&&(k==7 || v==0)&&r1&&r2&&r3&&r4)=false:=by simp[k2]
  rw[hF];have e1:decide (k < 1)=false:=by simp;omega
  have e2:decide (9 < k)=true:=by simp;omega
  clear hF k1 k2 h1 h2 h3 h4 he hs;go_enter Tryz.func56,Tryz.ntmps56;go_wp2_with fail;go_ret;exact⟨rfl,(Fr.refl _ _).alloc _⟩
 obtain⟨a,o,c2,b,Ps,JU⟩:=zkE k k1 k2;have Ph:tabA za3 k=(a,o,c2,b):=by unfold tabA;rw[Ps];rfl
 have x1:decide (1<=k)=true:=by simpa using k1
 have x2:decide (k<=9)=true:=by simpa using k2
 rw[Ph,x1,x2];simp only[Bool.true_and];by_cases GK:k=7
 ·have hn:decide (a < 0)=false:=by
   subst GK;have:za3[(7:Int).toNat]?=some (0,0,1,false):=rfl;rw[this]at Ps;simp only[Option.some.injEq,Prod.mk.injEq]at Ps;rw[<-Ps.1];rfl
  have:=zhL k nm at_ A l c B m d D u e E v f r1 r2 r3 r4 w he hs hl hm hu hv h1 h2 h3 h4 k1 k2 GK a o c2 b JU hn;have y7:(k==7)=true:=by simpa using GK
  rw[hn,y7];simpa only[Bool.false_or,Bool.true_or,Bool.and_true]using this
 have y7:(k==7)=false:=by simpa using GK
 by_cases Hk:k=8
 ·have hn:decide (a < 0)=false:=by
   subst Hk;have:za3[(8:Int).toNat]?=some (0,0,1,false):=rfl;rw[this]at Ps;simp only[Option.some.injEq,Prod.mk.injEq]at Ps;rw[<-Ps.1];rfl
  have:=zhM k nm at_ A l c B m d D u e E v f r1 r2 r3 r4 w he hs hl hm hu hv h1 h2 h3 h4 k1 k2 Hk a o c2 b JU hn;have y8:(k==8)=true:=by simpa using Hk
  rw[hn,y7,y8];simpa only[Bool.false_or,Bool.true_or,Bool.and_true]using this
 have y8:(k==8)=false:=by simpa using Hk
 rw[y7,y8];cases hn:decide (a < 0)
 ·have:=zhN k nm at_ A l c B m d D u e E v f r1 r2 r3 r4 w he hs hl hm hu hv h1 h2 h3 h4 k1 k2 GK Hk a o c2 b JU hn;simpa only[Bool.false_or,Bool.true_or,Bool.and_true]using this
 ·have:=zhO k nm at_ A l c B m d D u e E v f r1 r2 r3 r4 w he hs hl hm hu hv h1 h2 h3 h4 k1 k2 GK Hk a o c2 b JU hn;simpa only[Bool.false_or,Bool.true_or,Bool.and_true]using this
theorem zcu:∀(xs:Sts)(w:World)(S:Nat->Prop)(Z:Prop),SpEnv w->(∀b,S b->b < w.heap.size)->szS xs->AskSt 56 #[] w S Z okT xs
 | .nil,_,_,_,_,_,_=>λi _ _ _ _ _ _ _ _ hd=>by cases i<;>simp[Sts.drop]at hd
 | .cons k nm args cond body els at_ rest,w,S,Z,he,hS,Ht=>λi _ _ _ _ _ _ _ _ hd r1 W A2 q2 A3 q3 A4 q4 A5 q5 hw s2 s3 s4 s5=>by
  cases i with
  |zero=>
   simp only[Sts.drop]at hd;injection hd with e1 e2 e3 e4 e5 e6 e7 e8;subst e1 e2 e3 e4 e5 e6 e7 e8;rw[Array.append_empty];have Pi:∀W2,Fr NoT W W2->∀b,S b->b < W2.heap.size:=λW2 h2 b hb=>ltq (hS b hb) (hw.trans h2).size;have gw:∀b,S b->b < W.heap.size:=λb hb=>ltq (hS b hb) hw.size;refine zkM k nm at_ A2 args.len q2 A3 cond.len q3 A4 body.len q4 A5 els.len q5 (okX args) (okC cond) (okS body) (okS els) W (he.keep hw.plain) Ht.1 (leq9 s2.1 s2.2.1.1) (leq9 s3.1 s3.2.1.1) (leq9 s4.1 s4.2.1.1) (leq9 s5.1 s5.2.1.1) (λW2 h2=>?_) (λW2 h2=>?_) (λW2 h2=>?_) (λW2 h2=>?_)
   ·exact zfG args A2 q2 W2 S Z (he.keep (hw.trans h2).plain) (Pi W2 h2) Ht.2.1 (s2.imp λ_ _ hx=>ExR.keep (h2.same λb hb=>⟨gw b hb,id⟩) hx)
   ·exact ziW cond A3 q3 W2 S Z (he.keep (hw.trans h2).plain) (Pi W2 h2) Ht.2.2.1 (s3.imp λ_ _ hx=>CdR.keep (h2.same λb hb=>⟨gw b hb,id⟩) hx)
   ·have:=zdr okT body A4 q4 56 #[] W2 S Z (Pi W2 h2) (s4.imp λ_ _ hx=>StR.keep (h2.same λb hb=>⟨gw b hb,id⟩) hx) (enters_of Tryz.func56 (by kernel_rfl) rfl) (zcu body W2 S Z (he.keep (hw.trans h2).plain) (Pi W2 h2) Ht.2.2.2.1);rw[zeU]at this;exact this
   ·have:=zdr okT els A5 q5 56 #[] W2 S Z (Pi W2 h2) (s5.imp λ_ _ hx=>StR.keep (h2.same λb hb=>⟨gw b hb,id⟩) hx) (enters_of Tryz.func56 (by kernel_rfl) rfl) (zcu els W2 S Z (he.keep (hw.trans h2).plain) (Pi W2 h2) Ht.2.2.2.2.1);rw[zeU]at this;exact this
  |succ i=>
   simp only[Sts.drop]at hd;exact zcu rest w S Z he hS Ht.2.2.2.2.2 i _ _ _ _ _ _ _ _ hd r1 W A2 q2 A3 q3 A4 q4 A5 q5 hw s2 s3 s4 s5
theorem zei (xs:Sts)(A:Option Addr)(c:Nat)(w:World)(S:Nat->Prop)(Z:Prop)(he:SpEnv w)(hS:∀b,S b->b < w.heap.size)(Ht:szS xs)(hx:SlR (λb o=>StR w S Z xs b o) xs.len 128 A c):
  Calls Tryz.prog 55 #[.slice A xs.len c,.func (.func 56) #[] #[]] w (zae (okS xs) w):=by
 have:=zdr okT xs A c 56 #[] w S Z hS hx (enters_of Tryz.func56 (by kernel_rfl) rfl) (zcu xs w S Z he hS Ht);rw[zeU]at this;exact this
def okVs (xs:List Va):Bool:=zbL (λnm _=>zak nm.data.toList) xs
def okAs (xs:List Arr):Bool:=zbU (λnm size _=>zak nm.data.toList&&decide (0<=size)) xs
def okPs (xs:List Prc):Bool:=zbm (λnm ps body _=>zak nm.data.toList&&okVs ps&&okS body) xs
def okTr (t:Tre):Bool:=okVs t.vars&&okS t.main&&okAs t.arrays&&okPs t.procs
structure SzT (t:Tre):Prop where
 vars:∀x∈t.vars,x.nm.size<=9223372036854775807
 arrays:∀x∈t.arrays,x.nm.size<=9223372036854775807
 procs:∀x∈t.procs,x.nm.size<=9223372036854775807/\(∀y∈x.params,y.nm.size<=9223372036854775807)/\szS x.body
 main:szS t.main
theorem zaN {α:Type}{l:List α}{i:Nat}{x:α}{r:List α}(h:l.drop i=x::r):x∈l:=List.mem_of_mem_drop (i:=i) (by rw[h];simp)
theorem zkN (xs:List Va)(w:World)(S:Nat->Prop)(Z:Prop)(he:SpEnv w)(Ht:∀x∈xs,x.nm.size<=9223372036854775807):AskVa 52 #[] w S Z (λnm _=>zak nm.data.toList) xs:=by
 intro i a0 a1 ar hd W hw;rw[Array.append_empty];have hx:a0.size<=9223372036854775807:=Ht _ (zaN hd);have Hi:Fr NoT W (W.alloc (.cells #[.string a0,.int .i64 a1] 43)):=(Fr.refl _ _).alloc _;have HN:=hdq (zeR a0 hx _ (he.keep (hw.trans Hi).plain));have HF:=hdq Hi;clear hd hw Hi he Ht hx;go_enter Tryz.func52,Tryz.ntmps52;go_wp2_with fail;refine HN.mono ?_;rintro _ w2 ⟨rfl,hb⟩;have Hy:=hdq (HF.trans (Fr.below hb));clear hb;go_wp2_with fail;go_ret;exact⟨rfl,Hy.out⟩
theorem zg4 (xs:List Va)(A:Option Addr)(c:Nat)(w:World)(S:Nat->Prop)(Z:Prop)(he:SpEnv w)(hS:∀b,S b->b < w.heap.size)(Ht:∀x∈xs,x.nm.size<=9223372036854775807)(hx:SlR (λb o=>VaR w S Z xs b o) xs.length 24 A c):
  Calls Tryz.prog 54 #[.slice A xs.length c,.func (.func 52) #[] #[]] w (zae (okVs xs) w):=
 ziG _ xs A c 52 #[] w S Z hS hx (enters_of Tryz.func52 (by kernel_rfl) rfl) (zkN xs w S Z he Ht)
theorem zkO (xs:List Arr)(w:World)(S:Nat->Prop)(Z:Prop)(he:SpEnv w)(Ht:∀x∈xs,x.nm.size<=9223372036854775807):AskAr 58 #[] w S Z (λnm size _=>zak nm.data.toList&&decide (0<=size)) xs:=by
 intro i a0 a1 a2 ar hd W hw;rw[Array.append_empty];have hx:a0.size<=9223372036854775807:=Ht _ (zaN hd);have Gi:=Bk.new W 66 #[.string a0,.int .i64 a1,.int .i64 a2];have Hi:Fr NoT W (W.alloc (.cells #[.string a0,.int .i64 a1,.int .i64 a2] 66)):=(Fr.refl _ _).alloc _;have hn:=zeR a0 hx _ (he.keep (hw.trans Hi).plain);obtain⟨r,hr⟩:=nmq (zak a0.data.toList);show Calls _ _ _ _ (zae (zak a0.data.toList&&decide (0<=a1)) W)
 rw[<-hr]at hn ⊢;have HN:=hdq hn;have HF:=hdq Hi;have HB:=hdq Gi;obtain⟨q,hq⟩:=nmq (decide (0<=a1));rw[<-hq];have e1:=hq.symm;clear hd hw Hi he Ht hx hr hn Gi hq;cases r;all_goals cases q
 all_goals
  go_enter Tryz.func58,Tryz.ntmps58;go_wp2_with fail;refine HN.mono ?_;rintro _ w2 ⟨rfl,hb⟩;have FL:=HB.fr0 (Fr.below hb);have c1:=FL.cell 1;have hl:=FL.lt;simp only[getsL]at c1;have Hy:=hdq (HF.trans (Fr.below hb));clear hb FL;go_wp2_with fail;go_ret;exact⟨rfl,Hy.out⟩
theorem zhP (xs:List Arr)(A:Option Addr)(c:Nat)(w:World)(S:Nat->Prop)(Z:Prop)(he:SpEnv w)(hS:∀b,S b->b < w.heap.size)(Ht:∀x∈xs,x.nm.size<=9223372036854775807)(hx:SlR (λb o=>ArR w S Z xs b o) xs.length 32 A c):
  Calls Tryz.prog 57 #[.slice A xs.length c,.func (.func 58) #[] #[]] w (zae (okAs xs) w):=
 ziH _ xs A c 58 #[] w S Z hS hx (enters_of Tryz.func58 (by kernel_rfl) rfl) (zkO xs w S Z he Ht)
theorem zkP (xs:List Prc)(w:World)(S:Nat->Prop)(Z:Prop)(B:Nat)(FP:Bk w B 115 #[.func (.func 52) #[] #[]])(he:SpEnv w)(hS:∀b,S b->b < w.heap.size)
  (Ht:∀x∈xs,x.nm.size<=9223372036854775807/\(∀y∈x.params,y.nm.size<=9223372036854775807)/\szS x.body):AskPr 60 #[.pointer (some ⟨B,0,none⟩)] w S Z (λnm ps body _=>zak nm.data.toList&&okVs ps&&okS body) xs:=by
 intro i a0 a1 a2 a3 ar hd W A1 q1 A2 q2 hw s1 s2;have hx:=Ht _ (zaN hd);have Gi:=Bk.new W 68 #[.string a0,.slice A1 a1.length q1,.slice A2 a2.len q2,.int .i64 a3];have Hi:Fr NoT W (W.alloc (.cells #[.string a0,.slice A1 a1.length q1,.slice A2 a2.len q2,.int .i64 a3] 68)):=(Fr.refl _ _).alloc _;have hn:=zeR a0 hx.1 _ (he.keep (hw.trans Hi).plain);have KN:∀b,S b->b < W.heap.size:=λb hb=>ltq (hS b hb) hw.size;have hv:∀W2,Fr NoT W W2->Calls Tryz.prog 54 #[.slice A1 a1.length q1,.func (.func 52) #[] #[]] W2 (zae (okVs a1) W2):=λW2 h2=>zg4 a1 A1 q1 W2 S Z (he.keep (hw.trans h2).plain) (λb hb=>ltq (KN b hb) h2.size) hx.2.1 (s1.imp λ_ _ hx=>VaR.keep (h2.same λb hb=>⟨KN b hb,id⟩) hx);have hs:∀W2,Fr NoT W W2->Calls Tryz.prog 55 #[.slice A2 a2.len q2,.func (.func 56) #[] #[]] W2 (zae (okS a2) W2):=λW2 h2=>zei a2 A2 q2 W2 S Z (he.keep (hw.trans h2).plain) (λb hb=>ltq (KN b hb) h2.size) hx.2.2 (s2.imp λ_ _ hx=>StR.keep (h2.same λb hb=>⟨KN b hb,id⟩) hx);obtain⟨r,hr⟩:=nmq (zak a0.data.toList);obtain⟨q,hq⟩:=nmq (okVs a1);obtain⟨t,ht⟩:=nmq (okS a2);rw[<-hr]at hn;rw[<-hq]at hv;rw[<-ht]at hs;have HR:=hdq (show(zak a0.data.toList&&okVs a1&&okS a2)=(r&&q&&t)from by rw[hr,hq,ht]);have HN:=hdq hn;have HV:=hdq hv;have HS:=hdq hs;have HF:=hdq Hi;have HB:=hdq Gi;have HK:=hdq (FP.fr0 hw);clear hd hw Hi he Ht hx hr hn Gi hq ht hv hs s1 s2 hS KN FP;go_enter Tryz.func60,Tryz.ntmps60;go_wp2_with fail
 refine HN.mono ?_;rintro _ w2 ⟨rfl,hb⟩;have FL:=HB.fr0 (Fr.below hb);have c1:=FL.cell 1;have hl:=FL.lt;have He:=(HK.fr0 HF.out).fr0 (Fr.below hb);have d0:=He.cell 0;have Gl:=He.lt;simp only[getsL]at c1 d0;have Hy:=hdq (HF.trans (Fr.below hb));have Jy:=hdq FL;clear hb FL He;cases r
 ·go_wp2_with fail;go_ret;exact⟨by rw[HR.out];rfl,Hy.out⟩
 go_wp2_with fail;refine(HV _ Hy.out).mono ?_;rintro _ w3 ⟨rfl,hb⟩;have J0:=Jy.fr0 hb;have c2:=J0.cell 2;have Gz:=J0.lt;simp only[getsL]at c2;have Gc:=hdq (Hy.trans hb);clear hb J0 c1 d0;cases q
 ·go_wp2_with fail;go_ret;exact⟨by rw[HR.out];rfl,Gc.out⟩
 go_wp2_with fail;refine(HS _ Gc.out).mono ?_;rintro _ w4 ⟨rfl,hb⟩;have GL:=hdq (Gc.trans hb);clear hb;go_wp2_with fail;go_ret;exact⟨by rw[HR.out];simp,GL.out⟩
def ErrI (n:Int)(W:World)(e:Ending)(w':World):Prop:=e= .returned (.int .i64 n)/\Fr NoT W w'
theorem ziY (t:Tre)(w:World)(S:Nat->Prop)(Z:Prop)(Av Aa Ap Am:Option Addr)(cv ca cp cm:Nat)(he:SpEnv w)(hS:∀b,S b->b < w.heap.size)(Ht:SzT t)(hx:TrR w S Z t Av Aa Ap Am cv ca cp cm)
  (h2:∀W,Fr NoT w W->Calls Tryz.prog 55 #[.slice Am t.main.len cm,.func (.func 56) #[] #[]] W (zae (okS t.main) W))
  (h3:∀W,Fr NoT w W->Calls Tryz.prog 57 #[.slice Aa t.arrays.length ca,.func (.func 58) #[] #[]] W (zae (okAs t.arrays) W))
  (h4:∀W,Fr NoT w W->Bk W (w.heap.size+1) 115 #[.func (.func 52) #[] #[]]->Calls Tryz.prog 59 #[.slice Ap t.procs.length cp,.func (.func 60) #[] #[.pointer (some ⟨w.heap.size+1,0,none⟩)]] W (zae (okPs t.procs) W)):
  Calls Tryz.prog 15 #[trV t Av Aa Ap Am cv ca cp cm] w (ErrI (if okTr t then 0 else 8) w):=by
 have Ut:= @makeF Tryz.prog;obtain⟨w1,Hc⟩:=nmq ((w.alloc (.cells #[.slice Av t.vars.length cv,.slice Aa t.arrays.length ca,.slice Ap t.procs.length cp,.slice Am t.main.len cm] 27)).alloc (.cells #[.func (.func 52) #[] #[]] 115));have Hi:Fr NoT w w1:=by rw[Hc];exact((Fr.refl _ _).alloc _).alloc _
 have Gi:Bk w1 w.heap.size 27 #[.slice Av t.vars.length cv,.slice Aa t.arrays.length ca,.slice Ap t.procs.length cp,.slice Am t.main.len cm]:=by rw[Hc];exact(Bk.new _ _ _).alloc _
 have Hp:Bk w1 (w.heap.size+1) 115 #[.func (.func 52) #[] #[]]:=by rw[Hc];exact Bk.new_at _ _ _ (by simp)
 have keep:∀W,Fr NoT w W->TrR W S Z t Av Aa Ap Am cv ca cp cm:=λW h=>hx.keep (h.same λb hb=>⟨hS b hb,id⟩);have KN:∀W,Fr NoT w W->∀b,S b->b < W.heap.size:=λW h b hb=>ltq (hS b hb) h.size;have H1:=hdq (λW (h:Fr NoT w W)=>zg4 t.vars Av cv W S Z (he.keep h.plain) (KN W h) Ht.vars (keep W h).vars);have H2:=hdq h2;have H3:=hdq h3;have H4:=hdq h4;clear h2 h3 h4;obtain⟨r1,h1⟩:=nmq (okVs t.vars);obtain⟨r2,h2⟩:=nmq (okS t.main);obtain⟨r3,h3⟩:=nmq (okAs t.arrays);obtain⟨r4,h4⟩:=nmq (okPs t.procs);have hR:okTr t=(r1&&r2&&r3&&r4):=by unfold okTr;rw[h1,h2,h3,h4]
 rw[hR];obtain⟨n,hn⟩:∃n:Int,n=(if(r1&&r2&&r3&&r4)=true then 0 else 8):=⟨_,rfl⟩;rw[<-hn];have HN:=hdq hn;rw[<-h1]at H1;rw[<-h2]at H2;rw[<-h3]at H3;rw[<-h4]at H4;have Ga:=hdq Hc;have Hn:=hdq Hi;have Hu:=hdq Gi;have Gv:=hdq Hp;unfold trV;clear Hc Hi Gi Hp keep KN h1 h2 h3 h4 hR hx he hS Ht hn;go_enter Tryz.func15,Tryz.ntmps15;go_wp2_with fail;rw[<-Ga.out];refine(H1 _ Hn.out).mono ?_;rintro _ w2 ⟨rfl,hb⟩;have FL:=Hu.fr0 hb;obtain⟨x0,x1,x2,x3,Gl⟩:=bk4 FL;have Hy:=hdq (Hn.trans hb);have Jy:=hdq FL;have FX:=hdq (Gv.fr0 hb);clear hb FL;cases r1
 ·go_wp2_with fail;go_ret;exact⟨by rw[HN.out];rfl,Hy.out⟩
 go_wp2_with fail;refine(H2 _ Hy.out).mono ?_;rintro _ w3 ⟨rfl,hb⟩;have J0:=Jy.fr0 hb;clear x0 x1 x2 x3 Gl;obtain⟨x0,x1,x2,x3,Gl⟩:=bk4 J0;have Gc:=hdq (Hy.trans hb);have Kd:=hdq J0;have F5:=hdq (FX.fr0 hb);clear hb J0;cases r2
 ·go_wp2_with fail;go_ret;exact⟨by rw[HN.out];rfl,Gc.out⟩
 go_wp2_with fail;refine(H3 _ Gc.out).mono ?_;rintro _ w4 ⟨rfl,hb⟩;have LQ:=Kd.fr0 hb;clear x0 x1 x2 x3 Gl;obtain⟨x0,x1,x2,x3,Gl⟩:=bk4 LQ;have GL:=hdq (Gc.trans hb);have KO:=hdq (F5.fr0 hb);clear hb LQ;cases r3
 ·go_wp2_with fail;go_ret;exact⟨by rw[HN.out];rfl,GL.out⟩
 go_wp2_with fail;refine(H4 _ GL.out KO.out).mono ?_;rintro _ w5 ⟨rfl,hb⟩;have Hx:=hdq (GL.trans hb);clear hb x0 x1 x2 x3;cases r4;all_goals
  go_wp2_with fail;go_ret;exact⟨by rw[HN.out];rfl,Hx.out⟩
theorem zcM (t:Tre)(w:World)(S:Nat->Prop)(Z:Prop)(Av Aa Ap Am:Option Addr)(cv ca cp cm:Nat)(he:SpEnv w)(hS:∀b,S b->b < w.heap.size)(Ht:SzT t)(hx:TrR w S Z t Av Aa Ap Am cv ca cp cm):
  Calls Tryz.prog 15 #[trV t Av Aa Ap Am cv ca cp cm] w (ErrI (if okTr t then 0 else 8) w):=
 have keep:∀W,Fr NoT w W->TrR W S Z t Av Aa Ap Am cv ca cp cm:=λW h=>hx.keep (h.same λb hb=>⟨hS b hb,id⟩);have KN:∀W,Fr NoT w W->∀b,S b->b < W.heap.size:=λW h b hb=>ltq (hS b hb) h.size
 ziY t w S Z Av Aa Ap Am cv ca cp cm he hS Ht hx
  (λW h=>zei t.main Am cm W S Z (he.keep h.plain) (KN W h) Ht.main (keep W h).main)
  (λW h=>zhP t.arrays Aa ca W S Z (he.keep h.plain) (KN W h) Ht.arrays (keep W h).arrays)
  λW h hb=>ziI _ t.procs Ap cp 60 #[.pointer (some ⟨w.heap.size+1,0,none⟩)] W S Z (KN W h) (keep W h).procs (enters_of Tryz.func60 (by kernel_rfl) rfl) (zkP t.procs W S Z (w.heap.size+1) hb (he.keep h.plain) (KN W h) Ht.procs)
