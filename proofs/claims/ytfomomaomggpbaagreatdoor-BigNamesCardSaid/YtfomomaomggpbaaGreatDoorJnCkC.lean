/-
  print.stmt: an if.
-/
import Derived.Test.YtfomomaomggpbaaGreatDoorJnCkB
set_option linter.unusedVariables false
set_option linter.unusedSimpArgs false
set_option maxHeartbeats 3200000
set_option maxRecDepth 100000
namespace Go.Proofs.YtfomomaomggpbaaGreatDoor
open Go.RowKit Go.Shelf

theorem stmt_one_1 (k:Int) (nm:ByteArray) (at_:Int) (A:Option Addr) (l c:Nat) (B:Option Addr) (m d:Nat) (D:Option Addr) (u e:Nat) (E:Option Addr) (v f:Nat) (r1 r2 r3 r4:Bool) (w:World) (he:SpEnv w) (hs:nm.size≤9223372036854775807)
  (hl:l≤9223372036854775807) (hm:m≤9223372036854775807) (hu:u≤9223372036854775807) (hv:v≤9223372036854775807)
  (h1:AllC 168 169 w A l c r1) (h2:AllC 170 171 w B m d r2) (h3:AllC 93 94 w D u e r3) (h4:AllC 93 94 w E v f r4)
  (k1:1≤k) (k2:k≤9) (hk7:k=7) (a o c2:Int) (b:Bool) (hidx:∀w,(Instr.index 271 (tabV stShp) (.int .u8 k)).run Tryz.prog w= .ok (.agg #[.int .i64 a,.int .i64 o,.int .i64 c2,.bool b]) w) (hneg:decide (a < 0)=false):
  Calls Tryz.prog 94 #[.agg #[.int .u8 k,.string nm,.slice A l c,.slice B m d,.slice D u e,.slice E v f,.int .i64 at_]] w (EqPost (nmdB b nm&&((l:Int)==a)&&((m:Int)==c2)&&r1&&r2&&r3&&r4) w):=by
 subst hk7
 obtain⟨R,hR⟩:=nmq ((nmdB b nm&&((l:Int)==a)&&((m:Int)==c2)&&r1&&r2&&r3&&r4))
 rw[←hR]
 have H1:=hdq h1
 have H2:=hdq h2
 have H3:=hdq h3
 have H4:=hdq h4
 have HNM:=hdq (fun(W:World) (h:Fr NoT w W)=>prnamed_any b nm hs W (he.keep h.plain))
 obtain⟨q,hq⟩:=nmq (nmdB b nm)
 rw[←hq]at HNM hR
 have HRR:=hdq hR
 have e1:decide ((7:Int) < 1)=false:=by decide
 have e2:decide (9 < (7:Int))=false:=by decide
 have HB1:=hdq (Bk.new w 51 #[.int .u8 7,.string nm,.slice A l c,.slice B m d,.slice D u e,.slice E v f,.int .i64 at_])
 obtain⟨w1,hw1⟩:=nmq (w.alloc (.cells #[.int .u8 7,.string nm,.slice A l c,.slice B m d,.slice D u e,.slice E v f,.int .i64 at_] 51))
 rw[←hw1]at HB1
 have HF1:=hdq (show Fr NoT w w1 from by rw[hw1];exact(Fr.refl _ _).alloc _)
 have HW1:=hdq hw1
 clear h1 h2 h3 h4 hq hR hw1 k1 k2 he hs
 go_enter Tryz.func94,Tryz.ntmps94
 go_upto_region 3 with fail
 rw[←HW1.out]
 have k01:=HB1.out.cell 0
 have hl1:=HB1.out.lt
 simp only[getsL]at k01
 go_cut [3] (fun s3 wx=>∃P:Nat,s3= .pointer (some ⟨P,0,none⟩)∧Fr NoT w1 wx∧P < wx.heap.size∧wx.cell? ⟨P,0,none⟩=some (.int .i64 a)∧wx.cell? ⟨P,1,none⟩=some (.int .i64 o)∧wx.cell? ⟨P,2,none⟩=some (.int .i64 c2)∧wx.cell? ⟨P,3,none⟩=some (.bool b))
 case first=>
  go_region_law
   (first
    |(go_simp
      go_at_call 166
      with_reducible refine(stmts_tab (w1.alloc (.cells #[.int .i64 0,.int .i64 0,.int .i64 0,.bool false] 270)).drew).mono ?_
      rintro _ w5 ⟨rfl,hb⟩
      have hf5:Fr NoT w1 w5:=(Fr.drew ((Fr.refl _ _).alloc _)).trans (Fr.below hb)
      have hk5:=((Bk.new w1 270 #[.int .i64 0,.int .i64 0,.int .i64 0,.bool false]).fr0 (Fr.drew (Fr.refl NoT _))).fr0 (Fr.below hb)
      have k05:=(HB1.out.fr0 hf5).cell 0
      have z0:=hk5.cell 0
      have z1:=hk5.cell 1
      have z2:=hk5.cell 2
      have z3:=hk5.cell 3
      have y0:=hk5.frozen 0
      have y1:=hk5.frozen 1
      have y2:=hk5.frozen 2
      have y3:=hk5.frozen 3
      have hl5:=(HB1.out.fr0 hf5).lt
      have hl6:=hk5.lt
      simp only[getsL]at k05 z0 z1 z2 z3
      have HF5:=hdq hf5
      have HK5:=hdq hk5
      clear hb hf5 hk5
      dsimp only)
    |(go_simp
      go_at_call 166
      with_reducible refine(stmts_tab w1.drew).mono ?_
      rintro _ w5 ⟨rfl,hb⟩
      have hf5:Fr NoT w1 w5:=(Fr.drew (Fr.refl _ _)).trans (Fr.below hb)
      have k05:=(HB1.out.fr0 hf5).cell 0
      simp only[getsL]at k05
      have hl5:=(HB1.out.fr0 hf5).lt
      have HF5:=hdq hf5
      clear hb hf5
      dsimp only))
  all_goals
   go_wp2_with fail
   go_meet
   first
    |(refine⟨_,rfl,HF5.out.alloc _,by simp,?_⟩
      simp)
    |(refine⟨_,rfl,(((HF5.out.high (lrq _) 0 _).high (lrq _) 1 _).high (lrq _) 2 _).high (lrq _) 3 _,by simpa using hl6,?_⟩
      have h:=(((HK5.out.set_ 0 (.int .i64 a)).set_ 1 (.int .i64 o)).set_ 2 (.int .i64 c2)).set_ 3 (.bool b)
      exact⟨h.cell 0,h.cell 1,h.cell 2,h.cell 3⟩)
 case rest=>
  obtain⟨P,rfl,hfx,hP,p0,p1,p2,p3⟩:=hcut
  have hbx:=HB1.out.fr0 hfx
  have b0:=hbx.cell 0
  have b1:=hbx.cell 1
  have hlx:=hbx.lt
  simp only[getsL]at b0 b1
  have HFX:=hdq (HF1.out.trans hfx)
  have HBX:=hdq hbx
  clear hfx hbx k01 hidx
  go_wp2_with fail
  go_quiet (fail)
  go_wp2_with fail
  refine(HNM.out _ (HFX.out.drewN _)).mono ?_
  rintro _ w6 ⟨rfl,hb⟩
  have hb':=(show Fr NoT _ _ from(Fr.refl NoT _).drewN _).trans hb
  have hb6:=HBX.out.fr0 hb'
  have b2:=hb6.cell 2
  have b3:=hb6.cell 3
  have b4:=hb6.cell 4
  have b5:=hb6.cell 5
  have hl6:=hb6.lt
  have p0':=(hb'.cell (p:=⟨P,0,none⟩) hP id).trans p0
  have p2':=(hb'.cell (p:=⟨P,2,none⟩) hP id).trans p2
  have hP6:=ltq hP hb'.size
  simp only[getsL]at b2 b3 b4 b5
  have HF6:=hdq (HFX.out.trans hb')
  have HB6:=hdq hb6
  clear hb hb' hb6 b0 b1 p0 p1 p2 p3
  cases q
  ·have HF:=hdq (show R=false from by rw[HRR.out];simp)
   go_wp2_with fail
   go_ret
   exact⟨by rw[HF.out];rfl,HF6.out⟩
  cases h7:(l:Int)==a
  ·have HF:=hdq (show R=false from by rw[HRR.out,h7];simp)
   go_wp2_with fail
   go_ret
   exact⟨by rw[HF.out];rfl,HF6.out⟩
  cases h8:(m:Int)==c2
  ·have HF:=hdq (show R=false from by rw[HRR.out,h7,h8];simp)
   go_wp2_with fail
   go_ret
   exact⟨by rw[HF.out];rfl,HF6.out⟩
  have hrr:=HRR.out
  simp only[h7,h8,Bool.true_and]at hrr
  have HR2:=hdq hrr
  clear hrr HRR
  go_wp2_with fail
  refine(H1.out _ HF6.out).mono ?_
  rintro _ y1 ⟨rfl,hb⟩
  have HY1:=hdq (HF6.out.trans hb)
  have hb6:=HB6.out.fr0 hb
  have HBY1:=hdq hb6
  have hly1:=hb6.lt
  have b3_1:=hb6.cell 3
  have b4_1:=hb6.cell 4
  have b5_1:=hb6.cell 5
  simp only[getsL]at b3_1 b4_1 b5_1
  clear hb hb6 b2 b3 b4 b5 p0' p2'
  cases r1
  ·have HF:=hdq (show R=false from by rw[HR2.out];simp)
   go_wp2_with fail
   go_ret
   exact⟨by rw[HF.out];rfl,HY1.out⟩
  go_wp2_with fail
  refine(H2.out _ HY1.out).mono ?_
  rintro _ y2 ⟨rfl,hb⟩
  have HY2:=hdq (HY1.out.trans hb)
  have hb6:=HBY1.out.fr0 hb
  have HBY2:=hdq hb6
  have hly2:=hb6.lt
  have b4_2:=hb6.cell 4
  have b5_2:=hb6.cell 5
  simp only[getsL]at b4_2 b5_2
  clear hb hb6 b3_1 b4_1 b5_1
  cases r2
  ·have HF:=hdq (show R=false from by rw[HR2.out];simp)
   go_wp2_with fail
   go_ret
   exact⟨by rw[HF.out];rfl,HY2.out⟩
  go_wp2_with fail
  refine(H3.out _ HY2.out).mono ?_
  rintro _ y3 ⟨rfl,hb⟩
  have HY3:=hdq (HY2.out.trans hb)
  have hb6:=HBY2.out.fr0 hb
  have HBY3:=hdq hb6
  have hly3:=hb6.lt
  have b5_3:=hb6.cell 5
  simp only[getsL]at b5_3
  clear hb hb6 b4_2 b5_2
  cases r3
  ·have HF:=hdq (show R=false from by rw[HR2.out];simp)
   go_wp2_with fail
   go_ret
   exact⟨by rw[HF.out];rfl,HY3.out⟩
  go_wp2_with fail
  refine(H4.out _ HY3.out).mono ?_
  rintro _ y4 ⟨rfl,hb⟩
  have HY4:=hdq (HY3.out.trans hb)
  have hb6:=HBY3.out.fr0 hb
  have HBY4:=hdq hb6
  have hly4:=hb6.lt
  clear hb hb6 b5_3
  cases r4
  ·have HF:=hdq (show R=false from by rw[HR2.out];simp)
   go_wp2_with fail
   go_ret
   exact⟨by rw[HF.out];rfl,HY4.out⟩
  have HF:=hdq (show R=true from by rw[HR2.out];rfl)
  go_wp2_with fail
  go_ret
  exact⟨by rw[HF.out];rfl,HY4.out⟩

theorem stmt_one_2 (k:Int) (nm:ByteArray) (at_:Int) (A:Option Addr) (l c:Nat) (B:Option Addr) (m d:Nat) (D:Option Addr) (u e:Nat) (E:Option Addr) (v f:Nat) (r1 r2 r3 r4:Bool) (w:World) (he:SpEnv w) (hs:nm.size≤9223372036854775807)
  (hl:l≤9223372036854775807) (hm:m≤9223372036854775807) (hu:u≤9223372036854775807) (hv:v≤9223372036854775807)
  (h1:AllC 168 169 w A l c r1) (h2:AllC 170 171 w B m d r2) (h3:AllC 93 94 w D u e r3) (h4:AllC 93 94 w E v f r4)
  (k1:1≤k) (k2:k≤9) (hk8:k=8) (a o c2:Int) (b:Bool) (hidx:∀w,(Instr.index 271 (tabV stShp) (.int .u8 k)).run Tryz.prog w= .ok (.agg #[.int .i64 a,.int .i64 o,.int .i64 c2,.bool b]) w) (hneg:decide (a < 0)=false):
  Calls Tryz.prog 94 #[.agg #[.int .u8 k,.string nm,.slice A l c,.slice B m d,.slice D u e,.slice E v f,.int .i64 at_]] w (EqPost (nmdB b nm&&((l:Int)==a)&&((m:Int)==c2)&&(v==0)&&r1&&r2&&r3&&r4) w):=by
 subst hk8
 obtain⟨R,hR⟩:=nmq ((nmdB b nm&&((l:Int)==a)&&((m:Int)==c2)&&(v==0)&&r1&&r2&&r3&&r4))
 rw[←hR]
 have H1:=hdq h1
 have H2:=hdq h2
 have H3:=hdq h3
 have H4:=hdq h4
 have HNM:=hdq (fun(W:World) (h:Fr NoT w W)=>prnamed_any b nm hs W (he.keep h.plain))
 obtain⟨q,hq⟩:=nmq (nmdB b nm)
 rw[←hq]at HNM hR
 have HRR:=hdq hR
 have e1:decide ((8:Int) < 1)=false:=by decide
 have e2:decide (9 < (8:Int))=false:=by decide
 have HB1:=hdq (Bk.new w 51 #[.int .u8 8,.string nm,.slice A l c,.slice B m d,.slice D u e,.slice E v f,.int .i64 at_])
 obtain⟨w1,hw1⟩:=nmq (w.alloc (.cells #[.int .u8 8,.string nm,.slice A l c,.slice B m d,.slice D u e,.slice E v f,.int .i64 at_] 51))
 rw[←hw1]at HB1
 have HF1:=hdq (show Fr NoT w w1 from by rw[hw1];exact(Fr.refl _ _).alloc _)
 have HW1:=hdq hw1
 clear h1 h2 h3 h4 hq hR hw1 k1 k2 he hs
 go_enter Tryz.func94,Tryz.ntmps94
 go_upto_region 3 with fail
 rw[←HW1.out]
 have k01:=HB1.out.cell 0
 have hl1:=HB1.out.lt
 simp only[getsL]at k01
 go_cut [3] (fun s3 wx=>∃P:Nat,s3= .pointer (some ⟨P,0,none⟩)∧Fr NoT w1 wx∧P < wx.heap.size∧wx.cell? ⟨P,0,none⟩=some (.int .i64 a)∧wx.cell? ⟨P,1,none⟩=some (.int .i64 o)∧wx.cell? ⟨P,2,none⟩=some (.int .i64 c2)∧wx.cell? ⟨P,3,none⟩=some (.bool b))
 case first=>
  go_region_law
   (first
    |(go_simp
      go_at_call 166
      with_reducible refine(stmts_tab (w1.alloc (.cells #[.int .i64 0,.int .i64 0,.int .i64 0,.bool false] 270)).drew).mono ?_
      rintro _ w5 ⟨rfl,hb⟩
      have hf5:Fr NoT w1 w5:=(Fr.drew ((Fr.refl _ _).alloc _)).trans (Fr.below hb)
      have hk5:=((Bk.new w1 270 #[.int .i64 0,.int .i64 0,.int .i64 0,.bool false]).fr0 (Fr.drew (Fr.refl NoT _))).fr0 (Fr.below hb)
      have k05:=(HB1.out.fr0 hf5).cell 0
      have z0:=hk5.cell 0
      have z1:=hk5.cell 1
      have z2:=hk5.cell 2
      have z3:=hk5.cell 3
      have y0:=hk5.frozen 0
      have y1:=hk5.frozen 1
      have y2:=hk5.frozen 2
      have y3:=hk5.frozen 3
      have hl5:=(HB1.out.fr0 hf5).lt
      have hl6:=hk5.lt
      simp only[getsL]at k05 z0 z1 z2 z3
      have HF5:=hdq hf5
      have HK5:=hdq hk5
      clear hb hf5 hk5
      dsimp only)
    |(go_simp
      go_at_call 166
      with_reducible refine(stmts_tab w1.drew).mono ?_
      rintro _ w5 ⟨rfl,hb⟩
      have hf5:Fr NoT w1 w5:=(Fr.drew (Fr.refl _ _)).trans (Fr.below hb)
      have k05:=(HB1.out.fr0 hf5).cell 0
      simp only[getsL]at k05
      have hl5:=(HB1.out.fr0 hf5).lt
      have HF5:=hdq hf5
      clear hb hf5
      dsimp only))
  all_goals
   go_wp2_with fail
   go_meet
   first
    |(refine⟨_,rfl,HF5.out.alloc _,by simp,?_⟩
      simp)
    |(refine⟨_,rfl,(((HF5.out.high (lrq _) 0 _).high (lrq _) 1 _).high (lrq _) 2 _).high (lrq _) 3 _,by simpa using hl6,?_⟩
      have h:=(((HK5.out.set_ 0 (.int .i64 a)).set_ 1 (.int .i64 o)).set_ 2 (.int .i64 c2)).set_ 3 (.bool b)
      exact⟨h.cell 0,h.cell 1,h.cell 2,h.cell 3⟩)
 case rest=>
  obtain⟨P,rfl,hfx,hP,p0,p1,p2,p3⟩:=hcut
  have hbx:=HB1.out.fr0 hfx
  have b0:=hbx.cell 0
  have b1:=hbx.cell 1
  have hlx:=hbx.lt
  simp only[getsL]at b0 b1
  have HFX:=hdq (HF1.out.trans hfx)
  have HBX:=hdq hbx
  clear hfx hbx k01 hidx
  go_wp2_with fail
  go_quiet (fail)
  go_wp2_with fail
  refine(HNM.out _ (HFX.out.drewN _)).mono ?_
  rintro _ w6 ⟨rfl,hb⟩
  have hb':=(show Fr NoT _ _ from(Fr.refl NoT _).drewN _).trans hb
  have hb6:=HBX.out.fr0 hb'
  have b2:=hb6.cell 2
  have b3:=hb6.cell 3
  have b4:=hb6.cell 4
  have b5:=hb6.cell 5
  have hl6:=hb6.lt
  have p0':=(hb'.cell (p:=⟨P,0,none⟩) hP id).trans p0
  have p2':=(hb'.cell (p:=⟨P,2,none⟩) hP id).trans p2
  have hP6:=ltq hP hb'.size
  simp only[getsL]at b2 b3 b4 b5
  have HF6:=hdq (HFX.out.trans hb')
  have HB6:=hdq hb6
  clear hb hb' hb6 b0 b1 p0 p1 p2 p3
  cases q
  ·have HF:=hdq (show R=false from by rw[HRR.out];simp)
   go_wp2_with fail
   go_ret
   exact⟨by rw[HF.out];rfl,HF6.out⟩
  cases h7:(l:Int)==a
  ·have HF:=hdq (show R=false from by rw[HRR.out,h7];simp)
   go_wp2_with fail
   go_ret
   exact⟨by rw[HF.out];rfl,HF6.out⟩
  cases h8:(m:Int)==c2
  ·have HF:=hdq (show R=false from by rw[HRR.out,h7,h8];simp)
   go_wp2_with fail
   go_ret
   exact⟨by rw[HF.out];rfl,HF6.out⟩
  cases h10:v==0
  ·have HF:=hdq (show R=false from by rw[HRR.out,h7,h8,h10];simp)
   have h10':((v:Int)==0)=false:=by simpa using h10
   go_wp2_with fail
   go_ret
   exact⟨by rw[HF.out];rfl,HF6.out⟩
  have h10':((v:Int)==0)=true:=by simpa using h10
  have hrr:=HRR.out
  simp only[h7,h8,h10,Bool.true_and]at hrr
  have HR2:=hdq hrr
  clear hrr HRR
  go_wp2_with fail
  refine(H1.out _ HF6.out).mono ?_
  rintro _ y1 ⟨rfl,hb⟩
  have HY1:=hdq (HF6.out.trans hb)
  have hb6:=HB6.out.fr0 hb
  have HBY1:=hdq hb6
  have hly1:=hb6.lt
  have b3_1:=hb6.cell 3
  have b4_1:=hb6.cell 4
  have b5_1:=hb6.cell 5
  simp only[getsL]at b3_1 b4_1 b5_1
  clear hb hb6 b2 b3 b4 b5 p0' p2'
  cases r1
  ·have HF:=hdq (show R=false from by rw[HR2.out];simp)
   go_wp2_with fail
   go_ret
   exact⟨by rw[HF.out];rfl,HY1.out⟩
  go_wp2_with fail
  refine(H2.out _ HY1.out).mono ?_
  rintro _ y2 ⟨rfl,hb⟩
  have HY2:=hdq (HY1.out.trans hb)
  have hb6:=HBY1.out.fr0 hb
  have HBY2:=hdq hb6
  have hly2:=hb6.lt
  have b4_2:=hb6.cell 4
  have b5_2:=hb6.cell 5
  simp only[getsL]at b4_2 b5_2
  clear hb hb6 b3_1 b4_1 b5_1
  cases r2
  ·have HF:=hdq (show R=false from by rw[HR2.out];simp)
   go_wp2_with fail
   go_ret
   exact⟨by rw[HF.out];rfl,HY2.out⟩
  go_wp2_with fail
  refine(H3.out _ HY2.out).mono ?_
  rintro _ y3 ⟨rfl,hb⟩
  have HY3:=hdq (HY2.out.trans hb)
  have hb6:=HBY2.out.fr0 hb
  have HBY3:=hdq hb6
  have hly3:=hb6.lt
  have b5_3:=hb6.cell 5
  simp only[getsL]at b5_3
  clear hb hb6 b4_2 b5_2
  cases r3
  ·have HF:=hdq (show R=false from by rw[HR2.out];simp)
   go_wp2_with fail
   go_ret
   exact⟨by rw[HF.out];rfl,HY3.out⟩
  go_wp2_with fail
  refine(H4.out _ HY3.out).mono ?_
  rintro _ y4 ⟨rfl,hb⟩
  have HY4:=hdq (HY3.out.trans hb)
  have hb6:=HBY3.out.fr0 hb
  have HBY4:=hdq hb6
  have hly4:=hb6.lt
  clear hb hb6 b5_3
  cases r4
  ·have HF:=hdq (show R=false from by rw[HR2.out];simp)
   go_wp2_with fail
   go_ret
   exact⟨by rw[HF.out];rfl,HY4.out⟩
  have HF:=hdq (show R=true from by rw[HR2.out];rfl)
  go_wp2_with fail
  go_ret
  exact⟨by rw[HF.out];rfl,HY4.out⟩

theorem stmt_one_3 (k:Int) (nm:ByteArray) (at_:Int) (A:Option Addr) (l c:Nat) (B:Option Addr) (m d:Nat) (D:Option Addr) (u e:Nat) (E:Option Addr) (v f:Nat) (r1 r2 r3 r4:Bool) (w:World) (he:SpEnv w) (hs:nm.size≤9223372036854775807)
  (hl:l≤9223372036854775807) (hm:m≤9223372036854775807) (hu:u≤9223372036854775807) (hv:v≤9223372036854775807)
  (h1:AllC 168 169 w A l c r1) (h2:AllC 170 171 w B m d r2) (h3:AllC 93 94 w D u e r3) (h4:AllC 93 94 w E v f r4)
  (k1:1≤k) (k2:k≤9) (hk7:k≠7) (hk8:k≠8) (a o c2:Int) (b:Bool) (hidx:∀w,(Instr.index 271 (tabV stShp) (.int .u8 k)).run Tryz.prog w= .ok (.agg #[.int .i64 a,.int .i64 o,.int .i64 c2,.bool b]) w) (hneg:decide (a < 0)=false):
  Calls Tryz.prog 94 #[.agg #[.int .u8 k,.string nm,.slice A l c,.slice B m d,.slice D u e,.slice E v f,.int .i64 at_]] w (EqPost (nmdB b nm&&((l:Int)==a)&&((m:Int)==c2)&&(u==0)&&(v==0)&&r1&&r2&&r3&&r4) w):=by
 obtain⟨R,hR⟩:=nmq ((nmdB b nm&&((l:Int)==a)&&((m:Int)==c2)&&(u==0)&&(v==0)&&r1&&r2&&r3&&r4))
 rw[←hR]
 have H1:=hdq h1
 have H2:=hdq h2
 have H3:=hdq h3
 have H4:=hdq h4
 have HNM:=hdq (fun(W:World) (h:Fr NoT w W)=>prnamed_any b nm hs W (he.keep h.plain))
 obtain⟨q,hq⟩:=nmq (nmdB b nm)
 rw[←hq]at HNM hR
 have HRR:=hdq hR
 have e1:decide (k < 1)=false:=by simp;omega
 have e2:decide (9 < k)=false:=by simp;omega
 have e7:(k==7)=false:=by simpa using hk7
 have e8:(k==8)=false:=by simpa using hk8
 have HB1:=hdq (Bk.new w 51 #[.int .u8 k,.string nm,.slice A l c,.slice B m d,.slice D u e,.slice E v f,.int .i64 at_])
 obtain⟨w1,hw1⟩:=nmq (w.alloc (.cells #[.int .u8 k,.string nm,.slice A l c,.slice B m d,.slice D u e,.slice E v f,.int .i64 at_] 51))
 rw[←hw1]at HB1
 have HF1:=hdq (show Fr NoT w w1 from by rw[hw1];exact(Fr.refl _ _).alloc _)
 have HW1:=hdq hw1
 clear h1 h2 h3 h4 hq hR hw1 k1 k2 he hs
 go_enter Tryz.func94,Tryz.ntmps94
 go_upto_region 3 with fail
 rw[←HW1.out]
 have k01:=HB1.out.cell 0
 have hl1:=HB1.out.lt
 simp only[getsL]at k01
 go_cut [3] (fun s3 wx=>∃P:Nat,s3= .pointer (some ⟨P,0,none⟩)∧Fr NoT w1 wx∧P < wx.heap.size∧wx.cell? ⟨P,0,none⟩=some (.int .i64 a)∧wx.cell? ⟨P,1,none⟩=some (.int .i64 o)∧wx.cell? ⟨P,2,none⟩=some (.int .i64 c2)∧wx.cell? ⟨P,3,none⟩=some (.bool b))
 case first=>
  go_region_law
   (first
    |(go_simp
      go_at_call 166
      with_reducible refine(stmts_tab (w1.alloc (.cells #[.int .i64 0,.int .i64 0,.int .i64 0,.bool false] 270)).drew).mono ?_
      rintro _ w5 ⟨rfl,hb⟩
      have hf5:Fr NoT w1 w5:=(Fr.drew ((Fr.refl _ _).alloc _)).trans (Fr.below hb)
      have hk5:=((Bk.new w1 270 #[.int .i64 0,.int .i64 0,.int .i64 0,.bool false]).fr0 (Fr.drew (Fr.refl NoT _))).fr0 (Fr.below hb)
      have k05:=(HB1.out.fr0 hf5).cell 0
      have z0:=hk5.cell 0
      have z1:=hk5.cell 1
      have z2:=hk5.cell 2
      have z3:=hk5.cell 3
      have y0:=hk5.frozen 0
      have y1:=hk5.frozen 1
      have y2:=hk5.frozen 2
      have y3:=hk5.frozen 3
      have hl5:=(HB1.out.fr0 hf5).lt
      have hl6:=hk5.lt
      simp only[getsL]at k05 z0 z1 z2 z3
      have HF5:=hdq hf5
      have HK5:=hdq hk5
      clear hb hf5 hk5
      dsimp only)
    |(go_simp
      go_at_call 166
      with_reducible refine(stmts_tab w1.drew).mono ?_
      rintro _ w5 ⟨rfl,hb⟩
      have hf5:Fr NoT w1 w5:=(Fr.drew (Fr.refl _ _)).trans (Fr.below hb)
      have k05:=(HB1.out.fr0 hf5).cell 0
      simp only[getsL]at k05
      have hl5:=(HB1.out.fr0 hf5).lt
      have HF5:=hdq hf5
      clear hb hf5
      dsimp only))
  all_goals
   go_wp2_with fail
   go_meet
   first
    |(refine⟨_,rfl,HF5.out.alloc _,by simp,?_⟩
      simp)
    |(refine⟨_,rfl,(((HF5.out.high (lrq _) 0 _).high (lrq _) 1 _).high (lrq _) 2 _).high (lrq _) 3 _,by simpa using hl6,?_⟩
      have h:=(((HK5.out.set_ 0 (.int .i64 a)).set_ 1 (.int .i64 o)).set_ 2 (.int .i64 c2)).set_ 3 (.bool b)
      exact⟨h.cell 0,h.cell 1,h.cell 2,h.cell 3⟩)
 case rest=>
  obtain⟨P,rfl,hfx,hP,p0,p1,p2,p3⟩:=hcut
  have hbx:=HB1.out.fr0 hfx
  have b0:=hbx.cell 0
  have b1:=hbx.cell 1
  have hlx:=hbx.lt
  simp only[getsL]at b0 b1
  have HFX:=hdq (HF1.out.trans hfx)
  have HBX:=hdq hbx
  clear hfx hbx k01 hidx
  go_wp2_with fail
  go_quiet (fail)
  go_wp2_with fail
  refine(HNM.out _ (HFX.out.drewN _)).mono ?_
  rintro _ w6 ⟨rfl,hb⟩
  have hb':=(show Fr NoT _ _ from(Fr.refl NoT _).drewN _).trans hb
  have hb6:=HBX.out.fr0 hb'
  have b2:=hb6.cell 2
  have b3:=hb6.cell 3
  have b4:=hb6.cell 4
  have b5:=hb6.cell 5
  have hl6:=hb6.lt
  have p0':=(hb'.cell (p:=⟨P,0,none⟩) hP id).trans p0
  have p2':=(hb'.cell (p:=⟨P,2,none⟩) hP id).trans p2
  have hP6:=ltq hP hb'.size
  simp only[getsL]at b2 b3 b4 b5
  have HF6:=hdq (HFX.out.trans hb')
  have HB6:=hdq hb6
  clear hb hb' hb6 b0 b1 p0 p1 p2 p3
  cases q
  ·have HF:=hdq (show R=false from by rw[HRR.out];simp)
   go_wp2_with fail
   go_ret
   exact⟨by rw[HF.out];rfl,HF6.out⟩
  cases h7:(l:Int)==a
  ·have HF:=hdq (show R=false from by rw[HRR.out,h7];simp)
   go_wp2_with fail
   go_ret
   exact⟨by rw[HF.out];rfl,HF6.out⟩
  cases h8:(m:Int)==c2
  ·have HF:=hdq (show R=false from by rw[HRR.out,h7,h8];simp)
   go_wp2_with fail
   go_ret
   exact⟨by rw[HF.out];rfl,HF6.out⟩
  cases h9:u==0
  ·have HF:=hdq (show R=false from by rw[HRR.out,h7,h8,h9];simp)
   have h9':((u:Int)==0)=false:=by simpa using h9
   go_wp2_with fail
   go_ret
   exact⟨by rw[HF.out];rfl,HF6.out⟩
  have h9':((u:Int)==0)=true:=by simpa using h9
  cases h10:v==0
  ·have HF:=hdq (show R=false from by rw[HRR.out,h7,h8,h9,h10];simp)
   have h10':((v:Int)==0)=false:=by simpa using h10
   go_wp2_with fail
   go_ret
   exact⟨by rw[HF.out];rfl,HF6.out⟩
  have h10':((v:Int)==0)=true:=by simpa using h10
  have hrr:=HRR.out
  simp only[h7,h8,h9,h10,Bool.true_and]at hrr
  have HR2:=hdq hrr
  clear hrr HRR
  go_wp2_with fail
  refine(H1.out _ HF6.out).mono ?_
  rintro _ y1 ⟨rfl,hb⟩
  have HY1:=hdq (HF6.out.trans hb)
  have hb6:=HB6.out.fr0 hb
  have HBY1:=hdq hb6
  have hly1:=hb6.lt
  have b3_1:=hb6.cell 3
  have b4_1:=hb6.cell 4
  have b5_1:=hb6.cell 5
  simp only[getsL]at b3_1 b4_1 b5_1
  clear hb hb6 b2 b3 b4 b5 p0' p2'
  cases r1
  ·have HF:=hdq (show R=false from by rw[HR2.out];simp)
   go_wp2_with fail
   go_ret
   exact⟨by rw[HF.out];rfl,HY1.out⟩
  go_wp2_with fail
  refine(H2.out _ HY1.out).mono ?_
  rintro _ y2 ⟨rfl,hb⟩
  have HY2:=hdq (HY1.out.trans hb)
  have hb6:=HBY1.out.fr0 hb
  have HBY2:=hdq hb6
  have hly2:=hb6.lt
  have b4_2:=hb6.cell 4
  have b5_2:=hb6.cell 5
  simp only[getsL]at b4_2 b5_2
  clear hb hb6 b3_1 b4_1 b5_1
  cases r2
  ·have HF:=hdq (show R=false from by rw[HR2.out];simp)
   go_wp2_with fail
   go_ret
   exact⟨by rw[HF.out];rfl,HY2.out⟩
  go_wp2_with fail
  refine(H3.out _ HY2.out).mono ?_
  rintro _ y3 ⟨rfl,hb⟩
  have HY3:=hdq (HY2.out.trans hb)
  have hb6:=HBY2.out.fr0 hb
  have HBY3:=hdq hb6
  have hly3:=hb6.lt
  have b5_3:=hb6.cell 5
  simp only[getsL]at b5_3
  clear hb hb6 b4_2 b5_2
  cases r3
  ·have HF:=hdq (show R=false from by rw[HR2.out];simp)
   go_wp2_with fail
   go_ret
   exact⟨by rw[HF.out];rfl,HY3.out⟩
  go_wp2_with fail
  refine(H4.out _ HY3.out).mono ?_
  rintro _ y4 ⟨rfl,hb⟩
  have HY4:=hdq (HY3.out.trans hb)
  have hb6:=HBY3.out.fr0 hb
  have HBY4:=hdq hb6
  have hly4:=hb6.lt
  clear hb hb6 b5_3
  cases r4
  ·have HF:=hdq (show R=false from by rw[HR2.out];simp)
   go_wp2_with fail
   go_ret
   exact⟨by rw[HF.out];rfl,HY4.out⟩
  have HF:=hdq (show R=true from by rw[HR2.out];rfl)
  go_wp2_with fail
  go_ret
  exact⟨by rw[HF.out];rfl,HY4.out⟩

theorem stmt_one_4 (k:Int) (nm:ByteArray) (at_:Int) (A:Option Addr) (l c:Nat) (B:Option Addr) (m d:Nat) (D:Option Addr) (u e:Nat) (E:Option Addr) (v f:Nat) (r1 r2 r3 r4:Bool) (w:World) (he:SpEnv w) (hs:nm.size≤9223372036854775807)
  (hl:l≤9223372036854775807) (hm:m≤9223372036854775807) (hu:u≤9223372036854775807) (hv:v≤9223372036854775807)
  (h1:AllC 168 169 w A l c r1) (h2:AllC 170 171 w B m d r2) (h3:AllC 93 94 w D u e r3) (h4:AllC 93 94 w E v f r4)
  (k1:1≤k) (k2:k≤9) (hk7:k≠7) (hk8:k≠8) (a o c2:Int) (b:Bool) (hidx:∀w,(Instr.index 271 (tabV stShp) (.int .u8 k)).run Tryz.prog w= .ok (.agg #[.int .i64 a,.int .i64 o,.int .i64 c2,.bool b]) w) (hneg:decide (a < 0)=true):
  Calls Tryz.prog 94 #[.agg #[.int .u8 k,.string nm,.slice A l c,.slice B m d,.slice D u e,.slice E v f,.int .i64 at_]] w (EqPost (nmdB b nm&&((m:Int)==c2)&&(u==0)&&(v==0)&&r1&&r2&&r3&&r4) w):=by
 obtain⟨R,hR⟩:=nmq ((nmdB b nm&&((m:Int)==c2)&&(u==0)&&(v==0)&&r1&&r2&&r3&&r4))
 rw[←hR]
 have H1:=hdq h1
 have H2:=hdq h2
 have H3:=hdq h3
 have H4:=hdq h4
 have HNM:=hdq (fun(W:World) (h:Fr NoT w W)=>prnamed_any b nm hs W (he.keep h.plain))
 obtain⟨q,hq⟩:=nmq (nmdB b nm)
 rw[←hq]at HNM hR
 have HRR:=hdq hR
 have e1:decide (k < 1)=false:=by simp;omega
 have e2:decide (9 < k)=false:=by simp;omega
 have e7:(k==7)=false:=by simpa using hk7
 have e8:(k==8)=false:=by simpa using hk8
 have HB1:=hdq (Bk.new w 51 #[.int .u8 k,.string nm,.slice A l c,.slice B m d,.slice D u e,.slice E v f,.int .i64 at_])
 obtain⟨w1,hw1⟩:=nmq (w.alloc (.cells #[.int .u8 k,.string nm,.slice A l c,.slice B m d,.slice D u e,.slice E v f,.int .i64 at_] 51))
 rw[←hw1]at HB1
 have HF1:=hdq (show Fr NoT w w1 from by rw[hw1];exact(Fr.refl _ _).alloc _)
 have HW1:=hdq hw1
 clear h1 h2 h3 h4 hq hR hw1 k1 k2 he hs
 go_enter Tryz.func94,Tryz.ntmps94
 go_upto_region 3 with fail
 rw[←HW1.out]
 have k01:=HB1.out.cell 0
 have hl1:=HB1.out.lt
 simp only[getsL]at k01
 go_cut [3] (fun s3 wx=>∃P:Nat,s3= .pointer (some ⟨P,0,none⟩)∧Fr NoT w1 wx∧P < wx.heap.size∧wx.cell? ⟨P,0,none⟩=some (.int .i64 a)∧wx.cell? ⟨P,1,none⟩=some (.int .i64 o)∧wx.cell? ⟨P,2,none⟩=some (.int .i64 c2)∧wx.cell? ⟨P,3,none⟩=some (.bool b))
 case first=>
  go_region_law
   (first
    |(go_simp
      go_at_call 166
      with_reducible refine(stmts_tab (w1.alloc (.cells #[.int .i64 0,.int .i64 0,.int .i64 0,.bool false] 270)).drew).mono ?_
      rintro _ w5 ⟨rfl,hb⟩
      have hf5:Fr NoT w1 w5:=(Fr.drew ((Fr.refl _ _).alloc _)).trans (Fr.below hb)
      have hk5:=((Bk.new w1 270 #[.int .i64 0,.int .i64 0,.int .i64 0,.bool false]).fr0 (Fr.drew (Fr.refl NoT _))).fr0 (Fr.below hb)
      have k05:=(HB1.out.fr0 hf5).cell 0
      have z0:=hk5.cell 0
      have z1:=hk5.cell 1
      have z2:=hk5.cell 2
      have z3:=hk5.cell 3
      have y0:=hk5.frozen 0
      have y1:=hk5.frozen 1
      have y2:=hk5.frozen 2
      have y3:=hk5.frozen 3
      have hl5:=(HB1.out.fr0 hf5).lt
      have hl6:=hk5.lt
      simp only[getsL]at k05 z0 z1 z2 z3
      have HF5:=hdq hf5
      have HK5:=hdq hk5
      clear hb hf5 hk5
      dsimp only)
    |(go_simp
      go_at_call 166
      with_reducible refine(stmts_tab w1.drew).mono ?_
      rintro _ w5 ⟨rfl,hb⟩
      have hf5:Fr NoT w1 w5:=(Fr.drew (Fr.refl _ _)).trans (Fr.below hb)
      have k05:=(HB1.out.fr0 hf5).cell 0
      simp only[getsL]at k05
      have hl5:=(HB1.out.fr0 hf5).lt
      have HF5:=hdq hf5
      clear hb hf5
      dsimp only))
  all_goals
   go_wp2_with fail
   go_meet
   first
    |(refine⟨_,rfl,HF5.out.alloc _,by simp,?_⟩
      simp)
    |(refine⟨_,rfl,(((HF5.out.high (lrq _) 0 _).high (lrq _) 1 _).high (lrq _) 2 _).high (lrq _) 3 _,by simpa using hl6,?_⟩
      have h:=(((HK5.out.set_ 0 (.int .i64 a)).set_ 1 (.int .i64 o)).set_ 2 (.int .i64 c2)).set_ 3 (.bool b)
      exact⟨h.cell 0,h.cell 1,h.cell 2,h.cell 3⟩)
 case rest=>
  obtain⟨P,rfl,hfx,hP,p0,p1,p2,p3⟩:=hcut
  have hbx:=HB1.out.fr0 hfx
  have b0:=hbx.cell 0
  have b1:=hbx.cell 1
  have hlx:=hbx.lt
  simp only[getsL]at b0 b1
  have HFX:=hdq (HF1.out.trans hfx)
  have HBX:=hdq hbx
  clear hfx hbx k01 hidx
  go_wp2_with fail
  go_quiet (fail)
  go_wp2_with fail
  refine(HNM.out _ (HFX.out.drewN _)).mono ?_
  rintro _ w6 ⟨rfl,hb⟩
  have hb':=(show Fr NoT _ _ from(Fr.refl NoT _).drewN _).trans hb
  have hb6:=HBX.out.fr0 hb'
  have b2:=hb6.cell 2
  have b3:=hb6.cell 3
  have b4:=hb6.cell 4
  have b5:=hb6.cell 5
  have hl6:=hb6.lt
  have p0':=(hb'.cell (p:=⟨P,0,none⟩) hP id).trans p0
  have p2':=(hb'.cell (p:=⟨P,2,none⟩) hP id).trans p2
  have hP6:=ltq hP hb'.size
  simp only[getsL]at b2 b3 b4 b5
  have HF6:=hdq (HFX.out.trans hb')
  have HB6:=hdq hb6
  clear hb hb' hb6 b0 b1 p0 p1 p2 p3
  cases q
  ·have HF:=hdq (show R=false from by rw[HRR.out];simp)
   go_wp2_with fail
   go_ret
   exact⟨by rw[HF.out];rfl,HF6.out⟩
  cases h8:(m:Int)==c2
  ·have HF:=hdq (show R=false from by rw[HRR.out,h8];simp)
   go_wp2_with fail
   go_ret
   exact⟨by rw[HF.out];rfl,HF6.out⟩
  cases h9:u==0
  ·have HF:=hdq (show R=false from by rw[HRR.out,h8,h9];simp)
   have h9':((u:Int)==0)=false:=by simpa using h9
   go_wp2_with fail
   go_ret
   exact⟨by rw[HF.out];rfl,HF6.out⟩
  have h9':((u:Int)==0)=true:=by simpa using h9
  cases h10:v==0
  ·have HF:=hdq (show R=false from by rw[HRR.out,h8,h9,h10];simp)
   have h10':((v:Int)==0)=false:=by simpa using h10
   go_wp2_with fail
   go_ret
   exact⟨by rw[HF.out];rfl,HF6.out⟩
  have h10':((v:Int)==0)=true:=by simpa using h10
  have hrr:=HRR.out
  simp only[h8,h9,h10,Bool.true_and]at hrr
  have HR2:=hdq hrr
  clear hrr HRR
  go_wp2_with fail
  refine(H1.out _ HF6.out).mono ?_
  rintro _ y1 ⟨rfl,hb⟩
  have HY1:=hdq (HF6.out.trans hb)
  have hb6:=HB6.out.fr0 hb
  have HBY1:=hdq hb6
  have hly1:=hb6.lt
  have b3_1:=hb6.cell 3
  have b4_1:=hb6.cell 4
  have b5_1:=hb6.cell 5
  simp only[getsL]at b3_1 b4_1 b5_1
  clear hb hb6 b2 b3 b4 b5 p0' p2'
  cases r1
  ·have HF:=hdq (show R=false from by rw[HR2.out];simp)
   go_wp2_with fail
   go_ret
   exact⟨by rw[HF.out];rfl,HY1.out⟩
  go_wp2_with fail
  refine(H2.out _ HY1.out).mono ?_
  rintro _ y2 ⟨rfl,hb⟩
  have HY2:=hdq (HY1.out.trans hb)
  have hb6:=HBY1.out.fr0 hb
  have HBY2:=hdq hb6
  have hly2:=hb6.lt
  have b4_2:=hb6.cell 4
  have b5_2:=hb6.cell 5
  simp only[getsL]at b4_2 b5_2
  clear hb hb6 b3_1 b4_1 b5_1
  cases r2
  ·have HF:=hdq (show R=false from by rw[HR2.out];simp)
   go_wp2_with fail
   go_ret
   exact⟨by rw[HF.out];rfl,HY2.out⟩
  go_wp2_with fail
  refine(H3.out _ HY2.out).mono ?_
  rintro _ y3 ⟨rfl,hb⟩
  have HY3:=hdq (HY2.out.trans hb)
  have hb6:=HBY2.out.fr0 hb
  have HBY3:=hdq hb6
  have hly3:=hb6.lt
  have b5_3:=hb6.cell 5
  simp only[getsL]at b5_3
  clear hb hb6 b4_2 b5_2
  cases r3
  ·have HF:=hdq (show R=false from by rw[HR2.out];simp)
   go_wp2_with fail
   go_ret
   exact⟨by rw[HF.out];rfl,HY3.out⟩
  go_wp2_with fail
  refine(H4.out _ HY3.out).mono ?_
  rintro _ y4 ⟨rfl,hb⟩
  have HY4:=hdq (HY3.out.trans hb)
  have hb6:=HBY3.out.fr0 hb
  have HBY4:=hdq hb6
  have hly4:=hb6.lt
  clear hb hb6 b5_3
  cases r4
  ·have HF:=hdq (show R=false from by rw[HR2.out];simp)
   go_wp2_with fail
   go_ret
   exact⟨by rw[HF.out];rfl,HY4.out⟩
  have HF:=hdq (show R=true from by rw[HR2.out];rfl)
  go_wp2_with fail
  go_ret
  exact⟨by rw[HF.out];rfl,HY4.out⟩

theorem stmt_one (k:Int) (nm:ByteArray) (at_:Int) (A:Option Addr) (l c:Nat) (B:Option Addr) (m d:Nat) (D:Option Addr) (u e:Nat) (E:Option Addr) (v f:Nat) (r1 r2 r3 r4:Bool) (w:World) (he:SpEnv w) (hs:nm.size≤9223372036854775807)
  (hl:l≤9223372036854775807) (hm:m≤9223372036854775807) (hu:u≤9223372036854775807) (hv:v≤9223372036854775807)
  (h1:AllC 168 169 w A l c r1) (h2:AllC 170 171 w B m d r2) (h3:AllC 93 94 w D u e r3) (h4:AllC 93 94 w E v f r4):
  Calls Tryz.prog 94 #[.agg #[.int .u8 k,.string nm,.slice A l c,.slice B m d,.slice D u e,.slice E v f,.int .i64 at_]] w (EqPost (decide (1≤k)&&decide (k≤9)&&nmdB (tabA stShp k).2.2.2 nm&&(decide ((tabA stShp k).1 < 0) || (l:Int)==(tabA stShp k).1)&&((m:Int)==(tabA stShp k).2.2.1)&&(k==7 || k==8 || u==0)&&(k==7 || v==0)&&r1&&r2&&r3&&r4) w):=by
 by_cases k1:1≤k
 rotate_left
 ·have hF:(decide (1≤k)&&decide (k≤9)&&nmdB (tabA stShp k).2.2.2 nm&&(decide ((tabA stShp k).1 < 0) || (l:Int)==(tabA stShp k).1)&&((m:Int)==(tabA stShp k).2.2.1)&&(k==7 || k==8 || u==0)&&(k==7 || v==0)&&r1&&r2&&r3&&r4)=false:=by simp[k1]
  rw[hF]
  have e1:decide (k < 1)=true:=by simp;omega
  clear hF k1 h1 h2 h3 h4 he hs
  go_enter Tryz.func94,Tryz.ntmps94
  go_wp2_with fail
  go_ret
  exact⟨rfl,(Fr.refl _ _).alloc _⟩
 by_cases k2:k≤9
 rotate_left
 ·have hF:(decide (1≤k)&&decide (k≤9)&&nmdB (tabA stShp k).2.2.2 nm&&(decide ((tabA stShp k).1 < 0) || (l:Int)==(tabA stShp k).1)&&((m:Int)==(tabA stShp k).2.2.1)&&(k==7 || k==8 || u==0)&&(k==7 || v==0)&&r1&&r2&&r3&&r4)=false:=by simp[k2]
  rw[hF]
  have e1:decide (k < 1)=false:=by simp;omega
  have e2:decide (9 < k)=true:=by simp;omega
  clear hF k1 k2 h1 h2 h3 h4 he hs
  go_enter Tryz.func94,Tryz.ntmps94
  go_wp2_with fail
  go_ret
  exact⟨rfl,(Fr.refl _ _).alloc _⟩
 obtain⟨a,o,c2,b,hsh,hidx⟩:=stmts_at k k1 k2
 have hta:tabA stShp k=(a,o,c2,b):=by unfold tabA;rw[hsh];rfl
 have x1:decide (1≤k)=true:=by simpa using k1
 have x2:decide (k≤9)=true:=by simpa using k2
 rw[hta,x1,x2]
 simp only[Bool.true_and]
 by_cases hk7:k=7
 ·have hn:decide (a < 0)=false:=by
   subst hk7
   have:stShp[(7:Int).toNat]?=some (0,0,1,false):=rfl
   rw[this]at hsh
   simp only[Option.some.injEq,Prod.mk.injEq]at hsh
   rw[←hsh.1];rfl
  have:=stmt_one_1 k nm at_ A l c B m d D u e E v f r1 r2 r3 r4 w he hs hl hm hu hv h1 h2 h3 h4 k1 k2 hk7 a o c2 b hidx hn
  have y7:(k==7)=true:=by simpa using hk7
  rw[hn,y7]
  simpa only[Bool.false_or,Bool.true_or,Bool.and_true]using this
 have y7:(k==7)=false:=by simpa using hk7
 by_cases hk8:k=8
 ·have hn:decide (a < 0)=false:=by
   subst hk8
   have:stShp[(8:Int).toNat]?=some (0,0,1,false):=rfl
   rw[this]at hsh
   simp only[Option.some.injEq,Prod.mk.injEq]at hsh
   rw[←hsh.1];rfl
  have:=stmt_one_2 k nm at_ A l c B m d D u e E v f r1 r2 r3 r4 w he hs hl hm hu hv h1 h2 h3 h4 k1 k2 hk8 a o c2 b hidx hn
  have y8:(k==8)=true:=by simpa using hk8
  rw[hn,y7,y8]
  simpa only[Bool.false_or,Bool.true_or,Bool.and_true]using this
 have y8:(k==8)=false:=by simpa using hk8
 rw[y7,y8]
 cases hn:decide (a < 0)
 ·have:=stmt_one_3 k nm at_ A l c B m d D u e E v f r1 r2 r3 r4 w he hs hl hm hu hv h1 h2 h3 h4 k1 k2 hk7 hk8 a o c2 b hidx hn
  simpa only[Bool.false_or,Bool.true_or,Bool.and_true]using this
 ·have:=stmt_one_4 k nm at_ A l c B m d D u e E v f r1 r2 r3 r4 w he hs hl hm hu hv h1 h2 h3 h4 k1 k2 hk7 hk8 a o c2 b hidx hn
  simpa only[Bool.false_or,Bool.true_or,Bool.and_true]using this
theorem stmt_asks:∀(xs:Sts) (w:World) (S:Nat→Prop) (Z:Prop),SpEnv w→(∀b,S b→b < w.heap.size)→szS xs→AskSt 94 #[] w S Z okT xs
 | .nil,_,_,_,_,_,_=>fun i _ _ _ _ _ _ _ _ hd=>by cases i<;>simp[Sts.drop]at hd
 | .cons k nm args cond body els at_ rest,w,S,Z,he,hS,hsz=>fun i _ _ _ _ _ _ _ _ hd r1 W A2 q2 A3 q3 A4 q4 A5 q5 hw s2 s3 s4 s5=>by
  cases i with
  |zero=>
   simp only[Sts.drop]at hd
   injection hd with e1 e2 e3 e4 e5 e6 e7 e8
   subst e1 e2 e3 e4 e5 e6 e7 e8
   rw[Array.append_empty]
   have hS2:∀W2,Fr NoT W W2→∀b,S b→b < W2.heap.size:=fun W2 h2 b hb=>ltq (hS b hb) (hw.trans h2).size
   have hS3:∀b,S b→b < W.heap.size:=fun b hb=>ltq (hS b hb) hw.size
   refine stmt_one k nm at_ A2 args.len q2 A3 cond.len q3 A4 body.len q4 A5 els.len q5 (okX args) (okC cond) (okS body) (okS els) W (he.keep hw.plain) hsz.1 (leq9 s2.1 s2.2.1.1) (leq9 s3.1 s3.2.1.1) (leq9 s4.1 s4.2.1.1) (leq9 s5.1 s5.2.1.1) (fun W2 h2=>?_) (fun W2 h2=>?_) (fun W2 h2=>?_) (fun W2 h2=>?_)
   ·exact exprs_any args A2 q2 W2 S Z (he.keep (hw.trans h2).plain) (hS2 W2 h2) hsz.2.1 (s2.imp fun _ _ hx=>ExR.keep (h2.same fun b hb=>⟨hS3 b hb,id⟩) hx)
   ·exact conds_any cond A3 q3 W2 S Z (he.keep (hw.trans h2).plain) (hS2 W2 h2) hsz.2.2.1 (s3.imp fun _ _ hx=>CdR.keep (h2.same fun b hb=>⟨hS3 b hb,id⟩) hx)
   ·have:=allSt_any okT body A4 q4 94 #[] W2 S Z (hS2 W2 h2) (s4.imp fun _ _ hx=>StR.keep (h2.same fun b hb=>⟨hS3 b hb,id⟩) hx) (enters_of Tryz.func94 (by kernel_rfl) rfl) (stmt_asks body W2 S Z (he.keep (hw.trans h2).plain) (hS2 W2 h2) hsz.2.2.2.1)
    rw[okS_all]at this
    exact this
   ·have:=allSt_any okT els A5 q5 94 #[] W2 S Z (hS2 W2 h2) (s5.imp fun _ _ hx=>StR.keep (h2.same fun b hb=>⟨hS3 b hb,id⟩) hx) (enters_of Tryz.func94 (by kernel_rfl) rfl) (stmt_asks els W2 S Z (he.keep (hw.trans h2).plain) (hS2 W2 h2) hsz.2.2.2.2.1)
    rw[okS_all]at this
    exact this
  |succ i=>
   simp only[Sts.drop]at hd
   exact stmt_asks rest w S Z he hS hsz.2.2.2.2.2 i _ _ _ _ _ _ _ _ hd r1 W A2 q2 A3 q3 A4 q4 A5 q5 hw s2 s3 s4 s5
theorem pstmts_any (xs:Sts) (A:Option Addr) (c:Nat) (w:World) (S:Nat→Prop) (Z:Prop) (he:SpEnv w) (hS:∀b,S b→b < w.heap.size) (hsz:szS xs) (hx:SlR (fun b o=>StR w S Z xs b o) xs.len 128 A c):
  Calls Tryz.prog 93 #[.slice A xs.len c,.func (.func 94) #[] #[]] w (EqPost (okS xs) w):=by
 have:=allSt_any okT xs A c 94 #[] w S Z hS hx (enters_of Tryz.func94 (by kernel_rfl) rfl) (stmt_asks xs w S Z he hS hsz)
 rw[okS_all]at this
 exact this

def okVs (xs:List Va):Bool:=allVa (fun nm _=>nameB nm.data.toList) xs
def okAs (xs:List Arr):Bool:=allAr (fun nm size _=>nameB nm.data.toList&&decide (0≤size)) xs
def okPs (xs:List Prc):Bool:=allPr (fun nm ps body _=>nameB nm.data.toList&&okVs ps&&okS body) xs
def okTr (t:Tre):Bool:=okVs t.vars&&okS t.main&&okAs t.arrays&&okPs t.procs
structure SzT (t:Tre):Prop where
 vars:∀x∈t.vars,x.nm.size≤9223372036854775807
 arrays:∀x∈t.arrays,x.nm.size≤9223372036854775807
 procs:∀x∈t.procs,x.nm.size≤9223372036854775807∧(∀y∈x.params,y.nm.size≤9223372036854775807)∧szS x.body
 main:szS t.main
theorem mem_drop1 {α:Type} {l:List α} {i:Nat} {x:α} {r:List α} (h:l.drop i=x::r):x∈l:=List.mem_of_mem_drop (i:=i) (by rw[h];simp)
theorem nmV_asks (xs:List Va) (w:World) (S:Nat→Prop) (Z:Prop) (he:SpEnv w) (hsz:∀x∈xs,x.nm.size≤9223372036854775807):AskVa 90 #[] w S Z (fun nm _=>nameB nm.data.toList) xs:=by
 intro i a0 a1 ar hd W hw
 rw[Array.append_empty]
 have hx:a0.size≤9223372036854775807:=hsz _ (mem_drop1 hd)
 have hf1:Fr NoT W (W.alloc (.cells #[.string a0,.int .i64 a1] 77)):=(Fr.refl _ _).alloc _
 have HN:=hdq (name_sp a0 hx _ (he.keep (hw.trans hf1).plain))
 have HF:=hdq hf1
 clear hd hw hf1 he hsz hx
 go_enter Tryz.func90,Tryz.ntmps90
 go_wp2_with fail
 refine HN.out.mono ?_
 rintro _ w2 ⟨rfl,hb⟩
 have HF2:=hdq (HF.out.trans (Fr.below hb))
 clear hb
 go_wp2_with fail
 go_ret
 exact⟨rfl,HF2.out⟩
theorem vars_any (xs:List Va) (A:Option Addr) (c:Nat) (w:World) (S:Nat→Prop) (Z:Prop) (he:SpEnv w) (hS:∀b,S b→b < w.heap.size) (hsz:∀x∈xs,x.nm.size≤9223372036854775807) (hx:SlR (fun b o=>VaR w S Z xs b o) xs.length 24 A c):
  Calls Tryz.prog 92 #[.slice A xs.length c,.func (.func 90) #[] #[]] w (EqPost (okVs xs) w):=
 allVa_any _ xs A c 90 #[] w S Z hS hx (enters_of Tryz.func90 (by kernel_rfl) rfl) (nmV_asks xs w S Z he hsz)
theorem nmA_asks (xs:List Arr) (w:World) (S:Nat→Prop) (Z:Prop) (he:SpEnv w) (hsz:∀x∈xs,x.nm.size≤9223372036854775807):AskAr 96 #[] w S Z (fun nm size _=>nameB nm.data.toList&&decide (0≤size)) xs:=by
 intro i a0 a1 a2 ar hd W hw
 rw[Array.append_empty]
 have hx:a0.size≤9223372036854775807:=hsz _ (mem_drop1 hd)
 have hb1:=Bk.new W 61 #[.string a0,.int .i64 a1,.int .i64 a2]
 have hf1:Fr NoT W (W.alloc (.cells #[.string a0,.int .i64 a1,.int .i64 a2] 61)):=(Fr.refl _ _).alloc _
 have hn:=name_sp a0 hx _ (he.keep (hw.trans hf1).plain)
 obtain⟨r,hr⟩:=nmq (nameB a0.data.toList)
 show Calls _ _ _ _ (EqPost (nameB a0.data.toList&&decide (0≤a1)) W)
 rw[←hr]at hn ⊢
 have HN:=hdq hn
 have HF:=hdq hf1
 have HB:=hdq hb1
 obtain⟨q,hq⟩:=nmq (decide (0≤a1))
 rw[←hq]
 have e1:=hq.symm
 clear hd hw hf1 he hsz hx hr hn hb1 hq
 cases r
 all_goals cases q
 all_goals
  go_enter Tryz.func96,Tryz.ntmps96
  go_wp2_with fail
  refine HN.out.mono ?_
  rintro _ w2 ⟨rfl,hb⟩
  have hb2:=HB.out.fr0 (Fr.below hb)
  have c1:=hb2.cell 1
  have hl:=hb2.lt
  simp only[getsL]at c1
  have HF2:=hdq (HF.out.trans (Fr.below hb))
  clear hb hb2
  go_wp2_with fail
  go_ret
  exact⟨rfl,HF2.out⟩
theorem arrays_any (xs:List Arr) (A:Option Addr) (c:Nat) (w:World) (S:Nat→Prop) (Z:Prop) (he:SpEnv w) (hS:∀b,S b→b < w.heap.size) (hsz:∀x∈xs,x.nm.size≤9223372036854775807) (hx:SlR (fun b o=>ArR w S Z xs b o) xs.length 32 A c):
  Calls Tryz.prog 95 #[.slice A xs.length c,.func (.func 96) #[] #[]] w (EqPost (okAs xs) w):=
 allAr_any _ xs A c 96 #[] w S Z hS hx (enters_of Tryz.func96 (by kernel_rfl) rfl) (nmA_asks xs w S Z he hsz)
theorem prc_asks (xs:List Prc) (w:World) (S:Nat→Prop) (Z:Prop) (B:Nat) (hbk:Bk w B 209 #[.func (.func 90) #[] #[]]) (he:SpEnv w) (hS:∀b,S b→b < w.heap.size)
  (hsz:∀x∈xs,x.nm.size≤9223372036854775807∧(∀y∈x.params,y.nm.size≤9223372036854775807)∧szS x.body):AskPr 98 #[.pointer (some ⟨B,0,none⟩)] w S Z (fun nm ps body _=>nameB nm.data.toList&&okVs ps&&okS body) xs:=by
 intro i a0 a1 a2 a3 ar hd W A1 q1 A2 q2 hw s1 s2
 have hx:=hsz _ (mem_drop1 hd)
 have hb1:=Bk.new W 63 #[.string a0,.slice A1 a1.length q1,.slice A2 a2.len q2,.int .i64 a3]
 have hf1:Fr NoT W (W.alloc (.cells #[.string a0,.slice A1 a1.length q1,.slice A2 a2.len q2,.int .i64 a3] 63)):=(Fr.refl _ _).alloc _
 have hn:=name_sp a0 hx.1 _ (he.keep (hw.trans hf1).plain)
 have hSW:∀b,S b→b < W.heap.size:=fun b hb=>ltq (hS b hb) hw.size
 have hv:∀W2,Fr NoT W W2→Calls Tryz.prog 92 #[.slice A1 a1.length q1,.func (.func 90) #[] #[]] W2 (EqPost (okVs a1) W2):=fun W2 h2=>vars_any a1 A1 q1 W2 S Z (he.keep (hw.trans h2).plain) (fun b hb=>ltq (hSW b hb) h2.size) hx.2.1 (s1.imp fun _ _ hx=>VaR.keep (h2.same fun b hb=>⟨hSW b hb,id⟩) hx)
 have hs:∀W2,Fr NoT W W2→Calls Tryz.prog 93 #[.slice A2 a2.len q2,.func (.func 94) #[] #[]] W2 (EqPost (okS a2) W2):=fun W2 h2=>pstmts_any a2 A2 q2 W2 S Z (he.keep (hw.trans h2).plain) (fun b hb=>ltq (hSW b hb) h2.size) hx.2.2 (s2.imp fun _ _ hx=>StR.keep (h2.same fun b hb=>⟨hSW b hb,id⟩) hx)
 obtain⟨r,hr⟩:=nmq (nameB a0.data.toList)
 obtain⟨q,hq⟩:=nmq (okVs a1)
 obtain⟨t,ht⟩:=nmq (okS a2)
 rw[←hr]at hn
 rw[←hq]at hv
 rw[←ht]at hs
 have HR:=hdq (show(nameB a0.data.toList&&okVs a1&&okS a2)=(r&&q&&t)from by rw[hr,hq,ht])
 have HN:=hdq hn
 have HV:=hdq hv
 have HS:=hdq hs
 have HF:=hdq hf1
 have HB:=hdq hb1
 have HK:=hdq (hbk.fr0 hw)
 clear hd hw hf1 he hsz hx hr hn hb1 hq ht hv hs s1 s2 hS hSW hbk
 go_enter Tryz.func98,Tryz.ntmps98
 go_wp2_with fail
 refine HN.out.mono ?_
 rintro _ w2 ⟨rfl,hb⟩
 have hb2:=HB.out.fr0 (Fr.below hb)
 have c1:=hb2.cell 1
 have hl:=hb2.lt
 have hk2:=(HK.out.fr0 HF.out).fr0 (Fr.below hb)
 have d0:=hk2.cell 0
 have hl2:=hk2.lt
 simp only[getsL]at c1 d0
 have HF2:=hdq (HF.out.trans (Fr.below hb))
 have HB2:=hdq hb2
 clear hb hb2 hk2
 cases r
 ·go_wp2_with fail
  go_ret
  exact⟨by rw[HR.out];rfl,HF2.out⟩
 go_wp2_with fail
 refine(HV.out _ HF2.out).mono ?_
 rintro _ w3 ⟨rfl,hb⟩
 have hb3:=HB2.out.fr0 hb
 have c2:=hb3.cell 2
 have hl3:=hb3.lt
 simp only[getsL]at c2
 have HF3:=hdq (HF2.out.trans hb)
 clear hb hb3 c1 d0
 cases q
 ·go_wp2_with fail
  go_ret
  exact⟨by rw[HR.out];rfl,HF3.out⟩
 go_wp2_with fail
 refine(HS.out _ HF3.out).mono ?_
 rintro _ w4 ⟨rfl,hb⟩
 have HF4:=hdq (HF3.out.trans hb)
 clear hb
 go_wp2_with fail
 go_ret
 exact⟨by rw[HR.out];simp,HF4.out⟩
def ErrI (n:Int) (W:World) (e:Ending) (w':World):Prop:=e= .returned (.int .i64 n)∧Fr NoT W w'
theorem pcheck_of (t:Tre) (w:World) (S:Nat→Prop) (Z:Prop) (Av Aa Ap Am:Option Addr) (cv ca cp cm:Nat) (he:SpEnv w) (hS:∀b,S b→b < w.heap.size) (hsz:SzT t) (hx:TrR w S Z t Av Aa Ap Am cv ca cp cm)
  (h2:∀W,Fr NoT w W→Calls Tryz.prog 93 #[.slice Am t.main.len cm,.func (.func 94) #[] #[]] W (EqPost (okS t.main) W))
  (h3:∀W,Fr NoT w W→Calls Tryz.prog 95 #[.slice Aa t.arrays.length ca,.func (.func 96) #[] #[]] W (EqPost (okAs t.arrays) W))
  (h4:∀W,Fr NoT w W→Bk W (w.heap.size+1) 209 #[.func (.func 90) #[] #[]]→Calls Tryz.prog 97 #[.slice Ap t.procs.length cp,.func (.func 98) #[] #[.pointer (some ⟨w.heap.size+1,0,none⟩)]] W (EqPost (okPs t.procs) W)):
  Calls Tryz.prog 47 #[trV t Av Aa Ap Am cv ca cp cm] w (ErrI (if okTr t then 0 else 8) w):=by
 have hmf:= @makeF Tryz.prog
 obtain⟨w1,hw1⟩:=nmq ((w.alloc (.cells #[.slice Av t.vars.length cv,.slice Aa t.arrays.length ca,.slice Ap t.procs.length cp,.slice Am t.main.len cm] 27)).alloc (.cells #[.func (.func 90) #[] #[]] 209))
 have hf1:Fr NoT w w1:=by rw[hw1];exact((Fr.refl _ _).alloc _).alloc _
 have hb1:Bk w1 w.heap.size 27 #[.slice Av t.vars.length cv,.slice Aa t.arrays.length ca,.slice Ap t.procs.length cp,.slice Am t.main.len cm]:=by rw[hw1];exact(Bk.new _ _ _).alloc _
 have hk1:Bk w1 (w.heap.size+1) 209 #[.func (.func 90) #[] #[]]:=by rw[hw1];exact Bk.new_at _ _ _ (by simp)
 have keep:∀W,Fr NoT w W→TrR W S Z t Av Aa Ap Am cv ca cp cm:=fun W h=>hx.keep (h.same fun b hb=>⟨hS b hb,id⟩)
 have hSW:∀W,Fr NoT w W→∀b,S b→b < W.heap.size:=fun W h b hb=>ltq (hS b hb) h.size
 have H1:=hdq (fun W (h:Fr NoT w W)=>vars_any t.vars Av cv W S Z (he.keep h.plain) (hSW W h) hsz.vars (keep W h).vars)
 have H2:=hdq h2
 have H3:=hdq h3
 have H4:=hdq h4
 clear h2 h3 h4
 obtain⟨r1,h1⟩:=nmq (okVs t.vars)
 obtain⟨r2,h2⟩:=nmq (okS t.main)
 obtain⟨r3,h3⟩:=nmq (okAs t.arrays)
 obtain⟨r4,h4⟩:=nmq (okPs t.procs)
 have hR:okTr t=(r1&&r2&&r3&&r4):=by unfold okTr;rw[h1,h2,h3,h4]
 rw[hR]
 obtain⟨n,hn⟩:∃n:Int,n=(if(r1&&r2&&r3&&r4)=true then 0 else 8):=⟨_,rfl⟩
 rw[←hn]
 have HN:=hdq hn
 rw[←h1]at H1
 rw[←h2]at H2
 rw[←h3]at H3
 rw[←h4]at H4
 have HW1:=hdq hw1
 have HF1:=hdq hf1
 have HB1:=hdq hb1
 have HK1:=hdq hk1
 unfold trV
 clear hw1 hf1 hb1 hk1 keep hSW h1 h2 h3 h4 hR hx he hS hsz hn
 go_enter Tryz.func47,Tryz.ntmps47
 go_wp2_with fail
 rw[←HW1.out]
 refine(H1.out _ HF1.out).mono ?_
 rintro _ w2 ⟨rfl,hb⟩
 have hb2:=HB1.out.fr0 hb
 obtain⟨x0,x1,x2,x3,hl2⟩:=bk4 hb2
 have HF2:=hdq (HF1.out.trans hb)
 have HB2:=hdq hb2
 have HK2:=hdq (HK1.out.fr0 hb)
 clear hb hb2
 cases r1
 ·go_wp2_with fail
  go_ret
  exact⟨by rw[HN.out];rfl,HF2.out⟩
 go_wp2_with fail
 refine(H2.out _ HF2.out).mono ?_
 rintro _ w3 ⟨rfl,hb⟩
 have hb3:=HB2.out.fr0 hb
 clear x0 x1 x2 x3 hl2
 obtain⟨x0,x1,x2,x3,hl2⟩:=bk4 hb3
 have HF3:=hdq (HF2.out.trans hb)
 have HB3:=hdq hb3
 have HK3:=hdq (HK2.out.fr0 hb)
 clear hb hb3
 cases r2
 ·go_wp2_with fail
  go_ret
  exact⟨by rw[HN.out];rfl,HF3.out⟩
 go_wp2_with fail
 refine(H3.out _ HF3.out).mono ?_
 rintro _ w4 ⟨rfl,hb⟩
 have hb4:=HB3.out.fr0 hb
 clear x0 x1 x2 x3 hl2
 obtain⟨x0,x1,x2,x3,hl2⟩:=bk4 hb4
 have HF4:=hdq (HF3.out.trans hb)
 have HK4:=hdq (HK3.out.fr0 hb)
 clear hb hb4
 cases r3
 ·go_wp2_with fail
  go_ret
  exact⟨by rw[HN.out];rfl,HF4.out⟩
 go_wp2_with fail
 refine(H4.out _ HF4.out HK4.out).mono ?_
 rintro _ w5 ⟨rfl,hb⟩
 have HF5:=hdq (HF4.out.trans hb)
 clear hb x0 x1 x2 x3
 cases r4
 all_goals
  go_wp2_with fail
  go_ret
  exact⟨by rw[HN.out];rfl,HF5.out⟩
theorem pcheck_any (t:Tre) (w:World) (S:Nat→Prop) (Z:Prop) (Av Aa Ap Am:Option Addr) (cv ca cp cm:Nat) (he:SpEnv w) (hS:∀b,S b→b < w.heap.size) (hsz:SzT t) (hx:TrR w S Z t Av Aa Ap Am cv ca cp cm):
  Calls Tryz.prog 47 #[trV t Av Aa Ap Am cv ca cp cm] w (ErrI (if okTr t then 0 else 8) w):=
 have keep:∀W,Fr NoT w W→TrR W S Z t Av Aa Ap Am cv ca cp cm:=fun W h=>hx.keep (h.same fun b hb=>⟨hS b hb,id⟩)
 have hSW:∀W,Fr NoT w W→∀b,S b→b < W.heap.size:=fun W h b hb=>ltq (hS b hb) h.size
 pcheck_of t w S Z Av Aa Ap Am cv ca cp cm he hS hsz hx
  (fun W h=>pstmts_any t.main Am cm W S Z (he.keep h.plain) (hSW W h) hsz.main (keep W h).main)
  (fun W h=>arrays_any t.arrays Aa ca W S Z (he.keep h.plain) (hSW W h) hsz.arrays (keep W h).arrays)
  fun W h hb=>allPr_any _ t.procs Ap cp 98 #[.pointer (some ⟨w.heap.size+1,0,none⟩)] W S Z (hSW W h) (keep W h).procs (enters_of Tryz.func98 (by kernel_rfl) rfl) (prc_asks t.procs W S Z (w.heap.size+1) hb (he.keep h.plain) (hSW W h) hsz.procs)
end Go.Proofs.YtfomomaomggpbaaGreatDoor
