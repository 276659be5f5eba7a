/- print. -/
import Derived.Test.YtfomomaomggpbaaGreatDoorJgCkB
set_option linter.all false
set_option maxHeartbeats 3200000
set_option maxRecDepth 100000
namespace Go.Proofs.YtfomomaomggpbaaGreatDoor
open Go.RowKit Go.Shelf
theorem zjg (k:Int)(nm:ByteArray)(at_:Int)(A:Option Addr)(l c:Nat)(B:Option Addr)(m d:Nat)(D:Option Addr)(u e:Nat)(E:Option Addr)(v f:Nat)(r1 r2 r3 r4:Bool)(w:World)(he:SpEnv w)(hs:nm.size<=9223372036854775807)
  (hl:l<=9223372036854775807) (hm:m<=9223372036854775807) (hu:u<=9223372036854775807) (hv:v<=9223372036854775807)
  (h1:AllC 168 169 w A l c r1) (h2:AllC 170 171 w B m d r2) (h3:AllC 93 94 w D u e r3) (h4:AllC 93 94 w E v f r4)
  (k1:1<=k) (k2:k<=9) (KO:k=7) (a o c2:Int) (b:Bool) (FD:∀w,(Instr.index 271 (tabV zaK) (.int .u8 k)).run Tryz.prog w= .ok (.agg #[.int .i64 a,.int .i64 o,.int .i64 c2,.bool b]) w) (FV:decide (a < 0)=false):
  Calls Tryz.prog 94 #[.agg #[.int .u8 k,.string nm,.slice A l c,.slice B m d,.slice D u e,.slice E v f,.int .i64 at_]] w (zar (nmdB b nm&&((l:Int)==a)&&((m:Int)==c2)&&r1&&r2&&r3&&r4) w):=by
 subst KO;obtain⟨R,hR⟩:=aF ((nmdB b nm&&((l:Int)==a)&&((m:Int)==c2)&&r1&&r2&&r3&&r4));rw[<-hR];have H1:=aA h1;have H2:=aA h2;have H3:=aA h3;have H4:=aA h4;have Ma:=aA (λ(W:World)(h:Fr NoT w W)=>zbt b nm hs W (he.keep h.plain));obtain⟨q,hq⟩:=aF (nmdB b nm);rw[<-hq]at Ma hR;have Fh:=aA hR;have e1:decide ((7:Int) < 1)=false:=by decide
 have e2:decide (9 < (7:Int))=false:=by decide
 have Gw:=aA (Bk.new w 51 #[.int .u8 7,.string nm,.slice A l c,.slice B m d,.slice D u e,.slice E v f,.int .i64 at_]);obtain⟨w1,Hc⟩:=aF (w.alloc (.cells #[.int .u8 7,.string nm,.slice A l c,.slice B m d,.slice D u e,.slice E v f,.int .i64 at_] 51));rw[<-Hc]at Gw;have Hl:=aA (show Fr NoT w w1 from by rw[Hc];exact aH.alloc _);have Ge:=aA Hc;clear h1 h2 h3 h4 hq hR Hc k1 k2 he hs;go_enter Tryz.func94,Tryz.ntmps94
 go_upto_region 3 with fail
 rw[<-Ge.out];have xu:=Gw.cell 0;have Fw:=Gw.lt;simp only[aD]at xu;go_cut [3] (λs3 wx=>∃P:Nat,s3= .pointer (some ⟨P,0,none⟩)/\Fr NoT w1 wx/\P < wx.heap.size/\wx.cell? ⟨P,0,none⟩=some (.int .i64 a)/\wx.cell? ⟨P,1,none⟩=some (.int .i64 o)/\wx.cell? ⟨P,2,none⟩=some (.int .i64 c2)/\wx.cell? ⟨P,3,none⟩=some (.bool b));case first=>
  go_region_law
   (first
    |(go_simp
      go_at_call 166
      with_reducible refine(zbc (w1.alloc (.cells #[.int .i64 0,.int .i64 0,.int .i64 0,.bool false] 270)).drew).mono ?_
      rintro _ w5 ⟨rfl,hb⟩;have Hm:Fr NoT w1 w5:=(Fr.drew (aH.alloc _)).trans (Fr.below hb);have Hz:=((Bk.new w1 270 #[.int .i64 0,.int .i64 0,.int .i64 0,.bool false]).fr0 (Fr.drew aI)).fr0 (Fr.below hb);have xr:=(Gw.fr0 Hm).cell 0;have z0:=Hz.cell 0;have z1:=Hz.cell 1;have z2:=Hz.cell 2;have z3:=Hz.cell 3;have y0:=Hz.frozen 0;have y1:=Hz.frozen 1;have y2:=Hz.frozen 2;have y3:=Hz.frozen 3;have Jr:=(Gw.fr0 Hm).lt;have Jb:=Hz.lt;simp only[aD]at xr z0 z1 z2 z3;have Gk:=aA Hm;have JF:=aA Hz;clear hb Hm Hz;dsimp only)
    |(go_simp
      go_at_call 166
      with_reducible refine(zbc w1.drew).mono ?_
      rintro _ w5 ⟨rfl,hb⟩;have Hm:Fr NoT w1 w5:=(Fr.drew aH).trans (Fr.below hb);have xr:=(Gw.fr0 Hm).cell 0;simp only[aD]at xr;have Jr:=(Gw.fr0 Hm).lt;have Gk:=aA Hm;clear hb Hm;dsimp only))
  all_goals
   go_wp2_with fail
   go_meet
   first
    |(refine⟨_,rfl,Gk.alloc _,by simp,?_⟩
      simp)
    |(refine⟨_,rfl,(((Gk.high (aL _) 0 _).high (aL _) 1 _).high (aL _) 2 _).high (aL _) 3 _,by simpa using Jb,?_⟩
      have h:=(((JF.set_ 0 (.int .i64 a)).set_ 1 (.int .i64 o)).set_ 2 (.int .i64 c2)).set_ 3 (.bool b);exact⟨h.cell 0,h.cell 1,h.cell 2,h.cell 3⟩)
 case rest=>
  obtain⟨P,rfl,Jw,hP,p0,p1,p2,p3⟩:=hcut;have hbx:=Gw.fr0 Jw;have b0:=hbx.cell 0;have b1:=hbx.cell 1;have Wz:=hbx.lt;simp only[aD]at b0 b1;have Mp:=aA (Hl.trans Jw);have JV:=aA hbx;clear Jw hbx xu FD;go_wp2_with fail
  go_quiet (fail)
  go_wp2_with fail;refine(Ma _ (Mp.drewN _)).mono ?_;rintro _ w6 ⟨rfl,hb⟩;have GO:=(show Fr NoT _ _ from aI.drewN _).trans hb;have Hy:=JV.fr0 GO;have b2:=Hy.cell 2;have b3:=Hy.cell 3;have b4:=Hy.cell 4;have b5:=Hy.cell 5;have Jb:=Hy.lt;have xH:=(GO.cell (p:=⟨P,0,none⟩) hP id).trans p0;have xN:=(GO.cell (p:=⟨P,2,none⟩) hP id).trans p2;have Ye:=aM hP GO.size;simp only[aD]at b2 b3 b4 b5;have G1:=aA (Mp.trans GO);have RW:=aA Hy;clear hb GO Hy b0 b1 p0 p1 p2 p3;cases q
  ·have HF:=aA (show R=false from by rw[Fh.out];simp);go_wp2_with fail;go_ret;exact⟨by rw[HF.out];rfl,G1.out⟩
  cases h7:(l:Int)==a
  ·have HF:=aA (show R=false from by rw[Fh.out,h7];simp);go_wp2_with fail;go_ret;exact⟨by rw[HF.out];rfl,G1.out⟩
  cases h8:(m:Int)==c2
  ·have HF:=aA (show R=false from by rw[Fh.out,h7,h8];simp);go_wp2_with fail;go_ret;exact⟨by rw[HF.out];rfl,G1.out⟩
  have NI:=Fh.out;simp only[h7,h8,Bool.true_and]at NI;have GF:=aA NI;clear NI Fh;go_wp2_with fail;refine(H1 _ G1.out).mono ?_;rintro _ y1 ⟨rfl,hb⟩;have Lu:=aA (G1.trans hb);have Hy:=RW.fr0 hb;have NJ:=aA Hy;have Ub:=Hy.lt;have b3_1:=Hy.cell 3;have b4_1:=Hy.cell 4;have b5_1:=Hy.cell 5;simp only[aD]at b3_1 b4_1 b5_1;clear hb Hy b2 b3 b4 b5 xH xN;cases r1
  ·have HF:=aA (show R=false from by rw[GF.out];simp);go_wp2_with fail;go_ret;exact⟨by rw[HF.out];rfl,Lu.out⟩
  go_wp2_with fail;refine(H2 _ Lu.out).mono ?_;rintro _ y2 ⟨rfl,hb⟩;have L2:=aA (Lu.trans hb);have Hy:=NJ.fr0 hb;have NK:=aA Hy;have Uc:=Hy.lt;have b4_2:=Hy.cell 4;have b5_2:=Hy.cell 5;simp only[aD]at b4_2 b5_2;clear hb Hy b3_1 b4_1 b5_1;cases r2
  ·have HF:=aA (show R=false from by rw[GF.out];simp);go_wp2_with fail;go_ret;exact⟨by rw[HF.out];rfl,L2.out⟩
  go_wp2_with fail;refine(H3 _ L2.out).mono ?_;rintro _ y3 ⟨rfl,hb⟩;have NL:=aA (L2.trans hb);have Hy:=NK.fr0 hb;have NM:=aA Hy;have Ud:=Hy.lt;have b5_3:=Hy.cell 5;simp only[aD]at b5_3;clear hb Hy b4_2 b5_2;cases r3
  ·have HF:=aA (show R=false from by rw[GF.out];simp);go_wp2_with fail;go_ret;exact⟨by rw[HF.out];rfl,NL.out⟩
  go_wp2_with fail;refine(H4 _ NL.out).mono ?_;rintro _ y4 ⟨rfl,hb⟩;have QU:=aA (NL.trans hb);have Hy:=NM.fr0 hb;have Ue:=aA Hy;have Uf:=Hy.lt;clear hb Hy b5_3;cases r4
  ·have HF:=aA (show R=false from by rw[GF.out];simp);go_wp2_with fail;go_ret;exact⟨by rw[HF.out];rfl,QU.out⟩
  have HF:=aA (show R=true from by rw[GF.out];rfl);go_wp2_with fail;go_ret;exact⟨by rw[HF.out];rfl,QU.out⟩
theorem zjh (k:Int)(nm:ByteArray)(at_:Int)(A:Option Addr)(l c:Nat)(B:Option Addr)(m d:Nat)(D:Option Addr)(u e:Nat)(E:Option Addr)(v f:Nat)(r1 r2 r3 r4:Bool)(w:World)(he:SpEnv w)(hs:nm.size<=9223372036854775807)
  (hl:l<=9223372036854775807) (hm:m<=9223372036854775807) (hu:u<=9223372036854775807) (hv:v<=9223372036854775807)
  (h1:AllC 168 169 w A l c r1) (h2:AllC 170 171 w B m d r2) (h3:AllC 93 94 w D u e r3) (h4:AllC 93 94 w E v f r4)
  (k1:1<=k) (k2:k<=9) (Kt:k=8) (a o c2:Int) (b:Bool) (FD:∀w,(Instr.index 271 (tabV zaK) (.int .u8 k)).run Tryz.prog w= .ok (.agg #[.int .i64 a,.int .i64 o,.int .i64 c2,.bool b]) w) (FV:decide (a < 0)=false):
  Calls Tryz.prog 94 #[.agg #[.int .u8 k,.string nm,.slice A l c,.slice B m d,.slice D u e,.slice E v f,.int .i64 at_]] w (zar (nmdB b nm&&((l:Int)==a)&&((m:Int)==c2)&&(v==0)&&r1&&r2&&r3&&r4) w):=by
 subst Kt;obtain⟨R,hR⟩:=aF ((nmdB b nm&&((l:Int)==a)&&((m:Int)==c2)&&(v==0)&&r1&&r2&&r3&&r4));rw[<-hR];have H1:=aA h1;have H2:=aA h2;have H3:=aA h3;have H4:=aA h4;have Ma:=aA (λ(W:World)(h:Fr NoT w W)=>zbt b nm hs W (he.keep h.plain));obtain⟨q,hq⟩:=aF (nmdB b nm);rw[<-hq]at Ma hR;have Fh:=aA hR;have e1:decide ((8:Int) < 1)=false:=by decide
 have e2:decide (9 < (8:Int))=false:=by decide
 have Gw:=aA (Bk.new w 51 #[.int .u8 8,.string nm,.slice A l c,.slice B m d,.slice D u e,.slice E v f,.int .i64 at_]);obtain⟨w1,Hc⟩:=aF (w.alloc (.cells #[.int .u8 8,.string nm,.slice A l c,.slice B m d,.slice D u e,.slice E v f,.int .i64 at_] 51));rw[<-Hc]at Gw;have Hl:=aA (show Fr NoT w w1 from by rw[Hc];exact aH.alloc _);have Ge:=aA Hc;clear h1 h2 h3 h4 hq hR Hc k1 k2 he hs;go_enter Tryz.func94,Tryz.ntmps94
 go_upto_region 3 with fail
 rw[<-Ge.out];have xu:=Gw.cell 0;have Fw:=Gw.lt;simp only[aD]at xu;go_cut [3] (λs3 wx=>∃P:Nat,s3= .pointer (some ⟨P,0,none⟩)/\Fr NoT w1 wx/\P < wx.heap.size/\wx.cell? ⟨P,0,none⟩=some (.int .i64 a)/\wx.cell? ⟨P,1,none⟩=some (.int .i64 o)/\wx.cell? ⟨P,2,none⟩=some (.int .i64 c2)/\wx.cell? ⟨P,3,none⟩=some (.bool b));case first=>
  go_region_law
   (first
    |(go_simp
      go_at_call 166
      with_reducible refine(zbc (w1.alloc (.cells #[.int .i64 0,.int .i64 0,.int .i64 0,.bool false] 270)).drew).mono ?_
      rintro _ w5 ⟨rfl,hb⟩;have Hm:Fr NoT w1 w5:=(Fr.drew (aH.alloc _)).trans (Fr.below hb);have Hz:=((Bk.new w1 270 #[.int .i64 0,.int .i64 0,.int .i64 0,.bool false]).fr0 (Fr.drew aI)).fr0 (Fr.below hb);have xr:=(Gw.fr0 Hm).cell 0;have z0:=Hz.cell 0;have z1:=Hz.cell 1;have z2:=Hz.cell 2;have z3:=Hz.cell 3;have y0:=Hz.frozen 0;have y1:=Hz.frozen 1;have y2:=Hz.frozen 2;have y3:=Hz.frozen 3;have Jr:=(Gw.fr0 Hm).lt;have Jb:=Hz.lt;simp only[aD]at xr z0 z1 z2 z3;have Gk:=aA Hm;have JF:=aA Hz;clear hb Hm Hz;dsimp only)
    |(go_simp
      go_at_call 166
      with_reducible refine(zbc w1.drew).mono ?_
      rintro _ w5 ⟨rfl,hb⟩;have Hm:Fr NoT w1 w5:=(Fr.drew aH).trans (Fr.below hb);have xr:=(Gw.fr0 Hm).cell 0;simp only[aD]at xr;have Jr:=(Gw.fr0 Hm).lt;have Gk:=aA Hm;clear hb Hm;dsimp only))
  all_goals
   go_wp2_with fail
   go_meet
   first
    |(refine⟨_,rfl,Gk.alloc _,by simp,?_⟩
      simp)
    |(refine⟨_,rfl,(((Gk.high (aL _) 0 _).high (aL _) 1 _).high (aL _) 2 _).high (aL _) 3 _,by simpa using Jb,?_⟩
      have h:=(((JF.set_ 0 (.int .i64 a)).set_ 1 (.int .i64 o)).set_ 2 (.int .i64 c2)).set_ 3 (.bool b);exact⟨h.cell 0,h.cell 1,h.cell 2,h.cell 3⟩)
 case rest=>
  obtain⟨P,rfl,Jw,hP,p0,p1,p2,p3⟩:=hcut;have hbx:=Gw.fr0 Jw;have b0:=hbx.cell 0;have b1:=hbx.cell 1;have Wz:=hbx.lt;simp only[aD]at b0 b1;have Mp:=aA (Hl.trans Jw);have JV:=aA hbx;clear Jw hbx xu FD;go_wp2_with fail
  go_quiet (fail)
  go_wp2_with fail;refine(Ma _ (Mp.drewN _)).mono ?_;rintro _ w6 ⟨rfl,hb⟩;have GO:=(show Fr NoT _ _ from aI.drewN _).trans hb;have Hy:=JV.fr0 GO;have b2:=Hy.cell 2;have b3:=Hy.cell 3;have b4:=Hy.cell 4;have b5:=Hy.cell 5;have Jb:=Hy.lt;have xH:=(GO.cell (p:=⟨P,0,none⟩) hP id).trans p0;have xN:=(GO.cell (p:=⟨P,2,none⟩) hP id).trans p2;have Ye:=aM hP GO.size;simp only[aD]at b2 b3 b4 b5;have G1:=aA (Mp.trans GO);have RW:=aA Hy;clear hb GO Hy b0 b1 p0 p1 p2 p3;cases q
  ·have HF:=aA (show R=false from by rw[Fh.out];simp);go_wp2_with fail;go_ret;exact⟨by rw[HF.out];rfl,G1.out⟩
  cases h7:(l:Int)==a
  ·have HF:=aA (show R=false from by rw[Fh.out,h7];simp);go_wp2_with fail;go_ret;exact⟨by rw[HF.out];rfl,G1.out⟩
  cases h8:(m:Int)==c2
  ·have HF:=aA (show R=false from by rw[Fh.out,h7,h8];simp);go_wp2_with fail;go_ret;exact⟨by rw[HF.out];rfl,G1.out⟩
  cases Jj:v==0
  ·have HF:=aA (show R=false from by rw[Fh.out,h7,h8,Jj];simp);have QV:((v:Int)==0)=false:=by simpa using Jj
   go_wp2_with fail;go_ret;exact⟨by rw[HF.out];rfl,G1.out⟩
  have QV:((v:Int)==0)=true:=by simpa using Jj
  have NI:=Fh.out;simp only[h7,h8,Jj,Bool.true_and]at NI;have GF:=aA NI;clear NI Fh;go_wp2_with fail;refine(H1 _ G1.out).mono ?_;rintro _ y1 ⟨rfl,hb⟩;have Lu:=aA (G1.trans hb);have Hy:=RW.fr0 hb;have NJ:=aA Hy;have Ub:=Hy.lt;have b3_1:=Hy.cell 3;have b4_1:=Hy.cell 4;have b5_1:=Hy.cell 5;simp only[aD]at b3_1 b4_1 b5_1;clear hb Hy b2 b3 b4 b5 xH xN;cases r1
  ·have HF:=aA (show R=false from by rw[GF.out];simp);go_wp2_with fail;go_ret;exact⟨by rw[HF.out];rfl,Lu.out⟩
  go_wp2_with fail;refine(H2 _ Lu.out).mono ?_;rintro _ y2 ⟨rfl,hb⟩;have L2:=aA (Lu.trans hb);have Hy:=NJ.fr0 hb;have NK:=aA Hy;have Uc:=Hy.lt;have b4_2:=Hy.cell 4;have b5_2:=Hy.cell 5;simp only[aD]at b4_2 b5_2;clear hb Hy b3_1 b4_1 b5_1;cases r2
  ·have HF:=aA (show R=false from by rw[GF.out];simp);go_wp2_with fail;go_ret;exact⟨by rw[HF.out];rfl,L2.out⟩
  go_wp2_with fail;refine(H3 _ L2.out).mono ?_;rintro _ y3 ⟨rfl,hb⟩;have NL:=aA (L2.trans hb);have Hy:=NK.fr0 hb;have NM:=aA Hy;have Ud:=Hy.lt;have b5_3:=Hy.cell 5;simp only[aD]at b5_3;clear hb Hy b4_2 b5_2;cases r3
  ·have HF:=aA (show R=false from by rw[GF.out];simp);go_wp2_with fail;go_ret;exact⟨by rw[HF.out];rfl,NL.out⟩
  go_wp2_with fail;refine(H4 _ NL.out).mono ?_;rintro _ y4 ⟨rfl,hb⟩;have QU:=aA (NL.trans hb);have Hy:=NM.fr0 hb;have Ue:=aA Hy;have Uf:=Hy.lt;clear hb Hy b5_3;cases r4
  ·have HF:=aA (show R=false from by rw[GF.out];simp);go_wp2_with fail;go_ret;exact⟨by rw[HF.out];rfl,QU.out⟩
  have HF:=aA (show R=true from by rw[GF.out];rfl);go_wp2_with fail;go_ret;exact⟨by rw[HF.out];rfl,QU.out⟩
theorem zji (k:Int)(nm:ByteArray)(at_:Int)(A:Option Addr)(l c:Nat)(B:Option Addr)(m d:Nat)(D:Option Addr)(u e:Nat)(E:Option Addr)(v f:Nat)(r1 r2 r3 r4:Bool)(w:World)(he:SpEnv w)(hs:nm.size<=9223372036854775807)
  (hl:l<=9223372036854775807) (hm:m<=9223372036854775807) (hu:u<=9223372036854775807) (hv:v<=9223372036854775807)
  (h1:AllC 168 169 w A l c r1) (h2:AllC 170 171 w B m d r2) (h3:AllC 93 94 w D u e r3) (h4:AllC 93 94 w E v f r4)
  (k1:1<=k) (k2:k<=9) (KO:k≠7) (Kt:k≠8) (a o c2:Int) (b:Bool) (FD:∀w,(Instr.index 271 (tabV zaK) (.int .u8 k)).run Tryz.prog w= .ok (.agg #[.int .i64 a,.int .i64 o,.int .i64 c2,.bool b]) w) (FV:decide (a < 0)=false):
  Calls Tryz.prog 94 #[.agg #[.int .u8 k,.string nm,.slice A l c,.slice B m d,.slice D u e,.slice E v f,.int .i64 at_]] w (zar (nmdB b nm&&((l:Int)==a)&&((m:Int)==c2)&&(u==0)&&(v==0)&&r1&&r2&&r3&&r4) w):=by
 obtain⟨R,hR⟩:=aF ((nmdB b nm&&((l:Int)==a)&&((m:Int)==c2)&&(u==0)&&(v==0)&&r1&&r2&&r3&&r4));rw[<-hR];have H1:=aA h1;have H2:=aA h2;have H3:=aA h3;have H4:=aA h4;have Ma:=aA (λ(W:World)(h:Fr NoT w W)=>zbt b nm hs W (he.keep h.plain));obtain⟨q,hq⟩:=aF (nmdB b nm);rw[<-hq]at Ma hR;have Fh:=aA hR;have e1:decide (k < 1)=false:=by simp;omega
 have e2:decide (9 < k)=false:=by simp;omega
 have e7:(k==7)=false:=by simpa using KO
 have e8:(k==8)=false:=by simpa using Kt
 have Gw:=aA (Bk.new w 51 #[.int .u8 k,.string nm,.slice A l c,.slice B m d,.slice D u e,.slice E v f,.int .i64 at_]);obtain⟨w1,Hc⟩:=aF (w.alloc (.cells #[.int .u8 k,.string nm,.slice A l c,.slice B m d,.slice D u e,.slice E v f,.int .i64 at_] 51));rw[<-Hc]at Gw;have Hl:=aA (show Fr NoT w w1 from by rw[Hc];exact aH.alloc _);have Ge:=aA Hc;clear h1 h2 h3 h4 hq hR Hc k1 k2 he hs;go_enter Tryz.func94,Tryz.ntmps94
 go_upto_region 3 with fail
 rw[<-Ge.out];have xu:=Gw.cell 0;have Fw:=Gw.lt;simp only[aD]at xu;go_cut [3] (λs3 wx=>∃P:Nat,s3= .pointer (some ⟨P,0,none⟩)/\Fr NoT w1 wx/\P < wx.heap.size/\wx.cell? ⟨P,0,none⟩=some (.int .i64 a)/\wx.cell? ⟨P,1,none⟩=some (.int .i64 o)/\wx.cell? ⟨P,2,none⟩=some (.int .i64 c2)/\wx.cell? ⟨P,3,none⟩=some (.bool b));case first=>
  go_region_law
   (first
    |(go_simp
      go_at_call 166
      with_reducible refine(zbc (w1.alloc (.cells #[.int .i64 0,.int .i64 0,.int .i64 0,.bool false] 270)).drew).mono ?_
      rintro _ w5 ⟨rfl,hb⟩;have Hm:Fr NoT w1 w5:=(Fr.drew (aH.alloc _)).trans (Fr.below hb);have Hz:=((Bk.new w1 270 #[.int .i64 0,.int .i64 0,.int .i64 0,.bool false]).fr0 (Fr.drew aI)).fr0 (Fr.below hb);have xr:=(Gw.fr0 Hm).cell 0;have z0:=Hz.cell 0;have z1:=Hz.cell 1;have z2:=Hz.cell 2;have z3:=Hz.cell 3;have y0:=Hz.frozen 0;have y1:=Hz.frozen 1;have y2:=Hz.frozen 2;have y3:=Hz.frozen 3;have Jr:=(Gw.fr0 Hm).lt;have Jb:=Hz.lt;simp only[aD]at xr z0 z1 z2 z3;have Gk:=aA Hm;have JF:=aA Hz;clear hb Hm Hz;dsimp only)
    |(go_simp
      go_at_call 166
      with_reducible refine(zbc w1.drew).mono ?_
      rintro _ w5 ⟨rfl,hb⟩;have Hm:Fr NoT w1 w5:=(Fr.drew aH).trans (Fr.below hb);have xr:=(Gw.fr0 Hm).cell 0;simp only[aD]at xr;have Jr:=(Gw.fr0 Hm).lt;have Gk:=aA Hm;clear hb Hm;dsimp only))
  all_goals
   go_wp2_with fail
   go_meet
   first
    |(refine⟨_,rfl,Gk.alloc _,by simp,?_⟩
      simp)
    |(refine⟨_,rfl,(((Gk.high (aL _) 0 _).high (aL _) 1 _).high (aL _) 2 _).high (aL _) 3 _,by simpa using Jb,?_⟩
      have h:=(((JF.set_ 0 (.int .i64 a)).set_ 1 (.int .i64 o)).set_ 2 (.int .i64 c2)).set_ 3 (.bool b);exact⟨h.cell 0,h.cell 1,h.cell 2,h.cell 3⟩)
 case rest=>
  obtain⟨P,rfl,Jw,hP,p0,p1,p2,p3⟩:=hcut;have hbx:=Gw.fr0 Jw;have b0:=hbx.cell 0;have b1:=hbx.cell 1;have Wz:=hbx.lt;simp only[aD]at b0 b1;have Mp:=aA (Hl.trans Jw);have JV:=aA hbx;clear Jw hbx xu FD;go_wp2_with fail
  go_quiet (fail)
  go_wp2_with fail;refine(Ma _ (Mp.drewN _)).mono ?_;rintro _ w6 ⟨rfl,hb⟩;have GO:=(show Fr NoT _ _ from aI.drewN _).trans hb;have Hy:=JV.fr0 GO;have b2:=Hy.cell 2;have b3:=Hy.cell 3;have b4:=Hy.cell 4;have b5:=Hy.cell 5;have Jb:=Hy.lt;have xH:=(GO.cell (p:=⟨P,0,none⟩) hP id).trans p0;have xN:=(GO.cell (p:=⟨P,2,none⟩) hP id).trans p2;have Ye:=aM hP GO.size;simp only[aD]at b2 b3 b4 b5;have G1:=aA (Mp.trans GO);have RW:=aA Hy;clear hb GO Hy b0 b1 p0 p1 p2 p3;cases q
  ·have HF:=aA (show R=false from by rw[Fh.out];simp);go_wp2_with fail;go_ret;exact⟨by rw[HF.out];rfl,G1.out⟩
  cases h7:(l:Int)==a
  ·have HF:=aA (show R=false from by rw[Fh.out,h7];simp);go_wp2_with fail;go_ret;exact⟨by rw[HF.out];rfl,G1.out⟩
  cases h8:(m:Int)==c2
  ·have HF:=aA (show R=false from by rw[Fh.out,h7,h8];simp);go_wp2_with fail;go_ret;exact⟨by rw[HF.out];rfl,G1.out⟩
  cases h9:u==0
  ·have HF:=aA (show R=false from by rw[Fh.out,h7,h8,h9];simp);have ZQ:((u:Int)==0)=false:=by simpa using h9
   go_wp2_with fail;go_ret;exact⟨by rw[HF.out];rfl,G1.out⟩
  have ZQ:((u:Int)==0)=true:=by simpa using h9
  cases Jj:v==0
  ·have HF:=aA (show R=false from by rw[Fh.out,h7,h8,h9,Jj];simp);have QV:((v:Int)==0)=false:=by simpa using Jj
   go_wp2_with fail;go_ret;exact⟨by rw[HF.out];rfl,G1.out⟩
  have QV:((v:Int)==0)=true:=by simpa using Jj
  have NI:=Fh.out;simp only[h7,h8,h9,Jj,Bool.true_and]at NI;have GF:=aA NI;clear NI Fh;go_wp2_with fail;refine(H1 _ G1.out).mono ?_;rintro _ y1 ⟨rfl,hb⟩;have Lu:=aA (G1.trans hb);have Hy:=RW.fr0 hb;have NJ:=aA Hy;have Ub:=Hy.lt;have b3_1:=Hy.cell 3;have b4_1:=Hy.cell 4;have b5_1:=Hy.cell 5;simp only[aD]at b3_1 b4_1 b5_1;clear hb Hy b2 b3 b4 b5 xH xN;cases r1
  ·have HF:=aA (show R=false from by rw[GF.out];simp);go_wp2_with fail;go_ret;exact⟨by rw[HF.out];rfl,Lu.out⟩
  go_wp2_with fail;refine(H2 _ Lu.out).mono ?_;rintro _ y2 ⟨rfl,hb⟩;have L2:=aA (Lu.trans hb);have Hy:=NJ.fr0 hb;have NK:=aA Hy;have Uc:=Hy.lt;have b4_2:=Hy.cell 4;have b5_2:=Hy.cell 5;simp only[aD]at b4_2 b5_2;clear hb Hy b3_1 b4_1 b5_1;cases r2
  ·have HF:=aA (show R=false from by rw[GF.out];simp);go_wp2_with fail;go_ret;exact⟨by rw[HF.out];rfl,L2.out⟩
  go_wp2_with fail;refine(H3 _ L2.out).mono ?_;rintro _ y3 ⟨rfl,hb⟩;have NL:=aA (L2.trans hb);have Hy:=NK.fr0 hb;have NM:=aA Hy;have Ud:=Hy.lt;have b5_3:=Hy.cell 5;simp only[aD]at b5_3;clear hb Hy b4_2 b5_2;cases r3
  ·have HF:=aA (show R=false from by rw[GF.out];simp);go_wp2_with fail;go_ret;exact⟨by rw[HF.out];rfl,NL.out⟩
  go_wp2_with fail;refine(H4 _ NL.out).mono ?_;rintro _ y4 ⟨rfl,hb⟩;have QU:=aA (NL.trans hb);have Hy:=NM.fr0 hb;have Ue:=aA Hy;have Uf:=Hy.lt;clear hb Hy b5_3;cases r4
  ·have HF:=aA (show R=false from by rw[GF.out];simp);go_wp2_with fail;go_ret;exact⟨by rw[HF.out];rfl,QU.out⟩
  have HF:=aA (show R=true from by rw[GF.out];rfl);go_wp2_with fail;go_ret;exact⟨by rw[HF.out];rfl,QU.out⟩
theorem zjj (k:Int)(nm:ByteArray)(at_:Int)(A:Option Addr)(l c:Nat)(B:Option Addr)(m d:Nat)(D:Option Addr)(u e:Nat)(E:Option Addr)(v f:Nat)(r1 r2 r3 r4:Bool)(w:World)(he:SpEnv w)(hs:nm.size<=9223372036854775807)
  (hl:l<=9223372036854775807) (hm:m<=9223372036854775807) (hu:u<=9223372036854775807) (hv:v<=9223372036854775807)
  (h1:AllC 168 169 w A l c r1) (h2:AllC 170 171 w B m d r2) (h3:AllC 93 94 w D u e r3) (h4:AllC 93 94 w E v f r4)
  (k1:1<=k) (k2:k<=9) (KO:k≠7) (Kt:k≠8) (a o c2:Int) (b:Bool) (FD:∀w,(Instr.index 271 (tabV zaK) (.int .u8 k)).run Tryz.prog w= .ok (.agg #[.int .i64 a,.int .i64 o,.int .i64 c2,.bool b]) w) (FV:decide (a < 0)=true):
  Calls Tryz.prog 94 #[.agg #[.int .u8 k,.string nm,.slice A l c,.slice B m d,.slice D u e,.slice E v f,.int .i64 at_]] w (zar (nmdB b nm&&((m:Int)==c2)&&(u==0)&&(v==0)&&r1&&r2&&r3&&r4) w):=by
 obtain⟨R,hR⟩:=aF ((nmdB b nm&&((m:Int)==c2)&&(u==0)&&(v==0)&&r1&&r2&&r3&&r4));rw[<-hR];have H1:=aA h1;have H2:=aA h2;have H3:=aA h3;have H4:=aA h4;have Ma:=aA (λ(W:World)(h:Fr NoT w W)=>zbt b nm hs W (he.keep h.plain));obtain⟨q,hq⟩:=aF (nmdB b nm);rw[<-hq]at Ma hR;have Fh:=aA hR;have e1:decide (k < 1)=false:=by simp;omega
 have e2:decide (9 < k)=false:=by simp;omega
 have e7:(k==7)=false:=by simpa using KO
 have e8:(k==8)=false:=by simpa using Kt
 have Gw:=aA (Bk.new w 51 #[.int .u8 k,.string nm,.slice A l c,.slice B m d,.slice D u e,.slice E v f,.int .i64 at_]);obtain⟨w1,Hc⟩:=aF (w.alloc (.cells #[.int .u8 k,.string nm,.slice A l c,.slice B m d,.slice D u e,.slice E v f,.int .i64 at_] 51));rw[<-Hc]at Gw;have Hl:=aA (show Fr NoT w w1 from by rw[Hc];exact aH.alloc _);have Ge:=aA Hc;clear h1 h2 h3 h4 hq hR Hc k1 k2 he hs;go_enter Tryz.func94,Tryz.ntmps94
 go_upto_region 3 with fail
 rw[<-Ge.out];have xu:=Gw.cell 0;have Fw:=Gw.lt;simp only[aD]at xu;go_cut [3] (λs3 wx=>∃P:Nat,s3= .pointer (some ⟨P,0,none⟩)/\Fr NoT w1 wx/\P < wx.heap.size/\wx.cell? ⟨P,0,none⟩=some (.int .i64 a)/\wx.cell? ⟨P,1,none⟩=some (.int .i64 o)/\wx.cell? ⟨P,2,none⟩=some (.int .i64 c2)/\wx.cell? ⟨P,3,none⟩=some (.bool b));case first=>
  go_region_law
   (first
    |(go_simp
      go_at_call 166
      with_reducible refine(zbc (w1.alloc (.cells #[.int .i64 0,.int .i64 0,.int .i64 0,.bool false] 270)).drew).mono ?_
      rintro _ w5 ⟨rfl,hb⟩;have Hm:Fr NoT w1 w5:=(Fr.drew (aH.alloc _)).trans (Fr.below hb);have Hz:=((Bk.new w1 270 #[.int .i64 0,.int .i64 0,.int .i64 0,.bool false]).fr0 (Fr.drew aI)).fr0 (Fr.below hb);have xr:=(Gw.fr0 Hm).cell 0;have z0:=Hz.cell 0;have z1:=Hz.cell 1;have z2:=Hz.cell 2;have z3:=Hz.cell 3;have y0:=Hz.frozen 0;have y1:=Hz.frozen 1;have y2:=Hz.frozen 2;have y3:=Hz.frozen 3;have Jr:=(Gw.fr0 Hm).lt;have Jb:=Hz.lt;simp only[aD]at xr z0 z1 z2 z3;have Gk:=aA Hm;have JF:=aA Hz;clear hb Hm Hz;dsimp only)
    |(go_simp
      go_at_call 166
      with_reducible refine(zbc w1.drew).mono ?_
      rintro _ w5 ⟨rfl,hb⟩;have Hm:Fr NoT w1 w5:=(Fr.drew aH).trans (Fr.below hb);have xr:=(Gw.fr0 Hm).cell 0;simp only[aD]at xr;have Jr:=(Gw.fr0 Hm).lt;have Gk:=aA Hm;clear hb Hm;dsimp only))
  all_goals
   go_wp2_with fail
   go_meet
   first
    |(refine⟨_,rfl,Gk.alloc _,by simp,?_⟩
      simp)
    |(refine⟨_,rfl,(((Gk.high (aL _) 0 _).high (aL _) 1 _).high (aL _) 2 _).high (aL _) 3 _,by simpa using Jb,?_⟩
      have h:=(((JF.set_ 0 (.int .i64 a)).set_ 1 (.int .i64 o)).set_ 2 (.int .i64 c2)).set_ 3 (.bool b);exact⟨h.cell 0,h.cell 1,h.cell 2,h.cell 3⟩)
 case rest=>
  obtain⟨P,rfl,Jw,hP,p0,p1,p2,p3⟩:=hcut;have hbx:=Gw.fr0 Jw;have b0:=hbx.cell 0;have b1:=hbx.cell 1;have Wz:=hbx.lt;simp only[aD]at b0 b1;have Mp:=aA (Hl.trans Jw);have JV:=aA hbx;clear Jw hbx xu FD;go_wp2_with fail
  go_quiet (fail)
  go_wp2_with fail;refine(Ma _ (Mp.drewN _)).mono ?_;rintro _ w6 ⟨rfl,hb⟩;have GO:=(show Fr NoT _ _ from aI.drewN _).trans hb;have Hy:=JV.fr0 GO;have b2:=Hy.cell 2;have b3:=Hy.cell 3;have b4:=Hy.cell 4;have b5:=Hy.cell 5;have Jb:=Hy.lt;have xH:=(GO.cell (p:=⟨P,0,none⟩) hP id).trans p0;have xN:=(GO.cell (p:=⟨P,2,none⟩) hP id).trans p2;have Ye:=aM hP GO.size;simp only[aD]at b2 b3 b4 b5;have G1:=aA (Mp.trans GO);have RW:=aA Hy;clear hb GO Hy b0 b1 p0 p1 p2 p3;cases q
  ·have HF:=aA (show R=false from by rw[Fh.out];simp);go_wp2_with fail;go_ret;exact⟨by rw[HF.out];rfl,G1.out⟩
  cases h8:(m:Int)==c2
  ·have HF:=aA (show R=false from by rw[Fh.out,h8];simp);go_wp2_with fail;go_ret;exact⟨by rw[HF.out];rfl,G1.out⟩
  cases h9:u==0
  ·have HF:=aA (show R=false from by rw[Fh.out,h8,h9];simp);have ZQ:((u:Int)==0)=false:=by simpa using h9
   go_wp2_with fail;go_ret;exact⟨by rw[HF.out];rfl,G1.out⟩
  have ZQ:((u:Int)==0)=true:=by simpa using h9
  cases Jj:v==0
  ·have HF:=aA (show R=false from by rw[Fh.out,h8,h9,Jj];simp);have QV:((v:Int)==0)=false:=by simpa using Jj
   go_wp2_with fail;go_ret;exact⟨by rw[HF.out];rfl,G1.out⟩
  have QV:((v:Int)==0)=true:=by simpa using Jj
  have NI:=Fh.out;simp only[h8,h9,Jj,Bool.true_and]at NI;have GF:=aA NI;clear NI Fh;go_wp2_with fail;refine(H1 _ G1.out).mono ?_;rintro _ y1 ⟨rfl,hb⟩;have Lu:=aA (G1.trans hb);have Hy:=RW.fr0 hb;have NJ:=aA Hy;have Ub:=Hy.lt;have b3_1:=Hy.cell 3;have b4_1:=Hy.cell 4;have b5_1:=Hy.cell 5;simp only[aD]at b3_1 b4_1 b5_1;clear hb Hy b2 b3 b4 b5 xH xN;cases r1
  ·have HF:=aA (show R=false from by rw[GF.out];simp);go_wp2_with fail;go_ret;exact⟨by rw[HF.out];rfl,Lu.out⟩
  go_wp2_with fail;refine(H2 _ Lu.out).mono ?_;rintro _ y2 ⟨rfl,hb⟩;have L2:=aA (Lu.trans hb);have Hy:=NJ.fr0 hb;have NK:=aA Hy;have Uc:=Hy.lt;have b4_2:=Hy.cell 4;have b5_2:=Hy.cell 5;simp only[aD]at b4_2 b5_2;clear hb Hy b3_1 b4_1 b5_1;cases r2
  ·have HF:=aA (show R=false from by rw[GF.out];simp);go_wp2_with fail;go_ret;exact⟨by rw[HF.out];rfl,L2.out⟩
  go_wp2_with fail;refine(H3 _ L2.out).mono ?_;rintro _ y3 ⟨rfl,hb⟩;have NL:=aA (L2.trans hb);have Hy:=NK.fr0 hb;have NM:=aA Hy;have Ud:=Hy.lt;have b5_3:=Hy.cell 5;simp only[aD]at b5_3;clear hb Hy b4_2 b5_2;cases r3
  ·have HF:=aA (show R=false from by rw[GF.out];simp);go_wp2_with fail;go_ret;exact⟨by rw[HF.out];rfl,NL.out⟩
  go_wp2_with fail;refine(H4 _ NL.out).mono ?_;rintro _ y4 ⟨rfl,hb⟩;have QU:=aA (NL.trans hb);have Hy:=NM.fr0 hb;have Ue:=aA Hy;have Uf:=Hy.lt;clear hb Hy b5_3;cases r4
  ·have HF:=aA (show R=false from by rw[GF.out];simp);go_wp2_with fail;go_ret;exact⟨by rw[HF.out];rfl,QU.out⟩
  have HF:=aA (show R=true from by rw[GF.out];rfl);go_wp2_with fail;go_ret;exact⟨by rw[HF.out];rfl,QU.out⟩
theorem zm6 (k:Int)(nm:ByteArray)(at_:Int)(A:Option Addr)(l c:Nat)(B:Option Addr)(m d:Nat)(D:Option Addr)(u e:Nat)(E:Option Addr)(v f:Nat)(r1 r2 r3 r4:Bool)(w:World)(he:SpEnv w)(hs:nm.size<=9223372036854775807)
  (hl:l<=9223372036854775807) (hm:m<=9223372036854775807) (hu:u<=9223372036854775807) (hv:v<=9223372036854775807)
  (h1:AllC 168 169 w A l c r1) (h2:AllC 170 171 w B m d r2) (h3:AllC 93 94 w D u e r3) (h4:AllC 93 94 w E v f r4):
  Calls Tryz.prog 94 #[.agg #[.int .u8 k,.string nm,.slice A l c,.slice B m d,.slice D u e,.slice E v f,.int .i64 at_]] w (zar (decide (1<=k)&&decide (k<=9)&&nmdB (tabA zaK k).2.2.2 nm&&(decide ((tabA zaK k).1 < 0) || (l:Int)==(tabA zaK k).1)&&((m:Int)==(tabA zaK k).2.2.1)&&(k==7 || k==8 || u==0)&&(k==7 || v==0)&&r1&&r2&&r3&&r4) w):=by
 by_cases k1:1<=k
 rotate_left
 ·have hF:(decide (1<=k)&&decide (k<=9)&&nmdB (tabA zaK k).2.2.2 nm&&(decide ((tabA zaK k).1 < 0) || (l:Int)==(tabA zaK k).1)&&((m:Int)==(tabA zaK k).2.2.1)&&(k==7 || k==8 || u==0)&&(k==7 || v==0)&&r1&&r2&&r3&&r4)=false:=by simp[k1]
  rw[hF];have e1:decide (k < 1)=true:=by simp;omega
  clear hF k1 h1 h2 h3 h4 he hs;go_enter Tryz.func94,Tryz.ntmps94;go_wp2_with fail;go_ret;exact⟨rfl,aH.alloc _⟩
 by_cases k2:k<=9
 rotate_left
 ·have hF:(decide (1<=k)&&decide (k<=9)&&nmdB (tabA zaK k).2.2.2 nm&&(decide ((tabA zaK k).1 < 0) || (l:Int)==(tabA zaK k).1)&&((m:Int)==(tabA zaK k).2.2.1)&&(k==7 || k==8 || u==0)&&(k==7 || v==0)&&r1&&r2&&r3&&r4)=false:=by simp[k2]
  rw[hF];have e1:decide (k < 1)=false:=by simp;omega
  have e2:decide (9 < k)=true:=by simp;omega
  clear hF k1 k2 h1 h2 h3 h4 he hs;go_enter Tryz.func94,Tryz.ntmps94;go_wp2_with fail;go_ret;exact⟨rfl,aH.alloc _⟩
 obtain⟨a,o,c2,b,NH,FD⟩:=zm1 k k1 k2;have NG:tabA zaK k=(a,o,c2,b):=by unfold tabA;rw[NH];rfl
 have x1:decide (1<=k)=true:=by simpa using k1
 have x2:decide (k<=9)=true:=by simpa using k2
 rw[NG,x1,x2];simp only[Bool.true_and];by_cases KO:k=7
 ·have hn:decide (a < 0)=false:=by
   subst KO;have:zaK[(7:Int).toNat]?=some (0,0,1,false):=rfl;rw[this]at NH;simp only[Option.some.injEq,Prod.mk.injEq]at NH;rw[<-NH.1];rfl
  have:=zjg k nm at_ A l c B m d D u e E v f r1 r2 r3 r4 w he hs hl hm hu hv h1 h2 h3 h4 k1 k2 KO a o c2 b FD hn;have y7:(k==7)=true:=by simpa using KO
  rw[hn,y7];simpa only[Bool.false_or,Bool.true_or,Bool.and_true]using this
 have y7:(k==7)=false:=by simpa using KO
 by_cases Kt:k=8
 ·have hn:decide (a < 0)=false:=by
   subst Kt;have:zaK[(8:Int).toNat]?=some (0,0,1,false):=rfl;rw[this]at NH;simp only[Option.some.injEq,Prod.mk.injEq]at NH;rw[<-NH.1];rfl
  have:=zjh k nm at_ A l c B m d D u e E v f r1 r2 r3 r4 w he hs hl hm hu hv h1 h2 h3 h4 k1 k2 Kt a o c2 b FD hn;have y8:(k==8)=true:=by simpa using Kt
  rw[hn,y7,y8];simpa only[Bool.false_or,Bool.true_or,Bool.and_true]using this
 have y8:(k==8)=false:=by simpa using Kt
 rw[y7,y8];cases hn:decide (a < 0)
 ·have:=zji k nm at_ A l c B m d D u e E v f r1 r2 r3 r4 w he hs hl hm hu hv h1 h2 h3 h4 k1 k2 KO Kt a o c2 b FD hn;simpa only[Bool.false_or,Bool.true_or,Bool.and_true]using this
 ·have:=zjj k nm at_ A l c B m d D u e E v f r1 r2 r3 r4 w he hs hl hm hu hv h1 h2 h3 h4 k1 k2 KO Kt a o c2 b FD hn;simpa only[Bool.false_or,Bool.true_or,Bool.and_true]using this
theorem zcV:∀(xs:Sts)(w:World)(S:Nat->Prop)(Z:Prop),SpEnv w->(∀b,S b->b < w.heap.size)->szS xs->AskSt 94 #[] w S Z okT xs
 | .nil,_,_,_,_,_,_=>λi _ _ _ _ _ _ _ _ hd=>by cases i<;>simp[Sts.drop]at hd
 | .cons k nm args cond body els at_ rest,w,S,Z,he,hS,Hx=>λi _ _ _ _ _ _ _ _ hd r1 W A2 q2 A3 q3 A4 q4 A5 q5 hw s2 s3 s4 s5=>by
  cases i with
  |zero=>
   simp only[Sts.drop]at hd;injection hd with e1 e2 e3 e4 e5 e6 e7 e8;subst e1 e2 e3 e4 e5 e6 e7 e8;rw[Array.append_empty];have PX:∀W2,Fr NoT W W2->∀b,S b->b < W2.heap.size:=λW2 h2 b hb=>aM (hS b hb) (hw.trans h2).size;have Yf:∀b,S b->b < W.heap.size:=λb hb=>aM (hS b hb) hw.size;refine zm6 k nm at_ A2 args.len q2 A3 cond.len q3 A4 body.len q4 A5 els.len q5 (okX args) (okC cond) (okS body) (okS els) W (he.keep hw.plain) Hx.1 (aK s2.1 s2.2.1.1) (aK s3.1 s3.2.1.1) (aK s4.1 s4.2.1.1) (aK s5.1 s5.2.1.1) (λW2 h2=>?_) (λW2 h2=>?_) (λW2 h2=>?_) (λW2 h2=>?_)
   ·exact zgR args A2 q2 W2 S Z (he.keep (hw.trans h2).plain) (PX W2 h2) Hx.2.1 (s2.imp λ_ _ hx=>ExR.keep (h2.same λb hb=>⟨Yf b hb,id⟩) hx)
   ·exact zkL cond A3 q3 W2 S Z (he.keep (hw.trans h2).plain) (PX W2 h2) Hx.2.2.1 (s3.imp λ_ _ hx=>CdR.keep (h2.same λb hb=>⟨Yf b hb,id⟩) hx)
   ·have:=zeq okT body A4 q4 94 #[] W2 S Z (PX W2 h2) (s4.imp λ_ _ hx=>StR.keep (h2.same λb hb=>⟨Yf b hb,id⟩) hx) (enters_of Tryz.func94 (by kernel_rfl) rfl) (zcV body W2 S Z (he.keep (hw.trans h2).plain) (PX W2 h2) Hx.2.2.2.1);rw[zfQ]at this;exact this
   ·have:=zeq okT els A5 q5 94 #[] W2 S Z (PX W2 h2) (s5.imp λ_ _ hx=>StR.keep (h2.same λb hb=>⟨Yf b hb,id⟩) hx) (enters_of Tryz.func94 (by kernel_rfl) rfl) (zcV els W2 S Z (he.keep (hw.trans h2).plain) (PX W2 h2) Hx.2.2.2.2.1);rw[zfQ]at this;exact this
  |succ i=>
   simp only[Sts.drop]at hd;exact zcV rest w S Z he hS Hx.2.2.2.2.2 i _ _ _ _ _ _ _ _ hd r1 W A2 q2 A3 q3 A4 q4 A5 q5 hw s2 s3 s4 s5
theorem zfi (xs:Sts)(A:Option Addr)(c:Nat)(w:World)(S:Nat->Prop)(Z:Prop)(he:SpEnv w)(hS:∀b,S b->b < w.heap.size)(Hx:szS xs)(hx:SlR (λb o=>StR w S Z xs b o) xs.len 128 A c):
  Calls Tryz.prog 93 #[.slice A xs.len c,.func (.func 94) #[] #[]] w (zar (okS xs) w):=by
 have:=zeq okT xs A c 94 #[] w S Z hS hx (enters_of Tryz.func94 (by kernel_rfl) rfl) (zcV xs w S Z he hS Hx);rw[zfQ]at this;exact this
def okVs (xs:List Va):Bool:=zdn (λnm _=>zbk nm.data.toList) xs
def okAs (xs:List Arr):Bool:=zdo (λnm size _=>zbk nm.data.toList&&decide (0<=size)) xs
def okPs (xs:List Prc):Bool:=zcR (λnm ps body _=>zbk nm.data.toList&&okVs ps&&okS body) xs
def okTr (t:Tre):Bool:=okVs t.vars&&okS t.main&&okAs t.arrays&&okPs t.procs
structure SzT (t:Tre):Prop where
 vars:∀x∈t.vars,x.nm.size<=9223372036854775807
 arrays:∀x∈t.arrays,x.nm.size<=9223372036854775807
 procs:∀x∈t.procs,x.nm.size<=9223372036854775807/\(∀y∈x.params,y.nm.size<=9223372036854775807)/\szS x.body
 main:szS t.main
theorem za4 {α:Type}{l:List α}{i:Nat}{x:α}{r:List α}(h:l.drop i=x::r):x∈l:=List.mem_of_mem_drop (i:=i) (by rw[h];simp)
theorem zm7 (xs:List Va)(w:World)(S:Nat->Prop)(Z:Prop)(he:SpEnv w)(Hx:∀x∈xs,x.nm.size<=9223372036854775807):AskVa 90 #[] w S Z (λnm _=>zbk nm.data.toList) xs:=by
 intro i a0 a1 ar hd W hw;rw[Array.append_empty];have hx:a0.size<=9223372036854775807:=Hx _ (za4 hd);have Hd:Fr NoT W (W.alloc (.cells #[.string a0,.int .i64 a1] 77)):=aH.alloc _;have HN:=aA (zd1 a0 hx _ (he.keep (hw.trans Hd).plain));have HF:=aA Hd;clear hd hw Hd he Hx hx;go_enter Tryz.func90,Tryz.ntmps90;go_wp2_with fail;refine HN.mono ?_;rintro _ w2 ⟨rfl,hb⟩;have Hu:=aA (HF.trans (Fr.below hb));clear hb;go_wp2_with fail;go_ret;exact⟨rfl,Hu.out⟩
theorem zil (xs:List Va)(A:Option Addr)(c:Nat)(w:World)(S:Nat->Prop)(Z:Prop)(he:SpEnv w)(hS:∀b,S b->b < w.heap.size)(Hx:∀x∈xs,x.nm.size<=9223372036854775807)(hx:SlR (λb o=>VaR w S Z xs b o) xs.length 24 A c):
  Calls Tryz.prog 92 #[.slice A xs.length c,.func (.func 90) #[] #[]] w (zar (okVs xs) w):=
 zkI _ xs A c 90 #[] w S Z hS hx (enters_of Tryz.func90 (by kernel_rfl) rfl) (zm7 xs w S Z he Hx)
theorem zm8 (xs:List Arr)(w:World)(S:Nat->Prop)(Z:Prop)(he:SpEnv w)(Hx:∀x∈xs,x.nm.size<=9223372036854775807):AskAr 96 #[] w S Z (λnm size _=>zbk nm.data.toList&&decide (0<=size)) xs:=by
 intro i a0 a1 a2 ar hd W hw;rw[Array.append_empty];have hx:a0.size<=9223372036854775807:=Hx _ (za4 hd);have Gz:=Bk.new W 61 #[.string a0,.int .i64 a1,.int .i64 a2];have Hd:Fr NoT W (W.alloc (.cells #[.string a0,.int .i64 a1,.int .i64 a2] 61)):=aH.alloc _;have hn:=zd1 a0 hx _ (he.keep (hw.trans Hd).plain);obtain⟨r,hr⟩:=aF (zbk a0.data.toList);show Calls _ _ _ _ (zar (zbk a0.data.toList&&decide (0<=a1)) W)
 rw[<-hr]at hn ⊢;have HN:=aA hn;have HF:=aA Hd;have HB:=aA Gz;obtain⟨q,hq⟩:=aF (decide (0<=a1));rw[<-hq];have e1:=hq.symm;clear hd hw Hd he Hx hx hr hn Gz hq;cases r;all_goals cases q
 all_goals
  go_enter Tryz.func96,Tryz.ntmps96;go_wp2_with fail;refine HN.mono ?_;rintro _ w2 ⟨rfl,hb⟩;have G2:=HB.fr0 (Fr.below hb);have c1:=G2.cell 1;have hl:=G2.lt;simp only[aD]at c1;have Hu:=aA (HF.trans (Fr.below hb));clear hb G2;go_wp2_with fail;go_ret;exact⟨rfl,Hu.out⟩
theorem zjk (xs:List Arr)(A:Option Addr)(c:Nat)(w:World)(S:Nat->Prop)(Z:Prop)(he:SpEnv w)(hS:∀b,S b->b < w.heap.size)(Hx:∀x∈xs,x.nm.size<=9223372036854775807)(hx:SlR (λb o=>ArR w S Z xs b o) xs.length 32 A c):
  Calls Tryz.prog 95 #[.slice A xs.length c,.func (.func 96) #[] #[]] w (zar (okAs xs) w):=
 zkJ _ xs A c 96 #[] w S Z hS hx (enters_of Tryz.func96 (by kernel_rfl) rfl) (zm8 xs w S Z he Hx)
theorem zm9 (xs:List Prc)(w:World)(S:Nat->Prop)(Z:Prop)(B:Nat)(Hr:Bk w B 209 #[.func (.func 90) #[] #[]])(he:SpEnv w)(hS:∀b,S b->b < w.heap.size)
  (Hx:∀x∈xs,x.nm.size<=9223372036854775807/\(∀y∈x.params,y.nm.size<=9223372036854775807)/\szS x.body):AskPr 98 #[.pointer (some ⟨B,0,none⟩)] w S Z (λnm ps body _=>zbk nm.data.toList&&okVs ps&&okS body) xs:=by
 intro i a0 a1 a2 a3 ar hd W A1 q1 A2 q2 hw s1 s2;have hx:=Hx _ (za4 hd);have Gz:=Bk.new W 63 #[.string a0,.slice A1 a1.length q1,.slice A2 a2.len q2,.int .i64 a3];have Hd:Fr NoT W (W.alloc (.cells #[.string a0,.slice A1 a1.length q1,.slice A2 a2.len q2,.int .i64 a3] 63)):=aH.alloc _;have hn:=zd1 a0 hx.1 _ (he.keep (hw.trans Hd).plain);have K7:∀b,S b->b < W.heap.size:=λb hb=>aM (hS b hb) hw.size;have hv:∀W2,Fr NoT W W2->Calls Tryz.prog 92 #[.slice A1 a1.length q1,.func (.func 90) #[] #[]] W2 (zar (okVs a1) W2):=λW2 h2=>zil a1 A1 q1 W2 S Z (he.keep (hw.trans h2).plain) (λb hb=>aM (K7 b hb) h2.size) hx.2.1 (s1.imp λ_ _ hx=>VaR.keep (h2.same λb hb=>⟨K7 b hb,id⟩) hx);have hs:∀W2,Fr NoT W W2->Calls Tryz.prog 93 #[.slice A2 a2.len q2,.func (.func 94) #[] #[]] W2 (zar (okS a2) W2):=λW2 h2=>zfi a2 A2 q2 W2 S Z (he.keep (hw.trans h2).plain) (λb hb=>aM (K7 b hb) h2.size) hx.2.2 (s2.imp λ_ _ hx=>StR.keep (h2.same λb hb=>⟨K7 b hb,id⟩) hx);obtain⟨r,hr⟩:=aF (zbk a0.data.toList);obtain⟨q,hq⟩:=aF (okVs a1);obtain⟨t,ht⟩:=aF (okS a2);rw[<-hr]at hn;rw[<-hq]at hv;rw[<-ht]at hs;have HR:=aA (show(zbk a0.data.toList&&okVs a1&&okS a2)=(r&&q&&t)from by rw[hr,hq,ht]);have HN:=aA hn;have HV:=aA hv;have HS:=aA hs;have HF:=aA Hd;have HB:=aA Gz;have HK:=aA (Hr.fr0 hw);clear hd hw Hd he Hx hx hr hn Gz hq ht hv hs s1 s2 hS K7 Hr;go_enter Tryz.func98,Tryz.ntmps98;go_wp2_with fail
 refine HN.mono ?_;rintro _ w2 ⟨rfl,hb⟩;have G2:=HB.fr0 (Fr.below hb);have c1:=G2.cell 1;have hl:=G2.lt;have GS:=(HK.fr0 HF.out).fr0 (Fr.below hb);have d0:=GS.cell 0;have FM:=GS.lt;simp only[aD]at c1 d0;have Hu:=aA (HF.trans (Fr.below hb));have LR:=aA G2;clear hb G2 GS;cases r
 ·go_wp2_with fail;go_ret;exact⟨by rw[HR.out];rfl,Hu.out⟩
 go_wp2_with fail;refine(HV _ Hu.out).mono ?_;rintro _ w3 ⟨rfl,hb⟩;have FL:=LR.fr0 hb;have c2:=FL.cell 2;have JP:=FL.lt;simp only[aD]at c2;have Gi:=aA (Hu.trans hb);clear hb FL c1 d0;cases q
 ·go_wp2_with fail;go_ret;exact⟨by rw[HR.out];rfl,Gi.out⟩
 go_wp2_with fail;refine(HS _ Gi.out).mono ?_;rintro _ w4 ⟨rfl,hb⟩;have GG:=aA (Gi.trans hb);clear hb;go_wp2_with fail;go_ret;exact⟨by rw[HR.out];simp,GG.out⟩
def ErrI (n:Int)(W:World)(e:Ending)(w':World):Prop:=e= .returned (.int .i64 n)/\Fr NoT W w'
theorem zkM (t:Tre)(w:World)(S:Nat->Prop)(Z:Prop)(Av Aa Ap Am:Option Addr)(cv ca cp cm:Nat)(he:SpEnv w)(hS:∀b,S b->b < w.heap.size)(Hx:SzT t)(hx:TrR w S Z t Av Aa Ap Am cv ca cp cm)
  (h2:∀W,Fr NoT w W->Calls Tryz.prog 93 #[.slice Am t.main.len cm,.func (.func 94) #[] #[]] W (zar (okS t.main) W))
  (h3:∀W,Fr NoT w W->Calls Tryz.prog 95 #[.slice Aa t.arrays.length ca,.func (.func 96) #[] #[]] W (zar (okAs t.arrays) W))
  (h4:∀W,Fr NoT w W->Bk W (w.heap.size+1) 209 #[.func (.func 90) #[] #[]]->Calls Tryz.prog 97 #[.slice Ap t.procs.length cp,.func (.func 98) #[] #[.pointer (some ⟨w.heap.size+1,0,none⟩)]] W (zar (okPs t.procs) W)):
  Calls Tryz.prog 47 #[trV t Av Aa Ap Am cv ca cp cm] w (ErrI (if okTr t then 0 else 8) w):=by
 have JI:= @makeF Tryz.prog;obtain⟨w1,Hc⟩:=aF ((w.alloc (.cells #[.slice Av t.vars.length cv,.slice Aa t.arrays.length ca,.slice Ap t.procs.length cp,.slice Am t.main.len cm] 27)).alloc (.cells #[.func (.func 90) #[] #[]] 209));have Hd:Fr NoT w w1:=by rw[Hc];exact(aH.alloc _).alloc _
 have Gz:Bk w1 w.heap.size 27 #[.slice Av t.vars.length cv,.slice Aa t.arrays.length ca,.slice Ap t.procs.length cp,.slice Am t.main.len cm]:=by rw[Hc];exact(Bk.new _ _ _).alloc _
 have Fo:Bk w1 (w.heap.size+1) 209 #[.func (.func 90) #[] #[]]:=by rw[Hc];exact Bk.new_at _ _ _ (by simp)
 have keep:∀W,Fr NoT w W->TrR W S Z t Av Aa Ap Am cv ca cp cm:=λW h=>hx.keep (h.same λb hb=>⟨hS b hb,id⟩);have K7:∀W,Fr NoT w W->∀b,S b->b < W.heap.size:=λW h b hb=>aM (hS b hb) h.size;have H1:=aA (λW (h:Fr NoT w W)=>zil t.vars Av cv W S Z (he.keep h.plain) (K7 W h) Hx.vars (keep W h).vars);have H2:=aA h2;have H3:=aA h3;have H4:=aA h4;clear h2 h3 h4;obtain⟨r1,h1⟩:=aF (okVs t.vars);obtain⟨r2,h2⟩:=aF (okS t.main);obtain⟨r3,h3⟩:=aF (okAs t.arrays);obtain⟨r4,h4⟩:=aF (okPs t.procs);have hR:okTr t=(r1&&r2&&r3&&r4):=by unfold okTr;rw[h1,h2,h3,h4]
 rw[hR];obtain⟨n,hn⟩:∃n:Int,n=(if(r1&&r2&&r3&&r4)=true then 0 else 8):=⟨_,rfl⟩;rw[<-hn];have HN:=aA hn;rw[<-h1]at H1;rw[<-h2]at H2;rw[<-h3]at H3;rw[<-h4]at H4;have Ge:=aA Hc;have Hl:=aA Hd;have Gw:=aA Gz;have K0:=aA Fo;unfold trV;clear Hc Hd Gz Fo keep K7 h1 h2 h3 h4 hR hx he hS Hx hn;go_enter Tryz.func47,Tryz.ntmps47;go_wp2_with fail;rw[<-Ge.out];refine(H1 _ Hl.out).mono ?_;rintro _ w2 ⟨rfl,hb⟩;have G2:=Gw.fr0 hb;obtain⟨x0,x1,x2,x3,FM⟩:=bk4 G2;have Hu:=aA (Hl.trans hb);have LR:=aA G2;have JE:=aA (K0.fr0 hb);clear hb G2;cases r1
 ·go_wp2_with fail;go_ret;exact⟨by rw[HN.out];rfl,Hu.out⟩
 go_wp2_with fail;refine(H2 _ Hu.out).mono ?_;rintro _ w3 ⟨rfl,hb⟩;have FL:=LR.fr0 hb;clear x0 x1 x2 x3 FM;obtain⟨x0,x1,x2,x3,FM⟩:=bk4 FL;have Gi:=aA (Hu.trans hb);have QB:=aA FL;have Ly:=aA (JE.fr0 hb);clear hb FL;cases r2
 ·go_wp2_with fail;go_ret;exact⟨by rw[HN.out];rfl,Gi.out⟩
 go_wp2_with fail;refine(H3 _ Gi.out).mono ?_;rintro _ w4 ⟨rfl,hb⟩;have QW:=QB.fr0 hb;clear x0 x1 x2 x3 FM;obtain⟨x0,x1,x2,x3,FM⟩:=bk4 QW;have GG:=aA (Gi.trans hb);have LO:=aA (Ly.fr0 hb);clear hb QW;cases r3
 ·go_wp2_with fail;go_ret;exact⟨by rw[HN.out];rfl,GG.out⟩
 go_wp2_with fail;refine(H4 _ GG.out LO.out).mono ?_;rintro _ w5 ⟨rfl,hb⟩;have Gk:=aA (GG.trans hb);clear hb x0 x1 x2 x3;cases r4;all_goals
  go_wp2_with fail;go_ret;exact⟨by rw[HN.out];rfl,Gk.out⟩
theorem zdp (t:Tre)(w:World)(S:Nat->Prop)(Z:Prop)(Av Aa Ap Am:Option Addr)(cv ca cp cm:Nat)(he:SpEnv w)(hS:∀b,S b->b < w.heap.size)(Hx:SzT t)(hx:TrR w S Z t Av Aa Ap Am cv ca cp cm):
  Calls Tryz.prog 47 #[trV t Av Aa Ap Am cv ca cp cm] w (ErrI (if okTr t then 0 else 8) w):=
 have keep:∀W,Fr NoT w W->TrR W S Z t Av Aa Ap Am cv ca cp cm:=λW h=>hx.keep (h.same λb hb=>⟨hS b hb,id⟩);have K7:∀W,Fr NoT w W->∀b,S b->b < W.heap.size:=λW h b hb=>aM (hS b hb) h.size
 zkM t w S Z Av Aa Ap Am cv ca cp cm he hS Hx hx
  (λW h=>zfi t.main Am cm W S Z (he.keep h.plain) (K7 W h) Hx.main (keep W h).main)
  (λW h=>zjk t.arrays Aa ca W S Z (he.keep h.plain) (K7 W h) Hx.arrays (keep W h).arrays)
  λW h hb=>zkK _ t.procs Ap cp 98 #[.pointer (some ⟨w.heap.size+1,0,none⟩)] W S Z (K7 W h) (keep W h).procs (enters_of Tryz.func98 (by kernel_rfl) rfl) (zm9 t.procs W S Z (w.heap.size+1) hb (he.keep h.plain) (K7 W h) Hx.procs)
