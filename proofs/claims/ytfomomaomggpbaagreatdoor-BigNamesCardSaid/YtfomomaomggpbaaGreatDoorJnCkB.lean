/-
  print: the tables of shapes.
-/
import Derived.Test.YtfomomaomggpbaaGreatDoorJnCkA
set_option linter.unusedVariables false
set_option linter.unusedSimpArgs false
set_option maxHeartbeats 1600000
set_option maxRecDepth 100000
namespace Go.Proofs.YtfomomaomggpbaaGreatDoor
open Go.RowKit Go.Shelf

def shp (a o c:Int) (n:Bool):List Value:= [.int .i64 a,.int .i64 o,.int .i64 c,.bool n]
def stShp:List (Int×Int×Int×Bool):= [(0,0,0,false),(0,0,0,false),(1,0,0,true),(2,0,0,true),(0,0,0,true),(0,0,1,false),(0,0,1,false),(0,0,1,false),(0,0,1,false),(-1,0,0,true)]
def exShp:List (Int×Int×Int×Bool):= [(0,0,0,false),(0,0,0,false),(0,0,0,true),(1,0,0,true),(1,0,0,false),(2,0,0,false),(2,0,0,false),(2,0,0,false),(2,0,0,false),(2,0,0,false),(2,0,0,false),(2,0,0,false)]
def cdShp:List (Int×Int×Int×Bool):= [(0,0,0,false),(0,0,0,false),(0,0,0,false),(2,0,0,false),(2,0,0,false),(2,0,0,false),(2,0,0,false),(2,0,0,false),(2,0,0,false),(0,1,0,false),(0,2,0,false),(0,2,0,false)]
def tabV (l:List (Int×Int×Int×Bool)):Value:= .agg (l.flatMap fun x=>shp x.1 x.2.1 x.2.2.1 x.2.2.2).toArray
theorem stmts_tab (w:World):Calls Tryz.prog 166 #[] w fun e w'=>e= .returned (tabV stShp)∧Below w.heap.size w w':=by
 go_enter Tryz.func166,Tryz.ntmps166
 go_wp2_with (first|(refine wpList_build rfl 271 _ rfl (by kernel_rfl) ?_)|(refine wpList_store_row rfl 271 _ _ rfl w.heap.size _ rfl rfl 271 _ (heap_alloc_new _ _) (by kernel_rfl) (by kernel_rfl) (by kernel_rfl) ?_))
 exact bodyPost_ret (results_cell_row (p:=0) (ty:=271) rfl _ _ w.heap.size 271 _ (0,0) _ rfl (setRow_heap _ _ _ _ _ _ (heap_alloc_new _ _)) Tryz.underlying271 rfl (by kernel_rfl)) rfl ⟨by kernel_rfl,below_setRow ((Below.refl _ _).alloc (lrq _) _) (lrq _) _⟩
theorem exprs_tab (w:World):Calls Tryz.prog 222 #[] w fun e w'=>e= .returned (tabV exShp)∧Below w.heap.size w w':=by
 go_enter Tryz.func222,Tryz.ntmps222
 go_wp2_with (first|(refine wpList_build rfl 312 _ rfl (by kernel_rfl) ?_)|(refine wpList_store_row rfl 312 _ _ rfl w.heap.size _ rfl rfl 312 _ ((Below.heap_alloc _ _ _ (by simp)).trans (heap_alloc_new _ _)) (by kernel_rfl) (by kernel_rfl) (by kernel_rfl) ?_))
 exact bodyPost_ret (results_cell_row (p:=0) (ty:=312) rfl _ _ w.heap.size 312 _ (0,0) _ rfl (setRow_heap _ _ _ _ _ _ ((Below.heap_alloc _ _ _ (by simp)).trans (heap_alloc_new _ _))) Tryz.underlying312 rfl (by kernel_rfl)) rfl ⟨by kernel_rfl,below_setRow (((Below.refl _ _).alloc (lrq _) _).alloc (by simp) _) (lrq _) _⟩
theorem conds_tab (w:World):Calls Tryz.prog 225 #[] w fun e w'=>e= .returned (tabV cdShp)∧Below w.heap.size w w':=by
 go_enter Tryz.func225,Tryz.ntmps225
 go_wp2_with (first|(refine wpList_build rfl 312 _ rfl (by kernel_rfl) ?_)|(refine wpList_store_row rfl 312 _ _ rfl w.heap.size _ rfl rfl 312 _ ((Below.heap_alloc _ _ _ (by simp)).trans (heap_alloc_new _ _)) (by kernel_rfl) (by kernel_rfl) (by kernel_rfl) ?_))
 exact bodyPost_ret (results_cell_row (p:=0) (ty:=312) rfl _ _ w.heap.size 312 _ (0,0) _ rfl (setRow_heap _ _ _ _ _ _ ((Below.heap_alloc _ _ _ (by simp)).trans (heap_alloc_new _ _))) Tryz.underlying312 rfl (by kernel_rfl)) rfl ⟨by kernel_rfl,below_setRow (((Below.refl _ _).alloc (lrq _) _).alloc (by simp) _) (lrq _) _⟩
theorem stmts_at (k:Int) (h0:1≤k) (h1:k≤9):∃a o c b,stShp[k.toNat]?=some (a,o,c,b)∧∀w,(Instr.index 271 (tabV stShp) (.int .u8 k)).run Tryz.prog w= .ok (.agg #[.int .i64 a,.int .i64 o,.int .i64 c,.bool b]) w:=by
 have hk:k=1∨k=2∨k=3∨k=4∨k=5∨k=6∨k=7∨k=8∨k=9:=by omega
 rcases hk with rfl|rfl|rfl|rfl|rfl|rfl|rfl|rfl|rfl<;>exact⟨_,_,_,_,rfl,fun _=>by kernel_rfl⟩
theorem exprs_at (k:Int) (h0:1≤k) (h1:k≤11):∃a o c b,exShp[k.toNat]?=some (a,o,c,b)∧∀w,(Instr.index 312 (tabV exShp) (.int .u8 k)).run Tryz.prog w= .ok (.agg #[.int .i64 a,.int .i64 o,.int .i64 c,.bool b]) w:=by
 have hk:k=1∨k=2∨k=3∨k=4∨k=5∨k=6∨k=7∨k=8∨k=9∨k=10∨k=11:=by omega
 rcases hk with rfl|rfl|rfl|rfl|rfl|rfl|rfl|rfl|rfl|rfl|rfl<;>exact⟨_,_,_,_,rfl,fun _=>by kernel_rfl⟩
theorem conds_at (k:Int) (h0:1≤k) (h1:k≤11):∃a o c b,cdShp[k.toNat]?=some (a,o,c,b)∧∀w,(Instr.index 312 (tabV cdShp) (.int .u8 k)).run Tryz.prog w= .ok (.agg #[.int .i64 a,.int .i64 o,.int .i64 c,.bool b]) w:=by
 have hk:k=1∨k=2∨k=3∨k=4∨k=5∨k=6∨k=7∨k=8∨k=9∨k=10∨k=11:=by omega
 rcases hk with rfl|rfl|rfl|rfl|rfl|rfl|rfl|rfl|rfl|rfl|rfl<;>exact⟨_,_,_,_,rfl,fun _=>by kernel_rfl⟩

def nmdB (is:Bool) (nm:ByteArray):Bool:=if is then nameB nm.data.toList else(nm.toList== [])
theorem prnamed_any (is:Bool) (nm:ByteArray) (hs:nm.size≤9223372036854775807) (w:World) (he:SpEnv w):Calls Tryz.prog 167 #[.bool is,.string nm] w (EqPost (nmdB is nm) w):=by
 have H1:=hdq (name_sp nm hs w he)
 clear he
 cases is
 ·obtain⟨b,hb⟩:=nmq ((nm.toList== []))
  have e0:(⟨#[]⟩:ByteArray).toList = []:=by decide+kernel
  have HB:=hdq (show nmdB false nm=b from hb.symm)
  clear H1
  cases b
  ·have e1:=hb.symm
   clear hb
   go_enter Tryz.func167,Tryz.ntmps167
   go_wp2_with fail

   go_ret
   exact⟨by rw[HB.out];rfl,Fr.refl _ _⟩
  ·have e1:=hb.symm
   clear hb
   go_enter Tryz.func167,Tryz.ntmps167
   go_wp2_with fail
   go_ret
   exact⟨by rw[HB.out];rfl,Fr.refl _ _⟩
 ·obtain⟨b,hb⟩:=nmq (nameB nm.data.toList)
  have HB:=hdq (show nmdB true nm=b from hb.symm)
  rw[←hb]at H1
  clear hb
  cases b
  all_goals
   go_enter Tryz.func167,Tryz.ntmps167
   go_wp2_with fail
   refine H1.out.mono ?_
   rintro _ w1 ⟨rfl,hb⟩
   have HF:=hdq (show Fr NoT w w1 from Fr.below hb)
   clear hb
   go_wp2_with fail
   go_ret
   exact⟨by rw[HB.out];rfl,HF.out⟩
def tabA (l:List (Int×Int×Int×Bool)) (k:Int):Int×Int×Int×Bool:=(l[k.toNat]?).getD (0,0,0,false)
def okX:Exs→Bool
 | .nil =>true
 | .cons k nm n args _ r=>(decide (1≤k)&&decide (k≤11)&&decide (0≤n)&&(decide (n≤0) || k==1)&&nmdB (tabA exShp k).2.2.2 nm&&((args.len:Int)==(tabA exShp k).1)&&okX args)&&okX r
def okE (k:Int) (nm:ByteArray) (n:Int) (args:Exs) (_:Int):Bool:=decide (1≤k)&&decide (k≤11)&&decide (0≤n)&&(decide (n≤0) || k==1)&&nmdB (tabA exShp k).2.2.2 nm&&((args.len:Int)==(tabA exShp k).1)&&okX args
theorem okX_all:∀xs,allEx okE xs=okX xs
 | .nil =>rfl
 | .cons k nm n args at_ r=>by simp only[allEx,okX,okE,okX_all r]
def szX:Exs→Prop
 | .nil =>True
 | .cons _ nm _ args _ r=>nm.size≤9223372036854775807∧szX args∧szX r

theorem expr_one (k:Int) (nm:ByteArray) (n:Int) (at_:Int) (A:Option Addr) (l c:Nat) (r:Bool) (w:World) (he:SpEnv w) (hs:nm.size≤9223372036854775807) (hl:l≤9223372036854775807)
  (hc:∀W,Fr NoT w W→Calls Tryz.prog 168 #[.slice A l c,.func (.func 169) #[] #[]] W (EqPost r W)):
  Calls Tryz.prog 169 #[.agg #[.int .u8 k,.string nm,.int .i64 n,.slice A l c,.int .i64 at_]] w
   (EqPost (decide (1≤k)&&decide (k≤11)&&decide (0≤n)&&(decide (n≤0) || k==1)&&nmdB (tabA exShp k).2.2.2 nm&&((l:Int)==(tabA exShp k).1)&&r) w):=by
 obtain⟨R,hR⟩:=nmq ((decide (1≤k)&&decide (k≤11)&&decide (0≤n)&&(decide (n≤0) || k==1)&&nmdB (tabA exShp k).2.2.2 nm&&((l:Int)==(tabA exShp k).1)&&r))
 rw[←hR]
 have HC:=hdq hc
 have HE:=hdq he
 have HS:=hdq hs
 clear hc he hs
 by_cases h1:1≤k
 rotate_left
 ·have HF:=hdq (show R=false from by rw[hR];simp[h1])
  have e1:decide (k < 1)=true:=by simp;omega
  clear hR h1
  go_enter Tryz.func169,Tryz.ntmps169
  go_wp2_with fail
  go_ret
  exact⟨by rw[HF.out];rfl,(Fr.refl _ _).alloc _⟩
 by_cases h2:k≤11
 rotate_left
 ·have HF:=hdq (show R=false from by rw[hR];simp[h2])
  have e1:decide (k < 1)=false:=by simp;omega
  have e2:decide (11 < k)=true:=by simp;omega
  clear hR h1 h2
  go_enter Tryz.func169,Tryz.ntmps169
  go_wp2_with fail
  go_ret
  exact⟨by rw[HF.out];rfl,(Fr.refl _ _).alloc _⟩
 obtain⟨a,o,c2,b,hsh,hidx⟩:=exprs_at k h1 h2
 have hta:tabA exShp k=(a,o,c2,b):=by unfold tabA;rw[hsh];rfl
 rw[hta]at hR
 simp only at hR
 have e1:decide (k < 1)=false:=by simp;omega
 have e2:decide (11 < k)=false:=by simp;omega
 by_cases h3:0≤n
 rotate_left
 ·have HF:=hdq (show R=false from by rw[hR];simp[h3])
  have e3:decide (n < 0)=true:=by simp;omega
  clear hR h1 h2 h3 hidx hsh hta
  go_enter Tryz.func169,Tryz.ntmps169
  go_wp2_with fail
  go_ret
  exact⟨by rw[HF.out];rfl,(Fr.refl _ _).alloc _⟩
 have e3:decide (n < 0)=false:=by simp;omega
 by_cases h4:0 < n∧k≠1
 ·have HF:=hdq (show R=false from by
   rw[hR]
   have x1:decide (n≤0)=false:=by simp;omega
   have x2:(k==1)=false:=by simpa using h4.2
   rw[x1,x2];simp)
  have e4:decide (0 < n)=true:=by simpa using h4.1
  have e5:(k != 1)=true:=by simpa using h4.2
  clear hR h1 h2 h3 h4 hidx hsh hta
  go_enter Tryz.func169,Tryz.ntmps169
  go_wp2_with fail
  go_ret
  exact⟨by rw[HF.out];rfl,(Fr.refl _ _).alloc _⟩
 have hx4:(decide (n≤0) || k==1)=true:=by
  by_cases h:n≤0
  ·simp[h]
  ·have:k=1:=by
    refine Decidable.byContradiction fun hk=>h4 ⟨by omega,hk⟩
   simp[this]
 have HRR:=hdq (show R=(nmdB b nm&&((l:Int)==a)&&r)from by
  have x1:decide (1≤k)=true:=by simpa using h1
  have x2:decide (k≤11)=true:=by simpa using h2
  have x3:decide (0≤n)=true:=by simpa using h3
  rw[hR,hx4,x1,x2,x3];simp)
 have hn:decide (0 < n)=false∨(decide (0 < n)=true∧(k != 1)=false):=by
  by_cases h:0 < n
  ·right
   refine⟨by simpa using h,?_⟩
   have:k=1:=Decidable.byContradiction fun hk=>h4 ⟨h,hk⟩
   simp[this]
  ·left;simpa using h
 have HNM:=hdq (fun(W:World) (h:Fr NoT w W)=>prnamed_any b nm HS.out W (HE.out.keep h.plain))
 obtain⟨q,hq⟩:=nmq (nmdB b nm)
 rw[←hq]at HNM HRR
 have HB1:=hdq (Bk.new w 175 #[.int .u8 k,.string nm,.int .i64 n,.slice A l c,.int .i64 at_])
 obtain⟨w1,hw1⟩:=nmq (w.alloc (.cells #[.int .u8 k,.string nm,.int .i64 n,.slice A l c,.int .i64 at_] 175))
 rw[←hw1]at HB1
 have HF1:=hdq (show Fr NoT w w1 from by rw[hw1];exact(Fr.refl _ _).alloc _)
 have HW1:=hdq hw1
 clear hR h1 h2 h3 h4 hsh hta hx4 hq hw1
 rcases hn with e4|⟨e4,e5⟩
 all_goals
  go_enter Tryz.func169,Tryz.ntmps169
  go_upto_region 3 with fail
  rw[←HW1.out]
  have k01:=HB1.out.cell 0
  have hl1:=HB1.out.lt
  simp only[getsL]at k01
  go_cut [3] (fun s3 wx=>∃P:Nat,s3= .pointer (some ⟨P,0,none⟩)∧Fr NoT w1 wx∧P < wx.heap.size∧wx.cell? ⟨P,0,none⟩=some (.int .i64 a)∧wx.cell? ⟨P,1,none⟩=some (.int .i64 o)∧wx.cell? ⟨P,2,none⟩=some (.int .i64 c2)∧wx.cell? ⟨P,3,none⟩=some (.bool b))
  case first=>
   go_region_law
    (first
     |(go_simp
       go_at_call 222
       with_reducible refine(exprs_tab (w1.alloc (.cells #[.int .i64 0,.int .i64 0,.int .i64 0,.bool false] 270)).drew).mono ?_
       rintro _ w5 ⟨rfl,hb⟩
       have hf5:Fr NoT w1 w5:=(Fr.drew ((Fr.refl _ _).alloc _)).trans (Fr.below hb)
       have hk5:=((Bk.new w1 270 #[.int .i64 0,.int .i64 0,.int .i64 0,.bool false]).fr0 (Fr.drew (Fr.refl NoT _))).fr0 (Fr.below hb)
       have k05:=(HB1.out.fr0 hf5).cell 0
       have z0:=hk5.cell 0
       have z1:=hk5.cell 1
       have z2:=hk5.cell 2
       have z3:=hk5.cell 3
       have y0:=hk5.frozen 0
       have y1:=hk5.frozen 1
       have y2:=hk5.frozen 2
       have y3:=hk5.frozen 3
       have hl5:=(HB1.out.fr0 hf5).lt
       have hl6:=hk5.lt
       simp only[getsL]at k05 z0 z1 z2 z3
       have HF5:=hdq hf5
       have HK5:=hdq hk5
       clear hb hf5 hk5
       dsimp only)
     |(go_simp
       go_at_call 222
       with_reducible refine(exprs_tab w1.drew).mono ?_
       rintro _ w5 ⟨rfl,hb⟩
       have hf5:Fr NoT w1 w5:=(Fr.drew (Fr.refl _ _)).trans (Fr.below hb)
       have k05:=(HB1.out.fr0 hf5).cell 0
       simp only[getsL]at k05
       have hl5:=(HB1.out.fr0 hf5).lt
       have HF5:=hdq hf5
       clear hb hf5
       dsimp only))
   all_goals
    go_wp2_with fail
    go_meet
    first
     |(refine⟨_,rfl,HF5.out.alloc _,by simp,?_⟩
       simp)
     |(refine⟨_,rfl,(((HF5.out.high (lrq _) 0 _).high (lrq _) 1 _).high (lrq _) 2 _).high (lrq _) 3 _,by simpa using hl6,?_⟩
       have h:=(((HK5.out.set_ 0 (.int .i64 a)).set_ 1 (.int .i64 o)).set_ 2 (.int .i64 c2)).set_ 3 (.bool b)
       exact⟨h.cell 0,h.cell 1,h.cell 2,h.cell 3⟩)
  case rest=>
   obtain⟨P,rfl,hfx,hP,p0,p1,p2,p3⟩:=hcut
   have hbx:=HB1.out.fr0 hfx
   have b1:=hbx.cell 1
   have hlx:=hbx.lt
   simp only[getsL]at b1
   have HFX:=hdq (HF1.out.trans hfx)
   have HBX:=hdq hbx
   clear hfx hbx k01 hidx
   go_wp2_with fail
   refine(HNM.out _ HFX.out).mono ?_
   rintro _ w6 ⟨rfl,hb⟩
   have hb6:=HBX.out.fr0 hb
   have b3:=hb6.cell 3
   have hl6:=hb6.lt
   have p0':=(hb.cell (p:=⟨P,0,none⟩) hP id).trans p0
   have hP6:=ltq hP hb.size
   simp only[getsL]at b3
   have HF6:=hdq (HFX.out.trans hb)
   clear hb hb6 b1 p0 p1 p2 p3
   cases q
   ·have HF:=hdq (show R=false from by rw[HRR.out];simp)
    go_wp2_with fail
    go_ret
    exact⟨by rw[HF.out];rfl,HF6.out⟩
   cases h7:(l:Int)==a
   ·have HF:=hdq (show R=false from by rw[HRR.out,h7];simp)
    go_wp2_with fail
    go_ret
    exact⟨by rw[HF.out];rfl,HF6.out⟩
   have HF:=hdq (show R=r from by rw[HRR.out,h7];simp)
   go_wp2_with fail
   refine(HC.out _ HF6.out).mono ?_
   rintro _ w7 ⟨rfl,hb⟩
   have HF7:=hdq (HF6.out.trans hb)
   clear hb
   go_wp2_with fail
   go_ret
   exact⟨by rw[HF.out];rfl,HF7.out⟩
theorem expr_asks:∀(xs:Exs) (w:World) (S:Nat→Prop) (Z:Prop),SpEnv w→(∀b,S b→b < w.heap.size)→szX xs→AskEx 169 #[] w S Z okE xs
 | .nil,_,_,_,_,_,_=>fun i _ _ _ _ _ _ hd=>by cases i<;>simp[Exs.drop]at hd
 | .cons k nm n args at_ rest,w,S,Z,he,hS,hsz=>fun i _ _ _ _ _ _ hd r1 r2 W A3 q3 hw s3=>by
  cases i with
  |zero=>
   simp only[Exs.drop]at hd
   injection hd with e1 e2 e3 e4 e5 e6
   subst e1 e2 e3 e4 e5 e6
   rw[Array.append_empty]
   refine expr_one k nm n at_ A3 args.len q3 (okX args) W (he.keep hw.plain) hsz.1 (leq9 s3.1 s3.2.1.1) fun W2 h2=>?_
   have hS2:∀b,S b→b < W2.heap.size:=fun b hb=>ltq (hS b hb) (hw.trans h2).size
   have:=allEx_any okE args A3 q3 169 #[] W2 S Z hS2 (s3.imp fun _ _ hx=>ExR.keep (h2.same fun b hb=>⟨ltq (hS b hb) hw.size,id⟩) hx) (enters_of Tryz.func169 (by kernel_rfl) rfl) (expr_asks args W2 S Z (he.keep (hw.trans h2).plain) hS2 hsz.2.1)
   rw[okX_all]at this
   exact this
  |succ i=>
   simp only[Exs.drop]at hd
   exact expr_asks rest w S Z he hS hsz.2.2 i _ _ _ _ _ _ hd r1 r2 W A3 q3 hw s3
theorem exprs_any (xs:Exs) (A:Option Addr) (c:Nat) (w:World) (S:Nat→Prop) (Z:Prop) (he:SpEnv w) (hS:∀b,S b→b < w.heap.size) (hsz:szX xs) (hx:SlR (fun b o=>ExR w S Z xs b o) xs.len 64 A c):
  Calls Tryz.prog 168 #[.slice A xs.len c,.func (.func 169) #[] #[]] w (EqPost (okX xs) w):=by
 have:=allEx_any okE xs A c 169 #[] w S Z hS hx (enters_of Tryz.func169 (by kernel_rfl) rfl) (expr_asks xs w S Z he hS hsz)
 rw[okX_all]at this
 exact this

def okC:Cds→Bool
 | .nil =>true
 | .cons k args of_ _ r=>(decide (1≤k)&&decide (k≤11)&&((args.len:Int)==(tabA cdShp k).1)&&((of_.len:Int)==(tabA cdShp k).2.1)&&okX args&&okC of_)&&okC r
def okD (k:Int) (args:Exs) (of_:Cds) (_:Int):Bool:=decide (1≤k)&&decide (k≤11)&&((args.len:Int)==(tabA cdShp k).1)&&((of_.len:Int)==(tabA cdShp k).2.1)&&okX args&&okC of_
theorem okC_all:∀xs,allCd okD xs=okC xs
 | .nil =>rfl
 | .cons k args of_ at_ r=>by simp only[allCd,okC,okD,okC_all r]
def szC:Cds→Prop
 | .nil =>True
 | .cons _ args of_ _ r=>szX args∧szC of_∧szC r
theorem cond_one (k:Int) (at_:Int) (A:Option Addr) (l c:Nat) (B:Option Addr) (m d:Nat) (r t:Bool) (w:World) (hl:l≤9223372036854775807) (hm:m≤9223372036854775807)
  (hc:∀W,Fr NoT w W→Calls Tryz.prog 168 #[.slice A l c,.func (.func 169) #[] #[]] W (EqPost r W))
  (hd:∀W,Fr NoT w W→Calls Tryz.prog 170 #[.slice B m d,.func (.func 171) #[] #[]] W (EqPost t W)):
  Calls Tryz.prog 171 #[.agg #[.int .u8 k,.slice A l c,.slice B m d,.int .i64 at_]] w
   (EqPost (decide (1≤k)&&decide (k≤11)&&((l:Int)==(tabA cdShp k).1)&&((m:Int)==(tabA cdShp k).2.1)&&r&&t) w):=by
 obtain⟨R,hR⟩:=nmq ((decide (1≤k)&&decide (k≤11)&&((l:Int)==(tabA cdShp k).1)&&((m:Int)==(tabA cdShp k).2.1)&&r&&t))
 rw[←hR]
 have HC:=hdq hc
 have HD:=hdq hd
 clear hc hd
 by_cases h1:1≤k
 rotate_left
 ·have HF:=hdq (show R=false from by rw[hR];simp[h1])
  have e1:decide (k < 1)=true:=by simp;omega
  clear hR h1
  go_enter Tryz.func171,Tryz.ntmps171
  go_wp2_with fail
  go_ret
  exact⟨by rw[HF.out];rfl,(Fr.refl _ _).alloc _⟩
 by_cases h2:k≤11
 rotate_left
 ·have HF:=hdq (show R=false from by rw[hR];simp[h2])
  have e1:decide (k < 1)=false:=by simp;omega
  have e2:decide (11 < k)=true:=by simp;omega
  clear hR h1 h2
  go_enter Tryz.func171,Tryz.ntmps171
  go_wp2_with fail
  go_ret
  exact⟨by rw[HF.out];rfl,(Fr.refl _ _).alloc _⟩
 obtain⟨a,o,c2,b,hsh,hidx⟩:=conds_at k h1 h2
 have hta:tabA cdShp k=(a,o,c2,b):=by unfold tabA;rw[hsh];rfl
 rw[hta]at hR
 simp only at hR
 have e1:decide (k < 1)=false:=by simp;omega
 have e2:decide (11 < k)=false:=by simp;omega
 have HRR:=hdq (show R=(((l:Int)==a)&&((m:Int)==o)&&r&&t)from by
  have x1:decide (1≤k)=true:=by simpa using h1
  have x2:decide (k≤11)=true:=by simpa using h2
  rw[hR,x1,x2];simp)
 have HB1:=hdq (Bk.new w 179 #[.int .u8 k,.slice A l c,.slice B m d,.int .i64 at_])
 obtain⟨w1,hw1⟩:=nmq (w.alloc (.cells #[.int .u8 k,.slice A l c,.slice B m d,.int .i64 at_] 179))
 rw[←hw1]at HB1
 have HF1:=hdq (show Fr NoT w w1 from by rw[hw1];exact(Fr.refl _ _).alloc _)
 have HW1:=hdq hw1
 clear hR h1 h2 hsh hta hw1
 all_goals
  go_enter Tryz.func171,Tryz.ntmps171
  go_upto_region 3 with fail
  rw[←HW1.out]
  have k01:=HB1.out.cell 0
  have hl1:=HB1.out.lt
  simp only[getsL]at k01
  go_cut [3] (fun s3 wx=>∃P:Nat,s3= .pointer (some ⟨P,0,none⟩)∧Fr NoT w1 wx∧P < wx.heap.size∧wx.cell? ⟨P,0,none⟩=some (.int .i64 a)∧wx.cell? ⟨P,1,none⟩=some (.int .i64 o)∧wx.cell? ⟨P,2,none⟩=some (.int .i64 c2)∧wx.cell? ⟨P,3,none⟩=some (.bool b))
  case first=>
   go_region_law
    (first
     |(go_simp
       go_at_call 225
       with_reducible refine(conds_tab (w1.alloc (.cells #[.int .i64 0,.int .i64 0,.int .i64 0,.bool false] 270)).drew).mono ?_
       rintro _ w5 ⟨rfl,hb⟩
       have hf5:Fr NoT w1 w5:=(Fr.drew ((Fr.refl _ _).alloc _)).trans (Fr.below hb)
       have hk5:=((Bk.new w1 270 #[.int .i64 0,.int .i64 0,.int .i64 0,.bool false]).fr0 (Fr.drew (Fr.refl NoT _))).fr0 (Fr.below hb)
       have k05:=(HB1.out.fr0 hf5).cell 0
       have z0:=hk5.cell 0
       have z1:=hk5.cell 1
       have z2:=hk5.cell 2
       have z3:=hk5.cell 3
       have y0:=hk5.frozen 0
       have y1:=hk5.frozen 1
       have y2:=hk5.frozen 2
       have y3:=hk5.frozen 3
       have hl5:=(HB1.out.fr0 hf5).lt
       have hl6:=hk5.lt
       simp only[getsL]at k05 z0 z1 z2 z3
       have HF5:=hdq hf5
       have HK5:=hdq hk5
       clear hb hf5 hk5
       dsimp only)
     |(go_simp
       go_at_call 225
       with_reducible refine(conds_tab w1.drew).mono ?_
       rintro _ w5 ⟨rfl,hb⟩
       have hf5:Fr NoT w1 w5:=(Fr.drew (Fr.refl _ _)).trans (Fr.below hb)
       have k05:=(HB1.out.fr0 hf5).cell 0
       simp only[getsL]at k05
       have hl5:=(HB1.out.fr0 hf5).lt
       have HF5:=hdq hf5
       clear hb hf5
       dsimp only))
   all_goals
    go_wp2_with fail
    go_meet
    first
     |(refine⟨_,rfl,HF5.out.alloc _,by simp,?_⟩
       simp)
     |(refine⟨_,rfl,(((HF5.out.high (lrq _) 0 _).high (lrq _) 1 _).high (lrq _) 2 _).high (lrq _) 3 _,by simpa using hl6,?_⟩
       have h:=(((HK5.out.set_ 0 (.int .i64 a)).set_ 1 (.int .i64 o)).set_ 2 (.int .i64 c2)).set_ 3 (.bool b)
       exact⟨h.cell 0,h.cell 1,h.cell 2,h.cell 3⟩)
  case rest=>
   obtain⟨P,rfl,hfx,hP,p0,p1,p2,p3⟩:=hcut
   have hbx:=HB1.out.fr0 hfx
   have b1:=hbx.cell 1
   have b2:=hbx.cell 2
   have hlx:=hbx.lt
   simp only[getsL]at b1 b2
   have HFX:=hdq (HF1.out.trans hfx)
   have HBX:=hdq hbx
   clear hfx hbx k01 hidx
   cases h7:(l:Int)==a
   ·have HF:=hdq (show R=false from by rw[HRR.out,h7];simp)
    go_wp2_with fail
    go_ret
    exact⟨by rw[HF.out];rfl,HFX.out⟩
   cases h8:(m:Int)==o
   ·have HF:=hdq (show R=false from by rw[HRR.out,h7,h8];simp)
    go_wp2_with fail
    go_ret
    exact⟨by rw[HF.out];rfl,HFX.out⟩
   go_wp2_with fail
   refine(HC.out _ HFX.out).mono ?_
   rintro _ w6 ⟨rfl,hb⟩
   have hb6:=HBX.out.fr0 hb
   have b3:=hb6.cell 2
   have hl6:=hb6.lt
   simp only[getsL]at b3
   have HF6:=hdq (HFX.out.trans hb)
   clear hb hb6 b1 b2 p0 p1 p2 p3
   cases r
   ·have HF:=hdq (show R=false from by rw[HRR.out];simp)
    go_wp2_with fail
    go_ret
    exact⟨by rw[HF.out];rfl,HF6.out⟩
   have HF:=hdq (show R=t from by rw[HRR.out,h7,h8];simp)
   go_wp2_with fail
   refine(HD.out _ HF6.out).mono ?_
   rintro _ w7 ⟨rfl,hb⟩
   have HF7:=hdq (HF6.out.trans hb)
   clear hb
   go_wp2_with fail
   go_ret
   exact⟨by rw[HF.out];rfl,HF7.out⟩
theorem cond_asks:∀(xs:Cds) (w:World) (S:Nat→Prop) (Z:Prop),SpEnv w→(∀b,S b→b < w.heap.size)→szC xs→AskCd 171 #[] w S Z okD xs
 | .nil,_,_,_,_,_,_=>fun i _ _ _ _ _ hd=>by cases i<;>simp[Cds.drop]at hd
 | .cons k args of_ at_ rest,w,S,Z,he,hS,hsz=>fun i _ _ _ _ _ hd r1 W A1 q1 A2 q2 hw s1 s2=>by
  cases i with
  |zero=>
   simp only[Cds.drop]at hd
   injection hd with e1 e2 e3 e4 e5
   subst e1 e2 e3 e4 e5
   rw[Array.append_empty]
   refine cond_one k at_ A1 args.len q1 A2 of_.len q2 (okX args) (okC of_) W (leq9 s1.1 s1.2.1.1) (leq9 s2.1 s2.2.1.1) (fun W2 h2=>?_) (fun W2 h2=>?_)
   ·exact exprs_any args A1 q1 W2 S Z (he.keep (hw.trans h2).plain) (fun b hb=>ltq (hS b hb) (hw.trans h2).size) hsz.1 (s1.imp fun _ _ hx=>ExR.keep (h2.same fun b hb=>⟨ltq (hS b hb) hw.size,id⟩) hx)
   ·have hS2:∀b,S b→b < W2.heap.size:=fun b hb=>ltq (hS b hb) (hw.trans h2).size
    have:=allCd_any okD of_ A2 q2 171 #[] W2 S Z hS2 (s2.imp fun _ _ hx=>CdR.keep (h2.same fun b hb=>⟨ltq (hS b hb) hw.size,id⟩) hx) (enters_of Tryz.func171 (by kernel_rfl) rfl) (cond_asks of_ W2 S Z (he.keep (hw.trans h2).plain) hS2 hsz.2.1)
    rw[okC_all]at this
    exact this
  |succ i=>
   simp only[Cds.drop]at hd
   exact cond_asks rest w S Z he hS hsz.2.2 i _ _ _ _ _ hd r1 W A1 q1 A2 q2 hw s1 s2
theorem conds_any (xs:Cds) (A:Option Addr) (c:Nat) (w:World) (S:Nat→Prop) (Z:Prop) (he:SpEnv w) (hS:∀b,S b→b < w.heap.size) (hsz:szC xs) (hx:SlR (fun b o=>CdR w S Z xs b o) xs.len 64 A c):
  Calls Tryz.prog 170 #[.slice A xs.len c,.func (.func 171) #[] #[]] w (EqPost (okC xs) w):=by
 have:=allCd_any okD xs A c 171 #[] w S Z hS hx (enters_of Tryz.func171 (by kernel_rfl) rfl) (cond_asks xs w S Z he hS hsz)
 rw[okC_all]at this
 exact this

def okS:Sts→Bool
 | .nil =>true
 | .cons k nm args cond body els _ r=>(decide (1≤k)&&decide (k≤9)&&nmdB (tabA stShp k).2.2.2 nm&&(decide ((tabA stShp k).1 < 0) || (args.len:Int)==(tabA stShp k).1)&&((cond.len:Int)==(tabA stShp k).2.2.1)&&(k==7 || k==8 || body.len==0)&&(k==7 || els.len==0)&&okX args&&okC cond&&okS body&&okS els)&&okS r
def okT (k:Int) (nm:ByteArray) (args:Exs) (cond:Cds) (body els:Sts) (_:Int):Bool:=decide (1≤k)&&decide (k≤9)&&nmdB (tabA stShp k).2.2.2 nm&&(decide ((tabA stShp k).1 < 0) || (args.len:Int)==(tabA stShp k).1)&&((cond.len:Int)==(tabA stShp k).2.2.1)&&(k==7 || k==8 || body.len==0)&&(k==7 || els.len==0)&&okX args&&okC cond&&okS body&&okS els
theorem okS_all:∀xs,allSt okT xs=okS xs
 | .nil =>rfl
 | .cons k nm args cond body els at_ r=>by simp only[allSt,okS,okT,okS_all r]
def szS:Sts→Prop
 | .nil =>True
 | .cons _ nm args cond body els _ r=>nm.size≤9223372036854775807∧szX args∧szC cond∧szS body∧szS els∧szS r
def AllC (f g:Nat) (w:World) (A:Option Addr) (l c:Nat) (r:Bool):Prop:=∀W,Fr NoT w W→Calls Tryz.prog f #[.slice A l c,.func (.func g) #[] #[]] W (EqPost r W)
end Go.Proofs.YtfomomaomggpbaaGreatDoor
