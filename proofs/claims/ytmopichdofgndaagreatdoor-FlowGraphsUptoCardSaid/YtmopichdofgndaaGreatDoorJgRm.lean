/- print: the tables of shapes. -/
import Derived.Test.YtmopichdofgndaaGreatDoorJgCkA
set_option linter.all false
set_option maxHeartbeats 6400000
set_option maxRecDepth 100000
namespace Go.Proofs.YtmopichdofgndaaGreatDoor
open Go.RowKit Go.Shelf
def shp (a o c:Int)(n:Bool):List Value:= [.int .i64 a,.int .i64 o,.int .i64 c,.bool n]
def za3:List (Int×Int×Int×Bool):= [(0,0,0,false),(0,0,0,false),(1,0,0,true),(2,0,0,true),(0,0,0,true),(0,0,1,false),(0,0,1,false),(0,0,1,false),(0,0,1,false),(-1,0,0,true)]
def zbS:List (Int×Int×Int×Bool):= [(0,0,0,false),(0,0,0,false),(0,0,0,true),(1,0,0,true),(1,0,0,false),(2,0,0,false),(2,0,0,false),(2,0,0,false),(2,0,0,false),(2,0,0,false),(2,0,0,false),(2,0,0,false)]
def zce:List (Int×Int×Int×Bool):= [(0,0,0,false),(0,0,0,false),(0,0,0,false),(2,0,0,false),(2,0,0,false),(2,0,0,false),(2,0,0,false),(2,0,0,false),(2,0,0,false),(0,1,0,false),(0,2,0,false),(0,2,0,false)]
def tabV (l:List (Int×Int×Int×Bool)):Value:= .agg (l.flatMap λx=>shp x.1 x.2.1 x.2.2.1 x.2.2.2).toArray
theorem zbg (w:World):Calls Tryz.prog 125 #[] w λe w'=>e= .returned (tabV za3)/\Below w.heap.size w w':=by
 go_enter Tryz.func125,Tryz.ntmps125;go_wp2_with (first|(refine wpList_build rfl 197 _ rfl (by kernel_rfl) ?_)|(refine wpList_store_row rfl 197 _ _ rfl w.heap.size _ rfl rfl 197 _ (heap_alloc_new _ _) (by kernel_rfl) (by kernel_rfl) (by kernel_rfl) ?_));exact bodyPost_ret (results_cell_row (p:=0) (ty:=197) rfl _ _ w.heap.size 197 _ (0,0) _ rfl (setRow_heap _ _ _ _ _ _ (heap_alloc_new _ _)) Tryz.underlying197 rfl (by kernel_rfl)) rfl ⟨by kernel_rfl,zbT ((Below.refl _ _).alloc (lrq _) _) (lrq _) _⟩
theorem zfE (w:World):Calls Tryz.prog 180 #[] w λe w'=>e= .returned (tabV zbS)/\Below w.heap.size w w':=by
 go_enter Tryz.func180,Tryz.ntmps180;go_wp2_with (first|(refine wpList_build rfl 242 _ rfl (by kernel_rfl) ?_)|(refine wpList_store_row rfl 242 _ _ rfl w.heap.size _ rfl rfl 242 _ ((Below.heap_alloc _ _ _ (by simp)).trans (heap_alloc_new _ _)) (by kernel_rfl) (by kernel_rfl) (by kernel_rfl) ?_));exact bodyPost_ret (results_cell_row (p:=0) (ty:=242) rfl _ _ w.heap.size 242 _ (0,0) _ rfl (setRow_heap _ _ _ _ _ _ ((Below.heap_alloc _ _ _ (by simp)).trans (heap_alloc_new _ _))) Tryz.underlying242 rfl (by kernel_rfl)) rfl ⟨by kernel_rfl,zbT (((Below.refl _ _).alloc (lrq _) _).alloc (by simp) _) (lrq _) _⟩
theorem zfF (w:World):Calls Tryz.prog 183 #[] w λe w'=>e= .returned (tabV zce)/\Below w.heap.size w w':=by
 go_enter Tryz.func183,Tryz.ntmps183;go_wp2_with (first|(refine wpList_build rfl 242 _ rfl (by kernel_rfl) ?_)|(refine wpList_store_row rfl 242 _ _ rfl w.heap.size _ rfl rfl 242 _ ((Below.heap_alloc _ _ _ (by simp)).trans (heap_alloc_new _ _)) (by kernel_rfl) (by kernel_rfl) (by kernel_rfl) ?_));exact bodyPost_ret (results_cell_row (p:=0) (ty:=242) rfl _ _ w.heap.size 242 _ (0,0) _ rfl (setRow_heap _ _ _ _ _ _ ((Below.heap_alloc _ _ _ (by simp)).trans (heap_alloc_new _ _))) Tryz.underlying242 rfl (by kernel_rfl)) rfl ⟨by kernel_rfl,zbT (((Below.refl _ _).alloc (lrq _) _).alloc (by simp) _) (lrq _) _⟩
theorem zkE (k:Int)(h0:1<=k)(h1:k<=9):∃a o c b,za3[k.toNat]?=some (a,o,c,b)/\∀w,(Instr.index 197 (tabV za3) (.int .u8 k)).run Tryz.prog w= .ok (.agg #[.int .i64 a,.int .i64 o,.int .i64 c,.bool b]) w:=by
 have hk:k=1\/k=2\/k=3\/k=4\/k=5\/k=6\/k=7\/k=8\/k=9:=by omega
 rcases hk with rfl|rfl|rfl|rfl|rfl|rfl|rfl|rfl|rfl<;>exact⟨_,_,_,_,rfl,λ_=>by kernel_rfl⟩
theorem zkF (k:Int)(h0:1<=k)(h1:k<=11):∃a o c b,zbS[k.toNat]?=some (a,o,c,b)/\∀w,(Instr.index 242 (tabV zbS) (.int .u8 k)).run Tryz.prog w= .ok (.agg #[.int .i64 a,.int .i64 o,.int .i64 c,.bool b]) w:=by
 have hk:k=1\/k=2\/k=3\/k=4\/k=5\/k=6\/k=7\/k=8\/k=9\/k=10\/k=11:=by omega
 rcases hk with rfl|rfl|rfl|rfl|rfl|rfl|rfl|rfl|rfl|rfl|rfl<;>exact⟨_,_,_,_,rfl,λ_=>by kernel_rfl⟩
theorem zkG (k:Int)(h0:1<=k)(h1:k<=11):∃a o c b,zce[k.toNat]?=some (a,o,c,b)/\∀w,(Instr.index 242 (tabV zce) (.int .u8 k)).run Tryz.prog w= .ok (.agg #[.int .i64 a,.int .i64 o,.int .i64 c,.bool b]) w:=by
 have hk:k=1\/k=2\/k=3\/k=4\/k=5\/k=6\/k=7\/k=8\/k=9\/k=10\/k=11:=by omega
 rcases hk with rfl|rfl|rfl|rfl|rfl|rfl|rfl|rfl|rfl|rfl|rfl<;>exact⟨_,_,_,_,rfl,λ_=>by kernel_rfl⟩
def nmdB (is:Bool)(nm:ByteArray):Bool:=if is then zak nm.data.toList else(nm.toList== [])
theorem zbo (is:Bool)(nm:ByteArray)(hs:nm.size<=9223372036854775807)(w:World)(he:SpEnv w):Calls Tryz.prog 126 #[.bool is,.string nm] w (zae (nmdB is nm) w):=by
 have H1:=hdq (zeR nm hs w he);clear he;cases is
 ·obtain⟨b,hb⟩:=nmq ((nm.toList== []));have e0:(⟨#[]⟩:ByteArray).toList = []:=by decide+kernel
  have HB:=hdq (show nmdB false nm=b from hb.symm);clear H1;cases b
  ·have e1:=hb.symm;clear hb;go_enter Tryz.func126,Tryz.ntmps126;go_wp2_with fail;go_ret;exact⟨by rw[HB.out];rfl,Fr.refl _ _⟩
  ·have e1:=hb.symm;clear hb;go_enter Tryz.func126,Tryz.ntmps126;go_wp2_with fail;go_ret;exact⟨by rw[HB.out];rfl,Fr.refl _ _⟩
 ·obtain⟨b,hb⟩:=nmq (zak nm.data.toList);have HB:=hdq (show nmdB true nm=b from hb.symm);rw[<-hb]at H1;clear hb;cases b;all_goals
   go_enter Tryz.func126,Tryz.ntmps126;go_wp2_with fail;refine H1.mono ?_;rintro _ w1 ⟨rfl,hb⟩;have HF:=hdq (show Fr NoT w w1 from Fr.below hb);clear hb;go_wp2_with fail;go_ret;exact⟨by rw[HB.out];rfl,HF.out⟩
def tabA (l:List (Int×Int×Int×Bool))(k:Int):Int×Int×Int×Bool:=(l[k.toNat]?).getD (0,0,0,false)
def okX:Exs->Bool
 | .nil =>true
 | .cons k nm n args _ r=>(decide (1<=k)&&decide (k<=11)&&decide (0<=n)&&(decide (n<=0) || k==1)&&nmdB (tabA zbS k).2.2.2 nm&&((args.len:Int)==(tabA zbS k).1)&&okX args)&&okX r
def okE (k:Int)(nm:ByteArray)(n:Int)(args:Exs)(_:Int):Bool:=decide (1<=k)&&decide (k<=11)&&decide (0<=n)&&(decide (n<=0) || k==1)&&nmdB (tabA zbS k).2.2.2 nm&&((args.len:Int)==(tabA zbS k).1)&&okX args
theorem zgo:∀xs,zcq okE xs=okX xs
 | .nil =>rfl
 | .cons k nm n args at_ r=>by simp only[zcq,okX,okE,zgo r]
def szX:Exs->Prop
 | .nil =>True
 | .cons _ nm _ args _ r=>nm.size<=9223372036854775807/\szX args/\szX r
theorem zkH (k:Int)(nm:ByteArray)(n:Int)(at_:Int)(A:Option Addr)(l c:Nat)(r:Bool)(w:World)(he:SpEnv w)(hs:nm.size<=9223372036854775807)(hl:l<=9223372036854775807)
  (hc:∀W,Fr NoT w W->Calls Tryz.prog 127 #[.slice A l c,.func (.func 128) #[] #[]] W (zae r W)):
  Calls Tryz.prog 128 #[.agg #[.int .u8 k,.string nm,.int .i64 n,.slice A l c,.int .i64 at_]] w
   (zae (decide (1<=k)&&decide (k<=11)&&decide (0<=n)&&(decide (n<=0) || k==1)&&nmdB (tabA zbS k).2.2.2 nm&&((l:Int)==(tabA zbS k).1)&&r) w):=by
 obtain⟨R,hR⟩:=nmq ((decide (1<=k)&&decide (k<=11)&&decide (0<=n)&&(decide (n<=0) || k==1)&&nmdB (tabA zbS k).2.2.2 nm&&((l:Int)==(tabA zbS k).1)&&r));rw[<-hR];have HC:=hdq hc;have HE:=hdq he;have HS:=hdq hs;clear hc he hs;by_cases h1:1<=k
 rotate_left
 ·have HF:=hdq (show R=false from by rw[hR];simp[h1]);have e1:decide (k < 1)=true:=by simp;omega
  clear hR h1;go_enter Tryz.func128,Tryz.ntmps128;go_wp2_with fail;go_ret;exact⟨by rw[HF.out];rfl,(Fr.refl _ _).alloc _⟩
 by_cases h2:k<=11
 rotate_left
 ·have HF:=hdq (show R=false from by rw[hR];simp[h2]);have e1:decide (k < 1)=false:=by simp;omega
  have e2:decide (11 < k)=true:=by simp;omega
  clear hR h1 h2;go_enter Tryz.func128,Tryz.ntmps128;go_wp2_with fail;go_ret;exact⟨by rw[HF.out];rfl,(Fr.refl _ _).alloc _⟩
 obtain⟨a,o,c2,b,Ps,JU⟩:=zkF k h1 h2;have Ph:tabA zbS k=(a,o,c2,b):=by unfold tabA;rw[Ps];rfl
 rw[Ph]at hR;simp only at hR;have e1:decide (k < 1)=false:=by simp;omega
 have e2:decide (11 < k)=false:=by simp;omega
 by_cases h3:0<=n
 rotate_left
 ·have HF:=hdq (show R=false from by rw[hR];simp[h3]);have e3:decide (n < 0)=true:=by simp;omega
  clear hR h1 h2 h3 JU Ps Ph;go_enter Tryz.func128,Tryz.ntmps128;go_wp2_with fail;go_ret;exact⟨by rw[HF.out];rfl,(Fr.refl _ _).alloc _⟩
 have e3:decide (n < 0)=false:=by simp;omega
 by_cases h4:0 < n/\k≠1
 ·have HF:=hdq (show R=false from by
   rw[hR];have x1:decide (n<=0)=false:=by simp;omega
   have x2:(k==1)=false:=by simpa using h4.2
   rw[x1,x2];simp)
  have e4:decide (0 < n)=true:=by simpa using h4.1
  have e5:(k != 1)=true:=by simpa using h4.2
  clear hR h1 h2 h3 h4 JU Ps Ph;go_enter Tryz.func128,Tryz.ntmps128;go_wp2_with fail;go_ret;exact⟨by rw[HF.out];rfl,(Fr.refl _ _).alloc _⟩
 have FQ:(decide (n<=0) || k==1)=true:=by
  by_cases h:n<=0
  ·simp[h]
  ·have:k=1:=by
    refine Decidable.byContradiction λhk=>h4 ⟨by omega,hk⟩
   simp[this]
 have FJ:=hdq (show R=(nmdB b nm&&((l:Int)==a)&&r)from by
  have x1:decide (1<=k)=true:=by simpa using h1
  have x2:decide (k<=11)=true:=by simpa using h2
  have x3:decide (0<=n)=true:=by simpa using h3
  rw[hR,FQ,x1,x2,x3];simp)
 have hn:decide (0 < n)=false\/(decide (0 < n)=true/\(k != 1)=false):=by
  by_cases h:0 < n
  ·right
   refine⟨by simpa using h,?_⟩;have:k=1:=Decidable.byContradiction λhk=>h4 ⟨h,hk⟩;simp[this]
  ·left;simpa using h
 have F4:=hdq (λ(W:World)(h:Fr NoT w W)=>zbo b nm HS.out W (HE.keep h.plain));obtain⟨q,hq⟩:=nmq (nmdB b nm);rw[<-hq]at F4 FJ;have Hu:=hdq (Bk.new w 41 #[.int .u8 k,.string nm,.int .i64 n,.slice A l c,.int .i64 at_]);obtain⟨w1,Hc⟩:=nmq (w.alloc (.cells #[.int .u8 k,.string nm,.int .i64 n,.slice A l c,.int .i64 at_] 41));rw[<-Hc]at Hu;have Hn:=hdq (show Fr NoT w w1 from by rw[Hc];exact(Fr.refl _ _).alloc _);have Ga:=hdq Hc;clear hR h1 h2 h3 h4 Ps Ph FQ hq Hc;rcases hn with e4|⟨e4,e5⟩;all_goals
  go_enter Tryz.func128,Tryz.ntmps128
  go_upto_region 3 with fail
  rw[<-Ga.out];have k01:=Hu.cell 0;have Hv:=Hu.lt;simp only[getsL]at k01;go_cut [3] (λs3 wx=>∃P:Nat,s3= .pointer (some ⟨P,0,none⟩)/\Fr NoT w1 wx/\P < wx.heap.size/\wx.cell? ⟨P,0,none⟩=some (.int .i64 a)/\wx.cell? ⟨P,1,none⟩=some (.int .i64 o)/\wx.cell? ⟨P,2,none⟩=some (.int .i64 c2)/\wx.cell? ⟨P,3,none⟩=some (.bool b));case first=>
   go_region_law
    (first
     |(go_simp
       go_at_call 180
       with_reducible refine(zfE (w1.alloc (.cells #[.int .i64 0,.int .i64 0,.int .i64 0,.bool false] 196)).drew).mono ?_
       rintro _ w5 ⟨rfl,hb⟩;have Hs:Fr NoT w1 w5:=(Fr.drew ((Fr.refl _ _).alloc _)).trans (Fr.below hb);have Hm:=((Bk.new w1 196 #[.int .i64 0,.int .i64 0,.int .i64 0,.bool false]).fr0 (Fr.drew (Fr.refl NoT _))).fr0 (Fr.below hb);have k05:=(Hu.fr0 Hs).cell 0;have z0:=Hm.cell 0;have z1:=Hm.cell 1;have z2:=Hm.cell 2;have z3:=Hm.cell 3;have y0:=Hm.frozen 0;have y1:=Hm.frozen 1;have y2:=Hm.frozen 2;have y3:=Hm.frozen 3;have GN:=(Hu.fr0 Hs).lt;have Jc:=Hm.lt;simp only[getsL]at k05 z0 z1 z2 z3;have Hx:=hdq Hs;have GO:=hdq Hm;clear hb Hs Hm;dsimp only)
     |(go_simp
       go_at_call 180
       with_reducible refine(zfE w1.drew).mono ?_
       rintro _ w5 ⟨rfl,hb⟩;have Hs:Fr NoT w1 w5:=(Fr.drew (Fr.refl _ _)).trans (Fr.below hb);have k05:=(Hu.fr0 Hs).cell 0;simp only[getsL]at k05;have GN:=(Hu.fr0 Hs).lt;have Hx:=hdq Hs;clear hb Hs;dsimp only))
   all_goals
    go_wp2_with fail
    go_meet
    first
     |(refine⟨_,rfl,Hx.alloc _,by simp,?_⟩
       simp)
     |(refine⟨_,rfl,(((Hx.high (lrq _) 0 _).high (lrq _) 1 _).high (lrq _) 2 _).high (lrq _) 3 _,by simpa using Jc,?_⟩
       have h:=(((GO.set_ 0 (.int .i64 a)).set_ 1 (.int .i64 o)).set_ 2 (.int .i64 c2)).set_ 3 (.bool b);exact⟨h.cell 0,h.cell 1,h.cell 2,h.cell 3⟩)
  case rest=>
   obtain⟨P,rfl,Kk,hP,p0,p1,p2,p3⟩:=hcut;have GZ:=Hu.fr0 Kk;have b1:=GZ.cell 1;have Q3:=GZ.lt;simp only[getsL]at b1;have K4:=hdq (Hn.trans Kk);have GC:=hdq GZ;clear Kk GZ k01 JU;go_wp2_with fail;refine(F4 _ K4.out).mono ?_;rintro _ w6 ⟨rfl,hb⟩;have Gg:=GC.fr0 hb;have b3:=Gg.cell 3;have Jc:=Gg.lt;have p0':=(hb.cell (p:=⟨P,0,none⟩) hP id).trans p0;have gt:=ltq hP hb.size;simp only[getsL]at b3;have GF:=hdq (K4.trans hb);clear hb Gg b1 p0 p1 p2 p3;cases q
   ·have HF:=hdq (show R=false from by rw[FJ.out];simp);go_wp2_with fail;go_ret;exact⟨by rw[HF.out];rfl,GF.out⟩
   cases h7:(l:Int)==a
   ·have HF:=hdq (show R=false from by rw[FJ.out,h7];simp);go_wp2_with fail;go_ret;exact⟨by rw[HF.out];rfl,GF.out⟩
   have HF:=hdq (show R=r from by rw[FJ.out,h7];simp);go_wp2_with fail;refine(HC _ GF.out).mono ?_;rintro _ w7 ⟨rfl,hb⟩;have JG:=hdq (GF.trans hb);clear hb;go_wp2_with fail;go_ret;exact⟨by rw[HF.out];rfl,JG.out⟩
theorem zdt:∀(xs:Exs)(w:World)(S:Nat->Prop)(Z:Prop),SpEnv w->(∀b,S b->b < w.heap.size)->szX xs->AskEx 128 #[] w S Z okE xs
 | .nil,_,_,_,_,_,_=>λi _ _ _ _ _ _ hd=>by cases i<;>simp[Exs.drop]at hd
 | .cons k nm n args at_ rest,w,S,Z,he,hS,Ht=>λi _ _ _ _ _ _ hd r1 r2 W A3 q3 hw s3=>by
  cases i with
  |zero=>
   simp only[Exs.drop]at hd;injection hd with e1 e2 e3 e4 e5 e6;subst e1 e2 e3 e4 e5 e6;rw[Array.append_empty];refine zkH k nm n at_ A3 args.len q3 (okX args) W (he.keep hw.plain) Ht.1 (leq9 s3.1 s3.2.1.1) λW2 h2=>?_;have Pi:∀b,S b->b < W2.heap.size:=λb hb=>ltq (hS b hb) (hw.trans h2).size;have:=zfB okE args A3 q3 128 #[] W2 S Z Pi (s3.imp λ_ _ hx=>ExR.keep (h2.same λb hb=>⟨ltq (hS b hb) hw.size,id⟩) hx) (enters_of Tryz.func128 (by kernel_rfl) rfl) (zdt args W2 S Z (he.keep (hw.trans h2).plain) Pi Ht.2.1);rw[zgo]at this;exact this
  |succ i=>
   simp only[Exs.drop]at hd;exact zdt rest w S Z he hS Ht.2.2 i _ _ _ _ _ _ hd r1 r2 W A3 q3 hw s3
theorem zfG (xs:Exs)(A:Option Addr)(c:Nat)(w:World)(S:Nat->Prop)(Z:Prop)(he:SpEnv w)(hS:∀b,S b->b < w.heap.size)(Ht:szX xs)(hx:SlR (λb o=>ExR w S Z xs b o) xs.len 64 A c):
  Calls Tryz.prog 127 #[.slice A xs.len c,.func (.func 128) #[] #[]] w (zae (okX xs) w):=by
 have:=zfB okE xs A c 128 #[] w S Z hS hx (enters_of Tryz.func128 (by kernel_rfl) rfl) (zdt xs w S Z he hS Ht);rw[zgo]at this;exact this
def okC:Cds->Bool
 | .nil =>true
 | .cons k args of_ _ r=>(decide (1<=k)&&decide (k<=11)&&((args.len:Int)==(tabA zce k).1)&&((of_.len:Int)==(tabA zce k).2.1)&&okX args&&okC of_)&&okC r
def okD (k:Int)(args:Exs)(of_:Cds)(_:Int):Bool:=decide (1<=k)&&decide (k<=11)&&((args.len:Int)==(tabA zce k).1)&&((of_.len:Int)==(tabA zce k).2.1)&&okX args&&okC of_
theorem zgp:∀xs,zcr okD xs=okC xs
 | .nil =>rfl
 | .cons k args of_ at_ r=>by simp only[zcr,okC,okD,zgp r]
def szC:Cds->Prop
 | .nil =>True
 | .cons _ args of_ _ r=>szX args/\szC of_/\szC r
theorem zkI (k:Int)(at_:Int)(A:Option Addr)(l c:Nat)(B:Option Addr)(m d:Nat)(r t:Bool)(w:World)(hl:l<=9223372036854775807)(hm:m<=9223372036854775807)
  (hc:∀W,Fr NoT w W->Calls Tryz.prog 127 #[.slice A l c,.func (.func 128) #[] #[]] W (zae r W))
  (hd:∀W,Fr NoT w W->Calls Tryz.prog 129 #[.slice B m d,.func (.func 130) #[] #[]] W (zae t W)):
  Calls Tryz.prog 130 #[.agg #[.int .u8 k,.slice A l c,.slice B m d,.int .i64 at_]] w
   (zae (decide (1<=k)&&decide (k<=11)&&((l:Int)==(tabA zce k).1)&&((m:Int)==(tabA zce k).2.1)&&r&&t) w):=by
 obtain⟨R,hR⟩:=nmq ((decide (1<=k)&&decide (k<=11)&&((l:Int)==(tabA zce k).1)&&((m:Int)==(tabA zce k).2.1)&&r&&t));rw[<-hR];have HC:=hdq hc;have HD:=hdq hd;clear hc hd;by_cases h1:1<=k
 rotate_left
 ·have HF:=hdq (show R=false from by rw[hR];simp[h1]);have e1:decide (k < 1)=true:=by simp;omega
  clear hR h1;go_enter Tryz.func130,Tryz.ntmps130;go_wp2_with fail;go_ret;exact⟨by rw[HF.out];rfl,(Fr.refl _ _).alloc _⟩
 by_cases h2:k<=11
 rotate_left
 ·have HF:=hdq (show R=false from by rw[hR];simp[h2]);have e1:decide (k < 1)=false:=by simp;omega
  have e2:decide (11 < k)=true:=by simp;omega
  clear hR h1 h2;go_enter Tryz.func130,Tryz.ntmps130;go_wp2_with fail;go_ret;exact⟨by rw[HF.out];rfl,(Fr.refl _ _).alloc _⟩
 obtain⟨a,o,c2,b,Ps,JU⟩:=zkG k h1 h2;have Ph:tabA zce k=(a,o,c2,b):=by unfold tabA;rw[Ps];rfl
 rw[Ph]at hR;simp only at hR;have e1:decide (k < 1)=false:=by simp;omega
 have e2:decide (11 < k)=false:=by simp;omega
 have FJ:=hdq (show R=(((l:Int)==a)&&((m:Int)==o)&&r&&t)from by
  have x1:decide (1<=k)=true:=by simpa using h1
  have x2:decide (k<=11)=true:=by simpa using h2
  rw[hR,x1,x2];simp)
 have Hu:=hdq (Bk.new w 160 #[.int .u8 k,.slice A l c,.slice B m d,.int .i64 at_]);obtain⟨w1,Hc⟩:=nmq (w.alloc (.cells #[.int .u8 k,.slice A l c,.slice B m d,.int .i64 at_] 160));rw[<-Hc]at Hu;have Hn:=hdq (show Fr NoT w w1 from by rw[Hc];exact(Fr.refl _ _).alloc _);have Ga:=hdq Hc;clear hR h1 h2 Ps Ph Hc;all_goals
  go_enter Tryz.func130,Tryz.ntmps130
  go_upto_region 3 with fail
  rw[<-Ga.out];have k01:=Hu.cell 0;have Hv:=Hu.lt;simp only[getsL]at k01;go_cut [3] (λs3 wx=>∃P:Nat,s3= .pointer (some ⟨P,0,none⟩)/\Fr NoT w1 wx/\P < wx.heap.size/\wx.cell? ⟨P,0,none⟩=some (.int .i64 a)/\wx.cell? ⟨P,1,none⟩=some (.int .i64 o)/\wx.cell? ⟨P,2,none⟩=some (.int .i64 c2)/\wx.cell? ⟨P,3,none⟩=some (.bool b));case first=>
   go_region_law
    (first
     |(go_simp
       go_at_call 183
       with_reducible refine(zfF (w1.alloc (.cells #[.int .i64 0,.int .i64 0,.int .i64 0,.bool false] 196)).drew).mono ?_
       rintro _ w5 ⟨rfl,hb⟩;have Hs:Fr NoT w1 w5:=(Fr.drew ((Fr.refl _ _).alloc _)).trans (Fr.below hb);have Hm:=((Bk.new w1 196 #[.int .i64 0,.int .i64 0,.int .i64 0,.bool false]).fr0 (Fr.drew (Fr.refl NoT _))).fr0 (Fr.below hb);have k05:=(Hu.fr0 Hs).cell 0;have z0:=Hm.cell 0;have z1:=Hm.cell 1;have z2:=Hm.cell 2;have z3:=Hm.cell 3;have y0:=Hm.frozen 0;have y1:=Hm.frozen 1;have y2:=Hm.frozen 2;have y3:=Hm.frozen 3;have GN:=(Hu.fr0 Hs).lt;have Jc:=Hm.lt;simp only[getsL]at k05 z0 z1 z2 z3;have Hx:=hdq Hs;have GO:=hdq Hm;clear hb Hs Hm;dsimp only)
     |(go_simp
       go_at_call 183
       with_reducible refine(zfF w1.drew).mono ?_
       rintro _ w5 ⟨rfl,hb⟩;have Hs:Fr NoT w1 w5:=(Fr.drew (Fr.refl _ _)).trans (Fr.below hb);have k05:=(Hu.fr0 Hs).cell 0;simp only[getsL]at k05;have GN:=(Hu.fr0 Hs).lt;have Hx:=hdq Hs;clear hb Hs;dsimp only))
   all_goals
    go_wp2_with fail
    go_meet
    first
     |(refine⟨_,rfl,Hx.alloc _,by simp,?_⟩
       simp)
     |(refine⟨_,rfl,(((Hx.high (lrq _) 0 _).high (lrq _) 1 _).high (lrq _) 2 _).high (lrq _) 3 _,by simpa using Jc,?_⟩
       have h:=(((GO.set_ 0 (.int .i64 a)).set_ 1 (.int .i64 o)).set_ 2 (.int .i64 c2)).set_ 3 (.bool b);exact⟨h.cell 0,h.cell 1,h.cell 2,h.cell 3⟩)
  case rest=>
   obtain⟨P,rfl,Kk,hP,p0,p1,p2,p3⟩:=hcut;have GZ:=Hu.fr0 Kk;have b1:=GZ.cell 1;have b2:=GZ.cell 2;have Q3:=GZ.lt;simp only[getsL]at b1 b2;have K4:=hdq (Hn.trans Kk);have GC:=hdq GZ;clear Kk GZ k01 JU;cases h7:(l:Int)==a
   ·have HF:=hdq (show R=false from by rw[FJ.out,h7];simp);go_wp2_with fail;go_ret;exact⟨by rw[HF.out];rfl,K4.out⟩
   cases h8:(m:Int)==o
   ·have HF:=hdq (show R=false from by rw[FJ.out,h7,h8];simp);go_wp2_with fail;go_ret;exact⟨by rw[HF.out];rfl,K4.out⟩
   go_wp2_with fail;refine(HC _ K4.out).mono ?_;rintro _ w6 ⟨rfl,hb⟩;have Gg:=GC.fr0 hb;have b3:=Gg.cell 2;have Jc:=Gg.lt;simp only[getsL]at b3;have GF:=hdq (K4.trans hb);clear hb Gg b1 b2 p0 p1 p2 p3;cases r
   ·have HF:=hdq (show R=false from by rw[FJ.out];simp);go_wp2_with fail;go_ret;exact⟨by rw[HF.out];rfl,GF.out⟩
   have HF:=hdq (show R=t from by rw[FJ.out,h7,h8];simp);go_wp2_with fail;refine(HD _ GF.out).mono ?_;rintro _ w7 ⟨rfl,hb⟩;have JG:=hdq (GF.trans hb);clear hb;go_wp2_with fail;go_ret;exact⟨by rw[HF.out];rfl,JG.out⟩
theorem zdu:∀(xs:Cds)(w:World)(S:Nat->Prop)(Z:Prop),SpEnv w->(∀b,S b->b < w.heap.size)->szC xs->AskCd 130 #[] w S Z okD xs
 | .nil,_,_,_,_,_,_=>λi _ _ _ _ _ hd=>by cases i<;>simp[Cds.drop]at hd
 | .cons k args of_ at_ rest,w,S,Z,he,hS,Ht=>λi _ _ _ _ _ hd r1 W A1 q1 A2 q2 hw s1 s2=>by
  cases i with
  |zero=>
   simp only[Cds.drop]at hd;injection hd with e1 e2 e3 e4 e5;subst e1 e2 e3 e4 e5;rw[Array.append_empty];refine zkI k at_ A1 args.len q1 A2 of_.len q2 (okX args) (okC of_) W (leq9 s1.1 s1.2.1.1) (leq9 s2.1 s2.2.1.1) (λW2 h2=>?_) (λW2 h2=>?_)
   ·exact zfG args A1 q1 W2 S Z (he.keep (hw.trans h2).plain) (λb hb=>ltq (hS b hb) (hw.trans h2).size) Ht.1 (s1.imp λ_ _ hx=>ExR.keep (h2.same λb hb=>⟨ltq (hS b hb) hw.size,id⟩) hx)
   ·have Pi:∀b,S b->b < W2.heap.size:=λb hb=>ltq (hS b hb) (hw.trans h2).size;have:=zfC okD of_ A2 q2 130 #[] W2 S Z Pi (s2.imp λ_ _ hx=>CdR.keep (h2.same λb hb=>⟨ltq (hS b hb) hw.size,id⟩) hx) (enters_of Tryz.func130 (by kernel_rfl) rfl) (zdu of_ W2 S Z (he.keep (hw.trans h2).plain) Pi Ht.2.1);rw[zgp]at this;exact this
  |succ i=>
   simp only[Cds.drop]at hd;exact zdu rest w S Z he hS Ht.2.2 i _ _ _ _ _ hd r1 W A1 q1 A2 q2 hw s1 s2
theorem ziW (xs:Cds)(A:Option Addr)(c:Nat)(w:World)(S:Nat->Prop)(Z:Prop)(he:SpEnv w)(hS:∀b,S b->b < w.heap.size)(Ht:szC xs)(hx:SlR (λb o=>CdR w S Z xs b o) xs.len 64 A c):
  Calls Tryz.prog 129 #[.slice A xs.len c,.func (.func 130) #[] #[]] w (zae (okC xs) w):=by
 have:=zfC okD xs A c 130 #[] w S Z hS hx (enters_of Tryz.func130 (by kernel_rfl) rfl) (zdu xs w S Z he hS Ht);rw[zgp]at this;exact this
def okS:Sts->Bool
 | .nil =>true
 | .cons k nm args cond body els _ r=>(decide (1<=k)&&decide (k<=9)&&nmdB (tabA za3 k).2.2.2 nm&&(decide ((tabA za3 k).1 < 0) || (args.len:Int)==(tabA za3 k).1)&&((cond.len:Int)==(tabA za3 k).2.2.1)&&(k==7 || k==8 || body.len==0)&&(k==7 || els.len==0)&&okX args&&okC cond&&okS body&&okS els)&&okS r
def okT (k:Int)(nm:ByteArray)(args:Exs)(cond:Cds)(body els:Sts)(_:Int):Bool:=decide (1<=k)&&decide (k<=9)&&nmdB (tabA za3 k).2.2.2 nm&&(decide ((tabA za3 k).1 < 0) || (args.len:Int)==(tabA za3 k).1)&&((cond.len:Int)==(tabA za3 k).2.2.1)&&(k==7 || k==8 || body.len==0)&&(k==7 || els.len==0)&&okX args&&okC cond&&okS body&&okS els
theorem zeU:∀xs,zcs okT xs=okS xs
 | .nil =>rfl
 | .cons k nm args cond body els at_ r=>by simp only[zcs,okS,okT,zeU r]
def szS:Sts->Prop
 | .nil =>True
 | .cons _ nm args cond body els _ r=>nm.size<=9223372036854775807/\szX args/\szC cond/\szS body/\szS els/\szS r
def AllC (f g:Nat)(w:World)(A:Option Addr)(l c:Nat)(r:Bool):Prop:=∀W,Fr NoT w W->Calls Tryz.prog f #[.slice A l c,.func (.func g) #[] #[]] W (zae r W)
theorem zkJ {l:List UInt8}(h:zak l=true):l≠ []:=by
 rintro rfl;exact absurd h (by decide)
theorem zhK (a:ByteArray):(a.toList== [])=decide (a.data.toList= []):=by
 rw[Bool.eq_iff_iff];simp only[beq_iff_eq,decide_eq_true_eq];constructor
 ·intro h;have:=congrArg List.length h;simpa[ByteArray.toList_eq]using h
 ·intro h;simpa[ByteArray.toList_eq]using h
theorem zcf {nm:ByteArray}(h:zak nm.data.toList=true):nmdB false nm=false:=by
 show(nm.toList== [])=false
 rw[zhK];have:=zkJ h;simpa using this
set_option hygiene false in
macro "nm_walk" :tactic=> `(tactic|(
 go_enter Tryz.func228,Tryz.ntmps228;go_wp2_with fail;refine(F4 _).mono ?_;rintro _ w2 ⟨rfl,hb⟩;have He:=Hu.fr0 (Fr.below hb);have Hy:=hdq (Hn.trans (Fr.below hb));have c0:=He.cell 0;have c1:=He.cell 1;have c3:=He.cell 3;have Hv:=He.lt;simp only[getsL]at c0 c1 c3;clear hb He;cases q<;>cases b;all_goals
  first
   |exact absurd (HQ rfl) (by decide)
   |(go_wp2_with fail
     go_ret;exact⟨by rw[HF.out];simp,Hy.out⟩)
   |(go_wp2_with fail
     refine(HC _ _ Hy.out).mono ?_;rintro _ w3 ⟨rfl,hb⟩;have Gc:=hdq (Hy.trans hb);clear hb;go_wp2_with fail;go_ret;exact⟨by rw[HF.out];simp,Gc.out⟩)))
theorem ziX (k:Int)(nm:ByteArray)(n:Int)(at_:Int)(A:Option Addr)(l c:Nat)(r:Bool)(w:World)(hs:nm.size<=9223372036854775807)
  (hc:∀W (many:Int),Fr NoT w W->Calls Tryz.prog 204 #[.slice A l c,.int .i64 many] W (zae (((l:Int)==many)&&r) W)):
  Calls Tryz.prog 228 #[.agg #[.int .u8 k,.string nm,.int .i64 n,.slice A l c,.int .i64 at_]] w
   (zae (decide (1<=k)&&decide (k<=11)&&decide (0<=n)&&(decide (n<=0) || k==1)&&nmdB (tabA zbS k).2.2.2 nm&&((l:Int)==(tabA zbS k).1)&&r) w):=by
 obtain⟨R,hR⟩:=nmq ((decide (1<=k)&&decide (k<=11)&&decide (0<=n)&&(decide (n<=0) || k==1)&&nmdB (tabA zbS k).2.2.2 nm&&((l:Int)==(tabA zbS k).1)&&r));rw[<-hR];have HC:=hdq hc;have F4:=hdq (λ(W:World)=>zaE nm hs W);clear hc hs;have Hi:Fr NoT w (w.alloc (.cells #[.int .u8 k,.string nm,.int .i64 n,.slice A l c,.int .i64 at_] 41)):=(Fr.refl _ _).alloc _;have Hn:=hdq Hi;have Hu:=hdq (Bk.new w 41 #[.int .u8 k,.string nm,.int .i64 n,.slice A l c,.int .i64 at_]);clear Hi
 -- what the kind says
 have hk:(k < 1\/11 < k)\/((1<=k/\k<=11)/\∃nd a,(tabA zbS k).2.2.2 =nd/\(tabA zbS k).1 =a/\((k=1/\nd=false/\a=0)\/(k=2/\nd=true/\a=0)\/(k=3/\nd=true/\a=1)\/(k=4/\nd=false/\a=1)\/(5<=k/\k<=11/\nd=false/\a=2))):=by
  by_cases h:k < 1\/11 < k
  ·exact .inl h
  right
  have h1:1<=k/\k<=11:=by omega
  refine⟨h1,_,_,rfl,rfl,?_⟩;have:k=1\/k=2\/k=3\/k=4\/k=5\/k=6\/k=7\/k=8\/k=9\/k=10\/k=11:=by omega
  rcases this with rfl|rfl|rfl|rfl|rfl|rfl|rfl|rfl|rfl|rfl|rfl<;>decide
 rcases hk with hk|⟨JP,nd,a,Fa,ha,hk⟩
 ·have HF:=hdq (show R=false from by
   rw[hR];rcases hk with h|h
   ·rw[show decide (1<=k)=false from by simp;omega];simp
   ·rw[show decide (k<=11)=false from by simp;omega];simp)
  have g1:(k==1)=false:=by simp;omega
  have g2:(k==2)=false:=by simp;omega
  have g3:(k==3)=false:=by simp;omega
  have g4:(k==4)=false:=by simp;omega
  rcases hk with h|h
  ·have e1:decide (k < 1)=true:=by simp;omega
   clear hR h Hu;go_enter Tryz.func228,Tryz.ntmps228;go_wp2_with fail;go_ret;exact⟨by rw[HF.out];rfl,Hn.out⟩
  ·have e1:decide (k < 1)=false:=by simp;omega
   have e2:decide (11 < k)=true:=by simp;omega
   clear hR h Hu;go_enter Tryz.func228,Tryz.ntmps228;go_wp2_with fail;go_ret;exact⟨by rw[HF.out];rfl,Hn.out⟩
 have gu:R=(decide (0<=n)&&(decide (n<=0) || k==1)&&nmdB nd nm&&((l:Int)==a)&&r):=by
  rw[hR,Fa,ha,show decide (1<=k)=true from by simpa using JP.1,show decide (k<=11)=true from by simpa using JP.2];simp
 clear hR Fa ha;obtain⟨q,hq⟩:=nmq (zak nm.data.toList);obtain⟨b,hb⟩:=nmq ((nm.toList== []));have Gk:q=true->b=false:=λh=>by
  have:=zcf (nm:=nm) (by rw[<-hq];exact h);rw[hb];exact this
 have Fa:nmdB nd nm=if nd then q else b:=by unfold nmdB;rw[hq,hb]
 rw[Fa]at gu;rw[<-hq]at F4;have eb:(nm.toList== [])=b:=hb.symm;have eb2:(nm.toList != [])= !b:=by rw[hb];rfl
 clear hq hb Fa;have Th:n < 0\/n=0\/(0 < n/\k=1)\/(0 < n/\k≠1):=by omega
 have hx:n < 0\/(0 < n/\k≠1)->R=false:=λh=>by
  rw[gu];rcases h with h|⟨h,h2⟩
  ·rw[show decide (0<=n)=false from by simp;omega];simp
  ·rw[show decide (n<=0)=false from by simp;omega,show(k==1)=false from by simpa using h2];simp
 have hy:n=0\/(0 < n/\k=1)->R=((if nd then q else b)&&((l:Int)==a)&&r):=λh=>by
  rw[gu,show decide (0<=n)=true from by simp;omega,show(decide (n<=0) || k==1)=true from by rcases h with h|⟨h,h2⟩<;>simp[*]];simp
 have HX:=hdq hx;have HY:=hdq hy;have HQ:=hdq Gk;clear gu hx hy Gk;rcases hk with⟨rfl,rfl,rfl⟩|⟨rfl,rfl,rfl⟩|⟨rfl,rfl,rfl⟩|⟨rfl,rfl,rfl⟩|⟨h5,Vz,rfl,rfl⟩
 case' inr.inr.inr.inr=>
  have g1:(k==1)=false:=by simp;omega
  have g2:(k==2)=false:=by simp;omega
  have g3:(k==3)=false:=by simp;omega
  have g4:(k==4)=false:=by simp;omega
  have g5:(k != 1)=true:=by simp;omega
  have g6:decide (k < 1)=false:=by simp;omega
  have g7:decide (11 < k)=false:=by simp;omega
 all_goals
  rcases Th with h|rfl|⟨h,Hp⟩|⟨h,Hp⟩
  ·have HF:=hdq (HX (.inl h));have e3:decide (n < 0)=true:=by simpa using h
   clear HX HY HQ h JP Hu;go_enter Tryz.func228,Tryz.ntmps228;go_wp2_with fail;go_ret;exact⟨by rw[HF.out];rfl,Hn.out⟩
  rotate_left;rotate_left
  ·first
    |exact absurd rfl Hp
    |(have HF:=hdq (HX (.inr ⟨h,Hp⟩))
      have e3:decide (n < 0)=false:=by simp;omega
      have e4:(n != 0)=true:=by simp;omega
      clear HX HY HQ h JP Hu Hp;go_enter Tryz.func228,Tryz.ntmps228;go_wp2_with fail;go_ret;exact⟨by rw[HF.out];rfl,Hn.out⟩)
  ·have HF:=hdq (HY (.inl rfl));clear HX HY JP
   nm_walk
  ·first
    |exact absurd Hp (by decide)
    |exact absurd Hp (by omega)
    |(have HF:=hdq (HY (.inr ⟨h,Hp⟩))
      have e3:decide (n < 0)=false:=by simp;omega
      have e4:(n != 0)=true:=by simp;omega
      clear HX HY JP h Hp
      nm_walk)
def MxC (xs:Exs):Prop:=∀(W:World)(S:Nat->Prop)(Z:Prop)(A:Option Addr)(c:Nat)(many:Int),(∀b,S b->b < W.heap.size)->szX xs->SlR (λb o=>ExR W S Z xs b o) xs.len 64 A c->
 Calls Tryz.prog 204 #[.slice A xs.len c,.int .i64 many] W (zae (((xs.len:Int)==many)&&okX xs) W)
def MxI (xs:Exs):Prop:=∀(i:Nat)(a0:Int)(a1:ByteArray)(a2:Int)(a3:Exs)(a4:Int)(ar:Exs),Exs.drop i xs= .cons a0 a1 a2 a3 a4 ar->MxC a3
theorem zg3:∀(i:Nat) {xs:Exs} {a0 a1 a2 a3 a4 ar},szX xs->Exs.drop i xs= .cons a0 a1 a2 a3 a4 ar->a1.size<=9223372036854775807/\szX a3
 |0,.nil,_,_,_,_,_,_,_,hd=>by simp[Exs.drop]at hd
 |i+1,.nil,_,_,_,_,_,_,_,hd=>by simp[Exs.drop]at hd
 |0,.cons k nm n args at_ r,_,_,_,_,_,_,h,hd=>by
  simp only[Exs.drop]at hd;injection hd with e0 e1 e2 e3 e4 e5;subst e1 e3;exact⟨h.1,h.2.1⟩
 |i+1,.cons k nm n args at_ r,_,_,_,_,_,_,h,hd=>by
  simp only[Exs.drop]at hd;exact zg3 i h.2.2 hd
theorem zkK {xs:Exs}{i:Nat}{a0 a1 a2 a3 a4 ar}(hd:Exs.drop i xs= .cons a0 a1 a2 a3 a4 ar):okX (Exs.drop i xs)=(okE a0 a1 a2 a3 a4&&okX (Exs.drop (i+1) xs)):=by
 rw[Exs.drop_succ i xs hd,hd];rfl
theorem zlT (xs:Exs)(Ho:MxI xs):MxC xs:=by
 intro w S Z A c many hS Ht hx;have hl:xs.len<=9223372036854775807:=leq9 hx.1 hx.2.1.1;have HA:=hdq Ho;have HX:=hdq hx;have HS:=hdq hS;have HZ:=hdq Ht;obtain⟨m,hm⟩:=nmq xs.len;rw[<-hm]at hl ⊢;have HM:=hdq hm;obtain⟨F,hF⟩:=nmq ((((m:Int)==many)&&okX xs));rw[<-hF];by_cases Pj:(m:Int)=many
 rotate_left
 ·have HF:=hdq (show F=false from by rw[hF,show((m:Int)==many)=false from by simpa using Pj];rfl);have e1:((m:Int) != many)=true:=by simpa using Pj
  clear hF Pj hx hS Ht hm Ho;go_enter Tryz.func204,Tryz.ntmps204;go_wp2_with fail;go_ret;exact⟨by rw[HF.out];rfl,Fr.refl _ _⟩
 subst Pj;have HF:=hdq (show F=okX xs from by rw[hF];simp);clear Ho hx hS hm hF Ht;go_enter Tryz.func204,Tryz.ntmps204;go_wp2_with fail;go_loopw [5] (λi wr=>∃k:Nat,k<=m/\i= .int .i64 k/\Hid (Fr NoT w wr)/\Hid (F=okX (Exs.drop k xs))) (λi _=>m - (intOf i).toNat);case atStart=>exact⟨0,Nat.zero_le _,rfl,Fr.refl _ _,HF.out⟩
 case round=>
  clear HF;obtain⟨k,hk,rfl,hb,Ha⟩:=hrel;by_cases Hr:k < m
  ·obtain⟨a0,a1,a2,a3,a4,ar,hd⟩:=Exs.drop_cons (show k < xs.len from by rw[<-HM.out];exact Hr);obtain⟨b,o,rfl,Hd⟩:=HX.2.2 (by rw[<-HM.out];omega);have Hb:=(ExR.keep (hb.same λb hb=>⟨HS b hb,id⟩) Hd).drop k;rw[hd]at Hb;obtain⟨⟨Hf,_,r0,r1,_,c0,c1,c2,c4⟩,⟨A3,q3,c3,s3⟩,_⟩:=Hb;have Gf:b < wr.heap.size:=ltq (HS _ Hf) hb.size;have Hl:(k:Int) < (m:Int):=by omega
   have Fb:(0:Int)<=(k:Int):=by omega
   obtain⟨z1,z2⟩:=zg3 k HZ.out hd;have Jr:∀b,S b->b < wr.heap.size:=λb h=>ltq (HS b h) hb.size;have Ge:=ziX a0 a1 a2 a4 A3 a3.len q3 (okX a3) wr z1 λW many hf=>HA k a0 a1 a2 a3 a4 ar hd W S Z A3 q3 many (λb h=>ltq (Jr b h) hf.size) z2 (s3.imp λ_ _ hx=>ExR.keep (hf.same λb hb=>⟨Jr b hb,id⟩) hx);have Hq:=Ha.trans (zkK hd);obtain⟨v,hv⟩:=nmq (okE a0 a1 a2 a3 a4);rw[<-hv]at Hq;unfold okE at hv;rw[<-hv]at Ge;have H1:=hdq Ge;have Hj:=hdq Hq;have HB:=hdq hb.out;clear hd Hd Ha hb Hf s3 r0 r1 Ge Hq hv z1 z2 Jr;go_wp2_with fail;refine H1.mono ?_;rintro _ w1 ⟨rfl,Gi⟩;have Hu:=hdq (HB.trans Gi);clear Gi c0 c1 c2 c3 c4;cases v
   ·have HF:=hdq (show F=false from by rw[Hj.out];rfl);clear Hj;go_wp2_with fail;go_ret;exact⟨by rw[HF.out];rfl,Hu.out⟩
   ·have HN:=hdq (show F=okX (Exs.drop (k+1) xs)from by rw[Hj.out];rfl);clear Hj;go_wp2_with fail;go_roundw;case rel=>exact⟨k+1,by omega,by go_num,Hu.out,HN.out⟩
    case measure=>simp[intOf];omega
  ·have HF:=hdq (show F=true from by rw[Ha.out,Exs.drop_nil (by rw[<-HM.out];omega)];rfl);have HB:=hdq hb.out;clear Ha hb;go_wp2_with fail;go_ret;exact⟨by rw[HF.out];rfl,HB.out⟩
theorem zgq:∀xs:Exs,MxI xs
 | .nil =>λi _ _ _ _ _ _ hd=>by cases i<;>simp[Exs.drop]at hd
 | .cons k nm n args at_ r=>λi _ _ _ _ _ _ hd=>by
  cases i with
  |zero=>
   simp only[Exs.drop]at hd;injection hd with e0 e1 e2 e3 e4 e5;subst e0 e1 e2 e3 e4 e5;exact zlT args (zgq args)
  |succ i=>
   simp only[Exs.drop]at hd;exact zgq r i _ _ _ _ _ _ hd
theorem zaP (xs:Exs):MxC xs:=zlT xs (zgq xs)
def McC (k:Int)(args:Exs)(of_:Cds)(at_:Int):Prop:=∀(W:World)(S:Nat->Prop)(Z:Prop)(A2 A3:Option Addr)(q2 q3:Nat),(∀b,S b->b < W.heap.size)->szX args->szC of_->SlR (λb o=>ExR W S Z args b o) args.len 64 A2 q2->SlR (λb o=>CdR W S Z of_ b o) of_.len 64 A3 q3->
 Calls Tryz.prog 205 #[.agg #[.int .u8 k,.slice A2 args.len q2,.slice A3 of_.len q3,.int .i64 at_]] W (zae (okD k args of_ at_) W)
def McI (xs:Cds):Prop:=∀(i:Nat)(a0:Int)(a1:Exs)(a2:Cds)(a3:Int)(ar:Cds),Cds.drop i xs= .cons a0 a1 a2 a3 ar->McC a0 a1 a2 a3
theorem zbe:∀(i:Nat) {xs:Cds} {a0 a1 a2 a3 ar},szC xs->Cds.drop i xs= .cons a0 a1 a2 a3 ar->szX a1/\szC a2
 |0,.nil,_,_,_,_,_,_,hd=>by simp[Cds.drop]at hd
 |i+1,.nil,_,_,_,_,_,_,hd=>by simp[Cds.drop]at hd
 |0,.cons k args of_ at_ r,_,_,_,_,_,h,hd=>by
  simp only[Cds.drop]at hd;injection hd with e0 e1 e2 e3 e4;subst e1 e2;exact⟨h.1,h.2.1⟩
 |i+1,.cons k args of_ at_ r,_,_,_,_,_,h,hd=>by
  simp only[Cds.drop]at hd;exact zbe i h.2.2 hd
theorem zkL {xs:Cds}{i:Nat}{a0 a1 a2 a3 ar}(hd:Cds.drop i xs= .cons a0 a1 a2 a3 ar):okC (Cds.drop i xs)=(okD a0 a1 a2 a3&&okC (Cds.drop (i+1) xs)):=by
 rw[Cds.drop_succ i xs hd,hd];rfl
set_option hygiene false in
macro "mc_walk" a:term:max o:term:max:tactic=> `(tactic|(
 by_cases Pj:(m:Int)= $o
 rotate_left
 ·have HF:=hdq (show R=false from by rw[FJ.out,show((m:Int)== $o)=false from by simpa using Pj];simp);have e1:((m:Int) != $o)=true:=by simpa using Pj
  clear FJ HM Pj Hu;go_enter Tryz.func205,Tryz.ntmps205;go_wp2_with fail;go_ret;exact⟨by rw[HF.out];rfl,Hn.out⟩
 have e1:((m:Int) != $o)=false:=by simpa using Pj
 have X7:=hdq (show R=((((l:Int)== $a)&&okX args)&&okC of_)from by rw[FJ.out,show((m:Int)== $o)=true from by simpa using Pj,Bool.and_true]);have jn:=λ(W:World)(hf:Fr NoT w W)=>vz W $a hf;obtain⟨v,hv⟩:=nmq ((((l:Int)== $a)&&okX args));have JV:=X7.out;rw[<-hv]at jn JV;have MY:=hdq jn;have Fu:=hdq JV;clear FJ Pj X7 JV jn hv;go_enter Tryz.func205,Tryz.ntmps205;go_wp2_with fail;refine(MY _ Hn.out).mono ?_;rintro _ w2 ⟨rfl,hb⟩;have He:=Hu.fr0 hb;have Hy:=hdq (Hn.trans hb);have c2:=He.cell 2;have Hv:=He.lt;simp only[getsL]at c2;have Jy:=hdq He;clear hb He;cases v
 ·have HF:=hdq (show R=false from by rw[Fu.out];rfl);clear Fu;go_wp2_with fail;go_ret;exact⟨by rw[HF.out];rfl,Hy.out⟩
 have HF:=hdq (show R=okC of_ from by rw[Fu.out];rfl);clear Fu;go_wp2_with fail;go_loopw [5] (λi wr=>∃k:Nat,k<=m/\i= .int .i64 k/\Hid (Fr NoT w2 wr)/\Hid (R=okC (Cds.drop k of_))) (λi _=>m - (intOf i).toNat);case atStart=>exact⟨0,Nat.zero_le _,rfl,Fr.refl _ _,HF.out⟩
 case round=>
  clear HF c2 Hv;obtain⟨k,hk,rfl,hb,Ha⟩:=hrel;have Hw:=Jy.fr0 hb.out;have c2:=Hw.cell 2;have Hv:=Hw.lt;simp only[getsL]at c2;have Ff:=Hy.trans hb.out;clear Hw;by_cases Hr:k < m
  ·obtain⟨a0,a1,a2,a3,ar,hd⟩:=Cds.drop_cons (show k < of_.len from by rw[<-HM.out];exact Hr);obtain⟨b,o',rfl,Hd⟩:=HX.2.2 (by rw[<-HM.out];omega);have Hb:=(CdR.keep (Ff.same λb hb=>⟨HS b hb,id⟩) Hd).drop k;rw[hd]at Hb;obtain⟨⟨Hf,_,r0,r1,d0,d3⟩,⟨A2',p2,d1,s2⟩,⟨A3',p3,d2,s3⟩,_⟩:=Hb;have Gf:b < wr.heap.size:=ltq (HS _ Hf) Ff.size;have Hl:(k:Int) < (m:Int):=by omega
   have Fb:(0:Int)<=(k:Int):=by omega
   obtain⟨z1,z2⟩:=zbe k HZ.out hd;have Ge:=HA k a0 a1 a2 a3 ar hd wr S Z A2' A3' p2 p3 (λb h=>ltq (HS b h) Ff.size) z1 z2 s2 s3;have Hq:=Ha.trans (zkL hd);obtain⟨v,hv⟩:=nmq (okD a0 a1 a2 a3);rw[<-hv]at Hq Ge;have H1:=hdq Ge;have Hj:=hdq Hq;have HB:=hdq hb.out;have X8:=hdq Ff;clear hd Hd Ha hb Hf s2 s3 r0 r1 Ge Hq hv z1 z2 Ff;go_wp2_with fail;refine H1.mono ?_;rintro _ w1 ⟨rfl,Gi⟩;have Hu:=hdq (HB.trans Gi);have jo:=hdq (X8.trans Gi);clear Gi c2 d0 d1 d2 d3;cases v
   ·have HF:=hdq (show R=false from by rw[Hj.out];rfl);clear Hj;go_wp2_with fail;go_ret;exact⟨by rw[HF.out];rfl,jo.out⟩
   ·have HN:=hdq (show R=okC (Cds.drop (k+1) of_)from by rw[Hj.out];rfl);clear Hj;go_wp2_with fail;go_roundw;case rel=>exact⟨k+1,by omega,by go_num,Hu.out,HN.out⟩
    case measure=>simp[intOf];omega
  ·have HF:=hdq (show R=true from by rw[Ha.out,Cds.drop_nil (by rw[<-HM.out];omega)];rfl);have HB:=hdq Ff;clear Ha hb Ff;go_wp2_with fail;go_ret;exact⟨by rw[HF.out];rfl,HB.out⟩))
theorem zlU (k:Int)(args:Exs)(of_:Cds)(at_:Int)(Ho:McI of_):McC k args of_ at_:=by
 intro w S Z A2 A3 q2 q3 hS Gh Gn hx hy;have hl:args.len<=9223372036854775807:=leq9 hx.1 hx.2.1.1;have gv:of_.len<=9223372036854775807:=leq9 hy.1 hy.2.1.1;obtain⟨R,hR⟩:=nmq (okD k args of_ at_);rw[<-hR];unfold okD at hR;have X9:=hdq (λ(W:World)(many:Int)(hf:Fr NoT w W)=>zaP args W S Z A2 q2 many (λb h=>ltq (hS b h) hf.size) Gh (hx.imp λ_ _ hx=>ExR.keep (hf.same λb hb=>⟨hS b hb,id⟩) hx));obtain⟨l,vA⟩:=nmq args.len;have Jd:=X9.out;rw[<-vA]at hl hR Jd ⊢;have vz:=hdq Jd;have HA:=hdq Ho;have HX:=hdq hy;have HS:=hdq hS;have HZ:=hdq Gn;obtain⟨m,hm⟩:=nmq of_.len;rw[<-hm]at hR gv ⊢;have HM:=hdq hm;clear Ho hx hy hS Gh Gn X9 Jd vA hm;have Hi:Fr NoT w (w.alloc (.cells #[.int .u8 k,.slice A2 l q2,.slice A3 m q3,.int .i64 at_] 160)):=(Fr.refl _ _).alloc _;have Hn:=hdq Hi;have Hu:=hdq (Bk.new w 160 #[.int .u8 k,.slice A2 l q2,.slice A3 m q3,.int .i64 at_]);clear Hi;have hk:(k < 1\/11 < k)\/((1<=k/\k<=11)/\∃a o,(tabA zce k).1 =a/\(tabA zce k).2.1 =o/\((k=1/\a=0/\o=0)\/(k=2/\a=0/\o=0)\/(k=9/\a=0/\o=1)\/(k=10/\a=0/\o=2)\/(k=11/\a=0/\o=2)\/(3<=k/\k<=8/\a=2/\o=0))):=by
  by_cases h:k < 1\/11 < k
  ·exact .inl h
  right
  have h1:1<=k/\k<=11:=by omega
  refine⟨h1,_,_,rfl,rfl,?_⟩;have:k=1\/k=2\/k=3\/k=4\/k=5\/k=6\/k=7\/k=8\/k=9\/k=10\/k=11:=by omega
  rcases this with rfl|rfl|rfl|rfl|rfl|rfl|rfl|rfl|rfl|rfl|rfl<;>decide
 rcases hk with hk|⟨JP,a,o,ha,ho,hk⟩
 ·have HF:=hdq (show R=false from by
   rw[hR];rcases hk with h|h
   ·rw[show decide (1<=k)=false from by simp;omega];simp
   ·rw[show decide (k<=11)=false from by simp;omega];simp)
  have g1:(k==9)=false:=by simp;omega
  have g2:(k==10)=false:=by simp;omega
  have g3:(k==11)=false:=by simp;omega
  rcases hk with h|h
  ·have e1:decide (k < 1)=true:=by simp;omega
   have e2:decide (3<=k)=false:=by simp;omega
   clear hR h Hu;go_enter Tryz.func205,Tryz.ntmps205;go_wp2_with fail;go_ret;exact⟨by rw[HF.out];rfl,Hn.out⟩
  ·have e1:decide (k < 1)=false:=by simp;omega
   have e2:decide (11 < k)=true:=by simp;omega
   have e3:decide (3<=k)=true:=by simp;omega
   have e4:decide (k<=8)=false:=by simp;omega
   clear hR h Hu;go_enter Tryz.func205,Tryz.ntmps205;go_wp2_with fail;go_ret;exact⟨by rw[HF.out];rfl,Hn.out⟩
 have FJ:=hdq (show R=(((l:Int)==a)&&((m:Int)==o)&&okX args&&okC of_)from by
  rw[hR,ha,ho,show decide (1<=k)=true from by simpa using JP.1,show decide (k<=11)=true from by simpa using JP.2];simp)
 clear hR ha ho;rcases hk with⟨rfl,rfl,rfl⟩|⟨rfl,rfl,rfl⟩|⟨rfl,rfl,rfl⟩|⟨rfl,rfl,rfl⟩|⟨rfl,rfl,rfl⟩|⟨h5,Vz,rfl,rfl⟩
 case' inr.inr.inr.inr.inr=>
  have g1:(k==9)=false:=by simp;omega
  have g2:(k==10)=false:=by simp;omega
  have g3:(k==11)=false:=by simp;omega
  have g4:decide (3<=k)=true:=by simpa using h5
  have g5:decide (k<=8)=true:=by simpa using Vz
  have g6:decide (k < 1)=false:=by simp;omega
  have g7:decide (11 < k)=false:=by simp;omega
 all_goals clear JP
 ·mc_walk 2 0
 ·mc_walk 0 0
 ·mc_walk 0 0
 ·mc_walk 0 1
 ·mc_walk 0 2
 ·mc_walk 0 2
theorem zgr:∀xs:Cds,McI xs
 | .nil =>λi _ _ _ _ _ hd=>by cases i<;>simp[Cds.drop]at hd
 | .cons k args of_ at_ r=>λi _ _ _ _ _ hd=>by
  cases i with
  |zero=>
   simp only[Cds.drop]at hd;injection hd with e0 e1 e2 e3 e4;subst e0 e1 e2 e3 e4;exact zlU k args of_ at_ (zgr of_)
  |succ i=>
   simp only[Cds.drop]at hd;exact zgr r i _ _ _ _ _ hd
theorem zct (k:Int)(args:Exs)(of_:Cds)(at_:Int):McC k args of_ at_:=zlU k args of_ at_ (zgr of_)
theorem zm3 (nm:ByteArray)(args:Exs)(cond:Cds)(body els:Sts)(at_:Int)(w:World)(S:Nat->Prop)(Z:Prop)(A2 A3 A4 A5:Option Addr)(q2 q3 q4 q5:Nat)(hs:nm.size<=9223372036854775807)(hS:∀b,S b->b < w.heap.size)(Gh:szX args)(Gn:szC cond)
  (hx:SlR (λb o=>ExR w S Z args b o) args.len 64 A2 q2) (hy:SlR (λb o=>CdR w S Z cond b o) cond.len 64 A3 q3) (Gy:body.len<=9223372036854775807) (GN:els.len<=9223372036854775807)
  (h4:∀W,Fr NoT w W->Calls Tryz.prog 105 #[.slice A4 body.len q4] W (zae (okS body) W)) (h5:∀W,Fr NoT w W->Calls Tryz.prog 105 #[.slice A5 els.len q5] W (zae (okS els) W)):
  Calls Tryz.prog 168 #[.agg #[.int .u8 1,.string nm,.slice A2 args.len q2,.slice A3 cond.len q3,.slice A4 body.len q4,.slice A5 els.len q5,.int .i64 at_]] w (zae (okT 1 nm args cond body els at_) w):=by
 have Gl:args.len<=9223372036854775807:=leq9 hx.1 hx.2.1.1;have Gz:cond.len<=9223372036854775807:=leq9 hy.1 hy.2.1.1;obtain⟨R,hR⟩:=nmq (okT 1 nm args cond body els at_);rw[<-hR];have Fa:zak nm.data.toList=true->(nm.toList== [])=false:=zcf;have hR:R=(((nm.toList== []))&&((args.len:Int)==0)&&((cond.len:Int)==0)&&(body.len==0)&&(els.len==0)&&okX args&&okC cond&&okS body&&okS els):=hR.trans (by rfl);have Jd:=λ(W:World)(hf:Fr NoT w W)=>zaP args W S Z A2 q2 0 (λb h=>ltq (hS b h) hf.size) Gh (hx.imp λ_ _ hx=>ExR.keep (hf.same λb hb=>⟨hS b hb,id⟩) hx);obtain⟨l,hl⟩:=nmq args.len;obtain⟨lc,Fw⟩:=nmq cond.len;obtain⟨lb,Jz⟩:=nmq body.len;obtain⟨le,hle⟩:=nmq els.len;obtain⟨q,hq⟩:=nmq (zak nm.data.toList);obtain⟨b,hb⟩:=nmq ((nm.toList== []));obtain⟨u,hu⟩:=nmq (okC cond);obtain⟨x4,FQ⟩:=nmq (okS body);obtain⟨x5,J1⟩:=nmq (okS els);have Fi:=λ(W:World)=>zaE nm hs W;rw[<-hl]at Gl Jd;rw[<-Fw]at Gz;rw[<-Jz]at Gy h4;rw[<-hle]at GN h5;rw[<-hq]at Fi Fa;rw[<-hb]at Fa;rw[<-FQ]at h4;rw[<-J1]at h5;obtain⟨v1,FF⟩:=nmq ((((l:Int)==0)&&okX args));rw[<-FF]at Jd;have Lf:R=(b&&v1&&((lc:Int)==0)&&u&&(lb==0)&&(le==0)&&x4&&x5):=by
  rw[hR,FF,<-hl,<-Fw,<-Jz,<-hle,<-hu,<-FQ,<-J1,<-hb]
  ac_rfl
 rw[<-hl,<-Fw,<-Jz,<-hle];have HR:=hdq Lf;have F4:=hdq Fi;have MY:=hdq Jd;have H4:=hdq h4;have H5:=hdq h5;have HQ:=hdq Fa;have Lt:=hdq Fw;have HU:=hdq hu;have HS:=hdq hS;have eb:(nm.toList== [])=b:=hb.symm;have eb2:(nm.toList != [])= !b:=by rw[hb];rfl
 have Hi:Fr NoT w (w.alloc (.cells #[.int .u8 1,.string nm,.slice A2 l q2,.slice A3 lc q3,.slice A4 lb q4,.slice A5 le q5,.int .i64 at_] 39)):=(Fr.refl _ _).alloc _;have Hn:=hdq Hi;have Hu:=hdq (Bk.new w 39 #[.int .u8 1,.string nm,.slice A2 l q2,.slice A3 lc q3,.slice A4 lb q4,.slice A5 le q5,.int .i64 at_]);clear Hi hR Lf Jd h4 h5 Fa Fw Jz hle hl hu hS hb Fi hx hy Gh Gn hs hq FQ J1 FF;go_enter Tryz.func168,Tryz.ntmps168;go_wp2_with fail;refine(F4 _).mono ?_;rintro _ w2 ⟨rfl,F0⟩;have hb:=Fr.below (T:=NoT) F0;have He:=Hu.fr0 hb;have Hy:=hdq (Hn.trans hb);have c0:=He.cell 0;have c2:=He.cell 2;have c1:=He.cell 1;have c3:=He.cell 3;have c4:=He.cell 4;have c5:=He.cell 5;have Hv:=He.lt;simp only[getsL]at c0 c1 c2 c3 c4 c5;have Jy:=hdq He;clear hb He;clear F0;have Ti:q=true\/(q=false/\b=false)\/(q=false/\b=true):=by cases q<;>cases b<;>simp
 rcases Ti with rfl|⟨rfl,rfl⟩|⟨rfl,rfl⟩
 ·have Rl:=HQ rfl;subst Rl;have HF:=hdq (show R=false from by rw[HR.out];simp);clear HR;go_wp2_with fail;go_ret;exact⟨by rw[HF.out];rfl,Hy.out⟩
 ·have HF:=hdq (show R=false from by rw[HR.out];simp);clear HR;go_wp2_with fail;go_ret;exact⟨by rw[HF.out];rfl,Hy.out⟩
 go_wp2_with fail;refine(MY _ Hy.out).mono ?_;rintro _ w3 ⟨rfl,hb⟩;clear c0 c1 c2 c3 c4 c5 Hv;have Hw:=Jy.fr0 hb;have Gc:=hdq (Hy.trans hb);have c0:=Hw.cell 0;have c2:=Hw.cell 2;have c1:=Hw.cell 1;have c3:=Hw.cell 3;have c4:=Hw.cell 4;have c5:=Hw.cell 5;have Hv:=Hw.lt;simp only[getsL]at c0 c1 c2 c3 c4 c5;have Kd:=hdq Hw;clear hb Hw;cases v1
 ·have HF:=hdq (show R=false from by rw[HR.out];simp);clear HR;go_wp2_with fail;go_ret;exact⟨by rw[HF.out];rfl,Gc.out⟩
 have JH:lc=0\/lc=1\/(lc≠0/\lc≠1):=by omega
 rcases JH with rfl|rfl|⟨n0,n1⟩;rotate_left
 ·have HF:=hdq (show R=false from by rw[HR.out];simp);clear HR;go_wp2_with fail;go_ret;exact⟨by rw[HF.out];rfl,Gc.out⟩
 ·have e1:((lc:Int)==1)=false:=by simp;omega
  have e2:((lc:Int) != 0)=true:=by simp;omega
  have HF:=hdq (show R=false from by rw[HR.out,show((lc:Int)==0)=false from by simp;omega];simp);clear HR;go_wp2_with fail;go_ret;exact⟨by rw[HF.out];rfl,Gc.out⟩
 have JA:u=true:=by
  rw[HU.out];have:=Lt.out;cases cond with
  |nil=>rfl
  |cons _ _ _ _ _=>simp[Cds.len]at this
 subst JA;by_cases KM:lb=0
 rotate_left
 ·have e1:decide ((0:Int) < (lb:Int))=true:=by simp;omega
  have HF:=hdq (show R=false from by rw[HR.out,show(lb==0)=false from by simpa using KM];simp);clear HR;go_wp2_with fail;go_ret;exact⟨by rw[HF.out];rfl,Gc.out⟩
 subst KM;by_cases Kp:le=0
 rotate_left
 ·have e2:decide ((0:Int) < (le:Int))=true:=by simp;omega
  have HF:=hdq (show R=false from by rw[HR.out,show(le==0)=false from by simpa using Kp];simp);clear HR;go_wp2_with fail;go_ret;exact⟨by rw[HF.out];rfl,Gc.out⟩
 subst Kp;go_wp2_with fail;refine(H4 _ Gc.out).mono ?_;rintro _ w8 ⟨rfl,hb⟩;clear c0 c1 c2 c3 c4 c5 Hv;have Hk:=Kd.fr0 hb;have GD:=hdq (Gc.trans hb);have c0:=Hk.cell 0;have c2:=Hk.cell 2;have c1:=Hk.cell 1;have c3:=Hk.cell 3;have c4:=Hk.cell 4;have c5:=Hk.cell 5;have Hv:=Hk.lt;simp only[getsL]at c0 c1 c2 c3 c4 c5;have SZ:=hdq Hk;clear hb Hk;cases x4
 ·have HF:=hdq (show R=false from by rw[HR.out];simp);clear HR;go_wp2_with fail;go_ret;exact⟨by rw[HF.out];rfl,GD.out⟩
 go_wp2_with fail;refine(H5 _ GD.out).mono ?_;rintro _ w9 ⟨rfl,hb⟩;have FT:=hdq (GD.trans hb);clear hb;have HF:=hdq (show R=x5 from by rw[HR.out];simp);clear HR;go_wp2_with fail;go_ret;exact⟨by rw[HF.out];rfl,FT.out⟩
theorem zm4 (nm:ByteArray)(args:Exs)(cond:Cds)(body els:Sts)(at_:Int)(w:World)(S:Nat->Prop)(Z:Prop)(A2 A3 A4 A5:Option Addr)(q2 q3 q4 q5:Nat)(hs:nm.size<=9223372036854775807)(hS:∀b,S b->b < w.heap.size)(Gh:szX args)(Gn:szC cond)
  (hx:SlR (λb o=>ExR w S Z args b o) args.len 64 A2 q2) (hy:SlR (λb o=>CdR w S Z cond b o) cond.len 64 A3 q3) (Gy:body.len<=9223372036854775807) (GN:els.len<=9223372036854775807)
  (h4:∀W,Fr NoT w W->Calls Tryz.prog 105 #[.slice A4 body.len q4] W (zae (okS body) W)) (h5:∀W,Fr NoT w W->Calls Tryz.prog 105 #[.slice A5 els.len q5] W (zae (okS els) W)):
  Calls Tryz.prog 168 #[.agg #[.int .u8 2,.string nm,.slice A2 args.len q2,.slice A3 cond.len q3,.slice A4 body.len q4,.slice A5 els.len q5,.int .i64 at_]] w (zae (okT 2 nm args cond body els at_) w):=by
 have Gl:args.len<=9223372036854775807:=leq9 hx.1 hx.2.1.1;have Gz:cond.len<=9223372036854775807:=leq9 hy.1 hy.2.1.1;obtain⟨R,hR⟩:=nmq (okT 2 nm args cond body els at_);rw[<-hR];have Fa:zak nm.data.toList=true->(nm.toList== [])=false:=zcf;have hR:R=((zak nm.data.toList)&&((args.len:Int)==1)&&((cond.len:Int)==0)&&(body.len==0)&&(els.len==0)&&okX args&&okC cond&&okS body&&okS els):=hR.trans (by rfl);have Jd:=λ(W:World)(hf:Fr NoT w W)=>zaP args W S Z A2 q2 1 (λb h=>ltq (hS b h) hf.size) Gh (hx.imp λ_ _ hx=>ExR.keep (hf.same λb hb=>⟨hS b hb,id⟩) hx);obtain⟨l,hl⟩:=nmq args.len;obtain⟨lc,Fw⟩:=nmq cond.len;obtain⟨lb,Jz⟩:=nmq body.len;obtain⟨le,hle⟩:=nmq els.len;obtain⟨q,hq⟩:=nmq (zak nm.data.toList);obtain⟨b,hb⟩:=nmq ((nm.toList== []));obtain⟨u,hu⟩:=nmq (okC cond);obtain⟨x4,FQ⟩:=nmq (okS body);obtain⟨x5,J1⟩:=nmq (okS els);have Fi:=λ(W:World)=>zaE nm hs W;rw[<-hl]at Gl Jd;rw[<-Fw]at Gz;rw[<-Jz]at Gy h4;rw[<-hle]at GN h5;rw[<-hq]at Fi Fa;rw[<-hb]at Fa;rw[<-FQ]at h4;rw[<-J1]at h5;obtain⟨v1,FF⟩:=nmq ((((l:Int)==1)&&okX args));rw[<-FF]at Jd;have Lf:R=(q&&v1&&((lc:Int)==0)&&u&&(lb==0)&&(le==0)&&x4&&x5):=by
  rw[hR,FF,<-hl,<-Fw,<-Jz,<-hle,<-hu,<-FQ,<-J1,<-hq]
  ac_rfl
 rw[<-hl,<-Fw,<-Jz,<-hle];have HR:=hdq Lf;have F4:=hdq Fi;have MY:=hdq Jd;have H4:=hdq h4;have H5:=hdq h5;have HQ:=hdq Fa;have Lt:=hdq Fw;have HU:=hdq hu;have HS:=hdq hS;have eb:(nm.toList== [])=b:=hb.symm;have eb2:(nm.toList != [])= !b:=by rw[hb];rfl
 have Hi:Fr NoT w (w.alloc (.cells #[.int .u8 2,.string nm,.slice A2 l q2,.slice A3 lc q3,.slice A4 lb q4,.slice A5 le q5,.int .i64 at_] 39)):=(Fr.refl _ _).alloc _;have Hn:=hdq Hi;have Hu:=hdq (Bk.new w 39 #[.int .u8 2,.string nm,.slice A2 l q2,.slice A3 lc q3,.slice A4 lb q4,.slice A5 le q5,.int .i64 at_]);clear Hi hR Lf Jd h4 h5 Fa Fw Jz hle hl hu hS hb Fi hx hy Gh Gn hs hq FQ J1 FF;go_enter Tryz.func168,Tryz.ntmps168;go_wp2_with fail;refine(F4 _).mono ?_;rintro _ w2 ⟨rfl,F0⟩;have hb:=Fr.below (T:=NoT) F0;have He:=Hu.fr0 hb;have Hy:=hdq (Hn.trans hb);have c0:=He.cell 0;have c2:=He.cell 2;have c1:=He.cell 1;have c3:=He.cell 3;have c4:=He.cell 4;have c5:=He.cell 5;have Hv:=He.lt;simp only[getsL]at c0 c1 c2 c3 c4 c5;have Jy:=hdq He;clear hb He;clear F0;cases q
 ·have HF:=hdq (show R=false from by rw[HR.out];simp);clear HR;go_wp2_with fail;go_ret;exact⟨by rw[HF.out];rfl,Hy.out⟩
 go_wp2_with fail;refine(MY _ Hy.out).mono ?_;rintro _ w3 ⟨rfl,hb⟩;clear c0 c1 c2 c3 c4 c5 Hv;have Hw:=Jy.fr0 hb;have Gc:=hdq (Hy.trans hb);have c0:=Hw.cell 0;have c2:=Hw.cell 2;have c1:=Hw.cell 1;have c3:=Hw.cell 3;have c4:=Hw.cell 4;have c5:=Hw.cell 5;have Hv:=Hw.lt;simp only[getsL]at c0 c1 c2 c3 c4 c5;have Kd:=hdq Hw;clear hb Hw;cases v1
 ·have HF:=hdq (show R=false from by rw[HR.out];simp);clear HR;go_wp2_with fail;go_ret;exact⟨by rw[HF.out];rfl,Gc.out⟩
 have JH:lc=0\/lc=1\/(lc≠0/\lc≠1):=by omega
 rcases JH with rfl|rfl|⟨n0,n1⟩;rotate_left
 ·have HF:=hdq (show R=false from by rw[HR.out];simp);clear HR;go_wp2_with fail;go_ret;exact⟨by rw[HF.out];rfl,Gc.out⟩
 ·have e1:((lc:Int)==1)=false:=by simp;omega
  have e2:((lc:Int) != 0)=true:=by simp;omega
  have HF:=hdq (show R=false from by rw[HR.out,show((lc:Int)==0)=false from by simp;omega];simp);clear HR;go_wp2_with fail;go_ret;exact⟨by rw[HF.out];rfl,Gc.out⟩
 have JA:u=true:=by
  rw[HU.out];have:=Lt.out;cases cond with
  |nil=>rfl
  |cons _ _ _ _ _=>simp[Cds.len]at this
 subst JA;by_cases KM:lb=0
 rotate_left
 ·have e1:decide ((0:Int) < (lb:Int))=true:=by simp;omega
  have HF:=hdq (show R=false from by rw[HR.out,show(lb==0)=false from by simpa using KM];simp);clear HR;go_wp2_with fail;go_ret;exact⟨by rw[HF.out];rfl,Gc.out⟩
 subst KM;by_cases Kp:le=0
 rotate_left
 ·have e2:decide ((0:Int) < (le:Int))=true:=by simp;omega
  have HF:=hdq (show R=false from by rw[HR.out,show(le==0)=false from by simpa using Kp];simp);clear HR;go_wp2_with fail;go_ret;exact⟨by rw[HF.out];rfl,Gc.out⟩
 subst Kp;go_wp2_with fail;refine(H4 _ Gc.out).mono ?_;rintro _ w8 ⟨rfl,hb⟩;clear c0 c1 c2 c3 c4 c5 Hv;have Hk:=Kd.fr0 hb;have GD:=hdq (Gc.trans hb);have c0:=Hk.cell 0;have c2:=Hk.cell 2;have c1:=Hk.cell 1;have c3:=Hk.cell 3;have c4:=Hk.cell 4;have c5:=Hk.cell 5;have Hv:=Hk.lt;simp only[getsL]at c0 c1 c2 c3 c4 c5;have SZ:=hdq Hk;clear hb Hk;cases x4
 ·have HF:=hdq (show R=false from by rw[HR.out];simp);clear HR;go_wp2_with fail;go_ret;exact⟨by rw[HF.out];rfl,GD.out⟩
 go_wp2_with fail;refine(H5 _ GD.out).mono ?_;rintro _ w9 ⟨rfl,hb⟩;have FT:=hdq (GD.trans hb);clear hb;have HF:=hdq (show R=x5 from by rw[HR.out];simp);clear HR;go_wp2_with fail;go_ret;exact⟨by rw[HF.out];rfl,FT.out⟩
theorem zm5 (nm:ByteArray)(args:Exs)(cond:Cds)(body els:Sts)(at_:Int)(w:World)(S:Nat->Prop)(Z:Prop)(A2 A3 A4 A5:Option Addr)(q2 q3 q4 q5:Nat)(hs:nm.size<=9223372036854775807)(hS:∀b,S b->b < w.heap.size)(Gh:szX args)(Gn:szC cond)
  (hx:SlR (λb o=>ExR w S Z args b o) args.len 64 A2 q2) (hy:SlR (λb o=>CdR w S Z cond b o) cond.len 64 A3 q3) (Gy:body.len<=9223372036854775807) (GN:els.len<=9223372036854775807)
  (h4:∀W,Fr NoT w W->Calls Tryz.prog 105 #[.slice A4 body.len q4] W (zae (okS body) W)) (h5:∀W,Fr NoT w W->Calls Tryz.prog 105 #[.slice A5 els.len q5] W (zae (okS els) W)):
  Calls Tryz.prog 168 #[.agg #[.int .u8 3,.string nm,.slice A2 args.len q2,.slice A3 cond.len q3,.slice A4 body.len q4,.slice A5 els.len q5,.int .i64 at_]] w (zae (okT 3 nm args cond body els at_) w):=by
 have Gl:args.len<=9223372036854775807:=leq9 hx.1 hx.2.1.1;have Gz:cond.len<=9223372036854775807:=leq9 hy.1 hy.2.1.1;obtain⟨R,hR⟩:=nmq (okT 3 nm args cond body els at_);rw[<-hR];have Fa:zak nm.data.toList=true->(nm.toList== [])=false:=zcf;have hR:R=((zak nm.data.toList)&&((args.len:Int)==2)&&((cond.len:Int)==0)&&(body.len==0)&&(els.len==0)&&okX args&&okC cond&&okS body&&okS els):=hR.trans (by rfl);have Jd:=λ(W:World)(hf:Fr NoT w W)=>zaP args W S Z A2 q2 2 (λb h=>ltq (hS b h) hf.size) Gh (hx.imp λ_ _ hx=>ExR.keep (hf.same λb hb=>⟨hS b hb,id⟩) hx);obtain⟨l,hl⟩:=nmq args.len;obtain⟨lc,Fw⟩:=nmq cond.len;obtain⟨lb,Jz⟩:=nmq body.len;obtain⟨le,hle⟩:=nmq els.len;obtain⟨q,hq⟩:=nmq (zak nm.data.toList);obtain⟨b,hb⟩:=nmq ((nm.toList== []));obtain⟨u,hu⟩:=nmq (okC cond);obtain⟨x4,FQ⟩:=nmq (okS body);obtain⟨x5,J1⟩:=nmq (okS els);have Fi:=λ(W:World)=>zaE nm hs W;rw[<-hl]at Gl Jd;rw[<-Fw]at Gz;rw[<-Jz]at Gy h4;rw[<-hle]at GN h5;rw[<-hq]at Fi Fa;rw[<-hb]at Fa;rw[<-FQ]at h4;rw[<-J1]at h5;obtain⟨v1,FF⟩:=nmq ((((l:Int)==2)&&okX args));rw[<-FF]at Jd;have Lf:R=(q&&v1&&((lc:Int)==0)&&u&&(lb==0)&&(le==0)&&x4&&x5):=by
  rw[hR,FF,<-hl,<-Fw,<-Jz,<-hle,<-hu,<-FQ,<-J1,<-hq]
  ac_rfl
 rw[<-hl,<-Fw,<-Jz,<-hle];have HR:=hdq Lf;have F4:=hdq Fi;have MY:=hdq Jd;have H4:=hdq h4;have H5:=hdq h5;have HQ:=hdq Fa;have Lt:=hdq Fw;have HU:=hdq hu;have HS:=hdq hS;have eb:(nm.toList== [])=b:=hb.symm;have eb2:(nm.toList != [])= !b:=by rw[hb];rfl
 have Hi:Fr NoT w (w.alloc (.cells #[.int .u8 3,.string nm,.slice A2 l q2,.slice A3 lc q3,.slice A4 lb q4,.slice A5 le q5,.int .i64 at_] 39)):=(Fr.refl _ _).alloc _;have Hn:=hdq Hi;have Hu:=hdq (Bk.new w 39 #[.int .u8 3,.string nm,.slice A2 l q2,.slice A3 lc q3,.slice A4 lb q4,.slice A5 le q5,.int .i64 at_]);clear Hi hR Lf Jd h4 h5 Fa Fw Jz hle hl hu hS hb Fi hx hy Gh Gn hs hq FQ J1 FF;go_enter Tryz.func168,Tryz.ntmps168;go_wp2_with fail;refine(F4 _).mono ?_;rintro _ w2 ⟨rfl,F0⟩;have hb:=Fr.below (T:=NoT) F0;have He:=Hu.fr0 hb;have Hy:=hdq (Hn.trans hb);have c0:=He.cell 0;have c2:=He.cell 2;have c1:=He.cell 1;have c3:=He.cell 3;have c4:=He.cell 4;have c5:=He.cell 5;have Hv:=He.lt;simp only[getsL]at c0 c1 c2 c3 c4 c5;have Jy:=hdq He;clear hb He;clear F0;cases q
 ·have HF:=hdq (show R=false from by rw[HR.out];simp);clear HR;go_wp2_with fail;go_ret;exact⟨by rw[HF.out];rfl,Hy.out⟩
 go_wp2_with fail;refine(MY _ Hy.out).mono ?_;rintro _ w3 ⟨rfl,hb⟩;clear c0 c1 c2 c3 c4 c5 Hv;have Hw:=Jy.fr0 hb;have Gc:=hdq (Hy.trans hb);have c0:=Hw.cell 0;have c2:=Hw.cell 2;have c1:=Hw.cell 1;have c3:=Hw.cell 3;have c4:=Hw.cell 4;have c5:=Hw.cell 5;have Hv:=Hw.lt;simp only[getsL]at c0 c1 c2 c3 c4 c5;have Kd:=hdq Hw;clear hb Hw;cases v1
 ·have HF:=hdq (show R=false from by rw[HR.out];simp);clear HR;go_wp2_with fail;go_ret;exact⟨by rw[HF.out];rfl,Gc.out⟩
 have JH:lc=0\/lc=1\/(lc≠0/\lc≠1):=by omega
 rcases JH with rfl|rfl|⟨n0,n1⟩;rotate_left
 ·have HF:=hdq (show R=false from by rw[HR.out];simp);clear HR;go_wp2_with fail;go_ret;exact⟨by rw[HF.out];rfl,Gc.out⟩
 ·have e1:((lc:Int)==1)=false:=by simp;omega
  have e2:((lc:Int) != 0)=true:=by simp;omega
  have HF:=hdq (show R=false from by rw[HR.out,show((lc:Int)==0)=false from by simp;omega];simp);clear HR;go_wp2_with fail;go_ret;exact⟨by rw[HF.out];rfl,Gc.out⟩
 have JA:u=true:=by
  rw[HU.out];have:=Lt.out;cases cond with
  |nil=>rfl
  |cons _ _ _ _ _=>simp[Cds.len]at this
 subst JA;by_cases KM:lb=0
 rotate_left
 ·have e1:decide ((0:Int) < (lb:Int))=true:=by simp;omega
  have HF:=hdq (show R=false from by rw[HR.out,show(lb==0)=false from by simpa using KM];simp);clear HR;go_wp2_with fail;go_ret;exact⟨by rw[HF.out];rfl,Gc.out⟩
 subst KM;by_cases Kp:le=0
 rotate_left
 ·have e2:decide ((0:Int) < (le:Int))=true:=by simp;omega
  have HF:=hdq (show R=false from by rw[HR.out,show(le==0)=false from by simpa using Kp];simp);clear HR;go_wp2_with fail;go_ret;exact⟨by rw[HF.out];rfl,Gc.out⟩
 subst Kp;go_wp2_with fail;refine(H4 _ Gc.out).mono ?_;rintro _ w8 ⟨rfl,hb⟩;clear c0 c1 c2 c3 c4 c5 Hv;have Hk:=Kd.fr0 hb;have GD:=hdq (Gc.trans hb);have c0:=Hk.cell 0;have c2:=Hk.cell 2;have c1:=Hk.cell 1;have c3:=Hk.cell 3;have c4:=Hk.cell 4;have c5:=Hk.cell 5;have Hv:=Hk.lt;simp only[getsL]at c0 c1 c2 c3 c4 c5;have SZ:=hdq Hk;clear hb Hk;cases x4
 ·have HF:=hdq (show R=false from by rw[HR.out];simp);clear HR;go_wp2_with fail;go_ret;exact⟨by rw[HF.out];rfl,GD.out⟩
 go_wp2_with fail;refine(H5 _ GD.out).mono ?_;rintro _ w9 ⟨rfl,hb⟩;have FT:=hdq (GD.trans hb);clear hb;have HF:=hdq (show R=x5 from by rw[HR.out];simp);clear HR;go_wp2_with fail;go_ret;exact⟨by rw[HF.out];rfl,FT.out⟩
