/-
  ref09.sameTrees, Alike: when trees are the same.
-/
import Derived.Test.YtmopichdofgndaaGreatDoorRqSameS
set_option linter.unusedVariables false
set_option linter.unusedSimpArgs false
set_option maxHeartbeats 6400000
set_option maxRecDepth 100000
namespace Go.Proofs.YtmopichdofgndaaGreatDoor
open Go.RowKit Go.Shelf

theorem eqA_step {p:Bool} {xs ys:List Arr} {i:Nat} {x y:Arr} {xr yr:List Arr} (hd:xs.drop i=x::xr∧xs.drop (i+1)=xr) (hd':ys.drop i=y::yr∧ys.drop (i+1)=yr):
  eqA p (xs.drop i) (ys.drop i)=((x.nm.toList==y.nm.toList)&&(x.size==y.size)&&(!p || x.at_==y.at_)&&eqA p (xs.drop (i+1)) (ys.drop (i+1))):=by
 rw[hd.1,hd'.1,hd.2,hd'.2,eqA]
theorem eqP_step {p:Bool} {xs ys:List Prc} {i:Nat} {x y:Prc} {xr yr:List Prc} (hd:xs.drop i=x::xr∧xs.drop (i+1)=xr) (hd':ys.drop i=y::yr∧ys.drop (i+1)=yr):
  eqP p (xs.drop i) (ys.drop i)=((x.nm.toList==y.nm.toList)&&(!p || x.at_==y.at_)&&eqV p x.params y.params&&eqS p x.body y.body&&eqP p (xs.drop (i+1)) (ys.drop (i+1))):=by
 rw[hd.1,hd'.1,hd.2,hd'.2,eqP]
theorem rqT_any (p:Bool) (t u:Tre) (w:World) (S S':Nat→Prop) (Z Z':Prop) (Av Aa Ap Am Bv Ba Bp Bm:Option Addr) (cv ca cp cm dv da dp dm:Nat) (hS:∀b,S b→b < w.heap.size) (hS':∀b,S' b→b < w.heap.size)
  (hx:TrR w S Z t Av Aa Ap Am cv ca cp cm) (hy:TrR w S' Z' u Bv Ba Bp Bm dv da dp dm):
  Calls Tryz.prog 33 #[trV t Av Aa Ap Am cv ca cp cm,trV u Bv Ba Bp Bm dv da dp dm,.bool p] w (EqPost (eqT p t u) w):=by
 obtain⟨r,hr⟩:=nmq (eqT p t u)
 rw[←hr]
 unfold eqT at hr
 obtain⟨v,hv⟩:=nmq (eqV p t.vars u.vars)
 obtain⟨s,hs⟩:=nmq (eqS p t.main u.main)
 obtain⟨w1,hw1⟩:=nmq ((w.alloc (.cells #[.slice Av t.vars.length cv,.slice Aa t.arrays.length ca,.slice Ap t.procs.length cp,.slice Am t.main.len cm] 27)).alloc (.cells #[.slice Bv u.vars.length dv,.slice Ba u.arrays.length da,.slice Bp u.procs.length dp,.slice Bm u.main.len dm] 27))
 have HF1:=hdq (show Fr NoT w w1 from by rw[hw1];exact((Fr.refl _ _).alloc _).alloc _)
 have hk0:Bk w1 w.heap.size 27 #[.slice Av t.vars.length cv,.slice Aa t.arrays.length ca,.slice Ap t.procs.length cp,.slice Am t.main.len cm]:=by rw[hw1];exact(Bk.new _ _ _).alloc _
 have hk1:Bk w1 (w.heap.size+1) 27 #[.slice Bv u.vars.length dv,.slice Ba u.arrays.length da,.slice Bp u.procs.length dp,.slice Bm u.main.len dm]:=by rw[hw1];exact Bk.new_at _ _ _ (by simp)
 have HKS:=hdq (aiq hk0 hk1)
 have HS:=hdq (aiq hS hS')
 have keepX:∀W,Fr NoT w W→TrR W S Z t Av Aa Ap Am cv ca cp cm:=fun W h=>hx.keep (h.same fun b hb=>⟨hS b hb,id⟩)
 have keepY:∀W,Fr NoT w W→TrR W S' Z' u Bv Ba Bp Bm dv da dp dm:=fun W h=>hy.keep (h.same fun b hb=>⟨hS' b hb,id⟩)
 have HX:=hdq keepX
 have HY:=hdq keepY
 have HV:=hdq (fun(W:World) (h:Fr NoT w W)=>rqV_any p t.vars u.vars W S S' Z Z' Av Bv cv dv (fun b hb=>ltq (hS b hb) h.size) (fun b hb=>ltq (hS' b hb) h.size) (keepX W h).vars (keepY W h).vars)
 have HM:=hdq (fun(W:World) (h:Fr NoT w W)=>rqS_any p t.main u.main W S S' Z Z' Am Bm cm dm (fun b hb=>ltq (hS b hb) h.size) (fun b hb=>ltq (hS' b hb) h.size) (keepX W h).main (keepY W h).main)
 rw[←hv]at HV hr
 rw[←hs]at HM
 have la:t.arrays.length≤9223372036854775807:=leq9 hx.arrays.1 hx.arrays.2.1.1
 have lb:u.arrays.length≤9223372036854775807:=leq9 hy.arrays.1 hy.arrays.2.1.1
 have lp:t.procs.length≤9223372036854775807:=leq9 hx.procs.1 hx.procs.2.1.1
 have lq:u.procs.length≤9223372036854775807:=leq9 hy.procs.1 hy.procs.2.1.1
 have HR:=hdq hr
 have HW1:=hdq hw1
 have HSS:=hdq hs
 unfold trV
 clear hr hv hs hw1 hk0 hk1 hS hS' keepX keepY hx hy
 cases v
 ·have HF:=hdq (show r=false from by rw[HR.out];simp)
  go_enter Tryz.func33,Tryz.ntmps33
  go_wp2_with fail
  rw[←HW1.out]
  refine(HV.out _ HF1.out).mono ?_
  rintro _ y ⟨rfl,hy⟩
  have HB:=hdq (HF1.out.trans hy)
  clear hy
  go_wp2_with fail
  go_ret
  exact⟨by rw[HF.out];rfl,HB.out⟩
 by_cases hla:t.arrays.length=u.arrays.length
 rotate_left
 ·have HF:=hdq (show r=false from by rw[HR.out];simp[hla])
  have hne:((t.arrays.length:Int)==(u.arrays.length:Int))=false:=by simp;omega
  have hne':((t.arrays.length:Int) != (u.arrays.length:Int))=true:=by simp;omega
  go_enter Tryz.func33,Tryz.ntmps33
  go_wp2_with fail
  rw[←HW1.out]
  refine(HV.out _ HF1.out).mono ?_
  rintro _ y ⟨rfl,hy⟩
  have HB:=hdq (HF1.out.trans hy)
  obtain⟨x0,x1,x2,x3,hxl⟩:=bk4 (HKS.out.1.fr0 hy)
  obtain⟨y0,y1,y2,y3,hyl⟩:=bk4 (HKS.out.2.fr0 hy)
  clear hy hla
  go_wp2_with fail
  go_ret
  exact⟨by rw[HF.out];rfl,HB.out⟩
 by_cases hlp:t.procs.length=u.procs.length
 rotate_left
 ·have HF:=hdq (show r=false from by rw[HR.out];simp[hlp])
  have hne:((t.procs.length:Int)==(u.procs.length:Int))=false:=by simp;omega
  have hne':((t.procs.length:Int) != (u.procs.length:Int))=true:=by simp;omega
  obtain⟨n,hn⟩:=nmq u.arrays.length
  rw[←hn]at hla lb HKS HW1 ⊢
  rw[hla]at HKS HW1 la ⊢
  have HNN:=hdq hn
  clear hn hla
  go_enter Tryz.func33,Tryz.ntmps33
  go_wp2_with fail
  rw[←HW1.out]
  refine(HV.out _ HF1.out).mono ?_
  rintro _ y ⟨rfl,hy⟩
  have HB:=hdq (HF1.out.trans hy)
  obtain⟨x0,x1,x2,x3,hxl⟩:=bk4 (HKS.out.1.fr0 hy)
  obtain⟨y0,y1,y2,y3,hyl⟩:=bk4 (HKS.out.2.fr0 hy)
  clear hy hlp
  go_wp2_with fail
  go_ret
  exact⟨by rw[HF.out];rfl,HB.out⟩
 obtain⟨n,hn⟩:=nmq u.arrays.length
 obtain⟨m,hm⟩:=nmq u.procs.length
 have hr2:r=(eqA p t.arrays u.arrays&&eqP p t.procs u.procs&&eqS p t.main u.main):=by rw[HR.out];simp[hla,hlp]
 rw[←hn]at hla lb HKS HW1 ⊢
 rw[hla]at HKS HW1 la ⊢
 rw[←hm]at hlp lq HKS HW1 ⊢
 rw[hlp]at HKS HW1 lp ⊢
 have HLA:=hdq (aiq hla hn)
 have HLP:=hdq (aiq hlp hm)
 have HR2:=hdq hr2
 clear HR hr2 hla hlp hn hm
 go_enter Tryz.func33,Tryz.ntmps33
 go_wp2_with fail
 rw[←HW1.out]
 refine(HV.out _ HF1.out).mono ?_
 rintro _ y ⟨rfl,hy⟩
 have HY1:=hdq hy
 obtain⟨x0,x1,x2,x3,hxl⟩:=bk4 (HKS.out.1.fr0 hy)
 obtain⟨y0,y1,y2,y3,hyl⟩:=bk4 (HKS.out.2.fr0 hy)
 clear hy
 go_wp2_with fail
 clear x0 x1 x2 x3 y0 y1 y2 y3 hxl hyl
 go_loopw [7] (fun i wr=>∃k:Nat,k≤n∧i= .int .i64 k∧Hid (Fr NoT w1 wr)∧Hid (r=(eqA p (t.arrays.drop k) (u.arrays.drop k)&&eqP p t.procs u.procs&&eqS p t.main u.main))) (fun i _=>n - (intOf i).toNat)
 case atStart=>exact⟨0,Nat.zero_le _,rfl,HY1.out,HR2.out⟩
 case round=>
  clear HY1 HR2
  obtain⟨k,hk,rfl,HK,hall⟩:=hrel
  obtain⟨x0,x1,x2,x3,hxl⟩:=bk4 (HKS.out.1.fr0 HK.out)
  obtain⟨y0,y1,y2,y3,hyl⟩:=bk4 (HKS.out.2.fr0 HK.out)
  have HW:=hdq (HF1.out.trans HK.out)
  by_cases hlt:k < n
  ·obtain⟨⟨a0,a1,a2⟩,ar,hd⟩:=drop_head1 (show k < t.arrays.length from by rw[HLA.out.1];exact hlt)
   obtain⟨⟨b0,b1,b2⟩,br,hd'⟩:=drop_head1 (show k < u.arrays.length from by rw[←HLA.out.2];exact hlt)
   obtain⟨b,o,rfl,hat⟩:=(HX.out wr HW.out).arrays.2.2 (by rw[HLA.out.1];omega)
   obtain⟨b',o',rfl,hat'⟩:=(HY.out wr HW.out).arrays.2.2 (by rw[←HLA.out.2];omega)
   have hat1:=hat.drop k
   have hat2:=hat'.drop k
   rw[hd.1]at hat1
   rw[hd'.1]at hat2
   obtain⟨⟨hbS,_,_,_,c0,c1,c2⟩,_⟩:=hat1
   obtain⟨⟨hbS2,_,_,_,d0,d1,d2⟩,_⟩:=hat2
   have hxr:b < wr.heap.size:=ltq (HS.out.1 _ hbS) HW.out.size
   have hxr':b' < wr.heap.size:=ltq (HS.out.2 _ hbS2) HW.out.size
   have hlt':(k:Int) < (n:Int):=by omega
   have hge:(0:Int)≤(k:Int):=by omega
   have hst:=hall.out
   rw[eqA_step hd hd']at hst
   have HST:=hdq hst
   simp only at c0 c1 c2 d0 d1 d2
   clear hd hd' hat hat' hst hall hbS hbS2
   go_upto_region 6 with fail
   go_cut [8,9] (fun s8 s9 wx=>∃P Q:Nat,s8= .pointer (some ⟨P,0,none⟩)∧s9= .pointer (some ⟨Q,0,none⟩)∧Fr NoT wr wx∧P < wx.heap.size∧Q < wx.heap.size∧wx.cell? ⟨P,0,none⟩=some (.string a0)∧wx.cell? ⟨P,1,none⟩=some (.int .i64 a1)∧wx.cell? ⟨P,2,none⟩=some (.int .i64 a2)∧wx.cell? ⟨Q,0,none⟩=some (.string b0)∧wx.cell? ⟨Q,1,none⟩=some (.int .i64 b1)∧wx.cell? ⟨Q,2,none⟩=some (.int .i64 b2))
   case first=>
    go_region
    all_goals
     go_wp2_with fail
     go_meet
     refine⟨_,_,rfl,rfl,Fr.drew (((Fr.refl _ _).alloc _).alloc _),by simp<;>omega,by simp<;>omega,?_⟩
     simp
   case rest=>
    obtain⟨P,Q,rfl,rfl,hbx,hP,hQ,p0,p1,p2,g0,g1,g2⟩:=hcut
    have HBX:=hdq hbx
    clear hbx c0 d0 c1 d1 c2 d2 x0 x1 x2 x3 y0 y1 y2 y3
    cases e0:a0.toList==b0.toList
    ·have e0':(a0.toList != b0.toList)=true:=by rw[bne,e0];rfl
     have HF:=hdq (show r=false from by rw[HST.out,e0];simp)
     clear HST
     go_wp2_with fail
     go_ret
     exact⟨by rw[HF.out];rfl,HW.out.trans HBX.out⟩
    have e0':(a0.toList != b0.toList)=false:=by rw[bne,e0];rfl
    cases e1:a1==b1
    ·have e1':(a1 != b1)=true:=by rw[bne,e1];rfl
     have HF:=hdq (show r=false from by rw[HST.out,e0,e1];simp)
     clear HST
     go_wp2_with fail
     go_ret
     exact⟨by rw[HF.out];rfl,HW.out.trans HBX.out⟩
    have e1':(a1 != b1)=false:=by rw[bne,e1];rfl
    have hpl:p=false∨(p=true∧(a2==b2)=true)∨(p=true∧(a2==b2)=false):=by cases p<;>cases a2==b2<;>simp
    rcases hpl with rfl|⟨rfl,e2⟩|⟨rfl,e2⟩
    rotate_right
    ·have e2':(a2 != b2)=true:=by rw[bne,e2];rfl
     have HF:=hdq (show r=false from by rw[HST.out,e0,e1,e2];simp)
     clear HST
     go_wp2_with fail
     go_ret
     exact⟨by rw[HF.out];rfl,HW.out.trans HBX.out⟩
    all_goals
     try have e2':(a2 != b2)=false:=by rw[bne,e2];rfl
     have hn:=HST.out
     try simp only[e2]at hn
     simp only[e0,e1,Bool.true_and,Bool.and_true,Bool.not_false,Bool.not_true,Bool.true_or,Bool.false_or]at hn
     have HN:=hdq hn
     clear hn
     clear HST
     go_wp2_with fail
     go_roundw
     case rel=>exact⟨k+1,by omega,by go_num,HK.out.trans HBX.out,HN⟩
     case measure=>simp[intOf];omega
  ·have hst:r=(eqP p t.procs u.procs&&eqS p t.main u.main):=by rw[hall.out,List.drop_eq_nil_of_le (by rw[HLA.out.1];omega),List.drop_eq_nil_of_le (by rw[←HLA.out.2];omega)];rfl
   have HR3:=hdq hst
   have HK1:=hdq HK.out
   clear hst hall HK HW
   go_wp2_with fail
   clear x0 x1 x2 x3 y0 y1 y2 y3 hxl hyl
   try go_step3
   try go_wp2_with fail
   go_loopw [10] (fun i wr=>∃k:Nat,k≤m∧i= .int .i64 k∧Hid (Fr NoT w1 wr)∧Hid (r=(eqP p (t.procs.drop k) (u.procs.drop k)&&eqS p t.main u.main))) (fun i _=>m - (intOf i).toNat)
   case atStart=>exact⟨0,Nat.zero_le _,rfl,HK1.out,HR3.out⟩
   case round=>
    clear HK1 HR3 hk hlt
    obtain⟨k,hk,rfl,HK,hall⟩:=hrel
    obtain⟨x0,x1,x2,x3,hxl⟩:=bk4 (HKS.out.1.fr0 HK.out)
    obtain⟨y0,y1,y2,y3,hyl⟩:=bk4 (HKS.out.2.fr0 HK.out)
    have HW:=hdq (HF1.out.trans HK.out)
    by_cases hlt:k < m
    ·obtain⟨⟨a0,a1,a2,a3⟩,ar,hd⟩:=drop_head1 (show k < t.procs.length from by rw[HLP.out.1];exact hlt)
     obtain⟨⟨b0,b1,b2,b3⟩,br,hd'⟩:=drop_head1 (show k < u.procs.length from by rw[←HLP.out.2];exact hlt)
     obtain⟨b,o,rfl,hat⟩:=(HX.out wr HW.out).procs.2.2 (by rw[HLP.out.1];omega)
     obtain⟨b',o',rfl,hat'⟩:=(HY.out wr HW.out).procs.2.2 (by rw[←HLP.out.2];omega)
     have hat1:=hat.drop k
     have hat2:=hat'.drop k
     rw[hd.1]at hat1
     rw[hd'.1]at hat2
     obtain⟨⟨hbS,_,_,c0,c3⟩,⟨A1,q1,c1,s1⟩,⟨A2,q2,c2,s2⟩,_⟩:=hat1
     obtain⟨⟨hbS2,_,_,d0,d3⟩,⟨D1,r1,d1,t1⟩,⟨D2,r2,d2,t2⟩,_⟩:=hat2
     have hxr:b < wr.heap.size:=ltq (HS.out.1 _ hbS) HW.out.size
     have hxr':b' < wr.heap.size:=ltq (HS.out.2 _ hbS2) HW.out.size
     have hlt':(k:Int) < (m:Int):=by omega
     have hge:(0:Int)≤(k:Int):=by omega
     have hst:=hall.out
     rw[eqP_step hd hd']at hst
     simp only at c0 c1 c2 c3 d0 d1 d2 d3 s1 s2 t1 t2 hst
     have HC1:=hdq (fun(W:World) (h:Fr NoT wr W)=>rqV_any p a1 b1 W S S' Z Z' A1 D1 q1 r1 (fun b hb=>ltq (HS.out.1 b hb) (HW.out.trans h).size) (fun b hb=>ltq (HS.out.2 b hb) (HW.out.trans h).size) (s1.imp fun _ _ hx=>VaR.keep (h.same fun b hb=>⟨ltq (HS.out.1 b hb) HW.out.size,id⟩) hx) (t1.imp fun _ _ hx=>VaR.keep (h.same fun b hb=>⟨ltq (HS.out.2 b hb) HW.out.size,id⟩) hx))
     have HC2:=hdq (fun(W:World) (h:Fr NoT wr W)=>rqS_any p a2 b2 W S S' Z Z' A2 D2 q2 r2 (fun b hb=>ltq (HS.out.1 b hb) (HW.out.trans h).size) (fun b hb=>ltq (HS.out.2 b hb) (HW.out.trans h).size) (s2.imp fun _ _ hx=>StR.keep (h.same fun b hb=>⟨ltq (HS.out.1 b hb) HW.out.size,id⟩) hx) (t2.imp fun _ _ hx=>StR.keep (h.same fun b hb=>⟨ltq (HS.out.2 b hb) HW.out.size,id⟩) hx))
     obtain⟨v1,hv1⟩:=nmq (eqV p a1 b1)
     obtain⟨v2,hv2⟩:=nmq (eqS p a2 b2)
     rw[←hv1]at HC1 hst
     rw[←hv2]at HC2 hst
     have HST:=hdq hst
     clear hd hd' hat hat' hst hall hbS hbS2 s1 s2 t1 t2 hv1 hv2
     go_upto_region 12 with fail
     go_cut [11,12] (fun s8 s9 wx=>∃P Q:Nat,s8= .pointer (some ⟨P,0,none⟩)∧s9= .pointer (some ⟨Q,0,none⟩)∧Fr NoT wr wx∧P < wx.heap.size∧Q < wx.heap.size∧wx.cell? ⟨P,0,none⟩=some (.string a0)∧wx.cell? ⟨P,1,none⟩=some (.slice A1 a1.length q1)∧wx.cell? ⟨P,2,none⟩=some (.slice A2 a2.len q2)∧wx.cell? ⟨P,3,none⟩=some (.int .i64 a3)∧wx.cell? ⟨Q,0,none⟩=some (.string b0)∧wx.cell? ⟨Q,1,none⟩=some (.slice D1 b1.length r1)∧wx.cell? ⟨Q,2,none⟩=some (.slice D2 b2.len r2)∧wx.cell? ⟨Q,3,none⟩=some (.int .i64 b3))
     case first=>
      go_region
      all_goals
       go_wp2_with fail
       go_meet
       refine⟨_,_,rfl,rfl,Fr.drew (((Fr.refl _ _).alloc _).alloc _),by simp<;>omega,by simp<;>omega,?_⟩
       simp
     case rest=>
      obtain⟨P,Q,rfl,rfl,hbx,hP,hQ,p0,p1,p2,p3,g0,g1,g2,g3⟩:=hcut
      have HBX:=hdq hbx
      clear hbx c0 d0 c1 d1 c2 d2 c3 d3 x0 x1 x2 x3 y0 y1 y2 y3
      cases e0:a0.toList==b0.toList
      ·have e0':(a0.toList != b0.toList)=true:=by rw[bne,e0];rfl
       have HF:=hdq (show r=false from by rw[HST.out,e0];simp)
       clear HST
       go_wp2_with fail
       go_ret
       exact⟨by rw[HF.out];rfl,HW.out.trans HBX.out⟩
      have e0':(a0.toList != b0.toList)=false:=by rw[bne,e0];rfl
      have hpl:p=false∨(p=true∧(a3==b3)=true)∨(p=true∧(a3==b3)=false):=by cases p<;>cases a3==b3<;>simp
      rcases hpl with rfl|⟨rfl,e3⟩|⟨rfl,e3⟩
      rotate_right
      ·have e3':(a3 != b3)=true:=by rw[bne,e3];rfl
       have HF:=hdq (show r=false from by rw[HST.out,e0,e3];simp)
       clear HST
       go_wp2_with fail
       go_ret
       exact⟨by rw[HF.out];rfl,HW.out.trans HBX.out⟩
      all_goals
       try have e3':(a3 != b3)=false:=by rw[bne,e3];rfl
       cases v1
       ·have HF:=hdq (show r=false from by rw[HST.out];simp)
        clear HST
        go_wp2_with (go_at_call 97;refine(HC1.out _ HBX.out).mono ?_;rintro _ y1 ⟨rfl,hy1⟩;have HB1:=hdq (Fr.trans HBX.out hy1);have hP1:=ltq hP hy1.size;have hQ1:=ltq hQ hy1.size;have p2_0:=(hy1.cell (p:=⟨P,2,none⟩) hP id).trans p2;have g2_0:=(hy1.cell (p:=⟨Q,2,none⟩) hQ id).trans g2;clear hy1)
        go_ret
        exact⟨by rw[HF.out];rfl,HW.out.trans HB1.out⟩
       cases v2
       ·have HF:=hdq (show r=false from by rw[HST.out];simp)
        clear HST
        go_wp2_with (first|(go_at_call 97;refine(HC1.out _ HBX.out).mono ?_;rintro _ y1 ⟨rfl,hy1⟩;have HB1:=hdq (Fr.trans HBX.out hy1);have hP1:=ltq hP hy1.size;have hQ1:=ltq hQ hy1.size;have p2_0:=(hy1.cell (p:=⟨P,2,none⟩) hP id).trans p2;have g2_0:=(hy1.cell (p:=⟨Q,2,none⟩) hQ id).trans g2;clear hy1)|(go_at_call 98;refine(HC2.out _ HB1.out).mono ?_;rintro _ y2 ⟨rfl,hy2⟩;have HB2:=hdq (Fr.trans HB1.out hy2);have hP2:=ltq hP1 hy2.size;have hQ2:=ltq hQ1 hy2.size;clear hy2))
        go_ret
        exact⟨by rw[HF.out];rfl,HW.out.trans HB2.out⟩
       have hn:=HST.out
       try simp only[e3]at hn
       simp only[e0,Bool.true_and,Bool.and_true,Bool.not_false,Bool.not_true,Bool.true_or,Bool.false_or]at hn
       have HN:=hdq hn
       clear hn
       clear HST
       go_wp2_with (first|(go_at_call 97;refine(HC1.out _ HBX.out).mono ?_;rintro _ y1 ⟨rfl,hy1⟩;have HB1:=hdq (Fr.trans HBX.out hy1);have hP1:=ltq hP hy1.size;have hQ1:=ltq hQ hy1.size;have p2_0:=(hy1.cell (p:=⟨P,2,none⟩) hP id).trans p2;have g2_0:=(hy1.cell (p:=⟨Q,2,none⟩) hQ id).trans g2;clear hy1)|(go_at_call 98;refine(HC2.out _ HB1.out).mono ?_;rintro _ y2 ⟨rfl,hy2⟩;have HB2:=hdq (Fr.trans HB1.out hy2);have hP2:=ltq hP1 hy2.size;have hQ2:=ltq hQ1 hy2.size;clear hy2))
       go_roundw
       case rel=>exact⟨k+1,by omega,by go_num,HK.out.trans HB2.out,HN⟩
       case measure=>simp[intOf];omega
    ·have hst:r=s:=by rw[hall.out,List.drop_eq_nil_of_le (by rw[HLP.out.1];omega),List.drop_eq_nil_of_le (by rw[←HLP.out.2];omega),HSS.out];rfl
     have HR4:=hdq hst
     clear hst hall
     go_wp2_with fail
     refine(HM.out _ HW.out).mono ?_
     rintro _ y ⟨rfl,hy⟩
     have HB:=hdq (HW.out.trans hy)
     clear hy
     go_wp2_with fail
     go_ret
     exact⟨by rw[HR4.out];rfl,HB.out⟩
theorem ralikeT_any (t u:Tre) (w:World) (S S':Nat→Prop) (Z Z':Prop) (Av Aa Ap Am Bv Ba Bp Bm:Option Addr) (cv ca cp cm dv da dp dm:Nat) (hS:∀b,S b→b < w.heap.size) (hS':∀b,S' b→b < w.heap.size)
  (hx:TrR w S Z t Av Aa Ap Am cv ca cp cm) (hy:TrR w S' Z' u Bv Ba Bp Bm dv da dp dm):
  Calls Tryz.prog 11 #[trV t Av Aa Ap Am cv ca cp cm,trV u Bv Ba Bp Bm dv da dp dm] w (EqPost (eqT false t u) w):=by
 have HC:=hdq (fun(W:World) (h:Fr NoT w W)=>rqT_any false t u W S S' Z Z' Av Aa Ap Am Bv Ba Bp Bm cv ca cp cm dv da dp dm (fun b hb=>ltq (hS b hb) h.size) (fun b hb=>ltq (hS' b hb) h.size) (hx.keep (h.same fun b hb=>⟨hS b hb,id⟩)) (hy.keep (h.same fun b hb=>⟨hS' b hb,id⟩)))
 clear hx hy hS hS'
 unfold trV at*
 go_enter Tryz.func11,Tryz.ntmps11
 go_wp2_with fail
 refine(HC.out _ (((Fr.refl _ _).alloc _).alloc _)).mono ?_
 rintro _ y ⟨rfl,hy⟩
 have HB:=hdq ((((Fr.refl NoT w).alloc _).alloc _).trans hy)
 clear hy
 go_wp2_with fail
 go_ret
 exact⟨rfl,HB.out⟩

theorem rsameT_any (t u:Tre) (w:World) (S S':Nat→Prop) (Z Z':Prop) (Av Aa Ap Am Bv Ba Bp Bm:Option Addr) (cv ca cp cm dv da dp dm:Nat) (hS:∀b,S b→b < w.heap.size) (hS':∀b,S' b→b < w.heap.size)
  (hx:TrR w S Z t Av Aa Ap Am cv ca cp cm) (hy:TrR w S' Z' u Bv Ba Bp Bm dv da dp dm):
  Calls Tryz.prog 10 #[trV t Av Aa Ap Am cv ca cp cm,trV u Bv Ba Bp Bm dv da dp dm] w (EqPost (eqT true t u) w):=by
 have HC:=hdq (fun(W:World) (h:Fr NoT w W)=>rqT_any true t u W S S' Z Z' Av Aa Ap Am Bv Ba Bp Bm cv ca cp cm dv da dp dm (fun b hb=>ltq (hS b hb) h.size) (fun b hb=>ltq (hS' b hb) h.size) (hx.keep (h.same fun b hb=>⟨hS b hb,id⟩)) (hy.keep (h.same fun b hb=>⟨hS' b hb,id⟩)))
 clear hx hy hS hS'
 unfold trV at*
 go_enter Tryz.func10,Tryz.ntmps10
 go_wp2_with fail
 refine(HC.out _ (((Fr.refl _ _).alloc _).alloc _)).mono ?_
 rintro _ y ⟨rfl,hy⟩
 have HB:=hdq ((((Fr.refl NoT w).alloc _).alloc _).trans hy)
 clear hy
 go_wp2_with fail
 go_ret
 exact⟨rfl,HB.out⟩
end Go.Proofs.YtmopichdofgndaaGreatDoor
