/-
  ref09.sameStmts.
-/
import Derived.Test.YtmopichdofgndaaGreatDoorJnRq
set_option linter.unusedVariables false
set_option linter.unusedSimpArgs false
set_option maxHeartbeats 6400000
set_option maxRecDepth 100000
namespace Go.Proofs.YtmopichdofgndaaGreatDoor
open Go.RowKit Go.Shelf

def RqS (p:Bool) (xs ys:Sts):Prop:=∀(W:World) (S S':Nat→Prop) (Z Z':Prop) (A A':Option Addr) (c c':Nat),(∀b,S b→b < W.heap.size)→(∀b,S' b→b < W.heap.size)→SlR (fun b o=>StR W S Z xs b o) xs.len 128 A c→SlR (fun b o=>StR W S' Z' ys b o) ys.len 128 A' c'→
 Calls Tryz.prog 98 #[.slice A xs.len c,.slice A' ys.len c',.bool p] W (EqPost (eqS p xs ys) W)
def RqIS (p:Bool) (xs ys:Sts):Prop:=∀(i:Nat) (a0:Int) (a1:ByteArray) (a2:Exs) (a3:Cds) (a4:Sts) (a5:Sts) (a6:Int) (ar:Sts) (b0:Int) (b1:ByteArray) (b2:Exs) (b3:Cds) (b4:Sts) (b5:Sts) (b6:Int) (br:Sts),Sts.drop i xs= .cons a0 a1 a2 a3 a4 a5 a6 ar→Sts.drop i ys= .cons b0 b1 b2 b3 b4 b5 b6 br→RqS p a4 b4∧RqS p a5 b5
theorem eqS_step {p:Bool} {xs ys:Sts} {i:Nat} {a0 a1 a2 a3 a4 a5 a6 ar b0 b1 b2 b3 b4 b5 b6 br} (hd:Sts.drop i xs= .cons a0 a1 a2 a3 a4 a5 a6 ar) (hd':Sts.drop i ys= .cons b0 b1 b2 b3 b4 b5 b6 br):
  eqS p (Sts.drop i xs) (Sts.drop i ys)=((a0==b0)&&(a1.toList==b1.toList)&&(!p || a6==b6)&&eqX p a2 b2&&eqC p a3 b3&&eqS p a4 b4&&eqS p a5 b5&&eqS p (Sts.drop (i+1) xs) (Sts.drop (i+1) ys)):=by
 rw[Sts.drop_succ i xs hd,Sts.drop_succ i ys hd',hd,hd']
 simp only[eqS]
theorem rqS_one (p:Bool) (xs ys:Sts) (hall0:RqIS p xs ys):RqS p xs ys:=by
 intro w S S' Z Z' A A' c c' hS hS' hx hy
 have hl:xs.len≤9223372036854775807:=leq9 hx.1 hx.2.1.1
 have hl':ys.len≤9223372036854775807:=leq9 hy.1 hy.2.1.1
 have HA:=hdq hall0
 clear hall0
 by_cases hlen:xs.len=ys.len
 ·obtain⟨m,hm⟩:=nmq ys.len
  have hxm:xs.len=m:=hlen.trans hm.symm
  rw[hxm,←hm]
  rw[←hm]at hl'
  have HM:=hdq hm
  have HL:=hdq hxm
  have HX:=hdq hx
  have HY:=hdq hy
  have HS:=hdq (aiq hS hS')
  clear hlen hm hxm hl hx hy hS hS'
  go_enter Tryz.func98,Tryz.ntmps98
  go_wp2_with fail
  go_loopw [7] (fun i wr=>∃k:Nat,k≤m∧i= .int .i64 k∧Hid (Fr NoT w wr)∧Hid (eqS p xs ys=eqS p (Sts.drop k xs) (Sts.drop k ys))) (fun i _=>m - (intOf i).toNat)
  case atStart=>exact⟨0,Nat.zero_le _,rfl,Fr.refl _ _,rfl⟩
  case round=>
   obtain⟨k,hk,rfl,hbw,hall⟩:=hrel
   by_cases hlt:k < m
   ·obtain⟨a0,a1,a2,a3,a4,a5,a6,ar,hd⟩:=Sts.drop_cons (show k < xs.len from by rw[HL.out];exact hlt)
    obtain⟨b0,b1,b2,b3,b4,b5,b6,br,hd'⟩:=Sts.drop_cons (show k < ys.len from by rw[←HM.out];exact hlt)
    obtain⟨b,o,rfl,hat⟩:=HX.out.2.2 (by rw[HL.out];omega)
    obtain⟨b',o',rfl,hat'⟩:=HY.out.2.2 (by rw[←HM.out];omega)
    have hat1:=(StR.keep (hbw.out.same fun b hb=>⟨HS.out.1 b hb,id⟩) hat).drop k
    have hat2:=(StR.keep (hbw.out.same fun b hb=>⟨HS.out.2 b hb,id⟩) hat').drop k
    rw[hd]at hat1
    rw[hd']at hat2
    obtain⟨⟨hbS,_,_,_,c0,c1,c6⟩,⟨A2,q2,c2,s2⟩,⟨A3,q3,c3,s3⟩,⟨A4,q4,c4,s4⟩,⟨A5,q5,c5,s5⟩,_⟩:=hat1
    obtain⟨⟨hbS2,_,_,_,d0,d1,d6⟩,⟨D2,r2,d2,t2⟩,⟨D3,r3,d3,t3⟩,⟨D4,r4,d4,t4⟩,⟨D5,r5,d5,t5⟩,_⟩:=hat2
    have hxr:b < wr.heap.size:=ltq (HS.out.1 _ hbS) hbw.out.size
    have hxr':b' < wr.heap.size:=ltq (HS.out.2 _ hbS2) hbw.out.size
    have hlt':(k:Int) < (m:Int):=by omega
    have hge:(0:Int)≤(k:Int):=by omega
    have hst:=hall.out.trans (eqS_step hd hd')
    have hrec:=HA.out k a0 a1 a2 a3 a4 a5 a6 ar b0 b1 b2 b3 b4 b5 b6 br hd hd'
    have HC2:=hdq (fun(W:World) (h:Fr NoT wr W)=>rqX_any p a2 b2 W S S' Z Z' A2 D2 q2 r2 (fun b hb=>ltq (HS.out.1 b hb) (hbw.out.trans h).size) (fun b hb=>ltq (HS.out.2 b hb) (hbw.out.trans h).size) (s2.imp fun _ _ hx=>ExR.keep (h.same fun b hb=>⟨ltq (HS.out.1 b hb) hbw.out.size,id⟩) hx) (t2.imp fun _ _ hx=>ExR.keep (h.same fun b hb=>⟨ltq (HS.out.2 b hb) hbw.out.size,id⟩) hx))
    obtain⟨v2,hv2⟩:=nmq (eqX p a2 b2)
    rw[←hv2]at HC2 hst
    have HC3:=hdq (fun(W:World) (h:Fr NoT wr W)=>rqC_any p a3 b3 W S S' Z Z' A3 D3 q3 r3 (fun b hb=>ltq (HS.out.1 b hb) (hbw.out.trans h).size) (fun b hb=>ltq (HS.out.2 b hb) (hbw.out.trans h).size) (s3.imp fun _ _ hx=>CdR.keep (h.same fun b hb=>⟨ltq (HS.out.1 b hb) hbw.out.size,id⟩) hx) (t3.imp fun _ _ hx=>CdR.keep (h.same fun b hb=>⟨ltq (HS.out.2 b hb) hbw.out.size,id⟩) hx))
    obtain⟨v3,hv3⟩:=nmq (eqC p a3 b3)
    rw[←hv3]at HC3 hst
    have HC4:=hdq (fun(W:World) (h:Fr NoT wr W)=>hrec.1 W S S' Z Z' A4 D4 q4 r4 (fun b hb=>ltq (HS.out.1 b hb) (hbw.out.trans h).size) (fun b hb=>ltq (HS.out.2 b hb) (hbw.out.trans h).size) (s4.imp fun _ _ hx=>StR.keep (h.same fun b hb=>⟨ltq (HS.out.1 b hb) hbw.out.size,id⟩) hx) (t4.imp fun _ _ hx=>StR.keep (h.same fun b hb=>⟨ltq (HS.out.2 b hb) hbw.out.size,id⟩) hx))
    obtain⟨v4,hv4⟩:=nmq (eqS p a4 b4)
    rw[←hv4]at HC4 hst
    have HC5:=hdq (fun(W:World) (h:Fr NoT wr W)=>hrec.2 W S S' Z Z' A5 D5 q5 r5 (fun b hb=>ltq (HS.out.1 b hb) (hbw.out.trans h).size) (fun b hb=>ltq (HS.out.2 b hb) (hbw.out.trans h).size) (s5.imp fun _ _ hx=>StR.keep (h.same fun b hb=>⟨ltq (HS.out.1 b hb) hbw.out.size,id⟩) hx) (t5.imp fun _ _ hx=>StR.keep (h.same fun b hb=>⟨ltq (HS.out.2 b hb) hbw.out.size,id⟩) hx))
    obtain⟨v5,hv5⟩:=nmq (eqS p a5 b5)
    rw[←hv5]at HC5 hst
    have HST:=hdq hst
    have HW:=hdq hbw.out
    clear hd hd' hat hat' hst hall hbw hbS hbS2 hrec s2 t2 hv2 s3 t3 hv3 s4 t4 hv4 s5 t5 hv5
    go_upto_region 6 with fail
    go_cut [8,9] (fun s8 s9 wx=>∃P Q:Nat,s8= .pointer (some ⟨P,0,none⟩)∧s9= .pointer (some ⟨Q,0,none⟩)∧Fr NoT wr wx∧P < wx.heap.size∧Q < wx.heap.size∧wx.cell? ⟨P,0,none⟩=some (.int .u8 a0)∧wx.cell? ⟨P,1,none⟩=some (.string a1)∧wx.cell? ⟨P,2,none⟩=some (.slice A2 a2.len q2)∧wx.cell? ⟨P,3,none⟩=some (.slice A3 a3.len q3)∧wx.cell? ⟨P,4,none⟩=some (.slice A4 a4.len q4)∧wx.cell? ⟨P,5,none⟩=some (.slice A5 a5.len q5)∧wx.cell? ⟨P,6,none⟩=some (.int .i64 a6)∧wx.cell? ⟨Q,0,none⟩=some (.int .u8 b0)∧wx.cell? ⟨Q,1,none⟩=some (.string b1)∧wx.cell? ⟨Q,2,none⟩=some (.slice D2 b2.len r2)∧wx.cell? ⟨Q,3,none⟩=some (.slice D3 b3.len r3)∧wx.cell? ⟨Q,4,none⟩=some (.slice D4 b4.len r4)∧wx.cell? ⟨Q,5,none⟩=some (.slice D5 b5.len r5)∧wx.cell? ⟨Q,6,none⟩=some (.int .i64 b6))
    case first=>
     go_region
     all_goals
      go_wp2_with fail
      go_meet
      refine⟨_,_,rfl,rfl,Fr.drew (((Fr.refl _ _).alloc _).alloc _),by simp<;>omega,by simp<;>omega,?_⟩
      simp
    case rest=>
     obtain⟨P,Q,rfl,rfl,hbx,hP,hQ,p0,p1,p2,p3,p4,p5,p6,g0,g1,g2,g3,g4,g5,g6⟩:=hcut
     have HBX:=hdq hbx
     clear hbx c0 d0 c1 d1 c2 d2 c3 d3 c4 d4 c5 d5 c6 d6
     cases e0:a0==b0
     ·have e0':(a0 != b0)=true:=by rw[bne,e0];rfl
      have HF:=hdq (show eqS _ xs ys=false from by rw[HST.out,e0];simp)
      clear HST
      go_wp2_with fail
      go_ret
      exact⟨by rw[HF.out];rfl,HW.out.trans HBX.out⟩
     have e0':(a0 != b0)=false:=by rw[bne,e0];rfl
     cases e1:a1.toList==b1.toList
     ·have e1':(a1.toList != b1.toList)=true:=by rw[bne,e1];rfl
      have HF:=hdq (show eqS _ xs ys=false from by rw[HST.out,e0,e1];simp)
      clear HST
      go_wp2_with fail
      go_ret
      exact⟨by rw[HF.out];rfl,HW.out.trans HBX.out⟩
     have e1':(a1.toList != b1.toList)=false:=by rw[bne,e1];rfl
     have hpl:p=false∨(p=true∧(a6==b6)=true)∨(p=true∧(a6==b6)=false):=by cases p<;>cases a6==b6<;>simp
     rcases hpl with rfl|⟨rfl,e6⟩|⟨rfl,e6⟩
     rotate_right
     ·have e6':(a6 != b6)=true:=by rw[bne,e6];rfl
      have HF:=hdq (show eqS true xs ys=false from by rw[HST.out,e0,e1,e6];simp)
      clear HST
      go_wp2_with fail
      go_ret
      exact⟨by rw[HF.out];rfl,HW.out.trans HBX.out⟩
     all_goals
      try have e6':(a6 != b6)=false:=by rw[bne,e6];rfl
      go_wp2_with fail
      refine(HC2.out _ HBX.out).mono ?_
      rintro _ y2 ⟨rfl,hy2⟩
      have HB2:=hdq (Fr.trans HBX.out hy2)
      have hP2:=ltq hP hy2.size
      have hQ2:=ltq hQ hy2.size
      have p3':=(hy2.cell (p:=⟨P,3,none⟩) hP id).trans p3
      have g3':=(hy2.cell (p:=⟨Q,3,none⟩) hQ id).trans g3
      clear p3 g3
      have p3:=p3'
      have g3:=g3'
      clear p3' g3'
      have p4':=(hy2.cell (p:=⟨P,4,none⟩) hP id).trans p4
      have g4':=(hy2.cell (p:=⟨Q,4,none⟩) hQ id).trans g4
      clear p4 g4
      have p4:=p4'
      have g4:=g4'
      clear p4' g4'
      have p5':=(hy2.cell (p:=⟨P,5,none⟩) hP id).trans p5
      have g5':=(hy2.cell (p:=⟨Q,5,none⟩) hQ id).trans g5
      clear p5 g5
      have p5:=p5'
      have g5:=g5'
      clear p5' g5'
      clear hy2 HC2 hP hQ p0 g0 p2 g2
      cases v2
      ·have HF:=hdq (show eqS _ xs ys=false from by rw[HST.out];simp)
       clear HST
       go_wp2_with fail
       go_ret
       exact⟨by rw[HF.out];rfl,HW.out.trans HB2.out⟩
      go_wp2_with fail
      refine(HC3.out _ HB2.out).mono ?_
      rintro _ y3 ⟨rfl,hy3⟩
      have HB3:=hdq (Fr.trans HB2.out hy3)
      have hP3:=ltq hP2 hy3.size
      have hQ3:=ltq hQ2 hy3.size
      have p4':=(hy3.cell (p:=⟨P,4,none⟩) hP2 id).trans p4
      have g4':=(hy3.cell (p:=⟨Q,4,none⟩) hQ2 id).trans g4
      clear p4 g4
      have p4:=p4'
      have g4:=g4'
      clear p4' g4'
      have p5':=(hy3.cell (p:=⟨P,5,none⟩) hP2 id).trans p5
      have g5':=(hy3.cell (p:=⟨Q,5,none⟩) hQ2 id).trans g5
      clear p5 g5
      have p5:=p5'
      have g5:=g5'
      clear p5' g5'
      clear hy3 HC3 hP2 hQ2 p3 g3
      cases v3
      ·have HF:=hdq (show eqS _ xs ys=false from by rw[HST.out];simp)
       clear HST
       go_wp2_with fail
       go_ret
       exact⟨by rw[HF.out];rfl,HW.out.trans HB3.out⟩
      go_wp2_with fail
      refine(HC4.out _ HB3.out).mono ?_
      rintro _ y4 ⟨rfl,hy4⟩
      have HB4:=hdq (Fr.trans HB3.out hy4)
      have hP4:=ltq hP3 hy4.size
      have hQ4:=ltq hQ3 hy4.size
      have p5':=(hy4.cell (p:=⟨P,5,none⟩) hP3 id).trans p5
      have g5':=(hy4.cell (p:=⟨Q,5,none⟩) hQ3 id).trans g5
      clear p5 g5
      have p5:=p5'
      have g5:=g5'
      clear p5' g5'
      clear hy4 HC4 hP3 hQ3 p4 g4
      cases v4
      ·have HF:=hdq (show eqS _ xs ys=false from by rw[HST.out];simp)
       clear HST
       go_wp2_with fail
       go_ret
       exact⟨by rw[HF.out];rfl,HW.out.trans HB4.out⟩
      go_wp2_with fail
      refine(HC5.out _ HB4.out).mono ?_
      rintro _ y5 ⟨rfl,hy5⟩
      have HB5:=hdq (Fr.trans HB4.out hy5)
      have hP5:=ltq hP4 hy5.size
      have hQ5:=ltq hQ4 hy5.size
      clear hy5 HC5 hP4 hQ4 p5 g5
      cases v5
      ·have HF:=hdq (show eqS _ xs ys=false from by rw[HST.out];simp)
       clear HST
       go_wp2_with fail
       go_ret
       exact⟨by rw[HF.out];rfl,HW.out.trans HB5.out⟩
      first
       |have HN:=hdq (show eqS false xs ys=eqS false (Sts.drop (k+1) xs) (Sts.drop (k+1) ys)from by rw[HST.out];simp[e0,e1, *])
       |have HN:=hdq (show eqS true xs ys=eqS true (Sts.drop (k+1) xs) (Sts.drop (k+1) ys)from by rw[HST.out];simp[e0,e1, *])
      clear HST
      go_wp2_with fail
      go_roundw
      case rel=>exact⟨k+1,by omega,by go_num,HW.out.trans HB5.out,HN⟩
      case measure=>simp[intOf];omega
   ·have HF:=hdq (show eqS p xs ys=true from by rw[hall.out,Sts.drop_nil (by rw[HL.out];omega),Sts.drop_nil (by rw[←HM.out];omega)];rfl)
    have HW:=hdq hbw.out
    clear hall hbw
    go_wp2_with fail
    go_ret
    exact⟨by rw[HF.out];rfl,HW.out⟩
 ·have HF:=hdq (eqS_len (p:=p) hlen)
  have hne:((xs.len:Int)==(ys.len:Int))=false:=by simp;omega
  have hne':((xs.len:Int) != (ys.len:Int))=true:=by simp;omega
  clear hx hy
  go_enter Tryz.func98,Tryz.ntmps98
  go_wp2_with fail
  go_ret
  exact⟨by rw[HF.out];rfl,Fr.refl _ _⟩
theorem rqIS_all (p:Bool):∀xs ys:Sts,RqIS p xs ys
 | .nil,_=>fun i _ _ _ _ _ _ _ _ _ _ _ _ _ _ _ _ hd=>by cases i<;>simp[Sts.drop]at hd
 | .cons ..,.nil =>fun i _ _ _ _ _ _ _ _ _ _ _ _ _ _ _ _ _ hd=>by cases i<;>simp[Sts.drop]at hd
 | .cons k0 k1 k2 k3 k4 k5 k6 kr,.cons l0 l1 l2 l3 l4 l5 l6 lr=>fun i _ _ _ _ _ _ _ _ _ _ _ _ _ _ _ _ hd hd'=>by
  cases i with
  |zero=>
   simp only[Sts.drop]at hd hd'
   injection hd with e0 e1 e2 e3 e4 e5 e6 e7
   injection hd' with f0 f1 f2 f3 f4 f5 f6 f7
   subst e0 e1 e2 e3 e4 e5 e6 e7 f0 f1 f2 f3 f4 f5 f6 f7
   exact⟨rqS_one p k4 l4 (rqIS_all p k4 l4),rqS_one p k5 l5 (rqIS_all p k5 l5)⟩
  |succ i=>
   simp only[Sts.drop]at hd hd'
   exact rqIS_all p kr lr i _ _ _ _ _ _ _ _ _ _ _ _ _ _ _ _ hd hd'
theorem rqS_any (p:Bool) (xs ys:Sts):RqS p xs ys:=rqS_one p xs ys (rqIS_all p xs ys)

theorem eqA_step {p:Bool} {xs ys:List Arr} {i:Nat} {x y:Arr} {xr yr:List Arr} (hd:xs.drop i=x::xr∧xs.drop (i+1)=xr) (hd':ys.drop i=y::yr∧ys.drop (i+1)=yr):
  eqA p (xs.drop i) (ys.drop i)=((x.nm.toList==y.nm.toList)&&(x.size==y.size)&&(!p || x.at_==y.at_)&&eqA p (xs.drop (i+1)) (ys.drop (i+1))):=by
 rw[hd.1,hd'.1,hd.2,hd'.2,eqA]
theorem eqP_step {p:Bool} {xs ys:List Prc} {i:Nat} {x y:Prc} {xr yr:List Prc} (hd:xs.drop i=x::xr∧xs.drop (i+1)=xr) (hd':ys.drop i=y::yr∧ys.drop (i+1)=yr):
  eqP p (xs.drop i) (ys.drop i)=((x.nm.toList==y.nm.toList)&&(!p || x.at_==y.at_)&&eqV p x.params y.params&&eqS p x.body y.body&&eqP p (xs.drop (i+1)) (ys.drop (i+1))):=by
 rw[hd.1,hd'.1,hd.2,hd'.2,eqP]
theorem rqT_any (p:Bool) (t u:Tre) (w:World) (S S':Nat→Prop) (Z Z':Prop) (Av Aa Ap Am Bv Ba Bp Bm:Option Addr) (cv ca cp cm dv da dp dm:Nat) (hS:∀b,S b→b < w.heap.size) (hS':∀b,S' b→b < w.heap.size)
  (hx:TrR w S Z t Av Aa Ap Am cv ca cp cm) (hy:TrR w S' Z' u Bv Ba Bp Bm dv da dp dm):
  Calls Tryz.prog 33 #[trV t Av Aa Ap Am cv ca cp cm,trV u Bv Ba Bp Bm dv da dp dm,.bool p] w (EqPost (eqT p t u) w):=by
 obtain⟨r,hr⟩:=nmq (eqT p t u)
 rw[←hr]
 unfold eqT at hr
 obtain⟨v,hv⟩:=nmq (eqV p t.vars u.vars)
 obtain⟨s,hs⟩:=nmq (eqS p t.main u.main)
 obtain⟨w1,hw1⟩:=nmq ((w.alloc (.cells #[.slice Av t.vars.length cv,.slice Aa t.arrays.length ca,.slice Ap t.procs.length cp,.slice Am t.main.len cm] 27)).alloc (.cells #[.slice Bv u.vars.length dv,.slice Ba u.arrays.length da,.slice Bp u.procs.length dp,.slice Bm u.main.len dm] 27))
 have HF1:=hdq (show Fr NoT w w1 from by rw[hw1];exact((Fr.refl _ _).alloc _).alloc _)
 have hk0:Bk w1 w.heap.size 27 #[.slice Av t.vars.length cv,.slice Aa t.arrays.length ca,.slice Ap t.procs.length cp,.slice Am t.main.len cm]:=by rw[hw1];exact(Bk.new _ _ _).alloc _
 have hk1:Bk w1 (w.heap.size+1) 27 #[.slice Bv u.vars.length dv,.slice Ba u.arrays.length da,.slice Bp u.procs.length dp,.slice Bm u.main.len dm]:=by rw[hw1];exact Bk.new_at _ _ _ (by simp)
 have HKS:=hdq (aiq hk0 hk1)
 have HS:=hdq (aiq hS hS')
 have keepX:∀W,Fr NoT w W→TrR W S Z t Av Aa Ap Am cv ca cp cm:=fun W h=>hx.keep (h.same fun b hb=>⟨hS b hb,id⟩)
 have keepY:∀W,Fr NoT w W→TrR W S' Z' u Bv Ba Bp Bm dv da dp dm:=fun W h=>hy.keep (h.same fun b hb=>⟨hS' b hb,id⟩)
 have HX:=hdq keepX
 have HY:=hdq keepY
 have HV:=hdq (fun(W:World) (h:Fr NoT w W)=>rqV_any p t.vars u.vars W S S' Z Z' Av Bv cv dv (fun b hb=>ltq (hS b hb) h.size) (fun b hb=>ltq (hS' b hb) h.size) (keepX W h).vars (keepY W h).vars)
 have HM:=hdq (fun(W:World) (h:Fr NoT w W)=>rqS_any p t.main u.main W S S' Z Z' Am Bm cm dm (fun b hb=>ltq (hS b hb) h.size) (fun b hb=>ltq (hS' b hb) h.size) (keepX W h).main (keepY W h).main)
 rw[←hv]at HV hr
 rw[←hs]at HM
 have la:t.arrays.length≤9223372036854775807:=leq9 hx.arrays.1 hx.arrays.2.1.1
 have lb:u.arrays.length≤9223372036854775807:=leq9 hy.arrays.1 hy.arrays.2.1.1
 have lp:t.procs.length≤9223372036854775807:=leq9 hx.procs.1 hx.procs.2.1.1
 have lq:u.procs.length≤9223372036854775807:=leq9 hy.procs.1 hy.procs.2.1.1
 have HR:=hdq hr
 have HW1:=hdq hw1
 have HSS:=hdq hs
 unfold trV
 clear hr hv hs hw1 hk0 hk1 hS hS' keepX keepY hx hy
 cases v
 ·have HF:=hdq (show r=false from by rw[HR.out];simp)
  go_enter Tryz.func33,Tryz.ntmps33
  go_wp2_with fail
  rw[←HW1.out]
  refine(HV.out _ HF1.out).mono ?_
  rintro _ y ⟨rfl,hy⟩
  have HB:=hdq (HF1.out.trans hy)
  clear hy
  go_wp2_with fail
  go_ret
  exact⟨by rw[HF.out];rfl,HB.out⟩
 by_cases hla:t.arrays.length=u.arrays.length
 rotate_left
 ·have HF:=hdq (show r=false from by rw[HR.out];simp[hla])
  have hne:((t.arrays.length:Int)==(u.arrays.length:Int))=false:=by simp;omega
  have hne':((t.arrays.length:Int) != (u.arrays.length:Int))=true:=by simp;omega
  go_enter Tryz.func33,Tryz.ntmps33
  go_wp2_with fail
  rw[←HW1.out]
  refine(HV.out _ HF1.out).mono ?_
  rintro _ y ⟨rfl,hy⟩
  have HB:=hdq (HF1.out.trans hy)
  obtain⟨x0,x1,x2,x3,hxl⟩:=bk4 (HKS.out.1.fr0 hy)
  obtain⟨y0,y1,y2,y3,hyl⟩:=bk4 (HKS.out.2.fr0 hy)
  clear hy hla
  go_wp2_with fail
  go_ret
  exact⟨by rw[HF.out];rfl,HB.out⟩
 by_cases hlp:t.procs.length=u.procs.length
 rotate_left
 ·have HF:=hdq (show r=false from by rw[HR.out];simp[hlp])
  have hne:((t.procs.length:Int)==(u.procs.length:Int))=false:=by simp;omega
  have hne':((t.procs.length:Int) != (u.procs.length:Int))=true:=by simp;omega
  obtain⟨n,hn⟩:=nmq u.arrays.length
  rw[←hn]at hla lb HKS HW1 ⊢
  rw[hla]at HKS HW1 la ⊢
  have HNN:=hdq hn
  clear hn hla
  go_enter Tryz.func33,Tryz.ntmps33
  go_wp2_with fail
  rw[←HW1.out]
  refine(HV.out _ HF1.out).mono ?_
  rintro _ y ⟨rfl,hy⟩
  have HB:=hdq (HF1.out.trans hy)
  obtain⟨x0,x1,x2,x3,hxl⟩:=bk4 (HKS.out.1.fr0 hy)
  obtain⟨y0,y1,y2,y3,hyl⟩:=bk4 (HKS.out.2.fr0 hy)
  clear hy hlp
  go_wp2_with fail
  go_ret
  exact⟨by rw[HF.out];rfl,HB.out⟩
 obtain⟨n,hn⟩:=nmq u.arrays.length
 obtain⟨m,hm⟩:=nmq u.procs.length
 have hr2:r=(eqA p t.arrays u.arrays&&eqP p t.procs u.procs&&eqS p t.main u.main):=by rw[HR.out];simp[hla,hlp]
 rw[←hn]at hla lb HKS HW1 ⊢
 rw[hla]at HKS HW1 la ⊢
 rw[←hm]at hlp lq HKS HW1 ⊢
 rw[hlp]at HKS HW1 lp ⊢
 have HLA:=hdq (aiq hla hn)
 have HLP:=hdq (aiq hlp hm)
 have HR2:=hdq hr2
 clear HR hr2 hla hlp hn hm
 go_enter Tryz.func33,Tryz.ntmps33
 go_wp2_with fail
 rw[←HW1.out]
 refine(HV.out _ HF1.out).mono ?_
 rintro _ y ⟨rfl,hy⟩
 have HY1:=hdq hy
 obtain⟨x0,x1,x2,x3,hxl⟩:=bk4 (HKS.out.1.fr0 hy)
 obtain⟨y0,y1,y2,y3,hyl⟩:=bk4 (HKS.out.2.fr0 hy)
 clear hy
 go_wp2_with fail
 clear x0 x1 x2 x3 y0 y1 y2 y3 hxl hyl
 go_loopw [7] (fun i wr=>∃k:Nat,k≤n∧i= .int .i64 k∧Hid (Fr NoT w1 wr)∧Hid (r=(eqA p (t.arrays.drop k) (u.arrays.drop k)&&eqP p t.procs u.procs&&eqS p t.main u.main))) (fun i _=>n - (intOf i).toNat)
 case atStart=>exact⟨0,Nat.zero_le _,rfl,HY1.out,HR2.out⟩
 case round=>
  clear HY1 HR2
  obtain⟨k,hk,rfl,HK,hall⟩:=hrel
  obtain⟨x0,x1,x2,x3,hxl⟩:=bk4 (HKS.out.1.fr0 HK.out)
  obtain⟨y0,y1,y2,y3,hyl⟩:=bk4 (HKS.out.2.fr0 HK.out)
  have HW:=hdq (HF1.out.trans HK.out)
  by_cases hlt:k < n
  ·obtain⟨⟨a0,a1,a2⟩,ar,hd⟩:=drop_head1 (show k < t.arrays.length from by rw[HLA.out.1];exact hlt)
   obtain⟨⟨b0,b1,b2⟩,br,hd'⟩:=drop_head1 (show k < u.arrays.length from by rw[←HLA.out.2];exact hlt)
   obtain⟨b,o,rfl,hat⟩:=(HX.out wr HW.out).arrays.2.2 (by rw[HLA.out.1];omega)
   obtain⟨b',o',rfl,hat'⟩:=(HY.out wr HW.out).arrays.2.2 (by rw[←HLA.out.2];omega)
   have hat1:=hat.drop k
   have hat2:=hat'.drop k
   rw[hd.1]at hat1
   rw[hd'.1]at hat2
   obtain⟨⟨hbS,_,_,_,c0,c1,c2⟩,_⟩:=hat1
   obtain⟨⟨hbS2,_,_,_,d0,d1,d2⟩,_⟩:=hat2
   have hxr:b < wr.heap.size:=ltq (HS.out.1 _ hbS) HW.out.size
   have hxr':b' < wr.heap.size:=ltq (HS.out.2 _ hbS2) HW.out.size
   have hlt':(k:Int) < (n:Int):=by omega
   have hge:(0:Int)≤(k:Int):=by omega
   have hst:=hall.out
   rw[eqA_step hd hd']at hst
   have HST:=hdq hst
   simp only at c0 c1 c2 d0 d1 d2
   clear hd hd' hat hat' hst hall hbS hbS2
   go_upto_region 6 with fail
   go_cut [8,9] (fun s8 s9 wx=>∃P Q:Nat,s8= .pointer (some ⟨P,0,none⟩)∧s9= .pointer (some ⟨Q,0,none⟩)∧Fr NoT wr wx∧P < wx.heap.size∧Q < wx.heap.size∧wx.cell? ⟨P,0,none⟩=some (.string a0)∧wx.cell? ⟨P,1,none⟩=some (.int .i64 a1)∧wx.cell? ⟨P,2,none⟩=some (.int .i64 a2)∧wx.cell? ⟨Q,0,none⟩=some (.string b0)∧wx.cell? ⟨Q,1,none⟩=some (.int .i64 b1)∧wx.cell? ⟨Q,2,none⟩=some (.int .i64 b2))
   case first=>
    go_region
    all_goals
     go_wp2_with fail
     go_meet
     refine⟨_,_,rfl,rfl,Fr.drew (((Fr.refl _ _).alloc _).alloc _),by simp<;>omega,by simp<;>omega,?_⟩
     simp
   case rest=>
    obtain⟨P,Q,rfl,rfl,hbx,hP,hQ,p0,p1,p2,g0,g1,g2⟩:=hcut
    have HBX:=hdq hbx
    clear hbx c0 d0 c1 d1 c2 d2 x0 x1 x2 x3 y0 y1 y2 y3
    cases e0:a0.toList==b0.toList
    ·have e0':(a0.toList != b0.toList)=true:=by rw[bne,e0];rfl
     have HF:=hdq (show r=false from by rw[HST.out,e0];simp)
     clear HST
     go_wp2_with fail
     go_ret
     exact⟨by rw[HF.out];rfl,HW.out.trans HBX.out⟩
    have e0':(a0.toList != b0.toList)=false:=by rw[bne,e0];rfl
    cases e1:a1==b1
    ·have e1':(a1 != b1)=true:=by rw[bne,e1];rfl
     have HF:=hdq (show r=false from by rw[HST.out,e0,e1];simp)
     clear HST
     go_wp2_with fail
     go_ret
     exact⟨by rw[HF.out];rfl,HW.out.trans HBX.out⟩
    have e1':(a1 != b1)=false:=by rw[bne,e1];rfl
    have hpl:p=false∨(p=true∧(a2==b2)=true)∨(p=true∧(a2==b2)=false):=by cases p<;>cases a2==b2<;>simp
    rcases hpl with rfl|⟨rfl,e2⟩|⟨rfl,e2⟩
    rotate_right
    ·have e2':(a2 != b2)=true:=by rw[bne,e2];rfl
     have HF:=hdq (show r=false from by rw[HST.out,e0,e1,e2];simp)
     clear HST
     go_wp2_with fail
     go_ret
     exact⟨by rw[HF.out];rfl,HW.out.trans HBX.out⟩
    all_goals
     try have e2':(a2 != b2)=false:=by rw[bne,e2];rfl
     have hn:=HST.out
     try simp only[e2]at hn
     simp only[e0,e1,Bool.true_and,Bool.and_true,Bool.not_false,Bool.not_true,Bool.true_or,Bool.false_or]at hn
     have HN:=hdq hn
     clear hn
     clear HST
     go_wp2_with fail
     go_roundw
     case rel=>exact⟨k+1,by omega,by go_num,HK.out.trans HBX.out,HN⟩
     case measure=>simp[intOf];omega
  ·have hst:r=(eqP p t.procs u.procs&&eqS p t.main u.main):=by rw[hall.out,List.drop_eq_nil_of_le (by rw[HLA.out.1];omega),List.drop_eq_nil_of_le (by rw[←HLA.out.2];omega)];rfl
   have HR3:=hdq hst
   have HK1:=hdq HK.out
   clear hst hall HK HW
   go_wp2_with fail
   clear x0 x1 x2 x3 y0 y1 y2 y3 hxl hyl
   try go_step3
   try go_wp2_with fail
   go_loopw [10] (fun i wr=>∃k:Nat,k≤m∧i= .int .i64 k∧Hid (Fr NoT w1 wr)∧Hid (r=(eqP p (t.procs.drop k) (u.procs.drop k)&&eqS p t.main u.main))) (fun i _=>m - (intOf i).toNat)
   case atStart=>exact⟨0,Nat.zero_le _,rfl,HK1.out,HR3.out⟩
   case round=>
    clear HK1 HR3 hk hlt
    obtain⟨k,hk,rfl,HK,hall⟩:=hrel
    obtain⟨x0,x1,x2,x3,hxl⟩:=bk4 (HKS.out.1.fr0 HK.out)
    obtain⟨y0,y1,y2,y3,hyl⟩:=bk4 (HKS.out.2.fr0 HK.out)
    have HW:=hdq (HF1.out.trans HK.out)
    by_cases hlt:k < m
    ·obtain⟨⟨a0,a1,a2,a3⟩,ar,hd⟩:=drop_head1 (show k < t.procs.length from by rw[HLP.out.1];exact hlt)
     obtain⟨⟨b0,b1,b2,b3⟩,br,hd'⟩:=drop_head1 (show k < u.procs.length from by rw[←HLP.out.2];exact hlt)
     obtain⟨b,o,rfl,hat⟩:=(HX.out wr HW.out).procs.2.2 (by rw[HLP.out.1];omega)
     obtain⟨b',o',rfl,hat'⟩:=(HY.out wr HW.out).procs.2.2 (by rw[←HLP.out.2];omega)
     have hat1:=hat.drop k
     have hat2:=hat'.drop k
     rw[hd.1]at hat1
     rw[hd'.1]at hat2
     obtain⟨⟨hbS,_,_,c0,c3⟩,⟨A1,q1,c1,s1⟩,⟨A2,q2,c2,s2⟩,_⟩:=hat1
     obtain⟨⟨hbS2,_,_,d0,d3⟩,⟨D1,r1,d1,t1⟩,⟨D2,r2,d2,t2⟩,_⟩:=hat2
     have hxr:b < wr.heap.size:=ltq (HS.out.1 _ hbS) HW.out.size
     have hxr':b' < wr.heap.size:=ltq (HS.out.2 _ hbS2) HW.out.size
     have hlt':(k:Int) < (m:Int):=by omega
     have hge:(0:Int)≤(k:Int):=by omega
     have hst:=hall.out
     rw[eqP_step hd hd']at hst
     simp only at c0 c1 c2 c3 d0 d1 d2 d3 s1 s2 t1 t2 hst
     have HC1:=hdq (fun(W:World) (h:Fr NoT wr W)=>rqV_any p a1 b1 W S S' Z Z' A1 D1 q1 r1 (fun b hb=>ltq (HS.out.1 b hb) (HW.out.trans h).size) (fun b hb=>ltq (HS.out.2 b hb) (HW.out.trans h).size) (s1.imp fun _ _ hx=>VaR.keep (h.same fun b hb=>⟨ltq (HS.out.1 b hb) HW.out.size,id⟩) hx) (t1.imp fun _ _ hx=>VaR.keep (h.same fun b hb=>⟨ltq (HS.out.2 b hb) HW.out.size,id⟩) hx))
     have HC2:=hdq (fun(W:World) (h:Fr NoT wr W)=>rqS_any p a2 b2 W S S' Z Z' A2 D2 q2 r2 (fun b hb=>ltq (HS.out.1 b hb) (HW.out.trans h).size) (fun b hb=>ltq (HS.out.2 b hb) (HW.out.trans h).size) (s2.imp fun _ _ hx=>StR.keep (h.same fun b hb=>⟨ltq (HS.out.1 b hb) HW.out.size,id⟩) hx) (t2.imp fun _ _ hx=>StR.keep (h.same fun b hb=>⟨ltq (HS.out.2 b hb) HW.out.size,id⟩) hx))
     obtain⟨v1,hv1⟩:=nmq (eqV p a1 b1)
     obtain⟨v2,hv2⟩:=nmq (eqS p a2 b2)
     rw[←hv1]at HC1 hst
     rw[←hv2]at HC2 hst
     have HST:=hdq hst
     clear hd hd' hat hat' hst hall hbS hbS2 s1 s2 t1 t2 hv1 hv2
     go_upto_region 12 with fail
     go_cut [11,12] (fun s8 s9 wx=>∃P Q:Nat,s8= .pointer (some ⟨P,0,none⟩)∧s9= .pointer (some ⟨Q,0,none⟩)∧Fr NoT wr wx∧P < wx.heap.size∧Q < wx.heap.size∧wx.cell? ⟨P,0,none⟩=some (.string a0)∧wx.cell? ⟨P,1,none⟩=some (.slice A1 a1.length q1)∧wx.cell? ⟨P,2,none⟩=some (.slice A2 a2.len q2)∧wx.cell? ⟨P,3,none⟩=some (.int .i64 a3)∧wx.cell? ⟨Q,0,none⟩=some (.string b0)∧wx.cell? ⟨Q,1,none⟩=some (.slice D1 b1.length r1)∧wx.cell? ⟨Q,2,none⟩=some (.slice D2 b2.len r2)∧wx.cell? ⟨Q,3,none⟩=some (.int .i64 b3))
     case first=>
      go_region
      all_goals
       go_wp2_with fail
       go_meet
       refine⟨_,_,rfl,rfl,Fr.drew (((Fr.refl _ _).alloc _).alloc _),by simp<;>omega,by simp<;>omega,?_⟩
       simp
     case rest=>
      obtain⟨P,Q,rfl,rfl,hbx,hP,hQ,p0,p1,p2,p3,g0,g1,g2,g3⟩:=hcut
      have HBX:=hdq hbx
      clear hbx c0 d0 c1 d1 c2 d2 c3 d3 x0 x1 x2 x3 y0 y1 y2 y3
      cases e0:a0.toList==b0.toList
      ·have e0':(a0.toList != b0.toList)=true:=by rw[bne,e0];rfl
       have HF:=hdq (show r=false from by rw[HST.out,e0];simp)
       clear HST
       go_wp2_with fail
       go_ret
       exact⟨by rw[HF.out];rfl,HW.out.trans HBX.out⟩
      have e0':(a0.toList != b0.toList)=false:=by rw[bne,e0];rfl
      have hpl:p=false∨(p=true∧(a3==b3)=true)∨(p=true∧(a3==b3)=false):=by cases p<;>cases a3==b3<;>simp
      rcases hpl with rfl|⟨rfl,e3⟩|⟨rfl,e3⟩
      rotate_right
      ·have e3':(a3 != b3)=true:=by rw[bne,e3];rfl
       have HF:=hdq (show r=false from by rw[HST.out,e0,e3];simp)
       clear HST
       go_wp2_with fail
       go_ret
       exact⟨by rw[HF.out];rfl,HW.out.trans HBX.out⟩
      all_goals
       try have e3':(a3 != b3)=false:=by rw[bne,e3];rfl
       cases v1
       ·have HF:=hdq (show r=false from by rw[HST.out];simp)
        clear HST
        go_wp2_with (go_at_call 97;refine(HC1.out _ HBX.out).mono ?_;rintro _ y1 ⟨rfl,hy1⟩;have HB1:=hdq (Fr.trans HBX.out hy1);have hP1:=ltq hP hy1.size;have hQ1:=ltq hQ hy1.size;have p2_0:=(hy1.cell (p:=⟨P,2,none⟩) hP id).trans p2;have g2_0:=(hy1.cell (p:=⟨Q,2,none⟩) hQ id).trans g2;clear hy1)
        go_ret
        exact⟨by rw[HF.out];rfl,HW.out.trans HB1.out⟩
       cases v2
       ·have HF:=hdq (show r=false from by rw[HST.out];simp)
        clear HST
        go_wp2_with (first|(go_at_call 97;refine(HC1.out _ HBX.out).mono ?_;rintro _ y1 ⟨rfl,hy1⟩;have HB1:=hdq (Fr.trans HBX.out hy1);have hP1:=ltq hP hy1.size;have hQ1:=ltq hQ hy1.size;have p2_0:=(hy1.cell (p:=⟨P,2,none⟩) hP id).trans p2;have g2_0:=(hy1.cell (p:=⟨Q,2,none⟩) hQ id).trans g2;clear hy1)|(go_at_call 98;refine(HC2.out _ HB1.out).mono ?_;rintro _ y2 ⟨rfl,hy2⟩;have HB2:=hdq (Fr.trans HB1.out hy2);have hP2:=ltq hP1 hy2.size;have hQ2:=ltq hQ1 hy2.size;clear hy2))
        go_ret
        exact⟨by rw[HF.out];rfl,HW.out.trans HB2.out⟩
       have hn:=HST.out
       try simp only[e3]at hn
       simp only[e0,Bool.true_and,Bool.and_true,Bool.not_false,Bool.not_true,Bool.true_or,Bool.false_or]at hn
       have HN:=hdq hn
       clear hn
       clear HST
       go_wp2_with (first|(go_at_call 97;refine(HC1.out _ HBX.out).mono ?_;rintro _ y1 ⟨rfl,hy1⟩;have HB1:=hdq (Fr.trans HBX.out hy1);have hP1:=ltq hP hy1.size;have hQ1:=ltq hQ hy1.size;have p2_0:=(hy1.cell (p:=⟨P,2,none⟩) hP id).trans p2;have g2_0:=(hy1.cell (p:=⟨Q,2,none⟩) hQ id).trans g2;clear hy1)|(go_at_call 98;refine(HC2.out _ HB1.out).mono ?_;rintro _ y2 ⟨rfl,hy2⟩;have HB2:=hdq (Fr.trans HB1.out hy2);have hP2:=ltq hP1 hy2.size;have hQ2:=ltq hQ1 hy2.size;clear hy2))
       go_roundw
       case rel=>exact⟨k+1,by omega,by go_num,HK.out.trans HB2.out,HN⟩
       case measure=>simp[intOf];omega
    ·have hst:r=s:=by rw[hall.out,List.drop_eq_nil_of_le (by rw[HLP.out.1];omega),List.drop_eq_nil_of_le (by rw[←HLP.out.2];omega),HSS.out];rfl
     have HR4:=hdq hst
     clear hst hall
     go_wp2_with fail
     refine(HM.out _ HW.out).mono ?_
     rintro _ y ⟨rfl,hy⟩
     have HB:=hdq (HW.out.trans hy)
     clear hy
     go_wp2_with fail
     go_ret
     exact⟨by rw[HR4.out];rfl,HB.out⟩
theorem ralikeT_any (t u:Tre) (w:World) (S S':Nat→Prop) (Z Z':Prop) (Av Aa Ap Am Bv Ba Bp Bm:Option Addr) (cv ca cp cm dv da dp dm:Nat) (hS:∀b,S b→b < w.heap.size) (hS':∀b,S' b→b < w.heap.size)
  (hx:TrR w S Z t Av Aa Ap Am cv ca cp cm) (hy:TrR w S' Z' u Bv Ba Bp Bm dv da dp dm):
  Calls Tryz.prog 11 #[trV t Av Aa Ap Am cv ca cp cm,trV u Bv Ba Bp Bm dv da dp dm] w (EqPost (eqT false t u) w):=by
 have HC:=hdq (fun(W:World) (h:Fr NoT w W)=>rqT_any false t u W S S' Z Z' Av Aa Ap Am Bv Ba Bp Bm cv ca cp cm dv da dp dm (fun b hb=>ltq (hS b hb) h.size) (fun b hb=>ltq (hS' b hb) h.size) (hx.keep (h.same fun b hb=>⟨hS b hb,id⟩)) (hy.keep (h.same fun b hb=>⟨hS' b hb,id⟩)))
 clear hx hy hS hS'
 unfold trV at*
 go_enter Tryz.func11,Tryz.ntmps11
 go_wp2_with fail
 refine(HC.out _ (((Fr.refl _ _).alloc _).alloc _)).mono ?_
 rintro _ y ⟨rfl,hy⟩
 have HB:=hdq ((((Fr.refl NoT w).alloc _).alloc _).trans hy)
 clear hy
 go_wp2_with fail
 go_ret
 exact⟨rfl,HB.out⟩

theorem rsameT_any (t u:Tre) (w:World) (S S':Nat→Prop) (Z Z':Prop) (Av Aa Ap Am Bv Ba Bp Bm:Option Addr) (cv ca cp cm dv da dp dm:Nat) (hS:∀b,S b→b < w.heap.size) (hS':∀b,S' b→b < w.heap.size)
  (hx:TrR w S Z t Av Aa Ap Am cv ca cp cm) (hy:TrR w S' Z' u Bv Ba Bp Bm dv da dp dm):
  Calls Tryz.prog 10 #[trV t Av Aa Ap Am cv ca cp cm,trV u Bv Ba Bp Bm dv da dp dm] w (EqPost (eqT true t u) w):=by
 have HC:=hdq (fun(W:World) (h:Fr NoT w W)=>rqT_any true t u W S S' Z Z' Av Aa Ap Am Bv Ba Bp Bm cv ca cp cm dv da dp dm (fun b hb=>ltq (hS b hb) h.size) (fun b hb=>ltq (hS' b hb) h.size) (hx.keep (h.same fun b hb=>⟨hS b hb,id⟩)) (hy.keep (h.same fun b hb=>⟨hS' b hb,id⟩)))
 clear hx hy hS hS'
 unfold trV at*
 go_enter Tryz.func10,Tryz.ntmps10
 go_wp2_with fail
 refine(HC.out _ (((Fr.refl _ _).alloc _).alloc _)).mono ?_
 rintro _ y ⟨rfl,hy⟩
 have HB:=hdq ((((Fr.refl NoT w).alloc _).alloc _).trans hy)
 clear hy
 go_wp2_with fail
 go_ret
 exact⟨rfl,HB.out⟩
end Go.Proofs.YtmopichdofgndaaGreatDoor
