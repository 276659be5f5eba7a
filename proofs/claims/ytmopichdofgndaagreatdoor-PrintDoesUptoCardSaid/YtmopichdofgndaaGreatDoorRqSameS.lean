/-
  ref09.sameStmts.
-/
import Derived.Test.YtmopichdofgndaaGreatDoorJnRq
set_option linter.unusedVariables false
set_option linter.unusedSimpArgs false
namespace Go.Proofs.YtmopichdofgndaaGreatDoor
open Go.RowKit Go.Shelf

def RqS (p:Bool) (xs ys:Sts):Prop:=∀(W:World) (S S':Nat→Prop) (Z Z':Prop) (A A':Option Addr) (c c':Nat),(∀b,S b→b < W.heap.size)→(∀b,S' b→b < W.heap.size)→SlR (fun b o=>StR W S Z xs b o) xs.len 128 A c→SlR (fun b o=>StR W S' Z' ys b o) ys.len 128 A' c'→
 Calls Tryz.prog 98 #[.slice A xs.len c,.slice A' ys.len c',.bool p] W (EqPost (eqS p xs ys) W)
def RqIS (p:Bool) (xs ys:Sts):Prop:=∀(i:Nat) (a0:Int) (a1:ByteArray) (a2:Exs) (a3:Cds) (a4:Sts) (a5:Sts) (a6:Int) (ar:Sts) (b0:Int) (b1:ByteArray) (b2:Exs) (b3:Cds) (b4:Sts) (b5:Sts) (b6:Int) (br:Sts),Sts.drop i xs= .cons a0 a1 a2 a3 a4 a5 a6 ar→Sts.drop i ys= .cons b0 b1 b2 b3 b4 b5 b6 br→RqS p a4 b4∧RqS p a5 b5
theorem eqS_step {p:Bool} {xs ys:Sts} {i:Nat} {a0 a1 a2 a3 a4 a5 a6 ar b0 b1 b2 b3 b4 b5 b6 br} (hd:Sts.drop i xs= .cons a0 a1 a2 a3 a4 a5 a6 ar) (hd':Sts.drop i ys= .cons b0 b1 b2 b3 b4 b5 b6 br):
  eqS p (Sts.drop i xs) (Sts.drop i ys)=((a0==b0)&&(a1.toList==b1.toList)&&(!p || a6==b6)&&eqX p a2 b2&&eqC p a3 b3&&eqS p a4 b4&&eqS p a5 b5&&eqS p (Sts.drop (i+1) xs) (Sts.drop (i+1) ys)):=by
 rw[Sts.drop_succ i xs hd,Sts.drop_succ i ys hd',hd,hd']
 simp only[eqS]
set_option maxRecDepth 100000 in
set_option maxHeartbeats 6400000 in
theorem rqS_one (p:Bool) (xs ys:Sts) (hall0:RqIS p xs ys):RqS p xs ys:=by
 intro w S S' Z Z' A A' c c' hS hS' hx hy
 have hl:xs.len≤9223372036854775807:=leq9 hx.1 hx.2.1.1
 have hl':ys.len≤9223372036854775807:=leq9 hy.1 hy.2.1.1
 have HA:=hdq hall0
 clear hall0
 by_cases hlen:xs.len=ys.len
 ·obtain⟨m,hm⟩:=nmq ys.len
  have hxm:xs.len=m:=hlen.trans hm.symm
  rw[hxm,←hm]
  rw[←hm]at hl'
  have HM:=hdq hm
  have HL:=hdq hxm
  have HX:=hdq hx
  have HY:=hdq hy
  have HS:=hdq (aiq hS hS')
  clear hlen hm hxm hl hx hy hS hS'
  go_enter Tryz.func98,Tryz.ntmps98
  go_wp2_with fail
  go_loopw [7] (fun i wr=>∃k:Nat,k≤m∧i= .int .i64 k∧Hid (Fr NoT w wr)∧Hid (eqS p xs ys=eqS p (Sts.drop k xs) (Sts.drop k ys))) (fun i _=>m - (intOf i).toNat)
  case atStart=>exact⟨0,Nat.zero_le _,rfl,Fr.refl _ _,rfl⟩
  case round=>
   obtain⟨k,hk,rfl,hbw,hall⟩:=hrel
   by_cases hlt:k < m
   ·obtain⟨a0,a1,a2,a3,a4,a5,a6,ar,hd⟩:=Sts.drop_cons (show k < xs.len from by rw[HL.out];exact hlt)
    obtain⟨b0,b1,b2,b3,b4,b5,b6,br,hd'⟩:=Sts.drop_cons (show k < ys.len from by rw[←HM.out];exact hlt)
    obtain⟨b,o,rfl,hat⟩:=HX.out.2.2 (by rw[HL.out];omega)
    obtain⟨b',o',rfl,hat'⟩:=HY.out.2.2 (by rw[←HM.out];omega)
    have hat1:=(StR.keep (hbw.out.same fun b hb=>⟨HS.out.1 b hb,id⟩) hat).drop k
    have hat2:=(StR.keep (hbw.out.same fun b hb=>⟨HS.out.2 b hb,id⟩) hat').drop k
    rw[hd]at hat1
    rw[hd']at hat2
    obtain⟨⟨hbS,_,_,_,c0,c1,c6⟩,⟨A2,q2,c2,s2⟩,⟨A3,q3,c3,s3⟩,⟨A4,q4,c4,s4⟩,⟨A5,q5,c5,s5⟩,_⟩:=hat1
    obtain⟨⟨hbS2,_,_,_,d0,d1,d6⟩,⟨D2,r2,d2,t2⟩,⟨D3,r3,d3,t3⟩,⟨D4,r4,d4,t4⟩,⟨D5,r5,d5,t5⟩,_⟩:=hat2
    have hxr:b < wr.heap.size:=ltq (HS.out.1 _ hbS) hbw.out.size
    have hxr':b' < wr.heap.size:=ltq (HS.out.2 _ hbS2) hbw.out.size
    have hlt':(k:Int) < (m:Int):=by omega
    have hge:(0:Int)≤(k:Int):=by omega
    have hst:=hall.out.trans (eqS_step hd hd')
    have hrec:=HA.out k a0 a1 a2 a3 a4 a5 a6 ar b0 b1 b2 b3 b4 b5 b6 br hd hd'
    have HC2:=hdq (fun(W:World) (h:Fr NoT wr W)=>rqX_any p a2 b2 W S S' Z Z' A2 D2 q2 r2 (fun b hb=>ltq (HS.out.1 b hb) (hbw.out.trans h).size) (fun b hb=>ltq (HS.out.2 b hb) (hbw.out.trans h).size) (s2.imp fun _ _ hx=>ExR.keep (h.same fun b hb=>⟨ltq (HS.out.1 b hb) hbw.out.size,id⟩) hx) (t2.imp fun _ _ hx=>ExR.keep (h.same fun b hb=>⟨ltq (HS.out.2 b hb) hbw.out.size,id⟩) hx))
    obtain⟨v2,hv2⟩:=nmq (eqX p a2 b2)
    rw[←hv2]at HC2 hst
    have HC3:=hdq (fun(W:World) (h:Fr NoT wr W)=>rqC_any p a3 b3 W S S' Z Z' A3 D3 q3 r3 (fun b hb=>ltq (HS.out.1 b hb) (hbw.out.trans h).size) (fun b hb=>ltq (HS.out.2 b hb) (hbw.out.trans h).size) (s3.imp fun _ _ hx=>CdR.keep (h.same fun b hb=>⟨ltq (HS.out.1 b hb) hbw.out.size,id⟩) hx) (t3.imp fun _ _ hx=>CdR.keep (h.same fun b hb=>⟨ltq (HS.out.2 b hb) hbw.out.size,id⟩) hx))
    obtain⟨v3,hv3⟩:=nmq (eqC p a3 b3)
    rw[←hv3]at HC3 hst
    have HC4:=hdq (fun(W:World) (h:Fr NoT wr W)=>hrec.1 W S S' Z Z' A4 D4 q4 r4 (fun b hb=>ltq (HS.out.1 b hb) (hbw.out.trans h).size) (fun b hb=>ltq (HS.out.2 b hb) (hbw.out.trans h).size) (s4.imp fun _ _ hx=>StR.keep (h.same fun b hb=>⟨ltq (HS.out.1 b hb) hbw.out.size,id⟩) hx) (t4.imp fun _ _ hx=>StR.keep (h.same fun b hb=>⟨ltq (HS.out.2 b hb) hbw.out.size,id⟩) hx))
    obtain⟨v4,hv4⟩:=nmq (eqS p a4 b4)
    rw[←hv4]at HC4 hst
    have HC5:=hdq (fun(W:World) (h:Fr NoT wr W)=>hrec.2 W S S' Z Z' A5 D5 q5 r5 (fun b hb=>ltq (HS.out.1 b hb) (hbw.out.trans h).size) (fun b hb=>ltq (HS.out.2 b hb) (hbw.out.trans h).size) (s5.imp fun _ _ hx=>StR.keep (h.same fun b hb=>⟨ltq (HS.out.1 b hb) hbw.out.size,id⟩) hx) (t5.imp fun _ _ hx=>StR.keep (h.same fun b hb=>⟨ltq (HS.out.2 b hb) hbw.out.size,id⟩) hx))
    obtain⟨v5,hv5⟩:=nmq (eqS p a5 b5)
    rw[←hv5]at HC5 hst
    have HST:=hdq hst
    have HW:=hdq hbw.out
    clear hd hd' hat hat' hst hall hbw hbS hbS2 hrec s2 t2 hv2 s3 t3 hv3 s4 t4 hv4 s5 t5 hv5
    go_upto_region 6 with fail
    go_cut [8,9] (fun s8 s9 wx=>∃P Q:Nat,s8= .pointer (some ⟨P,0,none⟩)∧s9= .pointer (some ⟨Q,0,none⟩)∧Fr NoT wr wx∧P < wx.heap.size∧Q < wx.heap.size∧wx.cell? ⟨P,0,none⟩=some (.int .u8 a0)∧wx.cell? ⟨P,1,none⟩=some (.string a1)∧wx.cell? ⟨P,2,none⟩=some (.slice A2 a2.len q2)∧wx.cell? ⟨P,3,none⟩=some (.slice A3 a3.len q3)∧wx.cell? ⟨P,4,none⟩=some (.slice A4 a4.len q4)∧wx.cell? ⟨P,5,none⟩=some (.slice A5 a5.len q5)∧wx.cell? ⟨P,6,none⟩=some (.int .i64 a6)∧wx.cell? ⟨Q,0,none⟩=some (.int .u8 b0)∧wx.cell? ⟨Q,1,none⟩=some (.string b1)∧wx.cell? ⟨Q,2,none⟩=some (.slice D2 b2.len r2)∧wx.cell? ⟨Q,3,none⟩=some (.slice D3 b3.len r3)∧wx.cell? ⟨Q,4,none⟩=some (.slice D4 b4.len r4)∧wx.cell? ⟨Q,5,none⟩=some (.slice D5 b5.len r5)∧wx.cell? ⟨Q,6,none⟩=some (.int .i64 b6))
    case first=>
     go_region
     all_goals
      go_wp2_with fail
      go_meet
      refine⟨_,_,rfl,rfl,Fr.drew (((Fr.refl _ _).alloc _).alloc _),by simp<;>omega,by simp<;>omega,?_⟩
      simp
    case rest=>
     obtain⟨P,Q,rfl,rfl,hbx,hP,hQ,p0,p1,p2,p3,p4,p5,p6,g0,g1,g2,g3,g4,g5,g6⟩:=hcut
     have HBX:=hdq hbx
     clear hbx c0 d0 c1 d1 c2 d2 c3 d3 c4 d4 c5 d5 c6 d6
     cases e0:a0==b0
     ·have e0':(a0 != b0)=true:=by rw[bne,e0];rfl
      have HF:=hdq (show eqS _ xs ys=false from by rw[HST.out,e0];simp)
      clear HST
      go_wp2_with fail
      go_ret
      exact⟨by rw[HF.out];rfl,HW.out.trans HBX.out⟩
     have e0':(a0 != b0)=false:=by rw[bne,e0];rfl
     cases e1:a1.toList==b1.toList
     ·have e1':(a1.toList != b1.toList)=true:=by rw[bne,e1];rfl
      have HF:=hdq (show eqS _ xs ys=false from by rw[HST.out,e0,e1];simp)
      clear HST
      go_wp2_with fail
      go_ret
      exact⟨by rw[HF.out];rfl,HW.out.trans HBX.out⟩
     have e1':(a1.toList != b1.toList)=false:=by rw[bne,e1];rfl
     have hpl:p=false∨(p=true∧(a6==b6)=true)∨(p=true∧(a6==b6)=false):=by cases p<;>cases a6==b6<;>simp
     rcases hpl with rfl|⟨rfl,e6⟩|⟨rfl,e6⟩
     rotate_right
     ·have e6':(a6 != b6)=true:=by rw[bne,e6];rfl
      have HF:=hdq (show eqS true xs ys=false from by rw[HST.out,e0,e1,e6];simp)
      clear HST
      go_wp2_with fail
      go_ret
      exact⟨by rw[HF.out];rfl,HW.out.trans HBX.out⟩
     all_goals
      try have e6':(a6 != b6)=false:=by rw[bne,e6];rfl
      go_wp2_with fail
      refine(HC2.out _ HBX.out).mono ?_
      rintro _ y2 ⟨rfl,hy2⟩
      have HB2:=hdq (Fr.trans HBX.out hy2)
      have hP2:=ltq hP hy2.size
      have hQ2:=ltq hQ hy2.size
      have p3':=(hy2.cell (p:=⟨P,3,none⟩) hP id).trans p3
      have g3':=(hy2.cell (p:=⟨Q,3,none⟩) hQ id).trans g3
      clear p3 g3
      have p3:=p3'
      have g3:=g3'
      clear p3' g3'
      have p4':=(hy2.cell (p:=⟨P,4,none⟩) hP id).trans p4
      have g4':=(hy2.cell (p:=⟨Q,4,none⟩) hQ id).trans g4
      clear p4 g4
      have p4:=p4'
      have g4:=g4'
      clear p4' g4'
      have p5':=(hy2.cell (p:=⟨P,5,none⟩) hP id).trans p5
      have g5':=(hy2.cell (p:=⟨Q,5,none⟩) hQ id).trans g5
      clear p5 g5
      have p5:=p5'
      have g5:=g5'
      clear p5' g5'
      clear hy2 HC2 hP hQ p0 g0 p2 g2
      cases v2
      ·have HF:=hdq (show eqS _ xs ys=false from by rw[HST.out];simp)
       clear HST
       go_wp2_with fail
       go_ret
       exact⟨by rw[HF.out];rfl,HW.out.trans HB2.out⟩
      go_wp2_with fail
      refine(HC3.out _ HB2.out).mono ?_
      rintro _ y3 ⟨rfl,hy3⟩
      have HB3:=hdq (Fr.trans HB2.out hy3)
      have hP3:=ltq hP2 hy3.size
      have hQ3:=ltq hQ2 hy3.size
      have p4':=(hy3.cell (p:=⟨P,4,none⟩) hP2 id).trans p4
      have g4':=(hy3.cell (p:=⟨Q,4,none⟩) hQ2 id).trans g4
      clear p4 g4
      have p4:=p4'
      have g4:=g4'
      clear p4' g4'
      have p5':=(hy3.cell (p:=⟨P,5,none⟩) hP2 id).trans p5
      have g5':=(hy3.cell (p:=⟨Q,5,none⟩) hQ2 id).trans g5
      clear p5 g5
      have p5:=p5'
      have g5:=g5'
      clear p5' g5'
      clear hy3 HC3 hP2 hQ2 p3 g3
      cases v3
      ·have HF:=hdq (show eqS _ xs ys=false from by rw[HST.out];simp)
       clear HST
       go_wp2_with fail
       go_ret
       exact⟨by rw[HF.out];rfl,HW.out.trans HB3.out⟩
      go_wp2_with fail
      refine(HC4.out _ HB3.out).mono ?_
      rintro _ y4 ⟨rfl,hy4⟩
      have HB4:=hdq (Fr.trans HB3.out hy4)
      have hP4:=ltq hP3 hy4.size
      have hQ4:=ltq hQ3 hy4.size
      have p5':=(hy4.cell (p:=⟨P,5,none⟩) hP3 id).trans p5
      have g5':=(hy4.cell (p:=⟨Q,5,none⟩) hQ3 id).trans g5
      clear p5 g5
      have p5:=p5'
      have g5:=g5'
      clear p5' g5'
      clear hy4 HC4 hP3 hQ3 p4 g4
      cases v4
      ·have HF:=hdq (show eqS _ xs ys=false from by rw[HST.out];simp)
       clear HST
       go_wp2_with fail
       go_ret
       exact⟨by rw[HF.out];rfl,HW.out.trans HB4.out⟩
      go_wp2_with fail
      refine(HC5.out _ HB4.out).mono ?_
      rintro _ y5 ⟨rfl,hy5⟩
      have HB5:=hdq (Fr.trans HB4.out hy5)
      have hP5:=ltq hP4 hy5.size
      have hQ5:=ltq hQ4 hy5.size
      clear hy5 HC5 hP4 hQ4 p5 g5
      cases v5
      ·have HF:=hdq (show eqS _ xs ys=false from by rw[HST.out];simp)
       clear HST
       go_wp2_with fail
       go_ret
       exact⟨by rw[HF.out];rfl,HW.out.trans HB5.out⟩
      first
       |have HN:=hdq (show eqS false xs ys=eqS false (Sts.drop (k+1) xs) (Sts.drop (k+1) ys)from by rw[HST.out];simp[e0,e1, *])
       |have HN:=hdq (show eqS true xs ys=eqS true (Sts.drop (k+1) xs) (Sts.drop (k+1) ys)from by rw[HST.out];simp[e0,e1, *])
      clear HST
      go_wp2_with fail
      go_roundw
      case rel=>exact⟨k+1,by omega,by go_num,HW.out.trans HB5.out,HN⟩
      case measure=>simp[intOf];omega
   ·have HF:=hdq (show eqS p xs ys=true from by rw[hall.out,Sts.drop_nil (by rw[HL.out];omega),Sts.drop_nil (by rw[←HM.out];omega)];rfl)
    have HW:=hdq hbw.out
    clear hall hbw
    go_wp2_with fail
    go_ret
    exact⟨by rw[HF.out];rfl,HW.out⟩
 ·have HF:=hdq (eqS_len (p:=p) hlen)
  have hne:((xs.len:Int)==(ys.len:Int))=false:=by simp;omega
  have hne':((xs.len:Int) != (ys.len:Int))=true:=by simp;omega
  clear hx hy
  go_enter Tryz.func98,Tryz.ntmps98
  go_wp2_with fail
  go_ret
  exact⟨by rw[HF.out];rfl,Fr.refl _ _⟩
theorem rqIS_all (p:Bool):∀xs ys:Sts,RqIS p xs ys
 | .nil,_=>fun i _ _ _ _ _ _ _ _ _ _ _ _ _ _ _ _ hd=>by cases i<;>simp[Sts.drop]at hd
 | .cons ..,.nil =>fun i _ _ _ _ _ _ _ _ _ _ _ _ _ _ _ _ _ hd=>by cases i<;>simp[Sts.drop]at hd
 | .cons k0 k1 k2 k3 k4 k5 k6 kr,.cons l0 l1 l2 l3 l4 l5 l6 lr=>fun i _ _ _ _ _ _ _ _ _ _ _ _ _ _ _ _ hd hd'=>by
  cases i with
  |zero=>
   simp only[Sts.drop]at hd hd'
   injection hd with e0 e1 e2 e3 e4 e5 e6 e7
   injection hd' with f0 f1 f2 f3 f4 f5 f6 f7
   subst e0 e1 e2 e3 e4 e5 e6 e7 f0 f1 f2 f3 f4 f5 f6 f7
   exact⟨rqS_one p k4 l4 (rqIS_all p k4 l4),rqS_one p k5 l5 (rqIS_all p k5 l5)⟩
  |succ i=>
   simp only[Sts.drop]at hd hd'
   exact rqIS_all p kr lr i _ _ _ _ _ _ _ _ _ _ _ _ _ _ _ _ hd hd'
theorem rqS_any (p:Bool) (xs ys:Sts):RqS p xs ys:=rqS_one p xs ys (rqIS_all p xs ys)
end Go.Proofs.YtmopichdofgndaaGreatDoor
