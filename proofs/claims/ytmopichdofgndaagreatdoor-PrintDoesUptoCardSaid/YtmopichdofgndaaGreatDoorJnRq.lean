/-
  ref09.sameExprs: when expressions are the same.
-/
import Derived.Test.YtmopichdofgndaaGreatDoorJnPq
set_option linter.unusedVariables false
set_option linter.unusedSimpArgs false
set_option maxHeartbeats 6400000
set_option maxRecDepth 100000
namespace Go.Proofs.YtmopichdofgndaaGreatDoor
open Go.RowKit Go.Shelf

def RqX (p:Bool) (xs ys:Exs):Prop:=∀(W:World) (S S':Nat→Prop) (Z Z':Prop) (A A':Option Addr) (c c':Nat),(∀b,S b→b < W.heap.size)→(∀b,S' b→b < W.heap.size)→SlR (fun b o=>ExR W S Z xs b o) xs.len 64 A c→SlR (fun b o=>ExR W S' Z' ys b o) ys.len 64 A' c'→
 Calls Tryz.prog 159 #[.slice A xs.len c,.slice A' ys.len c',.bool p] W (EqPost (eqX p xs ys) W)
def RqIX (p:Bool) (xs ys:Exs):Prop:=∀(i:Nat) (a0:Int) (a1:ByteArray) (a2:Int) (a3:Exs) (a4:Int) (ar:Exs) (b0:Int) (b1:ByteArray) (b2:Int) (b3:Exs) (b4:Int) (br:Exs),Exs.drop i xs= .cons a0 a1 a2 a3 a4 ar→Exs.drop i ys= .cons b0 b1 b2 b3 b4 br→RqX p a3 b3
theorem eqX_step {p:Bool} {xs ys:Exs} {i:Nat} {a0 a1 a2 a3 a4 ar b0 b1 b2 b3 b4 br} (hd:Exs.drop i xs= .cons a0 a1 a2 a3 a4 ar) (hd':Exs.drop i ys= .cons b0 b1 b2 b3 b4 br):
  eqX p (Exs.drop i xs) (Exs.drop i ys)=((a0==b0)&&(a1.toList==b1.toList)&&(a2==b2)&&(!p || a4==b4)&&eqX p a3 b3&&eqX p (Exs.drop (i+1) xs) (Exs.drop (i+1) ys)):=by
 rw[Exs.drop_succ i xs hd,Exs.drop_succ i ys hd',hd,hd']
 simp only[eqX]
theorem rqX_one (p:Bool) (xs ys:Exs) (hall0:RqIX p xs ys):RqX p xs ys:=by
 intro w S S' Z Z' A A' c c' hS hS' hx hy
 have hl:xs.len≤9223372036854775807:=leq9 hx.1 hx.2.1.1
 have hl':ys.len≤9223372036854775807:=leq9 hy.1 hy.2.1.1
 have HA:=hdq hall0
 clear hall0
 by_cases hlen:xs.len=ys.len
 ·obtain⟨m,hm⟩:=nmq ys.len
  have hxm:xs.len=m:=hlen.trans hm.symm
  rw[hxm,←hm]
  rw[←hm]at hl'
  have HM:=hdq hm
  have HL:=hdq hxm
  have HX:=hdq hx
  have HY:=hdq hy
  have HS:=hdq (aiq hS hS')
  clear hlen hm hxm hl hx hy hS hS'
  go_enter Tryz.func159,Tryz.ntmps159
  go_wp2_with fail
  go_loopw [7] (fun i wr=>∃k:Nat,k≤m∧i= .int .i64 k∧Hid (Fr NoT w wr)∧Hid (eqX p xs ys=eqX p (Exs.drop k xs) (Exs.drop k ys))) (fun i _=>m - (intOf i).toNat)
  case atStart=>exact⟨0,Nat.zero_le _,rfl,Fr.refl _ _,rfl⟩
  case round=>
   obtain⟨k,hk,rfl,hbw,hall⟩:=hrel
   by_cases hlt:k < m
   ·obtain⟨a0,a1,a2,a3,a4,ar,hd⟩:=Exs.drop_cons (show k < xs.len from by rw[HL.out];exact hlt)
    obtain⟨b0,b1,b2,b3,b4,br,hd'⟩:=Exs.drop_cons (show k < ys.len from by rw[←HM.out];exact hlt)
    obtain⟨b,o,rfl,hat⟩:=HX.out.2.2 (by rw[HL.out];omega)
    obtain⟨b',o',rfl,hat'⟩:=HY.out.2.2 (by rw[←HM.out];omega)
    have hat1:=(ExR.keep (hbw.out.same fun b hb=>⟨HS.out.1 b hb,id⟩) hat).drop k
    have hat2:=(ExR.keep (hbw.out.same fun b hb=>⟨HS.out.2 b hb,id⟩) hat').drop k
    rw[hd]at hat1
    rw[hd']at hat2
    obtain⟨⟨hbS,_,_,_,_,c0,c1,c2,c4⟩,⟨A3,q3,c3,s3⟩,_⟩:=hat1
    obtain⟨⟨hbS2,_,_,_,_,d0,d1,d2,d4⟩,⟨D3,r3,d3,t3⟩,_⟩:=hat2
    have hxr:b < wr.heap.size:=ltq (HS.out.1 _ hbS) hbw.out.size
    have hxr':b' < wr.heap.size:=ltq (HS.out.2 _ hbS2) hbw.out.size
    have hlt':(k:Int) < (m:Int):=by omega
    have hge:(0:Int)≤(k:Int):=by omega
    have hst:=hall.out.trans (eqX_step hd hd')
    have hrec:=HA.out k a0 a1 a2 a3 a4 ar b0 b1 b2 b3 b4 br hd hd'
    have HC3:=hdq (fun(W:World) (h:Fr NoT wr W)=>hrec W S S' Z Z' A3 D3 q3 r3 (fun b hb=>ltq (HS.out.1 b hb) (hbw.out.trans h).size) (fun b hb=>ltq (HS.out.2 b hb) (hbw.out.trans h).size) (s3.imp fun _ _ hx=>ExR.keep (h.same fun b hb=>⟨ltq (HS.out.1 b hb) hbw.out.size,id⟩) hx) (t3.imp fun _ _ hx=>ExR.keep (h.same fun b hb=>⟨ltq (HS.out.2 b hb) hbw.out.size,id⟩) hx))
    obtain⟨v3,hv3⟩:=nmq (eqX p a3 b3)
    rw[←hv3]at HC3 hst
    have HST:=hdq hst
    have HW:=hdq hbw.out
    clear hd hd' hat hat' hst hall hbw hbS hbS2 hrec s3 t3 hv3
    go_upto_region 6 with fail
    go_cut [8,9] (fun s8 s9 wx=>∃P Q:Nat,s8= .pointer (some ⟨P,0,none⟩)∧s9= .pointer (some ⟨Q,0,none⟩)∧Fr NoT wr wx∧P < wx.heap.size∧Q < wx.heap.size∧wx.cell? ⟨P,0,none⟩=some (.int .u8 a0)∧wx.cell? ⟨P,1,none⟩=some (.string a1)∧wx.cell? ⟨P,2,none⟩=some (.int .i64 a2)∧wx.cell? ⟨P,3,none⟩=some (.slice A3 a3.len q3)∧wx.cell? ⟨P,4,none⟩=some (.int .i64 a4)∧wx.cell? ⟨Q,0,none⟩=some (.int .u8 b0)∧wx.cell? ⟨Q,1,none⟩=some (.string b1)∧wx.cell? ⟨Q,2,none⟩=some (.int .i64 b2)∧wx.cell? ⟨Q,3,none⟩=some (.slice D3 b3.len r3)∧wx.cell? ⟨Q,4,none⟩=some (.int .i64 b4))
    case first=>
     go_region
     all_goals
      go_wp2_with fail
      go_meet
      refine⟨_,_,rfl,rfl,Fr.drew (((Fr.refl _ _).alloc _).alloc _),by simp<;>omega,by simp<;>omega,?_⟩
      simp
    case rest=>
     obtain⟨P,Q,rfl,rfl,hbx,hP,hQ,p0,p1,p2,p3,p4,g0,g1,g2,g3,g4⟩:=hcut
     have HBX:=hdq hbx
     clear hbx c0 d0 c1 d1 c2 d2 c3 d3 c4 d4
     cases e0:a0==b0
     ·have e0':(a0 != b0)=true:=by rw[bne,e0];rfl
      have HF:=hdq (show eqX _ xs ys=false from by rw[HST.out,e0];simp)
      clear HST
      go_wp2_with fail
      go_ret
      exact⟨by rw[HF.out];rfl,HW.out.trans HBX.out⟩
     have e0':(a0 != b0)=false:=by rw[bne,e0];rfl
     cases e1:a1.toList==b1.toList
     ·have e1':(a1.toList != b1.toList)=true:=by rw[bne,e1];rfl
      have HF:=hdq (show eqX _ xs ys=false from by rw[HST.out,e0,e1];simp)
      clear HST
      go_wp2_with fail
      go_ret
      exact⟨by rw[HF.out];rfl,HW.out.trans HBX.out⟩
     have e1':(a1.toList != b1.toList)=false:=by rw[bne,e1];rfl
     cases e2:a2==b2
     ·have e2':(a2 != b2)=true:=by rw[bne,e2];rfl
      have HF:=hdq (show eqX _ xs ys=false from by rw[HST.out,e0,e1,e2];simp)
      clear HST
      go_wp2_with fail
      go_ret
      exact⟨by rw[HF.out];rfl,HW.out.trans HBX.out⟩
     have e2':(a2 != b2)=false:=by rw[bne,e2];rfl
     have hpl:p=false∨(p=true∧(a4==b4)=true)∨(p=true∧(a4==b4)=false):=by cases p<;>cases a4==b4<;>simp
     rcases hpl with rfl|⟨rfl,e4⟩|⟨rfl,e4⟩
     rotate_right
     ·have e4':(a4 != b4)=true:=by rw[bne,e4];rfl
      have HF:=hdq (show eqX true xs ys=false from by rw[HST.out,e0,e1,e2,e4];simp)
      clear HST
      go_wp2_with fail
      go_ret
      exact⟨by rw[HF.out];rfl,HW.out.trans HBX.out⟩
     all_goals
      try have e4':(a4 != b4)=false:=by rw[bne,e4];rfl
      go_wp2_with fail
      refine(HC3.out _ HBX.out).mono ?_
      rintro _ y3 ⟨rfl,hy3⟩
      have HB3:=hdq (Fr.trans HBX.out hy3)
      have hP3:=ltq hP hy3.size
      have hQ3:=ltq hQ hy3.size
      clear hy3 HC3 hP hQ p0 g0 p3 g3
      cases v3
      ·have HF:=hdq (show eqX _ xs ys=false from by rw[HST.out];simp)
       clear HST
       go_wp2_with fail
       go_ret
       exact⟨by rw[HF.out];rfl,HW.out.trans HB3.out⟩
      first
       |have HN:=hdq (show eqX false xs ys=eqX false (Exs.drop (k+1) xs) (Exs.drop (k+1) ys)from by rw[HST.out];simp[e0,e1,e2, *])
       |have HN:=hdq (show eqX true xs ys=eqX true (Exs.drop (k+1) xs) (Exs.drop (k+1) ys)from by rw[HST.out];simp[e0,e1,e2, *])
      clear HST
      go_wp2_with fail
      go_roundw
      case rel=>exact⟨k+1,by omega,by go_num,HW.out.trans HB3.out,HN⟩
      case measure=>simp[intOf];omega
   ·have HF:=hdq (show eqX p xs ys=true from by rw[hall.out,Exs.drop_nil (by rw[HL.out];omega),Exs.drop_nil (by rw[←HM.out];omega)];rfl)
    have HW:=hdq hbw.out
    clear hall hbw
    go_wp2_with fail
    go_ret
    exact⟨by rw[HF.out];rfl,HW.out⟩
 ·have HF:=hdq (eqX_len (p:=p) hlen)
  have hne:((xs.len:Int)==(ys.len:Int))=false:=by simp;omega
  have hne':((xs.len:Int) != (ys.len:Int))=true:=by simp;omega
  clear hx hy
  go_enter Tryz.func159,Tryz.ntmps159
  go_wp2_with fail
  go_ret
  exact⟨by rw[HF.out];rfl,Fr.refl _ _⟩
theorem rqIX_all (p:Bool):∀xs ys:Exs,RqIX p xs ys
 | .nil,_=>fun i _ _ _ _ _ _ _ _ _ _ _ _ hd=>by cases i<;>simp[Exs.drop]at hd
 | .cons ..,.nil =>fun i _ _ _ _ _ _ _ _ _ _ _ _ _ hd=>by cases i<;>simp[Exs.drop]at hd
 | .cons k0 k1 k2 k3 k4 kr,.cons l0 l1 l2 l3 l4 lr=>fun i _ _ _ _ _ _ _ _ _ _ _ _ hd hd'=>by
  cases i with
  |zero=>
   simp only[Exs.drop]at hd hd'
   injection hd with e0 e1 e2 e3 e4 e5
   injection hd' with f0 f1 f2 f3 f4 f5
   subst e0 e1 e2 e3 e4 e5 f0 f1 f2 f3 f4 f5
   exact rqX_one p k3 l3 (rqIX_all p k3 l3)
  |succ i=>
   simp only[Exs.drop]at hd hd'
   exact rqIX_all p kr lr i _ _ _ _ _ _ _ _ _ _ _ _ hd hd'
theorem rqX_any (p:Bool) (xs ys:Exs):RqX p xs ys:=rqX_one p xs ys (rqIX_all p xs ys)

def RqC (p:Bool) (xs ys:Cds):Prop:=∀(W:World) (S S':Nat→Prop) (Z Z':Prop) (A A':Option Addr) (c c':Nat),(∀b,S b→b < W.heap.size)→(∀b,S' b→b < W.heap.size)→SlR (fun b o=>CdR W S Z xs b o) xs.len 64 A c→SlR (fun b o=>CdR W S' Z' ys b o) ys.len 64 A' c'→
 Calls Tryz.prog 160 #[.slice A xs.len c,.slice A' ys.len c',.bool p] W (EqPost (eqC p xs ys) W)
def RqIC (p:Bool) (xs ys:Cds):Prop:=∀(i:Nat) (a0:Int) (a1:Exs) (a2:Cds) (a3:Int) (ar:Cds) (b0:Int) (b1:Exs) (b2:Cds) (b3:Int) (br:Cds),Cds.drop i xs= .cons a0 a1 a2 a3 ar→Cds.drop i ys= .cons b0 b1 b2 b3 br→RqC p a2 b2
theorem eqC_step {p:Bool} {xs ys:Cds} {i:Nat} {a0 a1 a2 a3 ar b0 b1 b2 b3 br} (hd:Cds.drop i xs= .cons a0 a1 a2 a3 ar) (hd':Cds.drop i ys= .cons b0 b1 b2 b3 br):
  eqC p (Cds.drop i xs) (Cds.drop i ys)=((a0==b0)&&(!p || a3==b3)&&eqX p a1 b1&&eqC p a2 b2&&eqC p (Cds.drop (i+1) xs) (Cds.drop (i+1) ys)):=by
 rw[Cds.drop_succ i xs hd,Cds.drop_succ i ys hd',hd,hd']
 simp only[eqC]
theorem rqC_one (p:Bool) (xs ys:Cds) (hall0:RqIC p xs ys):RqC p xs ys:=by
 intro w S S' Z Z' A A' c c' hS hS' hx hy
 have hl:xs.len≤9223372036854775807:=leq9 hx.1 hx.2.1.1
 have hl':ys.len≤9223372036854775807:=leq9 hy.1 hy.2.1.1
 have HA:=hdq hall0
 clear hall0
 by_cases hlen:xs.len=ys.len
 ·obtain⟨m,hm⟩:=nmq ys.len
  have hxm:xs.len=m:=hlen.trans hm.symm
  rw[hxm,←hm]
  rw[←hm]at hl'
  have HM:=hdq hm
  have HL:=hdq hxm
  have HX:=hdq hx
  have HY:=hdq hy
  have HS:=hdq (aiq hS hS')
  clear hlen hm hxm hl hx hy hS hS'
  go_enter Tryz.func160,Tryz.ntmps160
  go_wp2_with fail
  go_loopw [7] (fun i wr=>∃k:Nat,k≤m∧i= .int .i64 k∧Hid (Fr NoT w wr)∧Hid (eqC p xs ys=eqC p (Cds.drop k xs) (Cds.drop k ys))) (fun i _=>m - (intOf i).toNat)
  case atStart=>exact⟨0,Nat.zero_le _,rfl,Fr.refl _ _,rfl⟩
  case round=>
   obtain⟨k,hk,rfl,hbw,hall⟩:=hrel
   by_cases hlt:k < m
   ·obtain⟨a0,a1,a2,a3,ar,hd⟩:=Cds.drop_cons (show k < xs.len from by rw[HL.out];exact hlt)
    obtain⟨b0,b1,b2,b3,br,hd'⟩:=Cds.drop_cons (show k < ys.len from by rw[←HM.out];exact hlt)
    obtain⟨b,o,rfl,hat⟩:=HX.out.2.2 (by rw[HL.out];omega)
    obtain⟨b',o',rfl,hat'⟩:=HY.out.2.2 (by rw[←HM.out];omega)
    have hat1:=(CdR.keep (hbw.out.same fun b hb=>⟨HS.out.1 b hb,id⟩) hat).drop k
    have hat2:=(CdR.keep (hbw.out.same fun b hb=>⟨HS.out.2 b hb,id⟩) hat').drop k
    rw[hd]at hat1
    rw[hd']at hat2
    obtain⟨⟨hbS,_,_,_,c0,c3⟩,⟨A1,q1,c1,s1⟩,⟨A2,q2,c2,s2⟩,_⟩:=hat1
    obtain⟨⟨hbS2,_,_,_,d0,d3⟩,⟨D1,r1,d1,t1⟩,⟨D2,r2,d2,t2⟩,_⟩:=hat2
    have hxr:b < wr.heap.size:=ltq (HS.out.1 _ hbS) hbw.out.size
    have hxr':b' < wr.heap.size:=ltq (HS.out.2 _ hbS2) hbw.out.size
    have hlt':(k:Int) < (m:Int):=by omega
    have hge:(0:Int)≤(k:Int):=by omega
    have hst:=hall.out.trans (eqC_step hd hd')
    have hrec:=HA.out k a0 a1 a2 a3 ar b0 b1 b2 b3 br hd hd'
    have HC1:=hdq (fun(W:World) (h:Fr NoT wr W)=>rqX_any p a1 b1 W S S' Z Z' A1 D1 q1 r1 (fun b hb=>ltq (HS.out.1 b hb) (hbw.out.trans h).size) (fun b hb=>ltq (HS.out.2 b hb) (hbw.out.trans h).size) (s1.imp fun _ _ hx=>ExR.keep (h.same fun b hb=>⟨ltq (HS.out.1 b hb) hbw.out.size,id⟩) hx) (t1.imp fun _ _ hx=>ExR.keep (h.same fun b hb=>⟨ltq (HS.out.2 b hb) hbw.out.size,id⟩) hx))
    obtain⟨v1,hv1⟩:=nmq (eqX p a1 b1)
    rw[←hv1]at HC1 hst
    have HC2:=hdq (fun(W:World) (h:Fr NoT wr W)=>hrec W S S' Z Z' A2 D2 q2 r2 (fun b hb=>ltq (HS.out.1 b hb) (hbw.out.trans h).size) (fun b hb=>ltq (HS.out.2 b hb) (hbw.out.trans h).size) (s2.imp fun _ _ hx=>CdR.keep (h.same fun b hb=>⟨ltq (HS.out.1 b hb) hbw.out.size,id⟩) hx) (t2.imp fun _ _ hx=>CdR.keep (h.same fun b hb=>⟨ltq (HS.out.2 b hb) hbw.out.size,id⟩) hx))
    obtain⟨v2,hv2⟩:=nmq (eqC p a2 b2)
    rw[←hv2]at HC2 hst
    have HST:=hdq hst
    have HW:=hdq hbw.out
    clear hd hd' hat hat' hst hall hbw hbS hbS2 hrec s1 t1 hv1 s2 t2 hv2
    go_upto_region 6 with fail
    go_cut [8,9] (fun s8 s9 wx=>∃P Q:Nat,s8= .pointer (some ⟨P,0,none⟩)∧s9= .pointer (some ⟨Q,0,none⟩)∧Fr NoT wr wx∧P < wx.heap.size∧Q < wx.heap.size∧wx.cell? ⟨P,0,none⟩=some (.int .u8 a0)∧wx.cell? ⟨P,1,none⟩=some (.slice A1 a1.len q1)∧wx.cell? ⟨P,2,none⟩=some (.slice A2 a2.len q2)∧wx.cell? ⟨P,3,none⟩=some (.int .i64 a3)∧wx.cell? ⟨Q,0,none⟩=some (.int .u8 b0)∧wx.cell? ⟨Q,1,none⟩=some (.slice D1 b1.len r1)∧wx.cell? ⟨Q,2,none⟩=some (.slice D2 b2.len r2)∧wx.cell? ⟨Q,3,none⟩=some (.int .i64 b3))
    case first=>
     go_region
     all_goals
      go_wp2_with fail
      go_meet
      refine⟨_,_,rfl,rfl,Fr.drew (((Fr.refl _ _).alloc _).alloc _),by simp<;>omega,by simp<;>omega,?_⟩
      simp
    case rest=>
     obtain⟨P,Q,rfl,rfl,hbx,hP,hQ,p0,p1,p2,p3,g0,g1,g2,g3⟩:=hcut
     have HBX:=hdq hbx
     clear hbx c0 d0 c1 d1 c2 d2 c3 d3
     cases e0:a0==b0
     ·have e0':(a0 != b0)=true:=by rw[bne,e0];rfl
      have HF:=hdq (show eqC _ xs ys=false from by rw[HST.out,e0];simp)
      clear HST
      go_wp2_with fail
      go_ret
      exact⟨by rw[HF.out];rfl,HW.out.trans HBX.out⟩
     have e0':(a0 != b0)=false:=by rw[bne,e0];rfl
     have hpl:p=false∨(p=true∧(a3==b3)=true)∨(p=true∧(a3==b3)=false):=by cases p<;>cases a3==b3<;>simp
     rcases hpl with rfl|⟨rfl,e3⟩|⟨rfl,e3⟩
     rotate_right
     ·have e3':(a3 != b3)=true:=by rw[bne,e3];rfl
      have HF:=hdq (show eqC true xs ys=false from by rw[HST.out,e0,e3];simp)
      clear HST
      go_wp2_with fail
      go_ret
      exact⟨by rw[HF.out];rfl,HW.out.trans HBX.out⟩
     all_goals
      try have e3':(a3 != b3)=false:=by rw[bne,e3];rfl
      go_wp2_with fail
      refine(HC1.out _ HBX.out).mono ?_
      rintro _ y1 ⟨rfl,hy1⟩
      have HB1:=hdq (Fr.trans HBX.out hy1)
      have hP1:=ltq hP hy1.size
      have hQ1:=ltq hQ hy1.size
      have p2':=(hy1.cell (p:=⟨P,2,none⟩) hP id).trans p2
      have g2':=(hy1.cell (p:=⟨Q,2,none⟩) hQ id).trans g2
      clear p2 g2
      have p2:=p2'
      have g2:=g2'
      clear p2' g2'
      clear hy1 HC1 hP hQ p0 g0 p1 g1
      cases v1
      ·have HF:=hdq (show eqC _ xs ys=false from by rw[HST.out];simp)
       clear HST
       go_wp2_with fail
       go_ret
       exact⟨by rw[HF.out];rfl,HW.out.trans HB1.out⟩
      go_wp2_with fail
      refine(HC2.out _ HB1.out).mono ?_
      rintro _ y2 ⟨rfl,hy2⟩
      have HB2:=hdq (Fr.trans HB1.out hy2)
      have hP2:=ltq hP1 hy2.size
      have hQ2:=ltq hQ1 hy2.size
      clear hy2 HC2 hP1 hQ1 p2 g2
      cases v2
      ·have HF:=hdq (show eqC _ xs ys=false from by rw[HST.out];simp)
       clear HST
       go_wp2_with fail
       go_ret
       exact⟨by rw[HF.out];rfl,HW.out.trans HB2.out⟩
      first
       |have HN:=hdq (show eqC false xs ys=eqC false (Cds.drop (k+1) xs) (Cds.drop (k+1) ys)from by rw[HST.out];simp[e0, *])
       |have HN:=hdq (show eqC true xs ys=eqC true (Cds.drop (k+1) xs) (Cds.drop (k+1) ys)from by rw[HST.out];simp[e0, *])
      clear HST
      go_wp2_with fail
      go_roundw
      case rel=>exact⟨k+1,by omega,by go_num,HW.out.trans HB2.out,HN⟩
      case measure=>simp[intOf];omega
   ·have HF:=hdq (show eqC p xs ys=true from by rw[hall.out,Cds.drop_nil (by rw[HL.out];omega),Cds.drop_nil (by rw[←HM.out];omega)];rfl)
    have HW:=hdq hbw.out
    clear hall hbw
    go_wp2_with fail
    go_ret
    exact⟨by rw[HF.out];rfl,HW.out⟩
 ·have HF:=hdq (eqC_len (p:=p) hlen)
  have hne:((xs.len:Int)==(ys.len:Int))=false:=by simp;omega
  have hne':((xs.len:Int) != (ys.len:Int))=true:=by simp;omega
  clear hx hy
  go_enter Tryz.func160,Tryz.ntmps160
  go_wp2_with fail
  go_ret
  exact⟨by rw[HF.out];rfl,Fr.refl _ _⟩
theorem rqIC_all (p:Bool):∀xs ys:Cds,RqIC p xs ys
 | .nil,_=>fun i _ _ _ _ _ _ _ _ _ _ hd=>by cases i<;>simp[Cds.drop]at hd
 | .cons ..,.nil =>fun i _ _ _ _ _ _ _ _ _ _ _ hd=>by cases i<;>simp[Cds.drop]at hd
 | .cons k0 k1 k2 k3 kr,.cons l0 l1 l2 l3 lr=>fun i _ _ _ _ _ _ _ _ _ _ hd hd'=>by
  cases i with
  |zero=>
   simp only[Cds.drop]at hd hd'
   injection hd with e0 e1 e2 e3 e4
   injection hd' with f0 f1 f2 f3 f4
   subst e0 e1 e2 e3 e4 f0 f1 f2 f3 f4
   exact rqC_one p k2 l2 (rqIC_all p k2 l2)
  |succ i=>
   simp only[Cds.drop]at hd hd'
   exact rqIC_all p kr lr i _ _ _ _ _ _ _ _ _ _ hd hd'
theorem rqC_any (p:Bool) (xs ys:Cds):RqC p xs ys:=rqC_one p xs ys (rqIC_all p xs ys)

theorem eqV_step {p:Bool} {xs ys:List Va} {i:Nat} {x y:Va} {xr yr:List Va} (hd:xs.drop i=x::xr∧xs.drop (i+1)=xr) (hd':ys.drop i=y::yr∧ys.drop (i+1)=yr):
  eqV p (xs.drop i) (ys.drop i)=((x.nm.toList==y.nm.toList)&&(!p || x.at_==y.at_)&&eqV p (xs.drop (i+1)) (ys.drop (i+1))):=by
 rw[hd.1,hd'.1,hd.2,hd'.2,eqV]
theorem rqV_any (p:Bool) (xs ys:List Va) (w:World) (S S':Nat→Prop) (Z Z':Prop) (A A':Option Addr) (c c':Nat) (hS:∀b,S b→b < w.heap.size) (hS':∀b,S' b→b < w.heap.size) (hx:SlR (VaR w S Z xs) xs.length 24 A c) (hy:SlR (VaR w S' Z' ys) ys.length 24 A' c'):
  Calls Tryz.prog 97 #[.slice A xs.length c,.slice A' ys.length c',.bool p] w (EqPost (eqV p xs ys) w):=by
 have hl:xs.length≤9223372036854775807:=leq9 hx.1 hx.2.1.1
 have hl':ys.length≤9223372036854775807:=leq9 hy.1 hy.2.1.1
 by_cases hlen:xs.length=ys.length
 ·obtain⟨m,hm⟩:=nmq ys.length
  have hxm:xs.length=m:=hlen.trans hm.symm
  rw[hxm,←hm]
  rw[←hm]at hl'
  have HM:=hdq hm
  have HL:=hdq hxm
  have HX:=hdq hx
  have HY:=hdq hy
  have HS:=hdq (aiq hS hS')
  clear hlen hm hxm hl hx hy hS hS'
  go_enter Tryz.func97,Tryz.ntmps97
  go_wp2_with fail
  go_loopw [7] (fun i wr=>∃k:Nat,k≤m∧i= .int .i64 k∧Hid (Fr NoT w wr)∧Hid (eqV p xs ys=eqV p (xs.drop k) (ys.drop k))) (fun i _=>m - (intOf i).toNat)
  case atStart=>exact⟨0,Nat.zero_le _,rfl,Fr.refl _ _,rfl⟩
  case round=>
   obtain⟨k,hk,rfl,hbw,hall⟩:=hrel
   by_cases hlt:k < m
   ·obtain⟨⟨a0,a1⟩,ar,hd⟩:=drop_head1 (show k < xs.length from by rw[HL.out];exact hlt)
    obtain⟨⟨b0,b1⟩,br,hd'⟩:=drop_head1 (show k < ys.length from by rw[←HM.out];exact hlt)
    obtain⟨b,o,rfl,hat⟩:=HX.out.2.2 (by rw[HL.out];omega)
    obtain⟨b',o',rfl,hat'⟩:=HY.out.2.2 (by rw[←HM.out];omega)
    have hat1:=(VaR.keep (hbw.out.same fun b hb=>⟨HS.out.1 b hb,id⟩) hat).drop k
    have hat2:=(VaR.keep (hbw.out.same fun b hb=>⟨HS.out.2 b hb,id⟩) hat').drop k
    rw[hd.1]at hat1
    rw[hd'.1]at hat2
    obtain⟨⟨hbS,_,_,c0,c1⟩,_⟩:=hat1
    obtain⟨⟨hbS2,_,_,d0,d1⟩,_⟩:=hat2
    have hxr:b < wr.heap.size:=ltq (HS.out.1 _ hbS) hbw.out.size
    have hxr':b' < wr.heap.size:=ltq (HS.out.2 _ hbS2) hbw.out.size
    have hlt':(k:Int) < (m:Int):=by omega
    have hge:(0:Int)≤(k:Int):=by omega
    have HST:=hdq (hall.out.trans (eqV_step hd hd'))
    have HW:=hdq hbw.out
    simp only at c0 c1 d0 d1
    clear hd hd' hat hat' hall hbw hbS hbS2
    cases e0:a0.toList==b0.toList
    ·have e0':(a0.toList != b0.toList)=true:=by rw[bne,e0];rfl
     have HF:=hdq (show eqV p xs ys=false from by rw[HST.out,e0];simp)
     clear HST
     cases p
     all_goals
      go_wp2_with fail
      go_quiet (fail)
      go_wp2_with fail
      go_ret
      exact⟨by rw[HF.out];rfl,HW.out.drewN _⟩
    have e0':(a0.toList != b0.toList)=false:=by rw[bne,e0];rfl
    have hpl:p=false∨(p=true∧(a1==b1)=true)∨(p=true∧(a1==b1)=false):=by cases p<;>cases a1==b1<;>simp
    rcases hpl with rfl|⟨rfl,e1⟩|⟨rfl,e1⟩
    rotate_right
    ·have e1':(a1 != b1)=true:=by rw[bne,e1];rfl
     have HF:=hdq (show eqV true xs ys=false from by rw[HST.out,e0,e1];simp)
     clear HST
     go_wp2_with fail
     go_quiet (fail)
     go_wp2_with fail
     go_ret
     exact⟨by rw[HF.out];rfl,HW.out.drewN _⟩
    all_goals
     try have e1':(a1 != b1)=false:=by rw[bne,e1];rfl
     first
      |have HN:=hdq (show eqV false xs ys=eqV false (xs.drop (k+1)) (ys.drop (k+1))from by rw[HST.out];simp[*])
      |have HN:=hdq (show eqV true xs ys=eqV true (xs.drop (k+1)) (ys.drop (k+1))from by rw[HST.out];simp[*])
     clear HST
     go_wp2_with fail
     go_quiet (fail)
     go_wp2_with fail
     go_roundw
     case rel=>exact⟨k+1,by omega,by go_num,HW.out.drewN _,HN⟩
     case measure=>simp[intOf];omega
   ·have HF:=hdq (show eqV p xs ys=true from by rw[hall.out,List.drop_eq_nil_of_le (by rw[HL.out];omega),List.drop_eq_nil_of_le (by rw[←HM.out];omega)];rfl)
    have HW:=hdq hbw.out
    clear hall hbw
    go_wp2_with fail
    go_ret
    exact⟨by rw[HF.out];rfl,HW.out⟩
 ·have HF:=hdq (eqV_len (p:=p) hlen)
  have hne:((xs.length:Int)==(ys.length:Int))=false:=by simp;omega
  have hne':((xs.length:Int) != (ys.length:Int))=true:=by simp;omega
  clear hx hy
  go_enter Tryz.func97,Tryz.ntmps97
  go_wp2_with fail
  go_ret
  exact⟨by rw[HF.out];rfl,Fr.refl _ _⟩
end Go.Proofs.YtmopichdofgndaaGreatDoor
