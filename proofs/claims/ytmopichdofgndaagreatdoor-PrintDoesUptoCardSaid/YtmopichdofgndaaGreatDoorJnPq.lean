/-
  Trees without places. No program.
-/
import Derived.Test.YtmopichdofgndaaGreatDoorJnCkA
set_option linter.unusedVariables false
set_option linter.unusedSimpArgs false
set_option maxHeartbeats 3200000
set_option maxRecDepth 100000
namespace Go.Proofs.YtmopichdofgndaaGreatDoor
open Go.RowKit

def Exs.bare:Exs→Exs
 | .nil => .nil
 | .cons k nm n args _ rest=> .cons k nm n args.bare 0 rest.bare
def Cds.bare:Cds→Cds
 | .nil => .nil
 | .cons k args of_ _ rest=> .cons k args.bare of_.bare 0 rest.bare
def Sts.bare:Sts→Sts
 | .nil => .nil
 | .cons k nm args cond body els _ rest=> .cons k nm args.bare cond.bare body.bare els.bare 0 rest.bare
def Va.bare (x:Va):Va:=⟨x.nm,0⟩
def Arr.bare (x:Arr):Arr:=⟨x.nm,x.size,0⟩
def Prc.bare (x:Prc):Prc:=⟨x.nm,x.params.map Va.bare,x.body.bare,0⟩
def Tre.bare (t:Tre):Tre:=⟨t.vars.map Va.bare,t.arrays.map Arr.bare,t.procs.map Prc.bare,t.main.bare⟩
theorem bareX_len:∀xs:Exs,xs.bare.len=xs.len
 | .nil =>rfl
 | .cons _ _ _ _ _ r=>by simp only[Exs.bare,Exs.len,bareX_len r]
theorem bareC_len:∀xs:Cds,xs.bare.len=xs.len
 | .nil =>rfl
 | .cons _ _ _ _ r=>by simp only[Cds.bare,Cds.len,bareC_len r]
theorem bareS_len:∀xs:Sts,xs.bare.len=xs.len
 | .nil =>rfl
 | .cons _ _ _ _ _ _ _ r=>by simp only[Sts.bare,Sts.len,bareS_len r]

def eqX (p:Bool):Exs→Exs→Bool
 | .nil,.nil =>true
 | .cons k nm n args at_ rest,.cons k' nm' n' args' at' rest'=>(k==k')&&(nm.toList==nm'.toList)&&(n==n')&&(!p || at_==at')&&eqX p args args'&&eqX p rest rest'
 |_,_=>false
def eqC (p:Bool):Cds→Cds→Bool
 | .nil,.nil =>true
 | .cons k args of_ at_ rest,.cons k' args' of' at' rest'=>(k==k')&&(!p || at_==at')&&eqX p args args'&&eqC p of_ of'&&eqC p rest rest'
 |_,_=>false
def eqS (p:Bool):Sts→Sts→Bool
 | .nil,.nil =>true
 | .cons k nm args cond body els at_ rest,.cons k' nm' args' cond' body' els' at' rest'=>(k==k')&&(nm.toList==nm'.toList)&&(!p || at_==at')&&eqX p args args'&&eqC p cond cond'&&eqS p body body'&&eqS p els els'&&eqS p rest rest'
 |_,_=>false
def eqV (p:Bool):List Va→List Va→Bool
 | [], []=>true
 |x::r,y::s=>(x.nm.toList==y.nm.toList)&&(!p || x.at_==y.at_)&&eqV p r s
 |_,_=>false
def eqA (p:Bool):List Arr→List Arr→Bool
 | [], []=>true
 |x::r,y::s=>(x.nm.toList==y.nm.toList)&&(x.size==y.size)&&(!p || x.at_==y.at_)&&eqA p r s
 |_,_=>false
def eqP (p:Bool):List Prc→List Prc→Bool
 | [], []=>true
 |x::r,y::s=>(x.nm.toList==y.nm.toList)&&(!p || x.at_==y.at_)&&eqV p x.params y.params&&eqS p x.body y.body&&eqP p r s
 |_,_=>false
def eqT (p:Bool) (t u:Tre):Bool:=eqV p t.vars u.vars&&decide (t.arrays.length=u.arrays.length)&&decide (t.procs.length=u.procs.length)&&eqA p t.arrays u.arrays&&eqP p t.procs u.procs&&eqS p t.main u.main

theorem eqX_refl (p:Bool):∀xs,eqX p xs xs=true
 | .nil =>rfl
 | .cons k nm n args at_ rest=>by simp[eqX,eqX_refl p args,eqX_refl p rest]
theorem eqC_refl (p:Bool):∀xs,eqC p xs xs=true
 | .nil =>rfl
 | .cons k args of_ at_ rest=>by simp[eqC,eqX_refl p args,eqC_refl p of_,eqC_refl p rest]
theorem eqS_refl (p:Bool):∀xs,eqS p xs xs=true
 | .nil =>rfl
 | .cons k nm args cond body els at_ rest=>by simp[eqS,eqX_refl p args,eqC_refl p cond,eqS_refl p body,eqS_refl p els,eqS_refl p rest]
theorem eqV_refl (p:Bool):∀xs,eqV p xs xs=true
 | []=>rfl
 |x::r=>by simp[eqV,eqV_refl p r]
theorem eqA_refl (p:Bool):∀xs,eqA p xs xs=true
 | []=>rfl
 |x::r=>by simp[eqA,eqA_refl p r]
theorem eqP_refl (p:Bool):∀xs,eqP p xs xs=true
 | []=>rfl
 |x::r=>by simp[eqP,eqP_refl p r,eqV_refl,eqS_refl]
theorem eqT_refl (p:Bool) (t:Tre):eqT p t t=true:=by simp[eqT,eqV_refl,eqA_refl,eqP_refl,eqS_refl]

theorem eqX_bare:∀xs ys,eqX false xs.bare ys.bare=eqX false xs ys
 | .nil,.nil =>rfl
 | .nil,.cons .. =>rfl
 | .cons ..,.nil =>rfl
 | .cons k nm n args at_ rest,.cons k' nm' n' args' at' rest'=>by simp[eqX,Exs.bare,eqX_bare args args',eqX_bare rest rest']
theorem eqC_bare:∀xs ys,eqC false xs.bare ys.bare=eqC false xs ys
 | .nil,.nil =>rfl
 | .nil,.cons .. =>rfl
 | .cons ..,.nil =>rfl
 | .cons k args of_ at_ rest,.cons k' args' of' at' rest'=>by simp[eqC,Cds.bare,eqX_bare args args',eqC_bare of_ of',eqC_bare rest rest']
theorem eqS_bare:∀xs ys,eqS false xs.bare ys.bare=eqS false xs ys
 | .nil,.nil =>rfl
 | .nil,.cons .. =>rfl
 | .cons ..,.nil =>rfl
 | .cons k nm args cond body els at_ rest,.cons k' nm' args' cond' body' els' at' rest'=>by simp[eqS,Sts.bare,eqX_bare args args',eqC_bare cond cond',eqS_bare body body',eqS_bare els els',eqS_bare rest rest']
theorem eqV_bare:∀xs ys,eqV false (xs.map Va.bare) (ys.map Va.bare)=eqV false xs ys
 | [], []=>rfl
 | [],_::_=>rfl
 |_::_, []=>rfl
 |x::r,y::s=>by simp[eqV,Va.bare,eqV_bare r s]
theorem eqA_bare:∀xs ys,eqA false (xs.map Arr.bare) (ys.map Arr.bare)=eqA false xs ys
 | [], []=>rfl
 | [],_::_=>rfl
 |_::_, []=>rfl
 |x::r,y::s=>by simp[eqA,Arr.bare,eqA_bare r s]
theorem eqP_bare:∀xs ys,eqP false (xs.map Prc.bare) (ys.map Prc.bare)=eqP false xs ys
 | [], []=>rfl
 | [],_::_=>rfl
 |_::_, []=>rfl
 |x::r,y::s=>by simp[eqP,Prc.bare,eqV_bare,eqS_bare,eqP_bare r s]
theorem eqT_bare (t u:Tre):eqT false t.bare u.bare=eqT false t u:=by simp[eqT,Tre.bare,eqV_bare,eqA_bare,eqP_bare,eqS_bare]
theorem eqT_alike {t u:Tre} (h:t.bare=u.bare):eqT false t u=true:=by rw[←eqT_bare,h];exact eqT_refl _ _

theorem eqX_len {p:Bool}:∀ {xs ys:Exs},xs.len≠ys.len→eqX p xs ys=false
 | .nil,.nil,h=>absurd rfl h
 | .nil,.cons ..,_=>rfl
 | .cons ..,.nil,_=>rfl
 | .cons _ _ _ _ _ r,.cons _ _ _ _ _ r',h=>by
  have:r.len≠r'.len:=fun e=>h (by simp[Exs.len,e])
  simp[eqX,eqX_len this]
theorem eqC_len {p:Bool}:∀ {xs ys:Cds},xs.len≠ys.len→eqC p xs ys=false
 | .nil,.nil,h=>absurd rfl h
 | .nil,.cons ..,_=>rfl
 | .cons ..,.nil,_=>rfl
 | .cons _ _ _ _ r,.cons _ _ _ _ r',h=>by
  have:r.len≠r'.len:=fun e=>h (by simp[Cds.len,e])
  simp[eqC,eqC_len this]
theorem eqS_len {p:Bool}:∀ {xs ys:Sts},xs.len≠ys.len→eqS p xs ys=false
 | .nil,.nil,h=>absurd rfl h
 | .nil,.cons ..,_=>rfl
 | .cons ..,.nil,_=>rfl
 | .cons _ _ _ _ _ _ _ r,.cons _ _ _ _ _ _ _ r',h=>by
  have:r.len≠r'.len:=fun e=>h (by simp[Sts.len,e])
  simp[eqS,eqS_len this]
theorem eqV_len {p:Bool}:∀ {xs ys:List Va},xs.length≠ys.length→eqV p xs ys=false
 | [], [],h=>absurd rfl h
 | [],_::_,_=>rfl
 |_::_, [],_=>rfl
 |_::r,_::s,h=>by
  have:r.length≠s.length:=fun e=>h (by simp[e])
  simp[eqV,eqV_len this]

open Go.RowKit Go.Shelf

structure LoK (S S':Nat→Prop) (w:World):Prop where
 l1:∀b,S b→b < w.heap.size
 l2:∀b,S' b→b < w.heap.size
theorem LoK.up {S S':Nat→Prop} {w W:World} (h:LoK S S' w) (k:Fr NoT w W):LoK S S' W:=⟨fun b hb=>ltq (h.l1 b hb) k.size,fun b hb=>ltq (h.l2 b hb) k.size⟩
theorem LoK.k1 {S S':Nat→Prop} {w W:World} (h:LoK S S' w) (k:Fr NoT w W):SameS S w W:=k.same fun b hb=>⟨h.l1 b hb,id⟩
theorem LoK.k2 {S S':Nat→Prop} {w W:World} (h:LoK S S' w) (k:Fr NoT w W):SameS S' w W:=k.same fun b hb=>⟨h.l2 b hb,id⟩
def PqX (xs ys:Exs):Prop:=∀(W:World) (S S':Nat→Prop) (Z Z':Prop) (A A':Option Addr) (c c':Nat),LoK S S' W→SlR (fun b o=>ExR W S Z xs b o) xs.len 64 A c→SlR (fun b o=>ExR W S' Z' ys b o) ys.len 64 A' c'→
 Calls Tryz.prog 134 #[.slice A xs.len c,.slice A' ys.len c',.func (.func 135) #[] #[]] W (EqPost (eqX false xs ys) W)
def PsX (a0:Int) (a1:ByteArray) (a2:Int) (a3:Exs) (a4:Int) (b0:Int) (b1:ByteArray) (b2:Int) (b3:Exs) (b4:Int):Prop:=∀(W:World) (S S':Nat→Prop) (Z Z':Prop) (A3:Option Addr) (q3:Nat) (D3:Option Addr) (r3:Nat),LoK S S' W→SlR (fun b o=>ExR W S Z a3 b o) a3.len 64 A3 q3→SlR (fun b o=>ExR W S' Z' b3 b o) b3.len 64 D3 r3→
 Calls Tryz.prog 135 #[.agg #[.int .u8 a0,.string a1,.int .i64 a2,.slice A3 a3.len q3,.int .i64 a4],.agg #[.int .u8 b0,.string b1,.int .i64 b2,.slice D3 b3.len r3,.int .i64 b4]] W (EqPost ((a0==b0)&&(a1.toList==b1.toList)&&(a2==b2)&&eqX false a3 b3) W)
def PqIX (xs ys:Exs):Prop:=∀(i:Nat) (a0:Int) (a1:ByteArray) (a2:Int) (a3:Exs) (a4:Int) (ar:Exs) (b0:Int) (b1:ByteArray) (b2:Int) (b3:Exs) (b4:Int) (br:Exs),Exs.drop i xs= .cons a0 a1 a2 a3 a4 ar→Exs.drop i ys= .cons b0 b1 b2 b3 b4 br→PqX a3 b3
theorem pqX_step {xs ys:Exs} {i:Nat} {a0 a1 a2 a3 a4 ar b0 b1 b2 b3 b4 br} (hd:Exs.drop i xs= .cons a0 a1 a2 a3 a4 ar) (hd':Exs.drop i ys= .cons b0 b1 b2 b3 b4 br):
  eqX false (Exs.drop i xs) (Exs.drop i ys)=(((a0==b0)&&(a1.toList==b1.toList)&&(a2==b2)&&eqX false a3 b3)&&eqX false (Exs.drop (i+1) xs) (Exs.drop (i+1) ys)):=by
 rw[Exs.drop_succ i xs hd,Exs.drop_succ i ys hd',hd,hd']
 simp only[eqX,Bool.not_false,Bool.true_or,Bool.and_true]
theorem psX_one (a0:Int) (a1:ByteArray) (a2:Int) (a3:Exs) (a4:Int) (b0:Int) (b1:ByteArray) (b2:Int) (b3:Exs) (b4:Int) (h3:PqX a3 b3):PsX a0 a1 a2 a3 a4 b0 b1 b2 b3 b4:=by
 intro w S S' Z Z' A3 q3 D3 r3 hL s3 t3
 have HC3:=hdq (fun(W:World) (h:Fr NoT w W)=>h3 W S S' Z Z' A3 D3 q3 r3 (hL.up h) (s3.imp fun _ _ hx=>ExR.keep (hL.k1 h) hx) (t3.imp fun _ _ hx=>ExR.keep (hL.k2 h) hx))
 obtain⟨v3,hv3⟩:=nmq (eqX false a3 b3)
 rw[←hv3]at HC3 ⊢
 have HF:=hdq (show Fr NoT w ((w.alloc (.cells #[.int .u8 a0,.string a1,.int .i64 a2,.slice A3 a3.len q3,.int .i64 a4] 41)).alloc (.cells #[.int .u8 b0,.string b1,.int .i64 b2,.slice D3 b3.len r3,.int .i64 b4] 41))from((Fr.refl _ _).alloc _).alloc _)
 have HK1:=hdq ((Bk.new w 41 #[.int .u8 a0,.string a1,.int .i64 a2,.slice A3 a3.len q3,.int .i64 a4]).alloc (.cells #[.int .u8 b0,.string b1,.int .i64 b2,.slice D3 b3.len r3,.int .i64 b4] 41))
 have HK2:=hdq (Bk.new_at (w.alloc (.cells #[.int .u8 a0,.string a1,.int .i64 a2,.slice A3 a3.len q3,.int .i64 a4] 41)) 41 #[.int .u8 b0,.string b1,.int .i64 b2,.slice D3 b3.len r3,.int .i64 b4] (n:=w.heap.size+1) (by simp))
 clear hL s3 t3 h3 hv3
 go_enter Tryz.func135,Tryz.ntmps135
 cases e0:a0==b0
 ·go_wp2_with fail
  go_ret
  exact⟨rfl,HF.out⟩
 cases e1:a1.toList==b1.toList
 ·go_wp2_with fail
  go_ret
  exact⟨rfl,HF.out⟩
 cases e2:a2==b2
 ·go_wp2_with fail
  go_ret
  exact⟨rfl,HF.out⟩
 go_wp2_with fail
 refine(HC3.out _ HF.out).mono ?_
 rintro _ y3 ⟨rfl,hy3⟩
 have HB3:=hdq (Fr.trans HF.out hy3)
 clear hy3
 go_wp2_with fail
 go_ret
 exact⟨rfl,HB3.out⟩
theorem pqX_one (xs ys:Exs) (hall0:PqIX xs ys):PqX xs ys:=by
 intro w S S' Z Z' A A' c c' hL hx hy
 have hl:xs.len≤9223372036854775807:=leq9 hx.1 hx.2.1.1
 have hl':ys.len≤9223372036854775807:=leq9 hy.1 hy.2.1.1
 have HA:=hdq hall0
 clear hall0
 have hent:Enters Tryz.prog 135:=enters_of Tryz.func135 (by kernel_rfl) rfl
 unfold Enters at hent
 by_cases hlen:xs.len=ys.len
 ·obtain⟨m,hm⟩:=nmq ys.len
  have hxm:xs.len=m:=hlen.trans hm.symm
  rw[hxm,←hm]
  rw[←hm]at hl'
  have HM:=hdq hm
  have HL:=hdq hxm
  have HX:=hdq hx
  have HY:=hdq hy
  have HS:=hdq hL
  clear hlen hm hxm hl hx hy hL
  go_enter Tryz.func134,Tryz.ntmps134
  go_wp2_with fail
  go_loopw [17] (fun i wr=>∃k:Nat,k≤m∧i= .int .i64 k∧Hid (Fr NoT w wr)∧Hid (eqX false xs ys=eqX false (Exs.drop k xs) (Exs.drop k ys))) (fun i _=>m - (intOf i).toNat)
  case atStart=>exact⟨0,Nat.zero_le _,rfl,Fr.refl _ _,rfl⟩
  case round=>
   obtain⟨k,hk,rfl,hbw,hall⟩:=hrel
   by_cases hlt:k < m
   ·obtain⟨a0,a1,a2,a3,a4,ar,hd⟩:=Exs.drop_cons (show k < xs.len from by rw[HL.out];exact hlt)
    obtain⟨b0,b1,b2,b3,b4,br,hd'⟩:=Exs.drop_cons (show k < ys.len from by rw[←HM.out];exact hlt)
    obtain⟨b,o,rfl,hat⟩:=HX.out.2.2 (by rw[HL.out];omega)
    obtain⟨b',o',rfl,hat'⟩:=HY.out.2.2 (by rw[←HM.out];omega)
    have hat1:=(ExR.keep (HS.out.k1 hbw.out) hat).drop k
    have hat2:=(ExR.keep (HS.out.k2 hbw.out) hat').drop k
    rw[hd]at hat1
    rw[hd']at hat2
    obtain⟨⟨hbS,_,_,_,_,c0,c1,c2,c4⟩,⟨A3,q3,c3,s3⟩,_⟩:=hat1
    obtain⟨⟨hbS2,_,_,_,_,d0,d1,d2,d4⟩,⟨D3,r3,d3,t3⟩,_⟩:=hat2
    have hxr:b < wr.heap.size:=ltq (HS.out.1 _ hbS) hbw.out.size
    have hxr':b' < wr.heap.size:=ltq (HS.out.2 _ hbS2) hbw.out.size
    have hlt':(k:Int) < (m:Int):=by omega
    have hge:(0:Int)≤(k:Int):=by omega
    have hst:=hall.out.trans (pqX_step hd hd')
    have hrec:=HA.out k a0 a1 a2 a3 a4 ar b0 b1 b2 b3 b4 br hd hd'
    have hU:=HS.out.up hbw.out
    have hc:=fun(W:World) (h:Fr NoT wr W)=>psX_one a0 a1 a2 a3 a4 b0 b1 b2 b3 b4 hrec W S S' Z Z' A3 q3 D3 r3 (hU.up h) (s3.imp fun _ _ hx=>ExR.keep (hU.k1 h) hx) (t3.imp fun _ _ hx=>ExR.keep (hU.k2 h) hx)
    obtain⟨v,hv⟩:=nmq (((a0==b0)&&(a1.toList==b1.toList)&&(a2==b2)&&eqX false a3 b3))
    rw[←hv]at hc hst
    have HC:=hdq hc
    have HST:=hdq hst
    have HW:=hdq hbw.out
    clear hU hd hd' hat hat' hc hst hall hbw hbS hbS2 hv hrec s3 t3
    go_wp2_with fail
    refine(HC.out _ (((Fr.refl _ _).alloc _).alloc _)).mono ?_
    rintro _ w1 ⟨rfl,hb1⟩
    have HB1:=hdq (HW.out.trans ((((Fr.refl NoT wr).alloc _).alloc _).trans hb1))
    clear hb1 c0 d0 c1 d1 c2 d2 c3 d3 c4 d4
    cases v
    ·have HF:=hdq (show eqX false xs ys=false from by rw[HST.out];rfl)
     clear HST
     go_wp2_with fail
     go_ret
     exact⟨by rw[HF.out];rfl,HB1.out⟩
    ·have HN:=hdq (show eqX false xs ys=eqX false (Exs.drop (k+1) xs) (Exs.drop (k+1) ys)from by rw[HST.out];rfl)
     clear HST
     go_wp2_with fail
     go_roundw
     case rel=>exact⟨k+1,by omega,by go_num,HB1.out,HN⟩
     case measure=>simp[intOf];omega
   ·have HF:=hdq (show eqX false xs ys=true from by rw[hall.out,Exs.drop_nil (by rw[HL.out];omega),Exs.drop_nil (by rw[←HM.out];omega)];rfl)
    have HW:=hdq hbw.out
    clear hall hbw
    go_wp2_with fail
    go_ret
    exact⟨by rw[HF.out];rfl,HW.out⟩
 ·have HF:=hdq (eqX_len (p:=false) hlen)
  have hne':((xs.len:Int) != (ys.len:Int))=true:=by simp;omega
  clear hx hy
  go_enter Tryz.func134,Tryz.ntmps134
  go_wp2_with fail
  go_ret
  exact⟨by rw[HF.out];rfl,Fr.refl _ _⟩
theorem pqIX_all:∀xs ys:Exs,PqIX xs ys
 | .nil,_=>fun i _ _ _ _ _ _ _ _ _ _ _ _ hd=>by cases i<;>simp[Exs.drop]at hd
 | .cons ..,.nil =>fun i _ _ _ _ _ _ _ _ _ _ _ _ _ hd=>by cases i<;>simp[Exs.drop]at hd
 | .cons k0 k1 k2 k3 k4 kr,.cons l0 l1 l2 l3 l4 lr=>fun i _ _ _ _ _ _ _ _ _ _ _ _ hd hd'=>by
  cases i with
  |zero=>
   simp only[Exs.drop]at hd hd'
   injection hd with e0 e1 e2 e3 e4 e5
   injection hd' with f0 f1 f2 f3 f4 f5
   subst e0 e1 e2 e3 e4 e5 f0 f1 f2 f3 f4 f5
   exact pqX_one k3 l3 (pqIX_all k3 l3)
  |succ i=>
   simp only[Exs.drop]at hd hd'
   exact pqIX_all kr lr i _ _ _ _ _ _ _ _ _ _ _ _ hd hd'
theorem pqX_any (xs ys:Exs):PqX xs ys:=pqX_one xs ys (pqIX_all xs ys)

def PqC (xs ys:Cds):Prop:=∀(W:World) (S S':Nat→Prop) (Z Z':Prop) (A A':Option Addr) (c c':Nat),LoK S S' W→SlR (fun b o=>CdR W S Z xs b o) xs.len 64 A c→SlR (fun b o=>CdR W S' Z' ys b o) ys.len 64 A' c'→
 Calls Tryz.prog 136 #[.slice A xs.len c,.slice A' ys.len c',.func (.func 137) #[] #[]] W (EqPost (eqC false xs ys) W)
def PsC (a0:Int) (a1:Exs) (a2:Cds) (a3:Int) (b0:Int) (b1:Exs) (b2:Cds) (b3:Int):Prop:=∀(W:World) (S S':Nat→Prop) (Z Z':Prop) (A1:Option Addr) (q1:Nat) (D1:Option Addr) (r1:Nat) (A2:Option Addr) (q2:Nat) (D2:Option Addr) (r2:Nat),LoK S S' W→SlR (fun b o=>ExR W S Z a1 b o) a1.len 64 A1 q1→SlR (fun b o=>ExR W S' Z' b1 b o) b1.len 64 D1 r1→SlR (fun b o=>CdR W S Z a2 b o) a2.len 64 A2 q2→SlR (fun b o=>CdR W S' Z' b2 b o) b2.len 64 D2 r2→
 Calls Tryz.prog 137 #[.agg #[.int .u8 a0,.slice A1 a1.len q1,.slice A2 a2.len q2,.int .i64 a3],.agg #[.int .u8 b0,.slice D1 b1.len r1,.slice D2 b2.len r2,.int .i64 b3]] W (EqPost ((a0==b0)&&eqX false a1 b1&&eqC false a2 b2) W)
def PqIC (xs ys:Cds):Prop:=∀(i:Nat) (a0:Int) (a1:Exs) (a2:Cds) (a3:Int) (ar:Cds) (b0:Int) (b1:Exs) (b2:Cds) (b3:Int) (br:Cds),Cds.drop i xs= .cons a0 a1 a2 a3 ar→Cds.drop i ys= .cons b0 b1 b2 b3 br→PqC a2 b2
theorem pqC_step {xs ys:Cds} {i:Nat} {a0 a1 a2 a3 ar b0 b1 b2 b3 br} (hd:Cds.drop i xs= .cons a0 a1 a2 a3 ar) (hd':Cds.drop i ys= .cons b0 b1 b2 b3 br):
  eqC false (Cds.drop i xs) (Cds.drop i ys)=(((a0==b0)&&eqX false a1 b1&&eqC false a2 b2)&&eqC false (Cds.drop (i+1) xs) (Cds.drop (i+1) ys)):=by
 rw[Cds.drop_succ i xs hd,Cds.drop_succ i ys hd',hd,hd']
 simp only[eqC,Bool.not_false,Bool.true_or,Bool.and_true]
theorem psC_one (a0:Int) (a1:Exs) (a2:Cds) (a3:Int) (b0:Int) (b1:Exs) (b2:Cds) (b3:Int) (h1:PqX a1 b1) (h2:PqC a2 b2):PsC a0 a1 a2 a3 b0 b1 b2 b3:=by
 intro w S S' Z Z' A1 q1 D1 r1 A2 q2 D2 r2 hL s1 t1 s2 t2
 have HC1:=hdq (fun(W:World) (h:Fr NoT w W)=>h1 W S S' Z Z' A1 D1 q1 r1 (hL.up h) (s1.imp fun _ _ hx=>ExR.keep (hL.k1 h) hx) (t1.imp fun _ _ hx=>ExR.keep (hL.k2 h) hx))
 obtain⟨v1,hv1⟩:=nmq (eqX false a1 b1)
 rw[←hv1]at HC1 ⊢
 have HC2:=hdq (fun(W:World) (h:Fr NoT w W)=>h2 W S S' Z Z' A2 D2 q2 r2 (hL.up h) (s2.imp fun _ _ hx=>CdR.keep (hL.k1 h) hx) (t2.imp fun _ _ hx=>CdR.keep (hL.k2 h) hx))
 obtain⟨v2,hv2⟩:=nmq (eqC false a2 b2)
 rw[←hv2]at HC2 ⊢
 have HF:=hdq (show Fr NoT w ((w.alloc (.cells #[.int .u8 a0,.slice A1 a1.len q1,.slice A2 a2.len q2,.int .i64 a3] 160)).alloc (.cells #[.int .u8 b0,.slice D1 b1.len r1,.slice D2 b2.len r2,.int .i64 b3] 160))from((Fr.refl _ _).alloc _).alloc _)
 have HK1:=hdq ((Bk.new w 160 #[.int .u8 a0,.slice A1 a1.len q1,.slice A2 a2.len q2,.int .i64 a3]).alloc (.cells #[.int .u8 b0,.slice D1 b1.len r1,.slice D2 b2.len r2,.int .i64 b3] 160))
 have HK2:=hdq (Bk.new_at (w.alloc (.cells #[.int .u8 a0,.slice A1 a1.len q1,.slice A2 a2.len q2,.int .i64 a3] 160)) 160 #[.int .u8 b0,.slice D1 b1.len r1,.slice D2 b2.len r2,.int .i64 b3] (n:=w.heap.size+1) (by simp))
 clear hL s1 t1 h1 hv1 s2 t2 h2 hv2
 go_enter Tryz.func137,Tryz.ntmps137
 cases e0:a0==b0
 ·go_wp2_with fail
  go_ret
  exact⟨rfl,HF.out⟩
 go_wp2_with fail
 refine(HC1.out _ HF.out).mono ?_
 rintro _ y1 ⟨rfl,hy1⟩
 have HB1:=hdq (Fr.trans HF.out hy1)
 cases v1
 ·clear hy1
  go_wp2_with fail
  go_ret
  exact⟨rfl,HB1.out⟩
 have HK11:=hdq (HK1.out.fr0 hy1)
 have HK21:=hdq (HK2.out.fr0 hy1)
 have xl:=HK11.out.lt
 have zl:=HK21.out.lt
 have x2:y1.cell? ⟨w.heap.size,2,none⟩=some (.slice A2 a2.len q2):=HK11.out.cell 2
 have z2:y1.cell? ⟨w.heap.size+1,2,none⟩=some (.slice D2 b2.len r2):=HK21.out.cell 2
 clear hy1
 go_wp2_with fail
 refine(HC2.out _ HB1.out).mono ?_
 rintro _ y2 ⟨rfl,hy2⟩
 have HB2:=hdq (Fr.trans HB1.out hy2)
 clear hy2
 go_wp2_with fail
 go_ret
 exact⟨rfl,HB2.out⟩
theorem pqC_one (xs ys:Cds) (hall0:PqIC xs ys):PqC xs ys:=by
 intro w S S' Z Z' A A' c c' hL hx hy
 have hl:xs.len≤9223372036854775807:=leq9 hx.1 hx.2.1.1
 have hl':ys.len≤9223372036854775807:=leq9 hy.1 hy.2.1.1
 have HA:=hdq hall0
 clear hall0
 have hent:Enters Tryz.prog 137:=enters_of Tryz.func137 (by kernel_rfl) rfl
 unfold Enters at hent
 by_cases hlen:xs.len=ys.len
 ·obtain⟨m,hm⟩:=nmq ys.len
  have hxm:xs.len=m:=hlen.trans hm.symm
  rw[hxm,←hm]
  rw[←hm]at hl'
  have HM:=hdq hm
  have HL:=hdq hxm
  have HX:=hdq hx
  have HY:=hdq hy
  have HS:=hdq hL
  clear hlen hm hxm hl hx hy hL
  go_enter Tryz.func136,Tryz.ntmps136
  go_wp2_with fail
  go_loopw [17] (fun i wr=>∃k:Nat,k≤m∧i= .int .i64 k∧Hid (Fr NoT w wr)∧Hid (eqC false xs ys=eqC false (Cds.drop k xs) (Cds.drop k ys))) (fun i _=>m - (intOf i).toNat)
  case atStart=>exact⟨0,Nat.zero_le _,rfl,Fr.refl _ _,rfl⟩
  case round=>
   obtain⟨k,hk,rfl,hbw,hall⟩:=hrel
   by_cases hlt:k < m
   ·obtain⟨a0,a1,a2,a3,ar,hd⟩:=Cds.drop_cons (show k < xs.len from by rw[HL.out];exact hlt)
    obtain⟨b0,b1,b2,b3,br,hd'⟩:=Cds.drop_cons (show k < ys.len from by rw[←HM.out];exact hlt)
    obtain⟨b,o,rfl,hat⟩:=HX.out.2.2 (by rw[HL.out];omega)
    obtain⟨b',o',rfl,hat'⟩:=HY.out.2.2 (by rw[←HM.out];omega)
    have hat1:=(CdR.keep (HS.out.k1 hbw.out) hat).drop k
    have hat2:=(CdR.keep (HS.out.k2 hbw.out) hat').drop k
    rw[hd]at hat1
    rw[hd']at hat2
    obtain⟨⟨hbS,_,_,_,c0,c3⟩,⟨A1,q1,c1,s1⟩,⟨A2,q2,c2,s2⟩,_⟩:=hat1
    obtain⟨⟨hbS2,_,_,_,d0,d3⟩,⟨D1,r1,d1,t1⟩,⟨D2,r2,d2,t2⟩,_⟩:=hat2
    have hxr:b < wr.heap.size:=ltq (HS.out.1 _ hbS) hbw.out.size
    have hxr':b' < wr.heap.size:=ltq (HS.out.2 _ hbS2) hbw.out.size
    have hlt':(k:Int) < (m:Int):=by omega
    have hge:(0:Int)≤(k:Int):=by omega
    have hst:=hall.out.trans (pqC_step hd hd')
    have hrec:=HA.out k a0 a1 a2 a3 ar b0 b1 b2 b3 br hd hd'
    have hU:=HS.out.up hbw.out
    have hc:=fun(W:World) (h:Fr NoT wr W)=>psC_one a0 a1 a2 a3 b0 b1 b2 b3 (pqX_any a1 b1) hrec W S S' Z Z' A1 q1 D1 r1 A2 q2 D2 r2 (hU.up h) (s1.imp fun _ _ hx=>ExR.keep (hU.k1 h) hx) (t1.imp fun _ _ hx=>ExR.keep (hU.k2 h) hx) (s2.imp fun _ _ hx=>CdR.keep (hU.k1 h) hx) (t2.imp fun _ _ hx=>CdR.keep (hU.k2 h) hx)
    obtain⟨v,hv⟩:=nmq (((a0==b0)&&eqX false a1 b1&&eqC false a2 b2))
    rw[←hv]at hc hst
    have HC:=hdq hc
    have HST:=hdq hst
    have HW:=hdq hbw.out
    clear hU hd hd' hat hat' hc hst hall hbw hbS hbS2 hv hrec s1 t1 s2 t2
    go_wp2_with fail
    refine(HC.out _ (((Fr.refl _ _).alloc _).alloc _)).mono ?_
    rintro _ w1 ⟨rfl,hb1⟩
    have HB1:=hdq (HW.out.trans ((((Fr.refl NoT wr).alloc _).alloc _).trans hb1))
    clear hb1 c0 d0 c1 d1 c2 d2 c3 d3
    cases v
    ·have HF:=hdq (show eqC false xs ys=false from by rw[HST.out];rfl)
     clear HST
     go_wp2_with fail
     go_ret
     exact⟨by rw[HF.out];rfl,HB1.out⟩
    ·have HN:=hdq (show eqC false xs ys=eqC false (Cds.drop (k+1) xs) (Cds.drop (k+1) ys)from by rw[HST.out];rfl)
     clear HST
     go_wp2_with fail
     go_roundw
     case rel=>exact⟨k+1,by omega,by go_num,HB1.out,HN⟩
     case measure=>simp[intOf];omega
   ·have HF:=hdq (show eqC false xs ys=true from by rw[hall.out,Cds.drop_nil (by rw[HL.out];omega),Cds.drop_nil (by rw[←HM.out];omega)];rfl)
    have HW:=hdq hbw.out
    clear hall hbw
    go_wp2_with fail
    go_ret
    exact⟨by rw[HF.out];rfl,HW.out⟩
 ·have HF:=hdq (eqC_len (p:=false) hlen)
  have hne':((xs.len:Int) != (ys.len:Int))=true:=by simp;omega
  clear hx hy
  go_enter Tryz.func136,Tryz.ntmps136
  go_wp2_with fail
  go_ret
  exact⟨by rw[HF.out];rfl,Fr.refl _ _⟩
theorem pqIC_all:∀xs ys:Cds,PqIC xs ys
 | .nil,_=>fun i _ _ _ _ _ _ _ _ _ _ hd=>by cases i<;>simp[Cds.drop]at hd
 | .cons ..,.nil =>fun i _ _ _ _ _ _ _ _ _ _ _ hd=>by cases i<;>simp[Cds.drop]at hd
 | .cons k0 k1 k2 k3 kr,.cons l0 l1 l2 l3 lr=>fun i _ _ _ _ _ _ _ _ _ _ hd hd'=>by
  cases i with
  |zero=>
   simp only[Cds.drop]at hd hd'
   injection hd with e0 e1 e2 e3 e4
   injection hd' with f0 f1 f2 f3 f4
   subst e0 e1 e2 e3 e4 f0 f1 f2 f3 f4
   exact pqC_one k2 l2 (pqIC_all k2 l2)
  |succ i=>
   simp only[Cds.drop]at hd hd'
   exact pqIC_all kr lr i _ _ _ _ _ _ _ _ _ _ hd hd'
theorem pqC_any (xs ys:Cds):PqC xs ys:=pqC_one xs ys (pqIC_all xs ys)

def PqS (xs ys:Sts):Prop:=∀(W:World) (S S':Nat→Prop) (Z Z':Prop) (A A':Option Addr) (c c':Nat),LoK S S' W→SlR (fun b o=>StR W S Z xs b o) xs.len 128 A c→SlR (fun b o=>StR W S' Z' ys b o) ys.len 128 A' c'→
 Calls Tryz.prog 65 #[.slice A xs.len c,.slice A' ys.len c',.func (.func 66) #[] #[]] W (EqPost (eqS false xs ys) W)
def PsS (a0:Int) (a1:ByteArray) (a2:Exs) (a3:Cds) (a4:Sts) (a5:Sts) (a6:Int) (b0:Int) (b1:ByteArray) (b2:Exs) (b3:Cds) (b4:Sts) (b5:Sts) (b6:Int):Prop:=∀(W:World) (S S':Nat→Prop) (Z Z':Prop) (A2:Option Addr) (q2:Nat) (D2:Option Addr) (r2:Nat) (A3:Option Addr) (q3:Nat) (D3:Option Addr) (r3:Nat) (A4:Option Addr) (q4:Nat) (D4:Option Addr) (r4:Nat) (A5:Option Addr) (q5:Nat) (D5:Option Addr) (r5:Nat),LoK S S' W→SlR (fun b o=>ExR W S Z a2 b o) a2.len 64 A2 q2→SlR (fun b o=>ExR W S' Z' b2 b o) b2.len 64 D2 r2→SlR (fun b o=>CdR W S Z a3 b o) a3.len 64 A3 q3→SlR (fun b o=>CdR W S' Z' b3 b o) b3.len 64 D3 r3→SlR (fun b o=>StR W S Z a4 b o) a4.len 128 A4 q4→SlR (fun b o=>StR W S' Z' b4 b o) b4.len 128 D4 r4→SlR (fun b o=>StR W S Z a5 b o) a5.len 128 A5 q5→SlR (fun b o=>StR W S' Z' b5 b o) b5.len 128 D5 r5→
 Calls Tryz.prog 66 #[.agg #[.int .u8 a0,.string a1,.slice A2 a2.len q2,.slice A3 a3.len q3,.slice A4 a4.len q4,.slice A5 a5.len q5,.int .i64 a6],.agg #[.int .u8 b0,.string b1,.slice D2 b2.len r2,.slice D3 b3.len r3,.slice D4 b4.len r4,.slice D5 b5.len r5,.int .i64 b6]] W (EqPost ((a0==b0)&&(a1.toList==b1.toList)&&eqX false a2 b2&&eqC false a3 b3&&eqS false a4 b4&&eqS false a5 b5) W)
def PqIS (xs ys:Sts):Prop:=∀(i:Nat) (a0:Int) (a1:ByteArray) (a2:Exs) (a3:Cds) (a4:Sts) (a5:Sts) (a6:Int) (ar:Sts) (b0:Int) (b1:ByteArray) (b2:Exs) (b3:Cds) (b4:Sts) (b5:Sts) (b6:Int) (br:Sts),Sts.drop i xs= .cons a0 a1 a2 a3 a4 a5 a6 ar→Sts.drop i ys= .cons b0 b1 b2 b3 b4 b5 b6 br→PqS a4 b4∧PqS a5 b5
theorem pqS_step {xs ys:Sts} {i:Nat} {a0 a1 a2 a3 a4 a5 a6 ar b0 b1 b2 b3 b4 b5 b6 br} (hd:Sts.drop i xs= .cons a0 a1 a2 a3 a4 a5 a6 ar) (hd':Sts.drop i ys= .cons b0 b1 b2 b3 b4 b5 b6 br):
  eqS false (Sts.drop i xs) (Sts.drop i ys)=(((a0==b0)&&(a1.toList==b1.toList)&&eqX false a2 b2&&eqC false a3 b3&&eqS false a4 b4&&eqS false a5 b5)&&eqS false (Sts.drop (i+1) xs) (Sts.drop (i+1) ys)):=by
 rw[Sts.drop_succ i xs hd,Sts.drop_succ i ys hd',hd,hd']
 simp only[eqS,Bool.not_false,Bool.true_or,Bool.and_true]
theorem psS_one (a0:Int) (a1:ByteArray) (a2:Exs) (a3:Cds) (a4:Sts) (a5:Sts) (a6:Int) (b0:Int) (b1:ByteArray) (b2:Exs) (b3:Cds) (b4:Sts) (b5:Sts) (b6:Int) (h2:PqX a2 b2) (h3:PqC a3 b3) (h4:PqS a4 b4) (h5:PqS a5 b5):PsS a0 a1 a2 a3 a4 a5 a6 b0 b1 b2 b3 b4 b5 b6:=by
 intro w S S' Z Z' A2 q2 D2 r2 A3 q3 D3 r3 A4 q4 D4 r4 A5 q5 D5 r5 hL s2 t2 s3 t3 s4 t4 s5 t5
 have HC2:=hdq (fun(W:World) (h:Fr NoT w W)=>h2 W S S' Z Z' A2 D2 q2 r2 (hL.up h) (s2.imp fun _ _ hx=>ExR.keep (hL.k1 h) hx) (t2.imp fun _ _ hx=>ExR.keep (hL.k2 h) hx))
 obtain⟨v2,hv2⟩:=nmq (eqX false a2 b2)
 rw[←hv2]at HC2 ⊢
 have HC3:=hdq (fun(W:World) (h:Fr NoT w W)=>h3 W S S' Z Z' A3 D3 q3 r3 (hL.up h) (s3.imp fun _ _ hx=>CdR.keep (hL.k1 h) hx) (t3.imp fun _ _ hx=>CdR.keep (hL.k2 h) hx))
 obtain⟨v3,hv3⟩:=nmq (eqC false a3 b3)
 rw[←hv3]at HC3 ⊢
 have HC4:=hdq (fun(W:World) (h:Fr NoT w W)=>h4 W S S' Z Z' A4 D4 q4 r4 (hL.up h) (s4.imp fun _ _ hx=>StR.keep (hL.k1 h) hx) (t4.imp fun _ _ hx=>StR.keep (hL.k2 h) hx))
 obtain⟨v4,hv4⟩:=nmq (eqS false a4 b4)
 rw[←hv4]at HC4 ⊢
 have HC5:=hdq (fun(W:World) (h:Fr NoT w W)=>h5 W S S' Z Z' A5 D5 q5 r5 (hL.up h) (s5.imp fun _ _ hx=>StR.keep (hL.k1 h) hx) (t5.imp fun _ _ hx=>StR.keep (hL.k2 h) hx))
 obtain⟨v5,hv5⟩:=nmq (eqS false a5 b5)
 rw[←hv5]at HC5 ⊢
 have HF:=hdq (show Fr NoT w ((w.alloc (.cells #[.int .u8 a0,.string a1,.slice A2 a2.len q2,.slice A3 a3.len q3,.slice A4 a4.len q4,.slice A5 a5.len q5,.int .i64 a6] 39)).alloc (.cells #[.int .u8 b0,.string b1,.slice D2 b2.len r2,.slice D3 b3.len r3,.slice D4 b4.len r4,.slice D5 b5.len r5,.int .i64 b6] 39))from((Fr.refl _ _).alloc _).alloc _)
 have HK1:=hdq ((Bk.new w 39 #[.int .u8 a0,.string a1,.slice A2 a2.len q2,.slice A3 a3.len q3,.slice A4 a4.len q4,.slice A5 a5.len q5,.int .i64 a6]).alloc (.cells #[.int .u8 b0,.string b1,.slice D2 b2.len r2,.slice D3 b3.len r3,.slice D4 b4.len r4,.slice D5 b5.len r5,.int .i64 b6] 39))
 have HK2:=hdq (Bk.new_at (w.alloc (.cells #[.int .u8 a0,.string a1,.slice A2 a2.len q2,.slice A3 a3.len q3,.slice A4 a4.len q4,.slice A5 a5.len q5,.int .i64 a6] 39)) 39 #[.int .u8 b0,.string b1,.slice D2 b2.len r2,.slice D3 b3.len r3,.slice D4 b4.len r4,.slice D5 b5.len r5,.int .i64 b6] (n:=w.heap.size+1) (by simp))
 clear hL s2 t2 h2 hv2 s3 t3 h3 hv3 s4 t4 h4 hv4 s5 t5 h5 hv5
 go_enter Tryz.func66,Tryz.ntmps66
 cases e0:a0==b0
 ·go_wp2_with fail
  go_ret
  exact⟨rfl,HF.out⟩
 cases e1:a1.toList==b1.toList
 ·go_wp2_with fail
  go_ret
  exact⟨rfl,HF.out⟩
 go_wp2_with fail
 refine(HC2.out _ HF.out).mono ?_
 rintro _ y2 ⟨rfl,hy2⟩
 have HB2:=hdq (Fr.trans HF.out hy2)
 cases v2
 ·clear hy2
  go_wp2_with fail
  go_ret
  exact⟨rfl,HB2.out⟩
 have HK11:=hdq (HK1.out.fr0 hy2)
 have HK21:=hdq (HK2.out.fr0 hy2)
 have xl:=HK11.out.lt
 have zl:=HK21.out.lt
 have x3:y2.cell? ⟨w.heap.size,3,none⟩=some (.slice A3 a3.len q3):=HK11.out.cell 3
 have z3:y2.cell? ⟨w.heap.size+1,3,none⟩=some (.slice D3 b3.len r3):=HK21.out.cell 3
 have x4:y2.cell? ⟨w.heap.size,4,none⟩=some (.slice A4 a4.len q4):=HK11.out.cell 4
 have z4:y2.cell? ⟨w.heap.size+1,4,none⟩=some (.slice D4 b4.len r4):=HK21.out.cell 4
 have x5:y2.cell? ⟨w.heap.size,5,none⟩=some (.slice A5 a5.len q5):=HK11.out.cell 5
 have z5:y2.cell? ⟨w.heap.size+1,5,none⟩=some (.slice D5 b5.len r5):=HK21.out.cell 5
 clear hy2
 go_wp2_with fail
 refine(HC3.out _ HB2.out).mono ?_
 rintro _ y3 ⟨rfl,hy3⟩
 have HB3:=hdq (Fr.trans HB2.out hy3)
 cases v3
 ·clear hy3
  go_wp2_with fail
  go_ret
  exact⟨rfl,HB3.out⟩
 clear x3 z3 x4 z4 x5 z5 xl zl
 have HK12:=hdq (HK11.out.fr0 hy3)
 have HK22:=hdq (HK21.out.fr0 hy3)
 have xl:=HK12.out.lt
 have zl:=HK22.out.lt
 have x4:y3.cell? ⟨w.heap.size,4,none⟩=some (.slice A4 a4.len q4):=HK12.out.cell 4
 have z4:y3.cell? ⟨w.heap.size+1,4,none⟩=some (.slice D4 b4.len r4):=HK22.out.cell 4
 have x5:y3.cell? ⟨w.heap.size,5,none⟩=some (.slice A5 a5.len q5):=HK12.out.cell 5
 have z5:y3.cell? ⟨w.heap.size+1,5,none⟩=some (.slice D5 b5.len r5):=HK22.out.cell 5
 clear hy3
 go_wp2_with fail
 refine(HC4.out _ HB3.out).mono ?_
 rintro _ y4 ⟨rfl,hy4⟩
 have HB4:=hdq (Fr.trans HB3.out hy4)
 cases v4
 ·clear hy4
  go_wp2_with fail
  go_ret
  exact⟨rfl,HB4.out⟩
 clear x4 z4 x5 z5 xl zl
 have HK13:=hdq (HK12.out.fr0 hy4)
 have HK23:=hdq (HK22.out.fr0 hy4)
 have xl:=HK13.out.lt
 have zl:=HK23.out.lt
 have x5:y4.cell? ⟨w.heap.size,5,none⟩=some (.slice A5 a5.len q5):=HK13.out.cell 5
 have z5:y4.cell? ⟨w.heap.size+1,5,none⟩=some (.slice D5 b5.len r5):=HK23.out.cell 5
 clear hy4
 go_wp2_with fail
 refine(HC5.out _ HB4.out).mono ?_
 rintro _ y5 ⟨rfl,hy5⟩
 have HB5:=hdq (Fr.trans HB4.out hy5)
 clear hy5
 go_wp2_with fail
 go_ret
 exact⟨rfl,HB5.out⟩
theorem pqS_one (xs ys:Sts) (hall0:PqIS xs ys):PqS xs ys:=by
 intro w S S' Z Z' A A' c c' hL hx hy
 have hl:xs.len≤9223372036854775807:=leq9 hx.1 hx.2.1.1
 have hl':ys.len≤9223372036854775807:=leq9 hy.1 hy.2.1.1
 have HA:=hdq hall0
 clear hall0
 have hent:Enters Tryz.prog 66:=enters_of Tryz.func66 (by kernel_rfl) rfl
 unfold Enters at hent
 by_cases hlen:xs.len=ys.len
 ·obtain⟨m,hm⟩:=nmq ys.len
  have hxm:xs.len=m:=hlen.trans hm.symm
  rw[hxm,←hm]
  rw[←hm]at hl'
  have HM:=hdq hm
  have HL:=hdq hxm
  have HX:=hdq hx
  have HY:=hdq hy
  have HS:=hdq hL
  clear hlen hm hxm hl hx hy hL
  go_enter Tryz.func65,Tryz.ntmps65
  go_wp2_with fail
  go_loopw [17] (fun i wr=>∃k:Nat,k≤m∧i= .int .i64 k∧Hid (Fr NoT w wr)∧Hid (eqS false xs ys=eqS false (Sts.drop k xs) (Sts.drop k ys))) (fun i _=>m - (intOf i).toNat)
  case atStart=>exact⟨0,Nat.zero_le _,rfl,Fr.refl _ _,rfl⟩
  case round=>
   obtain⟨k,hk,rfl,hbw,hall⟩:=hrel
   by_cases hlt:k < m
   ·obtain⟨a0,a1,a2,a3,a4,a5,a6,ar,hd⟩:=Sts.drop_cons (show k < xs.len from by rw[HL.out];exact hlt)
    obtain⟨b0,b1,b2,b3,b4,b5,b6,br,hd'⟩:=Sts.drop_cons (show k < ys.len from by rw[←HM.out];exact hlt)
    obtain⟨b,o,rfl,hat⟩:=HX.out.2.2 (by rw[HL.out];omega)
    obtain⟨b',o',rfl,hat'⟩:=HY.out.2.2 (by rw[←HM.out];omega)
    have hat1:=(StR.keep (HS.out.k1 hbw.out) hat).drop k
    have hat2:=(StR.keep (HS.out.k2 hbw.out) hat').drop k
    rw[hd]at hat1
    rw[hd']at hat2
    obtain⟨⟨hbS,_,_,_,c0,c1,c6⟩,⟨A2,q2,c2,s2⟩,⟨A3,q3,c3,s3⟩,⟨A4,q4,c4,s4⟩,⟨A5,q5,c5,s5⟩,_⟩:=hat1
    obtain⟨⟨hbS2,_,_,_,d0,d1,d6⟩,⟨D2,r2,d2,t2⟩,⟨D3,r3,d3,t3⟩,⟨D4,r4,d4,t4⟩,⟨D5,r5,d5,t5⟩,_⟩:=hat2
    have hxr:b < wr.heap.size:=ltq (HS.out.1 _ hbS) hbw.out.size
    have hxr':b' < wr.heap.size:=ltq (HS.out.2 _ hbS2) hbw.out.size
    have hlt':(k:Int) < (m:Int):=by omega
    have hge:(0:Int)≤(k:Int):=by omega
    have hst:=hall.out.trans (pqS_step hd hd')
    have hrec:=HA.out k a0 a1 a2 a3 a4 a5 a6 ar b0 b1 b2 b3 b4 b5 b6 br hd hd'
    have hU:=HS.out.up hbw.out
    have hc:=fun(W:World) (h:Fr NoT wr W)=>psS_one a0 a1 a2 a3 a4 a5 a6 b0 b1 b2 b3 b4 b5 b6 (pqX_any a2 b2) (pqC_any a3 b3) hrec.1 hrec.2 W S S' Z Z' A2 q2 D2 r2 A3 q3 D3 r3 A4 q4 D4 r4 A5 q5 D5 r5 (hU.up h) (s2.imp fun _ _ hx=>ExR.keep (hU.k1 h) hx) (t2.imp fun _ _ hx=>ExR.keep (hU.k2 h) hx) (s3.imp fun _ _ hx=>CdR.keep (hU.k1 h) hx) (t3.imp fun _ _ hx=>CdR.keep (hU.k2 h) hx) (s4.imp fun _ _ hx=>StR.keep (hU.k1 h) hx) (t4.imp fun _ _ hx=>StR.keep (hU.k2 h) hx) (s5.imp fun _ _ hx=>StR.keep (hU.k1 h) hx) (t5.imp fun _ _ hx=>StR.keep (hU.k2 h) hx)
    obtain⟨v,hv⟩:=nmq (((a0==b0)&&(a1.toList==b1.toList)&&eqX false a2 b2&&eqC false a3 b3&&eqS false a4 b4&&eqS false a5 b5))
    rw[←hv]at hc hst
    have HC:=hdq hc
    have HST:=hdq hst
    have HW:=hdq hbw.out
    clear hU hd hd' hat hat' hc hst hall hbw hbS hbS2 hv hrec s2 t2 s3 t3 s4 t4 s5 t5
    go_wp2_with fail
    refine(HC.out _ (((Fr.refl _ _).alloc _).alloc _)).mono ?_
    rintro _ w1 ⟨rfl,hb1⟩
    have HB1:=hdq (HW.out.trans ((((Fr.refl NoT wr).alloc _).alloc _).trans hb1))
    clear hb1 c0 d0 c1 d1 c2 d2 c3 d3 c4 d4 c5 d5 c6 d6
    cases v
    ·have HF:=hdq (show eqS false xs ys=false from by rw[HST.out];rfl)
     clear HST
     go_wp2_with fail
     go_ret
     exact⟨by rw[HF.out];rfl,HB1.out⟩
    ·have HN:=hdq (show eqS false xs ys=eqS false (Sts.drop (k+1) xs) (Sts.drop (k+1) ys)from by rw[HST.out];rfl)
     clear HST
     go_wp2_with fail
     go_roundw
     case rel=>exact⟨k+1,by omega,by go_num,HB1.out,HN⟩
     case measure=>simp[intOf];omega
   ·have HF:=hdq (show eqS false xs ys=true from by rw[hall.out,Sts.drop_nil (by rw[HL.out];omega),Sts.drop_nil (by rw[←HM.out];omega)];rfl)
    have HW:=hdq hbw.out
    clear hall hbw
    go_wp2_with fail
    go_ret
    exact⟨by rw[HF.out];rfl,HW.out⟩
 ·have HF:=hdq (eqS_len (p:=false) hlen)
  have hne':((xs.len:Int) != (ys.len:Int))=true:=by simp;omega
  clear hx hy
  go_enter Tryz.func65,Tryz.ntmps65
  go_wp2_with fail
  go_ret
  exact⟨by rw[HF.out];rfl,Fr.refl _ _⟩
theorem pqIS_all:∀xs ys:Sts,PqIS xs ys
 | .nil,_=>fun i _ _ _ _ _ _ _ _ _ _ _ _ _ _ _ _ hd=>by cases i<;>simp[Sts.drop]at hd
 | .cons ..,.nil =>fun i _ _ _ _ _ _ _ _ _ _ _ _ _ _ _ _ _ hd=>by cases i<;>simp[Sts.drop]at hd
 | .cons k0 k1 k2 k3 k4 k5 k6 kr,.cons l0 l1 l2 l3 l4 l5 l6 lr=>fun i _ _ _ _ _ _ _ _ _ _ _ _ _ _ _ _ hd hd'=>by
  cases i with
  |zero=>
   simp only[Sts.drop]at hd hd'
   injection hd with e0 e1 e2 e3 e4 e5 e6 e7
   injection hd' with f0 f1 f2 f3 f4 f5 f6 f7
   subst e0 e1 e2 e3 e4 e5 e6 e7 f0 f1 f2 f3 f4 f5 f6 f7
   exact⟨pqS_one k4 l4 (pqIS_all k4 l4),pqS_one k5 l5 (pqIS_all k5 l5)⟩
  |succ i=>
   simp only[Sts.drop]at hd hd'
   exact pqIS_all kr lr i _ _ _ _ _ _ _ _ _ _ _ _ _ _ _ _ hd hd'
theorem pqS_any (xs ys:Sts):PqS xs ys:=pqS_one xs ys (pqIS_all xs ys)

theorem eqA_len {p:Bool}:∀ {xs ys:List Arr},xs.length≠ys.length→eqA p xs ys=false
 | [], [],h=>absurd rfl h
 | [],_::_,_=>rfl
 |_::_, [],_=>rfl
 |_::r,_::s,h=>by simp only[eqA,eqA_len (fun e=>h (by simp[e]):r.length≠s.length),Bool.and_false]
theorem eqP_len {p:Bool}:∀ {xs ys:List Prc},xs.length≠ys.length→eqP p xs ys=false
 | [], [],h=>absurd rfl h
 | [],_::_,_=>rfl
 |_::_, [],_=>rfl
 |_::r,_::s,h=>by simp only[eqP,eqP_len (fun e=>h (by simp[e]):r.length≠s.length),Bool.and_false]
def PqV (xs ys:List Va):Prop:=∀(W:World) (S S':Nat→Prop) (Z Z':Prop) (A A':Option Addr) (c c':Nat),LoK S S' W→SlR (VaR W S Z xs) xs.length 24 A c→SlR (VaR W S' Z' ys) ys.length 24 A' c'→
 Calls Tryz.prog 62 #[.slice A xs.length c,.slice A' ys.length c',.func (.func 61) #[] #[]] W (EqPost (eqV false xs ys) W)
def PsV (a0:ByteArray) (a1:Int) (b0:ByteArray) (b1:Int):Prop:=∀(W:World) (S S':Nat→Prop) (Z Z':Prop),LoK S S' W→
 Calls Tryz.prog 61 #[.agg #[.string a0,.int .i64 a1],.agg #[.string b0,.int .i64 b1]] W (EqPost ((a0.toList==b0.toList)) W)
theorem pqV_step {xs ys:List Va} {i:Nat} {a0 a1 ar b0 b1 br} (hd:xs.drop i=(⟨a0,a1⟩:Va)::ar∧xs.drop (i+1)=ar) (hd':ys.drop i=(⟨b0,b1⟩:Va)::br∧ys.drop (i+1)=br):
  eqV false (xs.drop i) (ys.drop i)=(((a0.toList==b0.toList))&&eqV false (xs.drop (i+1)) (ys.drop (i+1))):=by
 rw[hd.1,hd.2,hd'.1,hd'.2]
 simp only[eqV,Bool.not_false,Bool.true_or,Bool.and_true]
theorem psV_one (a0:ByteArray) (a1:Int) (b0:ByteArray) (b1:Int):PsV a0 a1 b0 b1:=by
 intro w S S' Z Z' hL
 have HF:=hdq (show Fr NoT w ((w.alloc (.cells #[.string a0,.int .i64 a1] 43)).alloc (.cells #[.string b0,.int .i64 b1] 43))from((Fr.refl _ _).alloc _).alloc _)
 clear hL
 go_enter Tryz.func61,Tryz.ntmps61
 go_wp2_with fail
 go_ret
 exact⟨rfl,HF.out⟩
theorem pqV_one (xs ys:List Va):PqV xs ys:=by
 intro w S S' Z Z' A A' c c' hL hx hy
 have hl:xs.length≤9223372036854775807:=leq9 hx.1 hx.2.1.1
 have hl':ys.length≤9223372036854775807:=leq9 hy.1 hy.2.1.1
 have hent:Enters Tryz.prog 61:=enters_of Tryz.func61 (by kernel_rfl) rfl
 unfold Enters at hent
 by_cases hlen:xs.length=ys.length
 ·obtain⟨m,hm⟩:=nmq ys.length
  have hxm:xs.length=m:=hlen.trans hm.symm
  rw[hxm,←hm]
  rw[←hm]at hl'
  have HM:=hdq hm
  have HL:=hdq hxm
  have HX:=hdq hx
  have HY:=hdq hy
  have HS:=hdq hL
  clear hlen hm hxm hl hx hy hL
  go_enter Tryz.func62,Tryz.ntmps62
  go_wp2_with fail
  go_loopw [17] (fun i wr=>∃k:Nat,k≤m∧i= .int .i64 k∧Hid (Fr NoT w wr)∧Hid (eqV false xs ys=eqV false (xs.drop k) (ys.drop k))) (fun i _=>m - (intOf i).toNat)
  case atStart=>exact⟨0,Nat.zero_le _,rfl,Fr.refl _ _,rfl⟩
  case round=>
   obtain⟨k,hk,rfl,hbw,hall⟩:=hrel
   by_cases hlt:k < m
   ·obtain⟨⟨a0,a1⟩,ar,hd⟩:=drop_head1 (show k < xs.length from by rw[HL.out];exact hlt)
    obtain⟨⟨b0,b1⟩,br,hd'⟩:=drop_head1 (show k < ys.length from by rw[←HM.out];exact hlt)
    obtain⟨b,o,rfl,hat⟩:=HX.out.2.2 (by rw[HL.out];omega)
    obtain⟨b',o',rfl,hat'⟩:=HY.out.2.2 (by rw[←HM.out];omega)
    have hat1:=(VaR.keep (HS.out.k1 hbw.out) hat).drop k
    have hat2:=(VaR.keep (HS.out.k2 hbw.out) hat').drop k
    rw[hd.1]at hat1
    rw[hd'.1]at hat2
    obtain⟨⟨hbS,_,_,c0,c1⟩,_⟩:=hat1
    obtain⟨⟨hbS2,_,_,d0,d1⟩,_⟩:=hat2
    have hxr:b < wr.heap.size:=ltq (HS.out.1 _ hbS) hbw.out.size
    have hxr':b' < wr.heap.size:=ltq (HS.out.2 _ hbS2) hbw.out.size
    have hlt':(k:Int) < (m:Int):=by omega
    have hge:(0:Int)≤(k:Int):=by omega
    simp only at c0 d0 c1 d1
    have hst:=hall.out.trans (pqV_step hd hd')
    have hU:=HS.out.up hbw.out
    have hc:=fun(W:World) (h:Fr NoT wr W)=>psV_one a0 a1 b0 b1 W S S' Z Z' (hU.up h)
    obtain⟨v,hv⟩:=nmq (((a0.toList==b0.toList)))
    rw[←hv]at hc hst
    have HC:=hdq hc
    have HST:=hdq hst
    have HW:=hdq hbw.out
    clear hU hd hd' hat hat' hc hst hall hbw hbS hbS2 hv
    go_wp2_with fail
    refine(HC.out _ (((Fr.refl _ _).alloc _).alloc _)).mono ?_
    rintro _ w1 ⟨rfl,hb1⟩
    have HB1:=hdq (HW.out.trans ((((Fr.refl NoT wr).alloc _).alloc _).trans hb1))
    clear hb1 c0 d0 c1 d1
    cases v
    ·have HF:=hdq (show eqV false xs ys=false from by rw[HST.out];rfl)
     clear HST
     go_wp2_with fail
     go_ret
     exact⟨by rw[HF.out];rfl,HB1.out⟩
    ·have HN:=hdq (show eqV false xs ys=eqV false (xs.drop (k+1)) (ys.drop (k+1))from by rw[HST.out];rfl)
     clear HST
     go_wp2_with fail
     go_roundw
     case rel=>exact⟨k+1,by omega,by go_num,HB1.out,HN⟩
     case measure=>simp[intOf];omega
   ·have HF:=hdq (show eqV false xs ys=true from by rw[hall.out,List.drop_eq_nil_of_le (by rw[HL.out];omega),List.drop_eq_nil_of_le (by rw[←HM.out];omega)];rfl)
    have HW:=hdq hbw.out
    clear hall hbw
    go_wp2_with fail
    go_ret
    exact⟨by rw[HF.out];rfl,HW.out⟩
 ·have HF:=hdq (eqV_len (p:=false) hlen)
  have hne':((xs.length:Int) != (ys.length:Int))=true:=by simp;omega
  clear hx hy
  go_enter Tryz.func62,Tryz.ntmps62
  go_wp2_with fail
  go_ret
  exact⟨by rw[HF.out];rfl,Fr.refl _ _⟩
theorem pqV_any (xs ys:List Va):PqV xs ys:=pqV_one xs ys
def PqA (xs ys:List Arr):Prop:=∀(W:World) (S S':Nat→Prop) (Z Z':Prop) (A A':Option Addr) (c c':Nat),LoK S S' W→SlR (ArR W S Z xs) xs.length 32 A c→SlR (ArR W S' Z' ys) ys.length 32 A' c'→
 Calls Tryz.prog 63 #[.slice A xs.length c,.slice A' ys.length c',.func (.func 64) #[] #[]] W (EqPost (eqA false xs ys) W)
def PsA (a0:ByteArray) (a1:Int) (a2:Int) (b0:ByteArray) (b1:Int) (b2:Int):Prop:=∀(W:World) (S S':Nat→Prop) (Z Z':Prop),LoK S S' W→
 Calls Tryz.prog 64 #[.agg #[.string a0,.int .i64 a1,.int .i64 a2],.agg #[.string b0,.int .i64 b1,.int .i64 b2]] W (EqPost ((a0.toList==b0.toList)&&(a1==b1)) W)
theorem pqA_step {xs ys:List Arr} {i:Nat} {a0 a1 a2 ar b0 b1 b2 br} (hd:xs.drop i=(⟨a0,a1,a2⟩:Arr)::ar∧xs.drop (i+1)=ar) (hd':ys.drop i=(⟨b0,b1,b2⟩:Arr)::br∧ys.drop (i+1)=br):
  eqA false (xs.drop i) (ys.drop i)=(((a0.toList==b0.toList)&&(a1==b1))&&eqA false (xs.drop (i+1)) (ys.drop (i+1))):=by
 rw[hd.1,hd.2,hd'.1,hd'.2]
 simp only[eqA,Bool.not_false,Bool.true_or,Bool.and_true]
theorem psA_one (a0:ByteArray) (a1:Int) (a2:Int) (b0:ByteArray) (b1:Int) (b2:Int):PsA a0 a1 a2 b0 b1 b2:=by
 intro w S S' Z Z' hL
 have HF:=hdq (show Fr NoT w ((w.alloc (.cells #[.string a0,.int .i64 a1,.int .i64 a2] 66)).alloc (.cells #[.string b0,.int .i64 b1,.int .i64 b2] 66))from((Fr.refl _ _).alloc _).alloc _)
 clear hL
 go_enter Tryz.func64,Tryz.ntmps64
 cases e0:a0.toList==b0.toList
 ·go_wp2_with fail
  go_ret
  exact⟨rfl,HF.out⟩
 go_wp2_with fail
 go_ret
 exact⟨rfl,HF.out⟩
theorem pqA_one (xs ys:List Arr):PqA xs ys:=by
 intro w S S' Z Z' A A' c c' hL hx hy
 have hl:xs.length≤9223372036854775807:=leq9 hx.1 hx.2.1.1
 have hl':ys.length≤9223372036854775807:=leq9 hy.1 hy.2.1.1
 have hent:Enters Tryz.prog 64:=enters_of Tryz.func64 (by kernel_rfl) rfl
 unfold Enters at hent
 by_cases hlen:xs.length=ys.length
 ·obtain⟨m,hm⟩:=nmq ys.length
  have hxm:xs.length=m:=hlen.trans hm.symm
  rw[hxm,←hm]
  rw[←hm]at hl'
  have HM:=hdq hm
  have HL:=hdq hxm
  have HX:=hdq hx
  have HY:=hdq hy
  have HS:=hdq hL
  clear hlen hm hxm hl hx hy hL
  go_enter Tryz.func63,Tryz.ntmps63
  go_wp2_with fail
  go_loopw [17] (fun i wr=>∃k:Nat,k≤m∧i= .int .i64 k∧Hid (Fr NoT w wr)∧Hid (eqA false xs ys=eqA false (xs.drop k) (ys.drop k))) (fun i _=>m - (intOf i).toNat)
  case atStart=>exact⟨0,Nat.zero_le _,rfl,Fr.refl _ _,rfl⟩
  case round=>
   obtain⟨k,hk,rfl,hbw,hall⟩:=hrel
   by_cases hlt:k < m
   ·obtain⟨⟨a0,a1,a2⟩,ar,hd⟩:=drop_head1 (show k < xs.length from by rw[HL.out];exact hlt)
    obtain⟨⟨b0,b1,b2⟩,br,hd'⟩:=drop_head1 (show k < ys.length from by rw[←HM.out];exact hlt)
    obtain⟨b,o,rfl,hat⟩:=HX.out.2.2 (by rw[HL.out];omega)
    obtain⟨b',o',rfl,hat'⟩:=HY.out.2.2 (by rw[←HM.out];omega)
    have hat1:=(ArR.keep (HS.out.k1 hbw.out) hat).drop k
    have hat2:=(ArR.keep (HS.out.k2 hbw.out) hat').drop k
    rw[hd.1]at hat1
    rw[hd'.1]at hat2
    obtain⟨⟨hbS,_,_,_,c0,c1,c2⟩,_⟩:=hat1
    obtain⟨⟨hbS2,_,_,_,d0,d1,d2⟩,_⟩:=hat2
    have hxr:b < wr.heap.size:=ltq (HS.out.1 _ hbS) hbw.out.size
    have hxr':b' < wr.heap.size:=ltq (HS.out.2 _ hbS2) hbw.out.size
    have hlt':(k:Int) < (m:Int):=by omega
    have hge:(0:Int)≤(k:Int):=by omega
    simp only at c0 d0 c1 d1 c2 d2
    have hst:=hall.out.trans (pqA_step hd hd')
    have hU:=HS.out.up hbw.out
    have hc:=fun(W:World) (h:Fr NoT wr W)=>psA_one a0 a1 a2 b0 b1 b2 W S S' Z Z' (hU.up h)
    obtain⟨v,hv⟩:=nmq (((a0.toList==b0.toList)&&(a1==b1)))
    rw[←hv]at hc hst
    have HC:=hdq hc
    have HST:=hdq hst
    have HW:=hdq hbw.out
    clear hU hd hd' hat hat' hc hst hall hbw hbS hbS2 hv
    go_wp2_with fail
    refine(HC.out _ (((Fr.refl _ _).alloc _).alloc _)).mono ?_
    rintro _ w1 ⟨rfl,hb1⟩
    have HB1:=hdq (HW.out.trans ((((Fr.refl NoT wr).alloc _).alloc _).trans hb1))
    clear hb1 c0 d0 c1 d1 c2 d2
    cases v
    ·have HF:=hdq (show eqA false xs ys=false from by rw[HST.out];rfl)
     clear HST
     go_wp2_with fail
     go_ret
     exact⟨by rw[HF.out];rfl,HB1.out⟩
    ·have HN:=hdq (show eqA false xs ys=eqA false (xs.drop (k+1)) (ys.drop (k+1))from by rw[HST.out];rfl)
     clear HST
     go_wp2_with fail
     go_roundw
     case rel=>exact⟨k+1,by omega,by go_num,HB1.out,HN⟩
     case measure=>simp[intOf];omega
   ·have HF:=hdq (show eqA false xs ys=true from by rw[hall.out,List.drop_eq_nil_of_le (by rw[HL.out];omega),List.drop_eq_nil_of_le (by rw[←HM.out];omega)];rfl)
    have HW:=hdq hbw.out
    clear hall hbw
    go_wp2_with fail
    go_ret
    exact⟨by rw[HF.out];rfl,HW.out⟩
 ·have HF:=hdq (eqA_len (p:=false) hlen)
  have hne':((xs.length:Int) != (ys.length:Int))=true:=by simp;omega
  clear hx hy
  go_enter Tryz.func63,Tryz.ntmps63
  go_wp2_with fail
  go_ret
  exact⟨by rw[HF.out];rfl,Fr.refl _ _⟩
theorem pqA_any (xs ys:List Arr):PqA xs ys:=pqA_one xs ys
def PqP (xs ys:List Prc):Prop:=∀(W:World) (S S':Nat→Prop) (Z Z':Prop) (A A':Option Addr) (c c':Nat) (B:Nat),LoK S S' W→Bk W B 123 #[.func (.func 61) #[] #[]]→SlR (PrR W S Z xs) xs.length 72 A c→SlR (PrR W S' Z' ys) ys.length 72 A' c'→
 Calls Tryz.prog 67 #[.slice A xs.length c,.slice A' ys.length c',.func (.func 68) #[] #[.pointer (some ⟨B,0,none⟩)]] W (EqPost (eqP false xs ys) W)
def PsP (a0:ByteArray) (a1:List Va) (a2:Sts) (a3:Int) (b0:ByteArray) (b1:List Va) (b2:Sts) (b3:Int):Prop:=∀(W:World) (S S':Nat→Prop) (Z Z':Prop) (B:Nat) (A1:Option Addr) (q1:Nat) (D1:Option Addr) (r1:Nat) (A2:Option Addr) (q2:Nat) (D2:Option Addr) (r2:Nat),LoK S S' W→Bk W B 123 #[.func (.func 61) #[] #[]]→SlR (VaR W S Z a1) a1.length 24 A1 q1→SlR (VaR W S' Z' b1) b1.length 24 D1 r1→SlR (fun b o=>StR W S Z a2 b o) a2.len 128 A2 q2→SlR (fun b o=>StR W S' Z' b2 b o) b2.len 128 D2 r2→
 Calls Tryz.prog 68 #[.agg #[.string a0,.slice A1 a1.length q1,.slice A2 a2.len q2,.int .i64 a3],.agg #[.string b0,.slice D1 b1.length r1,.slice D2 b2.len r2,.int .i64 b3],.pointer (some ⟨B,0,none⟩)] W (EqPost ((a0.toList==b0.toList)&&eqV false a1 b1&&eqS false a2 b2) W)
theorem pqP_step {xs ys:List Prc} {i:Nat} {a0 a1 a2 a3 ar b0 b1 b2 b3 br} (hd:xs.drop i=(⟨a0,a1,a2,a3⟩:Prc)::ar∧xs.drop (i+1)=ar) (hd':ys.drop i=(⟨b0,b1,b2,b3⟩:Prc)::br∧ys.drop (i+1)=br):
  eqP false (xs.drop i) (ys.drop i)=(((a0.toList==b0.toList)&&eqV false a1 b1&&eqS false a2 b2)&&eqP false (xs.drop (i+1)) (ys.drop (i+1))):=by
 rw[hd.1,hd.2,hd'.1,hd'.2]
 simp only[eqP,Bool.not_false,Bool.true_or,Bool.and_true]
theorem psP_one (a0:ByteArray) (a1:List Va) (a2:Sts) (a3:Int) (b0:ByteArray) (b1:List Va) (b2:Sts) (b3:Int) (h1:PqV a1 b1) (h2:PqS a2 b2):PsP a0 a1 a2 a3 b0 b1 b2 b3:=by
 intro w S S' Z Z' B A1 q1 D1 r1 A2 q2 D2 r2 hL hbk s1 t1 s2 t2
 have HC1:=hdq (fun(W:World) (h:Fr NoT w W)=>h1 W S S' Z Z' A1 D1 q1 r1 (hL.up h) (s1.imp fun _ _ hx=>VaR.keep (hL.k1 h) hx) (t1.imp fun _ _ hx=>VaR.keep (hL.k2 h) hx))
 obtain⟨v1,hv1⟩:=nmq (eqV false a1 b1)
 rw[←hv1]at HC1 ⊢
 have HC2:=hdq (fun(W:World) (h:Fr NoT w W)=>h2 W S S' Z Z' A2 D2 q2 r2 (hL.up h) (s2.imp fun _ _ hx=>StR.keep (hL.k1 h) hx) (t2.imp fun _ _ hx=>StR.keep (hL.k2 h) hx))
 obtain⟨v2,hv2⟩:=nmq (eqS false a2 b2)
 rw[←hv2]at HC2 ⊢
 have HF:=hdq (show Fr NoT w ((w.alloc (.cells #[.string a0,.slice A1 a1.length q1,.slice A2 a2.len q2,.int .i64 a3] 68)).alloc (.cells #[.string b0,.slice D1 b1.length r1,.slice D2 b2.len r2,.int .i64 b3] 68))from((Fr.refl _ _).alloc _).alloc _)
 have HK1:=hdq ((Bk.new w 68 #[.string a0,.slice A1 a1.length q1,.slice A2 a2.len q2,.int .i64 a3]).alloc (.cells #[.string b0,.slice D1 b1.length r1,.slice D2 b2.len r2,.int .i64 b3] 68))
 have HK2:=hdq (Bk.new_at (w.alloc (.cells #[.string a0,.slice A1 a1.length q1,.slice A2 a2.len q2,.int .i64 a3] 68)) 68 #[.string b0,.slice D1 b1.length r1,.slice D2 b2.len r2,.int .i64 b3] (n:=w.heap.size+1) (by simp))
 have c9:=(hbk.fr0 HF.out).cell 0
 have l9:=hbk.lt
 simp only[List.getElem?_toArray,List.getElem?_cons_zero]at c9
 have c8:=hbk.cell 0
 simp only[List.getElem?_toArray,List.getElem?_cons_zero]at c8
 clear hL hbk s1 t1 h1 hv1 s2 t2 h2 hv2
 go_enter Tryz.func68,Tryz.ntmps68
 cases e0:a0.toList==b0.toList
 ·go_wp2_with fail
  go_ret
  exact⟨rfl,HF.out⟩
 go_wp2_with fail
 refine(HC1.out _ HF.out).mono ?_
 rintro _ y1 ⟨rfl,hy1⟩
 have HB1:=hdq (Fr.trans HF.out hy1)
 cases v1
 ·clear hy1
  go_wp2_with fail
  go_ret
  exact⟨rfl,HB1.out⟩
 have HK11:=hdq (HK1.out.fr0 hy1)
 have HK21:=hdq (HK2.out.fr0 hy1)
 have xl:=HK11.out.lt
 have zl:=HK21.out.lt
 have x2:y1.cell? ⟨w.heap.size,2,none⟩=some (.slice A2 a2.len q2):=HK11.out.cell 2
 have z2:y1.cell? ⟨w.heap.size+1,2,none⟩=some (.slice D2 b2.len r2):=HK21.out.cell 2
 clear hy1
 go_wp2_with fail
 refine(HC2.out _ HB1.out).mono ?_
 rintro _ y2 ⟨rfl,hy2⟩
 have HB2:=hdq (Fr.trans HB1.out hy2)
 clear hy2
 go_wp2_with fail
 go_ret
 exact⟨rfl,HB2.out⟩
theorem pqP_one (xs ys:List Prc):PqP xs ys:=by
 intro w S S' Z Z' A A' c c' B hL hbk hx hy
 have hl:xs.length≤9223372036854775807:=leq9 hx.1 hx.2.1.1
 have hl':ys.length≤9223372036854775807:=leq9 hy.1 hy.2.1.1
 have hent:Enters Tryz.prog 68:=enters_of Tryz.func68 (by kernel_rfl) rfl
 unfold Enters at hent
 by_cases hlen:xs.length=ys.length
 ·obtain⟨m,hm⟩:=nmq ys.length
  have hxm:xs.length=m:=hlen.trans hm.symm
  rw[hxm,←hm]
  rw[←hm]at hl'
  have HM:=hdq hm
  have HL:=hdq hxm
  have HX:=hdq hx
  have HY:=hdq hy
  have HS:=hdq hL
  have HBK:=hdq hbk
  clear hlen hm hxm hl hx hy hL hbk
  go_enter Tryz.func67,Tryz.ntmps67
  go_wp2_with fail
  go_loopw [17] (fun i wr=>∃k:Nat,k≤m∧i= .int .i64 k∧Hid (Fr NoT w wr)∧Hid (eqP false xs ys=eqP false (xs.drop k) (ys.drop k))) (fun i _=>m - (intOf i).toNat)
  case atStart=>exact⟨0,Nat.zero_le _,rfl,Fr.refl _ _,rfl⟩
  case round=>
   obtain⟨k,hk,rfl,hbw,hall⟩:=hrel
   by_cases hlt:k < m
   ·obtain⟨⟨a0,a1,a2,a3⟩,ar,hd⟩:=drop_head1 (show k < xs.length from by rw[HL.out];exact hlt)
    obtain⟨⟨b0,b1,b2,b3⟩,br,hd'⟩:=drop_head1 (show k < ys.length from by rw[←HM.out];exact hlt)
    obtain⟨b,o,rfl,hat⟩:=HX.out.2.2 (by rw[HL.out];omega)
    obtain⟨b',o',rfl,hat'⟩:=HY.out.2.2 (by rw[←HM.out];omega)
    have hat1:=(PrR.keep (HS.out.k1 hbw.out) hat).drop k
    have hat2:=(PrR.keep (HS.out.k2 hbw.out) hat').drop k
    rw[hd.1]at hat1
    rw[hd'.1]at hat2
    obtain⟨⟨hbS,_,_,c0,c3⟩,⟨A1,q1,c1,s1⟩,⟨A2,q2,c2,s2⟩,_⟩:=hat1
    obtain⟨⟨hbS2,_,_,d0,d3⟩,⟨D1,r1,d1,t1⟩,⟨D2,r2,d2,t2⟩,_⟩:=hat2
    have hxr:b < wr.heap.size:=ltq (HS.out.1 _ hbS) hbw.out.size
    have hxr':b' < wr.heap.size:=ltq (HS.out.2 _ hbS2) hbw.out.size
    have hlt':(k:Int) < (m:Int):=by omega
    have hge:(0:Int)≤(k:Int):=by omega
    simp only at c0 d0 c1 d1 c2 d2 c3 d3 s1 t1 s2 t2
    have hst:=hall.out.trans (pqP_step hd hd')
    have hU:=HS.out.up hbw.out
    have hc:=fun(W:World) (h:Fr NoT wr W)=>psP_one a0 a1 a2 a3 b0 b1 b2 b3 (pqV_any a1 b1) (pqS_any a2 b2) W S S' Z Z' B A1 q1 D1 r1 A2 q2 D2 r2 (hU.up h) (HBK.out.fr0 (hbw.out.trans h)) (s1.imp fun _ _ hx=>VaR.keep (hU.k1 h) hx) (t1.imp fun _ _ hx=>VaR.keep (hU.k2 h) hx) (s2.imp fun _ _ hx=>StR.keep (hU.k1 h) hx) (t2.imp fun _ _ hx=>StR.keep (hU.k2 h) hx)
    obtain⟨v,hv⟩:=nmq (((a0.toList==b0.toList)&&eqV false a1 b1&&eqS false a2 b2))
    rw[←hv]at hc hst
    have HC:=hdq hc
    have HST:=hdq hst
    have HW:=hdq hbw.out
    clear hU hd hd' hat hat' hc hst hall hbw hbS hbS2 hv s1 t1 s2 t2
    go_wp2_with fail
    refine(HC.out _ (((Fr.refl _ _).alloc _).alloc _)).mono ?_
    rintro _ w1 ⟨rfl,hb1⟩
    have HB1:=hdq (HW.out.trans ((((Fr.refl NoT wr).alloc _).alloc _).trans hb1))
    clear hb1 c0 d0 c1 d1 c2 d2 c3 d3
    cases v
    ·have HF:=hdq (show eqP false xs ys=false from by rw[HST.out];rfl)
     clear HST
     go_wp2_with fail
     go_ret
     exact⟨by rw[HF.out];rfl,HB1.out⟩
    ·have HN:=hdq (show eqP false xs ys=eqP false (xs.drop (k+1)) (ys.drop (k+1))from by rw[HST.out];rfl)
     clear HST
     go_wp2_with fail
     go_roundw
     case rel=>exact⟨k+1,by omega,by go_num,HB1.out,HN⟩
     case measure=>simp[intOf];omega
   ·have HF:=hdq (show eqP false xs ys=true from by rw[hall.out,List.drop_eq_nil_of_le (by rw[HL.out];omega),List.drop_eq_nil_of_le (by rw[←HM.out];omega)];rfl)
    have HW:=hdq hbw.out
    clear hall hbw
    go_wp2_with fail
    go_ret
    exact⟨by rw[HF.out];rfl,HW.out⟩
 ·have HF:=hdq (eqP_len (p:=false) hlen)
  have hne':((xs.length:Int) != (ys.length:Int))=true:=by simp;omega
  clear hx hy hbk
  go_enter Tryz.func67,Tryz.ntmps67
  go_wp2_with fail
  go_ret
  exact⟨by rw[HF.out];rfl,Fr.refl _ _⟩
theorem pqP_any (xs ys:List Prc):PqP xs ys:=pqP_one xs ys

theorem eqT_four (t u:Tre):eqT false t u=(((eqV false t.vars u.vars&&eqA false t.arrays u.arrays)&&eqS false t.main u.main)&&eqP false t.procs u.procs):=by
 unfold eqT
 by_cases h1:t.arrays.length=u.arrays.length
 ·by_cases h2:t.procs.length=u.procs.length
  ·simp only[h1,h2,decide_true,Bool.and_true]
   cases eqV false t.vars u.vars<;>cases eqA false t.arrays u.arrays<;>cases eqS false t.main u.main<;>cases eqP false t.procs u.procs<;>rfl
  ·rw[eqP_len h2];simp
 ·rw[eqA_len h1];simp
theorem psame_any (t u:Tre) (w:World) (S S':Nat→Prop) (Z Z':Prop) (Av Aa Ap Am Bv Ba Bp Bm:Option Addr) (cv ca cp cm dv da dp dm:Nat) (hS:∀b,S b→b < w.heap.size) (hS':∀b,S' b→b < w.heap.size) (hx:TrR w S Z t Av Aa Ap Am cv ca cp cm) (hy:TrR w S' Z' u Bv Ba Bp Bm dv da dp dm):
  Calls Tryz.prog 17 #[trV t Av Aa Ap Am cv ca cp cm,trV u Bv Ba Bp Bm dv da dp dm] w (EqPost (eqT false t u) w):=by
 have hmf:= @makeF Tryz.prog
 have hL:LoK S S' w:=⟨hS,hS'⟩
 have hk:∀W,Fr NoT w W→TrR W S Z t Av Aa Ap Am cv ca cp cm:=fun W h=>hx.keep (h.same fun b hb=>⟨hS b hb,id⟩)
 have hk':∀W,Fr NoT w W→TrR W S' Z' u Bv Ba Bp Bm dv da dp dm:=fun W h=>hy.keep (h.same fun b hb=>⟨hS' b hb,id⟩)
 have h0:=fun(W:World) (h:Fr NoT w W)=>pqV_any t.vars u.vars W S S' Z Z' Av Bv cv dv (hL.up h) (hk W h).vars (hk' W h).vars
 have h1:=fun(W:World) (h:Fr NoT w W)=>pqA_any t.arrays u.arrays W S S' Z Z' Aa Ba ca da (hL.up h) (hk W h).arrays (hk' W h).arrays
 have h2:=fun(W:World) (h:Fr NoT w W)=>pqS_any t.main u.main W S S' Z Z' Am Bm cm dm (hL.up h) (hk W h).main (hk' W h).main
 have h3:=fun(W:World) (g:Nat) (h:Fr NoT w W) (hb:Bk W g 123 #[.func (.func 61) #[] #[]])=>pqP_any t.procs u.procs W S S' Z Z' Ap Bp cp dp g (hL.up h) hb (hk W h).procs (hk' W h).procs
 rw[eqT_four]
 unfold trV
 obtain⟨v0,e0⟩:=nmq (eqV false t.vars u.vars)
 obtain⟨v1,e1⟩:=nmq (eqA false t.arrays u.arrays)
 obtain⟨v2,e2⟩:=nmq (eqS false t.main u.main)
 obtain⟨v3,e3⟩:=nmq (eqP false t.procs u.procs)
 rw[←e0,←e1,←e2,←e3]
 rw[←e0]at h0
 rw[←e1]at h1
 rw[←e2]at h2
 rw[←e3]at h3
 obtain⟨n0,gn0⟩:=nmq t.vars.length
 obtain⟨n1,gn1⟩:=nmq t.arrays.length
 obtain⟨n2,gn2⟩:=nmq t.procs.length
 obtain⟨n3,gn3⟩:=nmq t.main.len
 obtain⟨m0,gm0⟩:=nmq u.vars.length
 obtain⟨m1,gm1⟩:=nmq u.arrays.length
 obtain⟨m2,gm2⟩:=nmq u.procs.length
 obtain⟨m3,gm3⟩:=nmq u.main.len
 rw[←gn0,←gm0]at h0
 rw[←gn1,←gm1]at h1
 rw[←gn3,←gm3]at h2
 rw[←gn2,←gm2]at h3
 rw[←gn0,←gn1,←gn2,←gn3,←gm0,←gm1,←gm2,←gm3]
 have H0:=hdq h0
 have H1:=hdq h1
 have H2:=hdq h2
 have H3:=hdq h3
 have HF:=hdq (show Fr NoT w (((w.alloc (.cells #[.slice Av n0 cv,.slice Aa n1 ca,.slice Ap n2 cp,.slice Am n3 cm] 27)).alloc (.cells #[.slice Bv m0 dv,.slice Ba m1 da,.slice Bp m2 dp,.slice Bm m3 dm] 27)).alloc (.cells #[.func (.func 61) #[] #[]] 123))from(((Fr.refl _ _).alloc _).alloc _).alloc _)
 have HK1:=hdq (((Bk.new w 27 #[.slice Av n0 cv,.slice Aa n1 ca,.slice Ap n2 cp,.slice Am n3 cm]).alloc (.cells #[.slice Bv m0 dv,.slice Ba m1 da,.slice Bp m2 dp,.slice Bm m3 dm] 27)).alloc (.cells #[.func (.func 61) #[] #[]] 123))
 have HK2:=hdq ((Bk.new_at (w.alloc (.cells #[.slice Av n0 cv,.slice Aa n1 ca,.slice Ap n2 cp,.slice Am n3 cm] 27)) 27 #[.slice Bv m0 dv,.slice Ba m1 da,.slice Bp m2 dp,.slice Bm m3 dm] (n:=w.heap.size+1) (by simp)).alloc (.cells #[.func (.func 61) #[] #[]] 123))
 have HK3:=hdq (Bk.new_at ((w.alloc (.cells #[.slice Av n0 cv,.slice Aa n1 ca,.slice Ap n2 cp,.slice Am n3 cm] 27)).alloc (.cells #[.slice Bv m0 dv,.slice Ba m1 da,.slice Bp m2 dp,.slice Bm m3 dm] 27)) 123 #[.func (.func 61) #[] #[]] (n:=w.heap.size+2) (by simp))
 clear hL hk hk' h0 h1 h2 h3 e0 e1 e2 e3 gn0 gn1 gn2 gn3 gm0 gm1 gm2 gm3 hS hS' hx hy
 go_enter Tryz.func17,Tryz.ntmps17
 go_wp2_with fail
 refine(H0.out _ HF.out).mono ?_
 rintro _ y0 ⟨rfl,hy0⟩
 have HB0:=hdq (Fr.trans HF.out hy0)
 cases v0
 ·clear hy0
  go_wp2_with fail
  go_ret
  exact⟨rfl,HB0.out⟩
 have HK11:=hdq (HK1.out.fr0 hy0)
 have HK21:=hdq (HK2.out.fr0 hy0)
 have HK31:=hdq (HK3.out.fr0 hy0)
 obtain⟨x0,x1,x2,x3,xl⟩:=bk4 HK11.out
 obtain⟨z0,z1,z2,z3,zl⟩:=bk4 HK21.out
 have kl:=HK31.out.lt
 have k0:y0.cell? ⟨w.heap.size+2,0,none⟩=some (.func (.func 61) #[] #[]):=HK31.out.cell 0
 clear hy0
 go_wp2_with fail
 refine(H1.out _ HB0.out).mono ?_
 rintro _ y1 ⟨rfl,hy1⟩
 have HB1:=hdq (Fr.trans HB0.out hy1)
 cases v1
 ·clear hy1
  go_wp2_with fail
  go_ret
  exact⟨rfl,HB1.out⟩
 have HK12:=hdq (HK11.out.fr0 hy1)
 have HK22:=hdq (HK21.out.fr0 hy1)
 have HK32:=hdq (HK31.out.fr0 hy1)
 clear x0 x1 x2 x3 xl z0 z1 z2 z3 zl k0 kl
 obtain⟨x0,x1,x2,x3,xl⟩:=bk4 HK12.out
 obtain⟨z0,z1,z2,z3,zl⟩:=bk4 HK22.out
 have kl:=HK32.out.lt
 have k0:y1.cell? ⟨w.heap.size+2,0,none⟩=some (.func (.func 61) #[] #[]):=HK32.out.cell 0
 clear hy1
 go_wp2_with fail
 refine(H2.out _ HB1.out).mono ?_
 rintro _ y2 ⟨rfl,hy2⟩
 have HB2:=hdq (Fr.trans HB1.out hy2)
 cases v2
 ·clear hy2
  go_wp2_with fail
  go_ret
  exact⟨rfl,HB2.out⟩
 have HK13:=hdq (HK12.out.fr0 hy2)
 have HK23:=hdq (HK22.out.fr0 hy2)
 have HK33:=hdq (HK32.out.fr0 hy2)
 clear x0 x1 x2 x3 xl z0 z1 z2 z3 zl k0 kl
 obtain⟨x0,x1,x2,x3,xl⟩:=bk4 HK13.out
 obtain⟨z0,z1,z2,z3,zl⟩:=bk4 HK23.out
 have kl:=HK33.out.lt
 have k0:y2.cell? ⟨w.heap.size+2,0,none⟩=some (.func (.func 61) #[] #[]):=HK33.out.cell 0
 clear hy2
 go_wp2_with fail
 refine(H3.out _ _ HB2.out HK33.out).mono ?_
 rintro _ y3 ⟨rfl,hy3⟩
 have HB3:=hdq (Fr.trans HB2.out hy3)
 clear hy3
 go_wp2_with fail
 go_ret
 exact⟨rfl,HB3.out⟩
end Go.Proofs.YtmopichdofgndaaGreatDoor
