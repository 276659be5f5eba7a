/- Trees without places. -/
import Derived.Test.YtmopichdofgndaaGreatDoorJgCkA
set_option linter.all false
set_option maxHeartbeats 6400000
set_option maxRecDepth 100000
namespace Go.Proofs.YtmopichdofgndaaGreatDoor
open Go.RowKit
def Exs.bare:Exs->Exs
 | .nil => .nil
 | .cons k nm n args _ rest=> .cons k nm n args.bare 0 rest.bare
def Cds.bare:Cds->Cds
 | .nil => .nil
 | .cons k args of_ _ rest=> .cons k args.bare of_.bare 0 rest.bare
def Sts.bare:Sts->Sts
 | .nil => .nil
 | .cons k nm args cond body els _ rest=> .cons k nm args.bare cond.bare body.bare els.bare 0 rest.bare
def Va.bare (x:Va):Va:=⟨x.nm,0⟩
def Arr.bare (x:Arr):Arr:=⟨x.nm,x.size,0⟩
def Prc.bare (x:Prc):Prc:=⟨x.nm,x.params.map Va.bare,x.body.bare,0⟩
def Tre.bare (t:Tre):Tre:=⟨t.vars.map Va.bare,t.arrays.map Arr.bare,t.procs.map Prc.bare,t.main.bare⟩
theorem zfW:∀xs:Exs,xs.bare.len=xs.len
 | .nil =>rfl
 | .cons _ _ _ _ _ r=>by simp only[Exs.bare,Exs.len,zfW r]
theorem zfX:∀xs:Cds,xs.bare.len=xs.len
 | .nil =>rfl
 | .cons _ _ _ _ r=>by simp only[Cds.bare,Cds.len,zfX r]
theorem zfY:∀xs:Sts,xs.bare.len=xs.len
 | .nil =>rfl
 | .cons _ _ _ _ _ _ _ r=>by simp only[Sts.bare,Sts.len,zfY r]
def eqX (p:Bool):Exs->Exs->Bool
 | .nil,.nil =>true
 | .cons k nm n args at_ rest,.cons k' nm' n' args' at' rest'=>(k==k')&&(nm.toList==nm'.toList)&&(n==n')&&(!p || at_==at')&&eqX p args args'&&eqX p rest rest'
 |_,_=>false
def eqC (p:Bool):Cds->Cds->Bool
 | .nil,.nil =>true
 | .cons k args of_ at_ rest,.cons k' args' of' at' rest'=>(k==k')&&(!p || at_==at')&&eqX p args args'&&eqC p of_ of'&&eqC p rest rest'
 |_,_=>false
def eqS (p:Bool):Sts->Sts->Bool
 | .nil,.nil =>true
 | .cons k nm args cond body els at_ rest,.cons k' nm' args' cond' body' els' at' rest'=>(k==k')&&(nm.toList==nm'.toList)&&(!p || at_==at')&&eqX p args args'&&eqC p cond cond'&&eqS p body body'&&eqS p els els'&&eqS p rest rest'
 |_,_=>false
def eqV (p:Bool):List Va->List Va->Bool
 | [], []=>true
 |x::r,y::s=>(x.nm.toList==y.nm.toList)&&(!p || x.at_==y.at_)&&eqV p r s
 |_,_=>false
def eqA (p:Bool):List Arr->List Arr->Bool
 | [], []=>true
 |x::r,y::s=>(x.nm.toList==y.nm.toList)&&(x.size==y.size)&&(!p || x.at_==y.at_)&&eqA p r s
 |_,_=>false
def eqP (p:Bool):List Prc->List Prc->Bool
 | [], []=>true
 |x::r,y::s=>(x.nm.toList==y.nm.toList)&&(!p || x.at_==y.at_)&&eqV p x.params y.params&&eqS p x.body y.body&&eqP p r s
 |_,_=>false
def eqT (p:Bool)(t u:Tre):Bool:=eqV p t.vars u.vars&&decide (t.arrays.length=u.arrays.length)&&decide (t.procs.length=u.procs.length)&&eqA p t.arrays u.arrays&&eqP p t.procs u.procs&&eqS p t.main u.main
theorem zdb (p:Bool):∀xs,eqX p xs xs=true
 | .nil =>rfl
 | .cons k nm n args at_ rest=>by simp[eqX,zdb p args,zdb p rest]
theorem ze5 (p:Bool):∀xs,eqC p xs xs=true
 | .nil =>rfl
 | .cons k args of_ at_ rest=>by simp[eqC,zdb p args,ze5 p of_,ze5 p rest]
theorem zcE (p:Bool):∀xs,eqS p xs xs=true
 | .nil =>rfl
 | .cons k nm args cond body els at_ rest=>by simp[eqS,zdb p args,ze5 p cond,zcE p body,zcE p els,zcE p rest]
theorem ze6 (p:Bool):∀xs,eqV p xs xs=true
 | []=>rfl
 |x::r=>by simp[eqV,ze6 p r]
theorem zhf (p:Bool):∀xs,eqA p xs xs=true
 | []=>rfl
 |x::r=>by simp[eqA,zhf p r]
theorem zhg (p:Bool):∀xs,eqP p xs xs=true
 | []=>rfl
 |x::r=>by simp[eqP,zhg p r,ze6,zcE]
theorem zlc (p:Bool)(t:Tre):eqT p t t=true:=by simp[eqT,ze6,zhf,zhg,zcE]
theorem zdc:∀xs ys,eqX false xs.bare ys.bare=eqX false xs ys
 | .nil,.nil =>rfl
 | .nil,.cons .. =>rfl
 | .cons ..,.nil =>rfl
 | .cons k nm n args at_ rest,.cons k' nm' n' args' at' rest'=>by simp[eqX,Exs.bare,zdc args args',zdc rest rest']
theorem ze7:∀xs ys,eqC false xs.bare ys.bare=eqC false xs ys
 | .nil,.nil =>rfl
 | .nil,.cons .. =>rfl
 | .cons ..,.nil =>rfl
 | .cons k args of_ at_ rest,.cons k' args' of' at' rest'=>by simp[eqC,Cds.bare,zdc args args',ze7 of_ of',ze7 rest rest']
theorem zcF:∀xs ys,eqS false xs.bare ys.bare=eqS false xs ys
 | .nil,.nil =>rfl
 | .nil,.cons .. =>rfl
 | .cons ..,.nil =>rfl
 | .cons k nm args cond body els at_ rest,.cons k' nm' args' cond' body' els' at' rest'=>by simp[eqS,Sts.bare,zdc args args',ze7 cond cond',zcF body body',zcF els els',zcF rest rest']
theorem ze8:∀xs ys,eqV false (xs.map Va.bare) (ys.map Va.bare)=eqV false xs ys
 | [], []=>rfl
 | [],_::_=>rfl
 |_::_, []=>rfl
 |x::r,y::s=>by simp[eqV,Va.bare,ze8 r s]
theorem zhh:∀xs ys,eqA false (xs.map Arr.bare) (ys.map Arr.bare)=eqA false xs ys
 | [], []=>rfl
 | [],_::_=>rfl
 |_::_, []=>rfl
 |x::r,y::s=>by simp[eqA,Arr.bare,zhh r s]
theorem zhi:∀xs ys,eqP false (xs.map Prc.bare) (ys.map Prc.bare)=eqP false xs ys
 | [], []=>rfl
 | [],_::_=>rfl
 |_::_, []=>rfl
 |x::r,y::s=>by simp[eqP,Prc.bare,ze8,zcF,zhi r s]
theorem zld (t u:Tre):eqT false t.bare u.bare=eqT false t u:=by simp[eqT,Tre.bare,ze8,zhh,zhi,zcF]
theorem zjw {t u:Tre}(h:t.bare=u.bare):eqT false t u=true:=by rw[<-zld,h];exact zlc _ _
theorem zjx {p:Bool}:∀ {xs ys:Exs},xs.len≠ys.len->eqX p xs ys=false
 | .nil,.nil,h=>absurd rfl h
 | .nil,.cons ..,_=>rfl
 | .cons ..,.nil,_=>rfl
 | .cons _ _ _ _ _ r,.cons _ _ _ _ _ r',h=>by
  have:r.len≠r'.len:=λe=>h (by simp[Exs.len,e]);simp[eqX,zjx this]
theorem zjy {p:Bool}:∀ {xs ys:Cds},xs.len≠ys.len->eqC p xs ys=false
 | .nil,.nil,h=>absurd rfl h
 | .nil,.cons ..,_=>rfl
 | .cons ..,.nil,_=>rfl
 | .cons _ _ _ _ r,.cons _ _ _ _ r',h=>by
  have:r.len≠r'.len:=λe=>h (by simp[Cds.len,e]);simp[eqC,zjy this]
theorem zjz {p:Bool}:∀ {xs ys:Sts},xs.len≠ys.len->eqS p xs ys=false
 | .nil,.nil,h=>absurd rfl h
 | .nil,.cons ..,_=>rfl
 | .cons ..,.nil,_=>rfl
 | .cons _ _ _ _ _ _ _ r,.cons _ _ _ _ _ _ _ r',h=>by
  have:r.len≠r'.len:=λe=>h (by simp[Sts.len,e]);simp[eqS,zjz this]
theorem zjA {p:Bool}:∀ {xs ys:List Va},xs.length≠ys.length->eqV p xs ys=false
 | [], [],h=>absurd rfl h
 | [],_::_,_=>rfl
 |_::_, [],_=>rfl
 |_::r,_::s,h=>by
  have:r.length≠s.length:=λe=>h (by simp[e]);simp[eqV,zjA this]
open Go.RowKit Go.Shelf
def RqX (p:Bool)(xs ys:Exs):Prop:=∀(W:World)(S S':Nat->Prop)(Z Z':Prop)(A A':Option Addr)(c c':Nat),(∀b,S b->b < W.heap.size)->(∀b,S' b->b < W.heap.size)->SlR (λb o=>ExR W S Z xs b o) xs.len 64 A c->SlR (λb o=>ExR W S' Z' ys b o) ys.len 64 A' c'->
 Calls Tryz.prog 159 #[.slice A xs.len c,.slice A' ys.len c',.bool p] W (zae (eqX p xs ys) W)
def RqIX (p:Bool)(xs ys:Exs):Prop:=∀(i:Nat)(a0:Int)(a1:ByteArray)(a2:Int)(a3:Exs)(a4:Int)(ar:Exs)(b0:Int)(b1:ByteArray)(b2:Int)(b3:Exs)(b4:Int)(br:Exs),Exs.drop i xs= .cons a0 a1 a2 a3 a4 ar->Exs.drop i ys= .cons b0 b1 b2 b3 b4 br->RqX p a3 b3
theorem zle {p:Bool}{xs ys:Exs}{i:Nat}{a0 a1 a2 a3 a4 ar b0 b1 b2 b3 b4 br}(hd:Exs.drop i xs= .cons a0 a1 a2 a3 a4 ar)(Fj:Exs.drop i ys= .cons b0 b1 b2 b3 b4 br):
  eqX p (Exs.drop i xs) (Exs.drop i ys)=((a0==b0)&&(a1.toList==b1.toList)&&(a2==b2)&&(!p || a4==b4)&&eqX p a3 b3&&eqX p (Exs.drop (i+1) xs) (Exs.drop (i+1) ys)):=by
 rw[Exs.drop_succ i xs hd,Exs.drop_succ i ys Fj,hd,Fj];simp only[eqX]
theorem zjB (p:Bool)(xs ys:Exs)(Ho:RqIX p xs ys):RqX p xs ys:=by
 intro w S S' Z Z' A A' c c' hS Ly hx hy;have hl:xs.len<=9223372036854775807:=leq9 hx.1 hx.2.1.1;have Pn:ys.len<=9223372036854775807:=leq9 hy.1 hy.2.1.1;have HA:=hdq Ho;clear Ho;by_cases hlen:xs.len=ys.len
 ·obtain⟨m,hm⟩:=nmq ys.len;have Lm:xs.len=m:=hlen.trans hm.symm;rw[Lm,<-hm];rw[<-hm]at Pn;have HM:=hdq hm;have HL:=hdq Lm;have HX:=hdq hx;have HY:=hdq hy;have HS:=hdq (aiq hS Ly);clear hlen hm Lm hl hx hy hS Ly;go_enter Tryz.func159,Tryz.ntmps159;go_wp2_with fail;go_loopw [7] (λi wr=>∃k:Nat,k<=m/\i= .int .i64 k/\Hid (Fr NoT w wr)/\Hid (eqX p xs ys=eqX p (Exs.drop k xs) (Exs.drop k ys))) (λi _=>m - (intOf i).toNat);case atStart=>exact⟨0,Nat.zero_le _,rfl,Fr.refl _ _,rfl⟩
  case round=>
   obtain⟨k,hk,rfl,Ff,Ha⟩:=hrel;by_cases Hr:k < m
   ·obtain⟨a0,a1,a2,a3,a4,ar,hd⟩:=Exs.drop_cons (show k < xs.len from by rw[HL.out];exact Hr);obtain⟨b0,b1,b2,b3,b4,br,Fj⟩:=Exs.drop_cons (show k < ys.len from by rw[<-HM.out];exact Hr);obtain⟨b,o,rfl,Hd⟩:=HX.2.2 (by rw[HL.out];omega);obtain⟨b',o',rfl,Fp⟩:=HY.2.2 (by rw[<-HM.out];omega);have Hb:=(ExR.keep (Ff.same λb hb=>⟨HS.1 b hb,id⟩) Hd).drop k;have GT:=(ExR.keep (Ff.same λb hb=>⟨HS.2 b hb,id⟩) Fp).drop k;rw[hd]at Hb;rw[Fj]at GT;obtain⟨⟨Hf,_,_,_,_,c0,c1,c2,c4⟩,⟨A3,q3,c3,s3⟩,_⟩:=Hb;obtain⟨⟨J6,_,_,_,_,d0,d1,d2,d4⟩,⟨D3,r3,d3,t3⟩,_⟩:=GT;have Gf:b < wr.heap.size:=ltq (HS.1 _ Hf) Ff.size;have Qv:b' < wr.heap.size:=ltq (HS.2 _ J6) Ff.size;have Hl:(k:Int) < (m:Int):=by omega
    have Fb:(0:Int)<=(k:Int):=by omega
    have Hq:=Ha.trans (zle hd Fj);have JS:=HA k a0 a1 a2 a3 a4 ar b0 b1 b2 b3 b4 br hd Fj;have TF:=hdq (λ(W:World)(h:Fr NoT wr W)=>JS W S S' Z Z' A3 D3 q3 r3 (λb hb=>ltq (HS.1 b hb) (Ff.trans h).size) (λb hb=>ltq (HS.2 b hb) (Ff.trans h).size) (s3.imp λ_ _ hx=>ExR.keep (h.same λb hb=>⟨ltq (HS.1 b hb) Ff.size,id⟩) hx) (t3.imp λ_ _ hx=>ExR.keep (h.same λb hb=>⟨ltq (HS.2 b hb) Ff.size,id⟩) hx));obtain⟨v3,LK⟩:=nmq (eqX p a3 b3);rw[<-LK]at TF Hq;have Hj:=hdq Hq;have HW:=hdq Ff.out;clear hd Fj Hd Fp Hq Ha Ff Hf J6 JS s3 t3 LK
    go_upto_region 6 with fail
    go_cut [8,9] (λs8 s9 wx=>∃P Q:Nat,s8= .pointer (some ⟨P,0,none⟩)/\s9= .pointer (some ⟨Q,0,none⟩)/\Fr NoT wr wx/\P < wx.heap.size/\Q < wx.heap.size/\wx.cell? ⟨P,0,none⟩=some (.int .u8 a0)/\wx.cell? ⟨P,1,none⟩=some (.string a1)/\wx.cell? ⟨P,2,none⟩=some (.int .i64 a2)/\wx.cell? ⟨P,3,none⟩=some (.slice A3 a3.len q3)/\wx.cell? ⟨P,4,none⟩=some (.int .i64 a4)/\wx.cell? ⟨Q,0,none⟩=some (.int .u8 b0)/\wx.cell? ⟨Q,1,none⟩=some (.string b1)/\wx.cell? ⟨Q,2,none⟩=some (.int .i64 b2)/\wx.cell? ⟨Q,3,none⟩=some (.slice D3 b3.len r3)/\wx.cell? ⟨Q,4,none⟩=some (.int .i64 b4));case first=>
     go_region
     all_goals
      go_wp2_with fail
      go_meet
      refine⟨_,_,rfl,rfl,Fr.drew (((Fr.refl _ _).alloc _).alloc _),by simp<;>omega,by simp<;>omega,?_⟩;simp
    case rest=>
     obtain⟨P,Q,rfl,rfl,GZ,hP,hQ,p0,p1,p2,p3,p4,g0,g1,g2,g3,g4⟩:=hcut;have GC:=hdq GZ;clear GZ c0 d0 c1 d1 c2 d2 c3 d3 c4 d4;cases e0:a0==b0
     ·have e0':(a0 != b0)=true:=by rw[bne,e0];rfl
      have HF:=hdq (show eqX _ xs ys=false from by rw[Hj.out,e0];simp);clear Hj;go_wp2_with fail;go_ret;exact⟨by rw[HF.out];rfl,HW.trans GC.out⟩
     have e0':(a0 != b0)=false:=by rw[bne,e0];rfl
     cases e1:a1.toList==b1.toList
     ·have e1':(a1.toList != b1.toList)=true:=by rw[bne,e1];rfl
      have HF:=hdq (show eqX _ xs ys=false from by rw[Hj.out,e0,e1];simp);clear Hj;go_wp2_with fail;go_ret;exact⟨by rw[HF.out];rfl,HW.trans GC.out⟩
     have e1':(a1.toList != b1.toList)=false:=by rw[bne,e1];rfl
     cases e2:a2==b2
     ·have e2':(a2 != b2)=true:=by rw[bne,e2];rfl
      have HF:=hdq (show eqX _ xs ys=false from by rw[Hj.out,e0,e1,e2];simp);clear Hj;go_wp2_with fail;go_ret;exact⟨by rw[HF.out];rfl,HW.trans GC.out⟩
     have e2':(a2 != b2)=false:=by rw[bne,e2];rfl
     have NJ:p=false\/(p=true/\(a4==b4)=true)\/(p=true/\(a4==b4)=false):=by cases p<;>cases a4==b4<;>simp
     rcases NJ with rfl|⟨rfl,e4⟩|⟨rfl,e4⟩;rotate_right
     ·have e4':(a4 != b4)=true:=by rw[bne,e4];rfl
      have HF:=hdq (show eqX true xs ys=false from by rw[Hj.out,e0,e1,e2,e4];simp);clear Hj;go_wp2_with fail;go_ret;exact⟨by rw[HF.out];rfl,HW.trans GC.out⟩
     all_goals
      try have e4':(a4 != b4)=false:=by rw[bne,e4];rfl
      go_wp2_with fail;refine(TF _ GC.out).mono ?_;rintro _ y3 ⟨rfl,Qw⟩;have Kd:=hdq (Fr.trans GC.out Qw);have gH:=ltq hP Qw.size;have gI:=ltq hQ Qw.size;clear Qw TF hP hQ p0 g0 p3 g3;cases v3
      ·have HF:=hdq (show eqX _ xs ys=false from by rw[Hj.out];simp);clear Hj;go_wp2_with fail;go_ret;exact⟨by rw[HF.out];rfl,HW.trans Kd.out⟩
      first
       |have HN:=hdq (show eqX false xs ys=eqX false (Exs.drop (k+1) xs) (Exs.drop (k+1) ys)from by rw[Hj.out];simp[e0,e1,e2, *])
       |have HN:=hdq (show eqX true xs ys=eqX true (Exs.drop (k+1) xs) (Exs.drop (k+1) ys)from by rw[Hj.out];simp[e0,e1,e2, *])
      clear Hj;go_wp2_with fail;go_roundw;case rel=>exact⟨k+1,by omega,by go_num,HW.trans Kd.out,HN⟩
      case measure=>simp[intOf];omega
   ·have HF:=hdq (show eqX p xs ys=true from by rw[Ha.out,Exs.drop_nil (by rw[HL.out];omega),Exs.drop_nil (by rw[<-HM.out];omega)];rfl);have HW:=hdq Ff.out;clear Ha Ff;go_wp2_with fail;go_ret;exact⟨by rw[HF.out];rfl,HW.out⟩
 ·have HF:=hdq (zjx (p:=p) hlen);have GU:((xs.len:Int)==(ys.len:Int))=false:=by simp;omega
  have NK:((xs.len:Int) != (ys.len:Int))=true:=by simp;omega
  clear hx hy;go_enter Tryz.func159,Tryz.ntmps159;go_wp2_with fail;go_ret;exact⟨by rw[HF.out];rfl,Fr.refl _ _⟩
theorem ze9 (p:Bool):∀xs ys:Exs,RqIX p xs ys
 | .nil,_=>λi _ _ _ _ _ _ _ _ _ _ _ _ hd=>by cases i<;>simp[Exs.drop]at hd
 | .cons ..,.nil =>λi _ _ _ _ _ _ _ _ _ _ _ _ _ hd=>by cases i<;>simp[Exs.drop]at hd
 | .cons k0 k1 k2 k3 k4 kr,.cons l0 l1 l2 l3 l4 lr=>λi _ _ _ _ _ _ _ _ _ _ _ _ hd Fj=>by
  cases i with
  |zero=>
   simp only[Exs.drop]at hd Fj;injection hd with e0 e1 e2 e3 e4 e5;injection Fj with f0 f1 f2 f3 f4 f5;subst e0 e1 e2 e3 e4 e5 f0 f1 f2 f3 f4 f5;exact zjB p k3 l3 (ze9 p k3 l3)
  |succ i=>
   simp only[Exs.drop]at hd Fj;exact ze9 p kr lr i _ _ _ _ _ _ _ _ _ _ _ _ hd Fj
theorem zjC (p:Bool)(xs ys:Exs):RqX p xs ys:=zjB p xs ys (ze9 p xs ys)
def RqC (p:Bool)(xs ys:Cds):Prop:=∀(W:World)(S S':Nat->Prop)(Z Z':Prop)(A A':Option Addr)(c c':Nat),(∀b,S b->b < W.heap.size)->(∀b,S' b->b < W.heap.size)->SlR (λb o=>CdR W S Z xs b o) xs.len 64 A c->SlR (λb o=>CdR W S' Z' ys b o) ys.len 64 A' c'->
 Calls Tryz.prog 160 #[.slice A xs.len c,.slice A' ys.len c',.bool p] W (zae (eqC p xs ys) W)
def RqIC (p:Bool)(xs ys:Cds):Prop:=∀(i:Nat)(a0:Int)(a1:Exs)(a2:Cds)(a3:Int)(ar:Cds)(b0:Int)(b1:Exs)(b2:Cds)(b3:Int)(br:Cds),Cds.drop i xs= .cons a0 a1 a2 a3 ar->Cds.drop i ys= .cons b0 b1 b2 b3 br->RqC p a2 b2
theorem zlf {p:Bool}{xs ys:Cds}{i:Nat}{a0 a1 a2 a3 ar b0 b1 b2 b3 br}(hd:Cds.drop i xs= .cons a0 a1 a2 a3 ar)(Fj:Cds.drop i ys= .cons b0 b1 b2 b3 br):
  eqC p (Cds.drop i xs) (Cds.drop i ys)=((a0==b0)&&(!p || a3==b3)&&eqX p a1 b1&&eqC p a2 b2&&eqC p (Cds.drop (i+1) xs) (Cds.drop (i+1) ys)):=by
 rw[Cds.drop_succ i xs hd,Cds.drop_succ i ys Fj,hd,Fj];simp only[eqC]
theorem zjD (p:Bool)(xs ys:Cds)(Ho:RqIC p xs ys):RqC p xs ys:=by
 intro w S S' Z Z' A A' c c' hS Ly hx hy;have hl:xs.len<=9223372036854775807:=leq9 hx.1 hx.2.1.1;have Pn:ys.len<=9223372036854775807:=leq9 hy.1 hy.2.1.1;have HA:=hdq Ho;clear Ho;by_cases hlen:xs.len=ys.len
 ·obtain⟨m,hm⟩:=nmq ys.len;have Lm:xs.len=m:=hlen.trans hm.symm;rw[Lm,<-hm];rw[<-hm]at Pn;have HM:=hdq hm;have HL:=hdq Lm;have HX:=hdq hx;have HY:=hdq hy;have HS:=hdq (aiq hS Ly);clear hlen hm Lm hl hx hy hS Ly;go_enter Tryz.func160,Tryz.ntmps160;go_wp2_with fail;go_loopw [7] (λi wr=>∃k:Nat,k<=m/\i= .int .i64 k/\Hid (Fr NoT w wr)/\Hid (eqC p xs ys=eqC p (Cds.drop k xs) (Cds.drop k ys))) (λi _=>m - (intOf i).toNat);case atStart=>exact⟨0,Nat.zero_le _,rfl,Fr.refl _ _,rfl⟩
  case round=>
   obtain⟨k,hk,rfl,Ff,Ha⟩:=hrel;by_cases Hr:k < m
   ·obtain⟨a0,a1,a2,a3,ar,hd⟩:=Cds.drop_cons (show k < xs.len from by rw[HL.out];exact Hr);obtain⟨b0,b1,b2,b3,br,Fj⟩:=Cds.drop_cons (show k < ys.len from by rw[<-HM.out];exact Hr);obtain⟨b,o,rfl,Hd⟩:=HX.2.2 (by rw[HL.out];omega);obtain⟨b',o',rfl,Fp⟩:=HY.2.2 (by rw[<-HM.out];omega);have Hb:=(CdR.keep (Ff.same λb hb=>⟨HS.1 b hb,id⟩) Hd).drop k;have GT:=(CdR.keep (Ff.same λb hb=>⟨HS.2 b hb,id⟩) Fp).drop k;rw[hd]at Hb;rw[Fj]at GT;obtain⟨⟨Hf,_,_,_,c0,c3⟩,⟨A1,q1,c1,s1⟩,⟨A2,q2,c2,s2⟩,_⟩:=Hb;obtain⟨⟨J6,_,_,_,d0,d3⟩,⟨D1,r1,d1,t1⟩,⟨D2,r2,d2,t2⟩,_⟩:=GT;have Gf:b < wr.heap.size:=ltq (HS.1 _ Hf) Ff.size;have Qv:b' < wr.heap.size:=ltq (HS.2 _ J6) Ff.size;have Hl:(k:Int) < (m:Int):=by omega
    have Fb:(0:Int)<=(k:Int):=by omega
    have Hq:=Ha.trans (zlf hd Fj);have JS:=HA k a0 a1 a2 a3 ar b0 b1 b2 b3 br hd Fj;have K1:=hdq (λ(W:World)(h:Fr NoT wr W)=>zjC p a1 b1 W S S' Z Z' A1 D1 q1 r1 (λb hb=>ltq (HS.1 b hb) (Ff.trans h).size) (λb hb=>ltq (HS.2 b hb) (Ff.trans h).size) (s1.imp λ_ _ hx=>ExR.keep (h.same λb hb=>⟨ltq (HS.1 b hb) Ff.size,id⟩) hx) (t1.imp λ_ _ hx=>ExR.keep (h.same λb hb=>⟨ltq (HS.2 b hb) Ff.size,id⟩) hx));obtain⟨v1,FF⟩:=nmq (eqX p a1 b1);rw[<-FF]at K1 Hq;have FZ:=hdq (λ(W:World)(h:Fr NoT wr W)=>JS W S S' Z Z' A2 D2 q2 r2 (λb hb=>ltq (HS.1 b hb) (Ff.trans h).size) (λb hb=>ltq (HS.2 b hb) (Ff.trans h).size) (s2.imp λ_ _ hx=>CdR.keep (h.same λb hb=>⟨ltq (HS.1 b hb) Ff.size,id⟩) hx) (t2.imp λ_ _ hx=>CdR.keep (h.same λb hb=>⟨ltq (HS.2 b hb) Ff.size,id⟩) hx));obtain⟨v2,JZ⟩:=nmq (eqC p a2 b2);rw[<-JZ]at FZ Hq;have Hj:=hdq Hq;have HW:=hdq Ff.out;clear hd Fj Hd Fp Hq Ha Ff Hf J6 JS s1 t1 FF s2 t2 JZ
    go_upto_region 6 with fail
    go_cut [8,9] (λs8 s9 wx=>∃P Q:Nat,s8= .pointer (some ⟨P,0,none⟩)/\s9= .pointer (some ⟨Q,0,none⟩)/\Fr NoT wr wx/\P < wx.heap.size/\Q < wx.heap.size/\wx.cell? ⟨P,0,none⟩=some (.int .u8 a0)/\wx.cell? ⟨P,1,none⟩=some (.slice A1 a1.len q1)/\wx.cell? ⟨P,2,none⟩=some (.slice A2 a2.len q2)/\wx.cell? ⟨P,3,none⟩=some (.int .i64 a3)/\wx.cell? ⟨Q,0,none⟩=some (.int .u8 b0)/\wx.cell? ⟨Q,1,none⟩=some (.slice D1 b1.len r1)/\wx.cell? ⟨Q,2,none⟩=some (.slice D2 b2.len r2)/\wx.cell? ⟨Q,3,none⟩=some (.int .i64 b3));case first=>
     go_region
     all_goals
      go_wp2_with fail
      go_meet
      refine⟨_,_,rfl,rfl,Fr.drew (((Fr.refl _ _).alloc _).alloc _),by simp<;>omega,by simp<;>omega,?_⟩;simp
    case rest=>
     obtain⟨P,Q,rfl,rfl,GZ,hP,hQ,p0,p1,p2,p3,g0,g1,g2,g3⟩:=hcut;have GC:=hdq GZ;clear GZ c0 d0 c1 d1 c2 d2 c3 d3;cases e0:a0==b0
     ·have e0':(a0 != b0)=true:=by rw[bne,e0];rfl
      have HF:=hdq (show eqC _ xs ys=false from by rw[Hj.out,e0];simp);clear Hj;go_wp2_with fail;go_ret;exact⟨by rw[HF.out];rfl,HW.trans GC.out⟩
     have e0':(a0 != b0)=false:=by rw[bne,e0];rfl
     have NJ:p=false\/(p=true/\(a3==b3)=true)\/(p=true/\(a3==b3)=false):=by cases p<;>cases a3==b3<;>simp
     rcases NJ with rfl|⟨rfl,e3⟩|⟨rfl,e3⟩;rotate_right
     ·have e3':(a3 != b3)=true:=by rw[bne,e3];rfl
      have HF:=hdq (show eqC true xs ys=false from by rw[Hj.out,e0,e3];simp);clear Hj;go_wp2_with fail;go_ret;exact⟨by rw[HF.out];rfl,HW.trans GC.out⟩
     all_goals
      try have e3':(a3 != b3)=false:=by rw[bne,e3];rfl
      go_wp2_with fail;refine(K1 _ GC.out).mono ?_;rintro _ y1 ⟨rfl,K7⟩;have Hu:=hdq (Fr.trans GC.out K7);have Rw:=ltq hP K7.size;have Wa:=ltq hQ K7.size;have p2':=(K7.cell (p:=⟨P,2,none⟩) hP id).trans p2;have g2':=(K7.cell (p:=⟨Q,2,none⟩) hQ id).trans g2;clear p2 g2;have p2:=p2';have g2:=g2';clear p2' g2';clear K7 K1 hP hQ p0 g0 p1 g1;cases v1
      ·have HF:=hdq (show eqC _ xs ys=false from by rw[Hj.out];simp);clear Hj;go_wp2_with fail;go_ret;exact⟨by rw[HF.out];rfl,HW.trans Hu.out⟩
      go_wp2_with fail;refine(FZ _ Hu.out).mono ?_;rintro _ y2 ⟨rfl,JX⟩;have Jy:=hdq (Fr.trans Hu.out JX);have Wb:=ltq Rw JX.size;have Wc:=ltq Wa JX.size;clear JX FZ Rw Wa p2 g2;cases v2
      ·have HF:=hdq (show eqC _ xs ys=false from by rw[Hj.out];simp);clear Hj;go_wp2_with fail;go_ret;exact⟨by rw[HF.out];rfl,HW.trans Jy.out⟩
      first
       |have HN:=hdq (show eqC false xs ys=eqC false (Cds.drop (k+1) xs) (Cds.drop (k+1) ys)from by rw[Hj.out];simp[e0, *])
       |have HN:=hdq (show eqC true xs ys=eqC true (Cds.drop (k+1) xs) (Cds.drop (k+1) ys)from by rw[Hj.out];simp[e0, *])
      clear Hj;go_wp2_with fail;go_roundw;case rel=>exact⟨k+1,by omega,by go_num,HW.trans Jy.out,HN⟩
      case measure=>simp[intOf];omega
   ·have HF:=hdq (show eqC p xs ys=true from by rw[Ha.out,Cds.drop_nil (by rw[HL.out];omega),Cds.drop_nil (by rw[<-HM.out];omega)];rfl);have HW:=hdq Ff.out;clear Ha Ff;go_wp2_with fail;go_ret;exact⟨by rw[HF.out];rfl,HW.out⟩
 ·have HF:=hdq (zjy (p:=p) hlen);have GU:((xs.len:Int)==(ys.len:Int))=false:=by simp;omega
  have NK:((xs.len:Int) != (ys.len:Int))=true:=by simp;omega
  clear hx hy;go_enter Tryz.func160,Tryz.ntmps160;go_wp2_with fail;go_ret;exact⟨by rw[HF.out];rfl,Fr.refl _ _⟩
theorem zfa (p:Bool):∀xs ys:Cds,RqIC p xs ys
 | .nil,_=>λi _ _ _ _ _ _ _ _ _ _ hd=>by cases i<;>simp[Cds.drop]at hd
 | .cons ..,.nil =>λi _ _ _ _ _ _ _ _ _ _ _ hd=>by cases i<;>simp[Cds.drop]at hd
 | .cons k0 k1 k2 k3 kr,.cons l0 l1 l2 l3 lr=>λi _ _ _ _ _ _ _ _ _ _ hd Fj=>by
  cases i with
  |zero=>
   simp only[Cds.drop]at hd Fj;injection hd with e0 e1 e2 e3 e4;injection Fj with f0 f1 f2 f3 f4;subst e0 e1 e2 e3 e4 f0 f1 f2 f3 f4;exact zjD p k2 l2 (zfa p k2 l2)
  |succ i=>
   simp only[Cds.drop]at hd Fj;exact zfa p kr lr i _ _ _ _ _ _ _ _ _ _ hd Fj
theorem zmE (p:Bool)(xs ys:Cds):RqC p xs ys:=zjD p xs ys (zfa p xs ys)
theorem zlg {p:Bool}{xs ys:List Va}{i:Nat}{x y:Va}{xr yr:List Va}(hd:xs.drop i=x::xr/\xs.drop (i+1)=xr)(Fj:ys.drop i=y::yr/\ys.drop (i+1)=yr):
  eqV p (xs.drop i) (ys.drop i)=((x.nm.toList==y.nm.toList)&&(!p || x.at_==y.at_)&&eqV p (xs.drop (i+1)) (ys.drop (i+1))):=by
 rw[hd.1,Fj.1,hd.2,Fj.2,eqV]
theorem zjE (p:Bool)(xs ys:List Va)(w:World)(S S':Nat->Prop)(Z Z':Prop)(A A':Option Addr)(c c':Nat)(hS:∀b,S b->b < w.heap.size)(Ly:∀b,S' b->b < w.heap.size)(hx:SlR (VaR w S Z xs) xs.length 24 A c)(hy:SlR (VaR w S' Z' ys) ys.length 24 A' c'):
  Calls Tryz.prog 97 #[.slice A xs.length c,.slice A' ys.length c',.bool p] w (zae (eqV p xs ys) w):=by
 have hl:xs.length<=9223372036854775807:=leq9 hx.1 hx.2.1.1;have Pn:ys.length<=9223372036854775807:=leq9 hy.1 hy.2.1.1;by_cases hlen:xs.length=ys.length
 ·obtain⟨m,hm⟩:=nmq ys.length;have Lm:xs.length=m:=hlen.trans hm.symm;rw[Lm,<-hm];rw[<-hm]at Pn;have HM:=hdq hm;have HL:=hdq Lm;have HX:=hdq hx;have HY:=hdq hy;have HS:=hdq (aiq hS Ly);clear hlen hm Lm hl hx hy hS Ly;go_enter Tryz.func97,Tryz.ntmps97;go_wp2_with fail;go_loopw [7] (λi wr=>∃k:Nat,k<=m/\i= .int .i64 k/\Hid (Fr NoT w wr)/\Hid (eqV p xs ys=eqV p (xs.drop k) (ys.drop k))) (λi _=>m - (intOf i).toNat);case atStart=>exact⟨0,Nat.zero_le _,rfl,Fr.refl _ _,rfl⟩
  case round=>
   obtain⟨k,hk,rfl,Ff,Ha⟩:=hrel;by_cases Hr:k < m
   ·obtain⟨⟨a0,a1⟩,ar,hd⟩:=zac (show k < xs.length from by rw[HL.out];exact Hr);obtain⟨⟨b0,b1⟩,br,Fj⟩:=zac (show k < ys.length from by rw[<-HM.out];exact Hr);obtain⟨b,o,rfl,Hd⟩:=HX.2.2 (by rw[HL.out];omega);obtain⟨b',o',rfl,Fp⟩:=HY.2.2 (by rw[<-HM.out];omega);have Hb:=(VaR.keep (Ff.same λb hb=>⟨HS.1 b hb,id⟩) Hd).drop k;have GT:=(VaR.keep (Ff.same λb hb=>⟨HS.2 b hb,id⟩) Fp).drop k;rw[hd.1]at Hb;rw[Fj.1]at GT;obtain⟨⟨Hf,_,_,c0,c1⟩,_⟩:=Hb;obtain⟨⟨J6,_,_,d0,d1⟩,_⟩:=GT;have Gf:b < wr.heap.size:=ltq (HS.1 _ Hf) Ff.size;have Qv:b' < wr.heap.size:=ltq (HS.2 _ J6) Ff.size;have Hl:(k:Int) < (m:Int):=by omega
    have Fb:(0:Int)<=(k:Int):=by omega
    have Hj:=hdq (Ha.trans (zlg hd Fj));have HW:=hdq Ff.out;simp only at c0 c1 d0 d1;clear hd Fj Hd Fp Ha Ff Hf J6;cases e0:a0.toList==b0.toList
    ·have e0':(a0.toList != b0.toList)=true:=by rw[bne,e0];rfl
     have HF:=hdq (show eqV p xs ys=false from by rw[Hj.out,e0];simp);clear Hj;cases p;all_goals
      go_wp2_with fail
      go_quiet (fail)
      go_wp2_with fail;go_ret;exact⟨by rw[HF.out];rfl,HW.drewN _⟩
    have e0':(a0.toList != b0.toList)=false:=by rw[bne,e0];rfl
    have NJ:p=false\/(p=true/\(a1==b1)=true)\/(p=true/\(a1==b1)=false):=by cases p<;>cases a1==b1<;>simp
    rcases NJ with rfl|⟨rfl,e1⟩|⟨rfl,e1⟩;rotate_right
    ·have e1':(a1 != b1)=true:=by rw[bne,e1];rfl
     have HF:=hdq (show eqV true xs ys=false from by rw[Hj.out,e0,e1];simp);clear Hj;go_wp2_with fail
     go_quiet (fail)
     go_wp2_with fail;go_ret;exact⟨by rw[HF.out];rfl,HW.drewN _⟩
    all_goals
     try have e1':(a1 != b1)=false:=by rw[bne,e1];rfl
     first
      |have HN:=hdq (show eqV false xs ys=eqV false (xs.drop (k+1)) (ys.drop (k+1))from by rw[Hj.out];simp[*])
      |have HN:=hdq (show eqV true xs ys=eqV true (xs.drop (k+1)) (ys.drop (k+1))from by rw[Hj.out];simp[*])
     clear Hj;go_wp2_with fail
     go_quiet (fail)
     go_wp2_with fail;go_roundw;case rel=>exact⟨k+1,by omega,by go_num,HW.drewN _,HN⟩
     case measure=>simp[intOf];omega
   ·have HF:=hdq (show eqV p xs ys=true from by rw[Ha.out,List.drop_eq_nil_of_le (by rw[HL.out];omega),List.drop_eq_nil_of_le (by rw[<-HM.out];omega)];rfl);have HW:=hdq Ff.out;clear Ha Ff;go_wp2_with fail;go_ret;exact⟨by rw[HF.out];rfl,HW.out⟩
 ·have HF:=hdq (zjA (p:=p) hlen);have GU:((xs.length:Int)==(ys.length:Int))=false:=by simp;omega
  have NK:((xs.length:Int) != (ys.length:Int))=true:=by simp;omega
  clear hx hy;go_enter Tryz.func97,Tryz.ntmps97;go_wp2_with fail;go_ret;exact⟨by rw[HF.out];rfl,Fr.refl _ _⟩
def RqS (p:Bool)(xs ys:Sts):Prop:=∀(W:World)(S S':Nat->Prop)(Z Z':Prop)(A A':Option Addr)(c c':Nat),(∀b,S b->b < W.heap.size)->(∀b,S' b->b < W.heap.size)->SlR (λb o=>StR W S Z xs b o) xs.len 128 A c->SlR (λb o=>StR W S' Z' ys b o) ys.len 128 A' c'->
 Calls Tryz.prog 98 #[.slice A xs.len c,.slice A' ys.len c',.bool p] W (zae (eqS p xs ys) W)
def RqIS (p:Bool)(xs ys:Sts):Prop:=∀(i:Nat)(a0:Int)(a1:ByteArray)(a2:Exs)(a3:Cds)(a4:Sts)(a5:Sts)(a6:Int)(ar:Sts)(b0:Int)(b1:ByteArray)(b2:Exs)(b3:Cds)(b4:Sts)(b5:Sts)(b6:Int)(br:Sts),Sts.drop i xs= .cons a0 a1 a2 a3 a4 a5 a6 ar->Sts.drop i ys= .cons b0 b1 b2 b3 b4 b5 b6 br->RqS p a4 b4/\RqS p a5 b5
theorem zlh {p:Bool}{xs ys:Sts}{i:Nat}{a0 a1 a2 a3 a4 a5 a6 ar b0 b1 b2 b3 b4 b5 b6 br}(hd:Sts.drop i xs= .cons a0 a1 a2 a3 a4 a5 a6 ar)(Fj:Sts.drop i ys= .cons b0 b1 b2 b3 b4 b5 b6 br):
  eqS p (Sts.drop i xs) (Sts.drop i ys)=((a0==b0)&&(a1.toList==b1.toList)&&(!p || a6==b6)&&eqX p a2 b2&&eqC p a3 b3&&eqS p a4 b4&&eqS p a5 b5&&eqS p (Sts.drop (i+1) xs) (Sts.drop (i+1) ys)):=by
 rw[Sts.drop_succ i xs hd,Sts.drop_succ i ys Fj,hd,Fj];simp only[eqS]
theorem zgG (p:Bool)(xs ys:Sts)(Ho:RqIS p xs ys):RqS p xs ys:=by
 intro w S S' Z Z' A A' c c' hS Ly hx hy;have hl:xs.len<=9223372036854775807:=leq9 hx.1 hx.2.1.1;have Pn:ys.len<=9223372036854775807:=leq9 hy.1 hy.2.1.1;have HA:=hdq Ho;clear Ho;by_cases hlen:xs.len=ys.len
 ·obtain⟨m,hm⟩:=nmq ys.len;have Lm:xs.len=m:=hlen.trans hm.symm;rw[Lm,<-hm];rw[<-hm]at Pn;have HM:=hdq hm;have HL:=hdq Lm;have HX:=hdq hx;have HY:=hdq hy;have HS:=hdq (aiq hS Ly);clear hlen hm Lm hl hx hy hS Ly;go_enter Tryz.func98,Tryz.ntmps98;go_wp2_with fail;go_loopw [7] (λi wr=>∃k:Nat,k<=m/\i= .int .i64 k/\Hid (Fr NoT w wr)/\Hid (eqS p xs ys=eqS p (Sts.drop k xs) (Sts.drop k ys))) (λi _=>m - (intOf i).toNat);case atStart=>exact⟨0,Nat.zero_le _,rfl,Fr.refl _ _,rfl⟩
  case round=>
   obtain⟨k,hk,rfl,Ff,Ha⟩:=hrel;by_cases Hr:k < m
   ·obtain⟨a0,a1,a2,a3,a4,a5,a6,ar,hd⟩:=Sts.drop_cons (show k < xs.len from by rw[HL.out];exact Hr);obtain⟨b0,b1,b2,b3,b4,b5,b6,br,Fj⟩:=Sts.drop_cons (show k < ys.len from by rw[<-HM.out];exact Hr);obtain⟨b,o,rfl,Hd⟩:=HX.2.2 (by rw[HL.out];omega);obtain⟨b',o',rfl,Fp⟩:=HY.2.2 (by rw[<-HM.out];omega);have Hb:=(StR.keep (Ff.same λb hb=>⟨HS.1 b hb,id⟩) Hd).drop k;have GT:=(StR.keep (Ff.same λb hb=>⟨HS.2 b hb,id⟩) Fp).drop k;rw[hd]at Hb;rw[Fj]at GT;obtain⟨⟨Hf,_,_,_,c0,c1,c6⟩,⟨A2,q2,c2,s2⟩,⟨A3,q3,c3,s3⟩,⟨A4,q4,c4,s4⟩,⟨A5,q5,c5,s5⟩,_⟩:=Hb;obtain⟨⟨J6,_,_,_,d0,d1,d6⟩,⟨D2,r2,d2,t2⟩,⟨D3,r3,d3,t3⟩,⟨D4,r4,d4,t4⟩,⟨D5,r5,d5,t5⟩,_⟩:=GT;have Gf:b < wr.heap.size:=ltq (HS.1 _ Hf) Ff.size;have Qv:b' < wr.heap.size:=ltq (HS.2 _ J6) Ff.size;have Hl:(k:Int) < (m:Int):=by omega
    have Fb:(0:Int)<=(k:Int):=by omega
    have Hq:=Ha.trans (zlh hd Fj);have JS:=HA k a0 a1 a2 a3 a4 a5 a6 ar b0 b1 b2 b3 b4 b5 b6 br hd Fj;have FZ:=hdq (λ(W:World)(h:Fr NoT wr W)=>zjC p a2 b2 W S S' Z Z' A2 D2 q2 r2 (λb hb=>ltq (HS.1 b hb) (Ff.trans h).size) (λb hb=>ltq (HS.2 b hb) (Ff.trans h).size) (s2.imp λ_ _ hx=>ExR.keep (h.same λb hb=>⟨ltq (HS.1 b hb) Ff.size,id⟩) hx) (t2.imp λ_ _ hx=>ExR.keep (h.same λb hb=>⟨ltq (HS.2 b hb) Ff.size,id⟩) hx));obtain⟨v2,JZ⟩:=nmq (eqX p a2 b2);rw[<-JZ]at FZ Hq;have TF:=hdq (λ(W:World)(h:Fr NoT wr W)=>zmE p a3 b3 W S S' Z Z' A3 D3 q3 r3 (λb hb=>ltq (HS.1 b hb) (Ff.trans h).size) (λb hb=>ltq (HS.2 b hb) (Ff.trans h).size) (s3.imp λ_ _ hx=>CdR.keep (h.same λb hb=>⟨ltq (HS.1 b hb) Ff.size,id⟩) hx) (t3.imp λ_ _ hx=>CdR.keep (h.same λb hb=>⟨ltq (HS.2 b hb) Ff.size,id⟩) hx));obtain⟨v3,LK⟩:=nmq (eqC p a3 b3);rw[<-LK]at TF Hq;have S4:=hdq (λ(W:World)(h:Fr NoT wr W)=>JS.1 W S S' Z Z' A4 D4 q4 r4 (λb hb=>ltq (HS.1 b hb) (Ff.trans h).size) (λb hb=>ltq (HS.2 b hb) (Ff.trans h).size) (s4.imp λ_ _ hx=>StR.keep (h.same λb hb=>⟨ltq (HS.1 b hb) Ff.size,id⟩) hx) (t4.imp λ_ _ hx=>StR.keep (h.same λb hb=>⟨ltq (HS.2 b hb) Ff.size,id⟩) hx));obtain⟨v4,TG⟩:=nmq (eqS p a4 b4);rw[<-TG]at S4 Hq;have Ru:=hdq (λ(W:World)(h:Fr NoT wr W)=>JS.2 W S S' Z Z' A5 D5 q5 r5 (λb hb=>ltq (HS.1 b hb) (Ff.trans h).size) (λb hb=>ltq (HS.2 b hb) (Ff.trans h).size) (s5.imp λ_ _ hx=>StR.keep (h.same λb hb=>⟨ltq (HS.1 b hb) Ff.size,id⟩) hx) (t5.imp λ_ _ hx=>StR.keep (h.same λb hb=>⟨ltq (HS.2 b hb) Ff.size,id⟩) hx))
    obtain⟨v5,UN⟩:=nmq (eqS p a5 b5);rw[<-UN]at Ru Hq;have Hj:=hdq Hq;have HW:=hdq Ff.out;clear hd Fj Hd Fp Hq Ha Ff Hf J6 JS s2 t2 JZ s3 t3 LK s4 t4 TG s5 t5 UN
    go_upto_region 6 with fail
    go_cut [8,9] (λs8 s9 wx=>∃P Q:Nat,s8= .pointer (some ⟨P,0,none⟩)/\s9= .pointer (some ⟨Q,0,none⟩)/\Fr NoT wr wx/\P < wx.heap.size/\Q < wx.heap.size/\wx.cell? ⟨P,0,none⟩=some (.int .u8 a0)/\wx.cell? ⟨P,1,none⟩=some (.string a1)/\wx.cell? ⟨P,2,none⟩=some (.slice A2 a2.len q2)/\wx.cell? ⟨P,3,none⟩=some (.slice A3 a3.len q3)/\wx.cell? ⟨P,4,none⟩=some (.slice A4 a4.len q4)/\wx.cell? ⟨P,5,none⟩=some (.slice A5 a5.len q5)/\wx.cell? ⟨P,6,none⟩=some (.int .i64 a6)/\wx.cell? ⟨Q,0,none⟩=some (.int .u8 b0)/\wx.cell? ⟨Q,1,none⟩=some (.string b1)/\wx.cell? ⟨Q,2,none⟩=some (.slice D2 b2.len r2)/\wx.cell? ⟨Q,3,none⟩=some (.slice D3 b3.len r3)/\wx.cell? ⟨Q,4,none⟩=some (.slice D4 b4.len r4)/\wx.cell? ⟨Q,5,none⟩=some (.slice D5 b5.len r5)/\wx.cell? ⟨Q,6,none⟩=some (.int .i64 b6));case first=>
     go_region
     all_goals
      go_wp2_with fail
      go_meet
      refine⟨_,_,rfl,rfl,Fr.drew (((Fr.refl _ _).alloc _).alloc _),by simp<;>omega,by simp<;>omega,?_⟩;simp
    case rest=>
     obtain⟨P,Q,rfl,rfl,GZ,hP,hQ,p0,p1,p2,p3,p4,p5,p6,g0,g1,g2,g3,g4,g5,g6⟩:=hcut;have GC:=hdq GZ;clear GZ c0 d0 c1 d1 c2 d2 c3 d3 c4 d4 c5 d5 c6 d6;cases e0:a0==b0
     ·have e0':(a0 != b0)=true:=by rw[bne,e0];rfl
      have HF:=hdq (show eqS _ xs ys=false from by rw[Hj.out,e0];simp);clear Hj;go_wp2_with fail;go_ret;exact⟨by rw[HF.out];rfl,HW.trans GC.out⟩
     have e0':(a0 != b0)=false:=by rw[bne,e0];rfl
     cases e1:a1.toList==b1.toList
     ·have e1':(a1.toList != b1.toList)=true:=by rw[bne,e1];rfl
      have HF:=hdq (show eqS _ xs ys=false from by rw[Hj.out,e0,e1];simp);clear Hj;go_wp2_with fail;go_ret;exact⟨by rw[HF.out];rfl,HW.trans GC.out⟩
     have e1':(a1.toList != b1.toList)=false:=by rw[bne,e1];rfl
     have NJ:p=false\/(p=true/\(a6==b6)=true)\/(p=true/\(a6==b6)=false):=by cases p<;>cases a6==b6<;>simp
     rcases NJ with rfl|⟨rfl,e6⟩|⟨rfl,e6⟩;rotate_right
     ·have e6':(a6 != b6)=true:=by rw[bne,e6];rfl
      have HF:=hdq (show eqS true xs ys=false from by rw[Hj.out,e0,e1,e6];simp);clear Hj;go_wp2_with fail;go_ret;exact⟨by rw[HF.out];rfl,HW.trans GC.out⟩
     all_goals
      try have e6':(a6 != b6)=false:=by rw[bne,e6];rfl
      go_wp2_with fail;refine(FZ _ GC.out).mono ?_;rintro _ y2 ⟨rfl,JX⟩;have Jy:=hdq (Fr.trans GC.out JX);have Wb:=ltq hP JX.size;have Wc:=ltq hQ JX.size;have p3':=(JX.cell (p:=⟨P,3,none⟩) hP id).trans p3;have g3':=(JX.cell (p:=⟨Q,3,none⟩) hQ id).trans g3;clear p3 g3;have p3:=p3';have g3:=g3';clear p3' g3';have p4':=(JX.cell (p:=⟨P,4,none⟩) hP id).trans p4;have g4':=(JX.cell (p:=⟨Q,4,none⟩) hQ id).trans g4;clear p4 g4;have p4:=p4';have g4:=g4';clear p4' g4';have p5':=(JX.cell (p:=⟨P,5,none⟩) hP id).trans p5;have g5':=(JX.cell (p:=⟨Q,5,none⟩) hQ id).trans g5;clear p5 g5;have p5:=p5';have g5:=g5';clear p5' g5';clear JX FZ hP hQ p0 g0 p2 g2;cases v2
      ·have HF:=hdq (show eqS _ xs ys=false from by rw[Hj.out];simp);clear Hj;go_wp2_with fail;go_ret;exact⟨by rw[HF.out];rfl,HW.trans Jy.out⟩
      go_wp2_with fail;refine(TF _ Jy.out).mono ?_;rintro _ y3 ⟨rfl,Qw⟩;have Kd:=hdq (Fr.trans Jy.out Qw);have gH:=ltq Wb Qw.size;have gI:=ltq Wc Qw.size;have p4':=(Qw.cell (p:=⟨P,4,none⟩) Wb id).trans p4;have g4':=(Qw.cell (p:=⟨Q,4,none⟩) Wc id).trans g4;clear p4 g4;have p4:=p4';have g4:=g4';clear p4' g4';have p5':=(Qw.cell (p:=⟨P,5,none⟩) Wb id).trans p5;have g5':=(Qw.cell (p:=⟨Q,5,none⟩) Wc id).trans g5;clear p5 g5;have p5:=p5';have g5:=g5';clear p5' g5';clear Qw TF Wb Wc p3 g3;cases v3
      ·have HF:=hdq (show eqS _ xs ys=false from by rw[Hj.out];simp);clear Hj;go_wp2_with fail;go_ret;exact⟨by rw[HF.out];rfl,HW.trans Kd.out⟩
      go_wp2_with fail;refine(S4 _ Kd.out).mono ?_;rintro _ y4 ⟨rfl,XE⟩;have Ks:=hdq (Fr.trans Kd.out XE);have vY:=ltq gH XE.size;have vZ:=ltq gI XE.size;have p5':=(XE.cell (p:=⟨P,5,none⟩) gH id).trans p5;have g5':=(XE.cell (p:=⟨Q,5,none⟩) gI id).trans g5;clear p5 g5;have p5:=p5';have g5:=g5';clear p5' g5';clear XE S4 gH gI p4 g4;cases v4
      ·have HF:=hdq (show eqS _ xs ys=false from by rw[Hj.out];simp);clear Hj;go_wp2_with fail;go_ret;exact⟨by rw[HF.out];rfl,HW.trans Ks.out⟩
      go_wp2_with fail;refine(Ru _ Ks.out).mono ?_;rintro _ y5 ⟨rfl,gJ⟩;have UO:=hdq (Fr.trans Ks.out gJ);have xg:=ltq vY gJ.size;have Dc:=ltq vZ gJ.size;clear gJ Ru vY vZ p5 g5;cases v5
      ·have HF:=hdq (show eqS _ xs ys=false from by rw[Hj.out];simp);clear Hj;go_wp2_with fail;go_ret;exact⟨by rw[HF.out];rfl,HW.trans UO.out⟩
      first
       |have HN:=hdq (show eqS false xs ys=eqS false (Sts.drop (k+1) xs) (Sts.drop (k+1) ys)from by rw[Hj.out];simp[e0,e1, *])
       |have HN:=hdq (show eqS true xs ys=eqS true (Sts.drop (k+1) xs) (Sts.drop (k+1) ys)from by rw[Hj.out];simp[e0,e1, *])
      clear Hj;go_wp2_with fail;go_roundw;case rel=>exact⟨k+1,by omega,by go_num,HW.trans UO.out,HN⟩
      case measure=>simp[intOf];omega
   ·have HF:=hdq (show eqS p xs ys=true from by rw[Ha.out,Sts.drop_nil (by rw[HL.out];omega),Sts.drop_nil (by rw[<-HM.out];omega)];rfl);have HW:=hdq Ff.out;clear Ha Ff;go_wp2_with fail;go_ret;exact⟨by rw[HF.out];rfl,HW.out⟩
 ·have HF:=hdq (zjz (p:=p) hlen);have GU:((xs.len:Int)==(ys.len:Int))=false:=by simp;omega
  have NK:((xs.len:Int) != (ys.len:Int))=true:=by simp;omega
  clear hx hy;go_enter Tryz.func98,Tryz.ntmps98;go_wp2_with fail;go_ret;exact⟨by rw[HF.out];rfl,Fr.refl _ _⟩
theorem zdd (p:Bool):∀xs ys:Sts,RqIS p xs ys
 | .nil,_=>λi _ _ _ _ _ _ _ _ _ _ _ _ _ _ _ _ hd=>by cases i<;>simp[Sts.drop]at hd
 | .cons ..,.nil =>λi _ _ _ _ _ _ _ _ _ _ _ _ _ _ _ _ _ hd=>by cases i<;>simp[Sts.drop]at hd
 | .cons k0 k1 k2 k3 k4 k5 k6 kr,.cons l0 l1 l2 l3 l4 l5 l6 lr=>λi _ _ _ _ _ _ _ _ _ _ _ _ _ _ _ _ hd Fj=>by
  cases i with
  |zero=>
   simp only[Sts.drop]at hd Fj;injection hd with e0 e1 e2 e3 e4 e5 e6 e7;injection Fj with f0 f1 f2 f3 f4 f5 f6 f7;subst e0 e1 e2 e3 e4 e5 e6 e7 f0 f1 f2 f3 f4 f5 f6 f7;exact⟨zgG p k4 l4 (zdd p k4 l4),zgG p k5 l5 (zdd p k5 l5)⟩
  |succ i=>
   simp only[Sts.drop]at hd Fj;exact zdd p kr lr i _ _ _ _ _ _ _ _ _ _ _ _ _ _ _ _ hd Fj
theorem zjF (p:Bool)(xs ys:Sts):RqS p xs ys:=zgG p xs ys (zdd p xs ys)
theorem zli {p:Bool}{xs ys:List Arr}{i:Nat}{x y:Arr}{xr yr:List Arr}(hd:xs.drop i=x::xr/\xs.drop (i+1)=xr)(Fj:ys.drop i=y::yr/\ys.drop (i+1)=yr):
  eqA p (xs.drop i) (ys.drop i)=((x.nm.toList==y.nm.toList)&&(x.size==y.size)&&(!p || x.at_==y.at_)&&eqA p (xs.drop (i+1)) (ys.drop (i+1))):=by
 rw[hd.1,Fj.1,hd.2,Fj.2,eqA]
theorem zlj {p:Bool}{xs ys:List Prc}{i:Nat}{x y:Prc}{xr yr:List Prc}(hd:xs.drop i=x::xr/\xs.drop (i+1)=xr)(Fj:ys.drop i=y::yr/\ys.drop (i+1)=yr):
  eqP p (xs.drop i) (ys.drop i)=((x.nm.toList==y.nm.toList)&&(!p || x.at_==y.at_)&&eqV p x.params y.params&&eqS p x.body y.body&&eqP p (xs.drop (i+1)) (ys.drop (i+1))):=by
 rw[hd.1,Fj.1,hd.2,Fj.2,eqP]
theorem zmF (p:Bool)(t u:Tre)(w:World)(S S':Nat->Prop)(Z Z':Prop)(Av Aa Ap Am Bv Ba Bp Bm:Option Addr)(cv ca cp cm dv da dp dm:Nat)(hS:∀b,S b->b < w.heap.size)(Ly:∀b,S' b->b < w.heap.size)
  (hx:TrR w S Z t Av Aa Ap Am cv ca cp cm) (hy:TrR w S' Z' u Bv Ba Bp Bm dv da dp dm):
  Calls Tryz.prog 33 #[trV t Av Aa Ap Am cv ca cp cm,trV u Bv Ba Bp Bm dv da dp dm,.bool p] w (zae (eqT p t u) w):=by
 obtain⟨r,hr⟩:=nmq (eqT p t u);rw[<-hr];unfold eqT at hr;obtain⟨v,hv⟩:=nmq (eqV p t.vars u.vars);obtain⟨s,hs⟩:=nmq (eqS p t.main u.main);obtain⟨w1,Hc⟩:=nmq ((w.alloc (.cells #[.slice Av t.vars.length cv,.slice Aa t.arrays.length ca,.slice Ap t.procs.length cp,.slice Am t.main.len cm] 27)).alloc (.cells #[.slice Bv u.vars.length dv,.slice Ba u.arrays.length da,.slice Bp u.procs.length dp,.slice Bm u.main.len dm] 27));have Hn:=hdq (show Fr NoT w w1 from by rw[Hc];exact((Fr.refl _ _).alloc _).alloc _);have JP:Bk w1 w.heap.size 27 #[.slice Av t.vars.length cv,.slice Aa t.arrays.length ca,.slice Ap t.procs.length cp,.slice Am t.main.len cm]:=by rw[Hc];exact(Bk.new _ _ _).alloc _
 have Hp:Bk w1 (w.heap.size+1) 27 #[.slice Bv u.vars.length dv,.slice Ba u.arrays.length da,.slice Bp u.procs.length dp,.slice Bm u.main.len dm]:=by rw[Hc];exact Bk.new_at _ _ _ (by simp)
 have Np:=hdq (aiq JP Hp);have HS:=hdq (aiq hS Ly);have keepX:∀W,Fr NoT w W->TrR W S Z t Av Aa Ap Am cv ca cp cm:=λW h=>hx.keep (h.same λb hb=>⟨hS b hb,id⟩);have keepY:∀W,Fr NoT w W->TrR W S' Z' u Bv Ba Bp Bm dv da dp dm:=λW h=>hy.keep (h.same λb hb=>⟨Ly b hb,id⟩);have HX:=hdq keepX;have HY:=hdq keepY;have HV:=hdq (λ(W:World)(h:Fr NoT w W)=>zjE p t.vars u.vars W S S' Z Z' Av Bv cv dv (λb hb=>ltq (hS b hb) h.size) (λb hb=>ltq (Ly b hb) h.size) (keepX W h).vars (keepY W h).vars);have HM:=hdq (λ(W:World)(h:Fr NoT w W)=>zjF p t.main u.main W S S' Z Z' Am Bm cm dm (λb hb=>ltq (hS b hb) h.size) (λb hb=>ltq (Ly b hb) h.size) (keepX W h).main (keepY W h).main);rw[<-hv]at HV hr;rw[<-hs]at HM;have la:t.arrays.length<=9223372036854775807:=leq9 hx.arrays.1 hx.arrays.2.1.1;have lb:u.arrays.length<=9223372036854775807:=leq9 hy.arrays.1 hy.arrays.2.1.1;have lp:t.procs.length<=9223372036854775807:=leq9 hx.procs.1 hx.procs.2.1.1;have lq:u.procs.length<=9223372036854775807:=leq9 hy.procs.1 hy.procs.2.1.1;have HR:=hdq hr;have Ga:=hdq Hc;have VL:=hdq hs;unfold trV;clear hr hv hs Hc JP Hp hS Ly keepX keepY hx hy;cases v
 ·have HF:=hdq (show r=false from by rw[HR.out];simp);go_enter Tryz.func33,Tryz.ntmps33;go_wp2_with fail;rw[<-Ga.out];refine(HV _ Hn.out).mono ?_;rintro _ y ⟨rfl,hy⟩;have HB:=hdq (Hn.trans hy);clear hy;go_wp2_with fail;go_ret;exact⟨by rw[HF.out];rfl,HB.out⟩
 by_cases Rb:t.arrays.length=u.arrays.length
 rotate_left
 ·have HF:=hdq (show r=false from by rw[HR.out];simp[Rb]);have GU:((t.arrays.length:Int)==(u.arrays.length:Int))=false:=by simp;omega
  have NK:((t.arrays.length:Int) != (u.arrays.length:Int))=true:=by simp;omega
  go_enter Tryz.func33,Tryz.ntmps33;go_wp2_with fail;rw[<-Ga.out];refine(HV _ Hn.out).mono ?_;rintro _ y ⟨rfl,hy⟩;have HB:=hdq (Hn.trans hy);obtain⟨x0,x1,x2,x3,S7⟩:=bk4 (Np.1.fr0 hy);obtain⟨y0,y1,y2,y3,Kg⟩:=bk4 (Np.2.fr0 hy);clear hy Rb;go_wp2_with fail;go_ret;exact⟨by rw[HF.out];rfl,HB.out⟩
 by_cases Py:t.procs.length=u.procs.length
 rotate_left
 ·have HF:=hdq (show r=false from by rw[HR.out];simp[Py]);have GU:((t.procs.length:Int)==(u.procs.length:Int))=false:=by simp;omega
  have NK:((t.procs.length:Int) != (u.procs.length:Int))=true:=by simp;omega
  obtain⟨n,hn⟩:=nmq u.arrays.length;rw[<-hn]at Rb lb Np Ga ⊢;rw[Rb]at Np Ga la ⊢;have PB:=hdq hn;clear hn Rb;go_enter Tryz.func33,Tryz.ntmps33;go_wp2_with fail;rw[<-Ga.out];refine(HV _ Hn.out).mono ?_;rintro _ y ⟨rfl,hy⟩;have HB:=hdq (Hn.trans hy);obtain⟨x0,x1,x2,x3,S7⟩:=bk4 (Np.1.fr0 hy);obtain⟨y0,y1,y2,y3,Kg⟩:=bk4 (Np.2.fr0 hy);clear hy Py;go_wp2_with fail;go_ret;exact⟨by rw[HF.out];rfl,HB.out⟩
 obtain⟨n,hn⟩:=nmq u.arrays.length;obtain⟨m,hm⟩:=nmq u.procs.length;have JV:r=(eqA p t.arrays u.arrays&&eqP p t.procs u.procs&&eqS p t.main u.main):=by rw[HR.out];simp[Rb,Py]
 rw[<-hn]at Rb lb Np Ga ⊢;rw[Rb]at Np Ga la ⊢;rw[<-hm]at Py lq Np Ga ⊢;rw[Py]at Np Ga lp ⊢;have XF:=hdq (aiq Rb hn);have XG:=hdq (aiq Py hm);have Fu:=hdq JV;clear HR JV Rb Py hn hm;go_enter Tryz.func33,Tryz.ntmps33;go_wp2_with fail;rw[<-Ga.out];refine(HV _ Hn.out).mono ?_;rintro _ y ⟨rfl,hy⟩;have No:=hdq hy;obtain⟨x0,x1,x2,x3,S7⟩:=bk4 (Np.1.fr0 hy);obtain⟨y0,y1,y2,y3,Kg⟩:=bk4 (Np.2.fr0 hy);clear hy;go_wp2_with fail;clear x0 x1 x2 x3 y0 y1 y2 y3 S7 Kg;go_loopw [7] (λi wr=>∃k:Nat,k<=n/\i= .int .i64 k/\Hid (Fr NoT w1 wr)/\Hid (r=(eqA p (t.arrays.drop k) (u.arrays.drop k)&&eqP p t.procs u.procs&&eqS p t.main u.main))) (λi _=>n - (intOf i).toNat);case atStart=>exact⟨0,Nat.zero_le _,rfl,No.out,Fu.out⟩
 case round=>
  clear No Fu;obtain⟨k,hk,rfl,HK,Ha⟩:=hrel;obtain⟨x0,x1,x2,x3,S7⟩:=bk4 (Np.1.fr0 HK.out);obtain⟨y0,y1,y2,y3,Kg⟩:=bk4 (Np.2.fr0 HK.out);have HW:=hdq (Hn.trans HK.out);by_cases Hr:k < n
  ·obtain⟨⟨a0,a1,a2⟩,ar,hd⟩:=zac (show k < t.arrays.length from by rw[XF.1];exact Hr);obtain⟨⟨b0,b1,b2⟩,br,Fj⟩:=zac (show k < u.arrays.length from by rw[<-XF.2];exact Hr);obtain⟨b,o,rfl,Hd⟩:=(HX wr HW.out).arrays.2.2 (by rw[XF.1];omega);obtain⟨b',o',rfl,Fp⟩:=(HY wr HW.out).arrays.2.2 (by rw[<-XF.2];omega);have Hb:=Hd.drop k;have GT:=Fp.drop k;rw[hd.1]at Hb;rw[Fj.1]at GT;obtain⟨⟨Hf,_,_,_,c0,c1,c2⟩,_⟩:=Hb;obtain⟨⟨J6,_,_,_,d0,d1,d2⟩,_⟩:=GT;have Gf:b < wr.heap.size:=ltq (HS.1 _ Hf) HW.size;have Qv:b' < wr.heap.size:=ltq (HS.2 _ J6) HW.size;have Hl:(k:Int) < (n:Int):=by omega
   have Fb:(0:Int)<=(k:Int):=by omega
   have Hq:=Ha.out;rw[zli hd Fj]at Hq;have Hj:=hdq Hq;simp only at c0 c1 c2 d0 d1 d2;clear hd Fj Hd Fp Hq Ha Hf J6
   go_upto_region 6 with fail
   go_cut [8,9] (λs8 s9 wx=>∃P Q:Nat,s8= .pointer (some ⟨P,0,none⟩)/\s9= .pointer (some ⟨Q,0,none⟩)/\Fr NoT wr wx/\P < wx.heap.size/\Q < wx.heap.size/\wx.cell? ⟨P,0,none⟩=some (.string a0)/\wx.cell? ⟨P,1,none⟩=some (.int .i64 a1)/\wx.cell? ⟨P,2,none⟩=some (.int .i64 a2)/\wx.cell? ⟨Q,0,none⟩=some (.string b0)/\wx.cell? ⟨Q,1,none⟩=some (.int .i64 b1)/\wx.cell? ⟨Q,2,none⟩=some (.int .i64 b2));case first=>
    go_region
    all_goals
     go_wp2_with fail
     go_meet
     refine⟨_,_,rfl,rfl,Fr.drew (((Fr.refl _ _).alloc _).alloc _),by simp<;>omega,by simp<;>omega,?_⟩;simp
   case rest=>
    obtain⟨P,Q,rfl,rfl,GZ,hP,hQ,p0,p1,p2,g0,g1,g2⟩:=hcut;have GC:=hdq GZ;clear GZ c0 d0 c1 d1 c2 d2 x0 x1 x2 x3 y0 y1 y2 y3;cases e0:a0.toList==b0.toList
    ·have e0':(a0.toList != b0.toList)=true:=by rw[bne,e0];rfl
     have HF:=hdq (show r=false from by rw[Hj.out,e0];simp);clear Hj;go_wp2_with fail;go_ret;exact⟨by rw[HF.out];rfl,HW.trans GC.out⟩
    have e0':(a0.toList != b0.toList)=false:=by rw[bne,e0];rfl
    cases e1:a1==b1
    ·have e1':(a1 != b1)=true:=by rw[bne,e1];rfl
     have HF:=hdq (show r=false from by rw[Hj.out,e0,e1];simp);clear Hj;go_wp2_with fail;go_ret;exact⟨by rw[HF.out];rfl,HW.trans GC.out⟩
    have e1':(a1 != b1)=false:=by rw[bne,e1];rfl
    have NJ:p=false\/(p=true/\(a2==b2)=true)\/(p=true/\(a2==b2)=false):=by cases p<;>cases a2==b2<;>simp
    rcases NJ with rfl|⟨rfl,e2⟩|⟨rfl,e2⟩;rotate_right
    ·have e2':(a2 != b2)=true:=by rw[bne,e2];rfl
     have HF:=hdq (show r=false from by rw[Hj.out,e0,e1,e2];simp);clear Hj;go_wp2_with fail;go_ret;exact⟨by rw[HF.out];rfl,HW.trans GC.out⟩
    all_goals
     try have e2':(a2 != b2)=false:=by rw[bne,e2];rfl
     have hn:=Hj.out;try simp only[e2]at hn
     simp only[e0,e1,Bool.true_and,Bool.and_true,Bool.not_false,Bool.not_true,Bool.true_or,Bool.false_or]at hn;have HN:=hdq hn;clear hn;clear Hj;go_wp2_with fail;go_roundw;case rel=>exact⟨k+1,by omega,by go_num,HK.trans GC.out,HN⟩
     case measure=>simp[intOf];omega
  ·have Hq:r=(eqP p t.procs u.procs&&eqS p t.main u.main):=by rw[Ha.out,List.drop_eq_nil_of_le (by rw[XF.1];omega),List.drop_eq_nil_of_le (by rw[<-XF.2];omega)];rfl
   have Mw:=hdq Hq;have Gv:=hdq HK.out;clear Hq Ha HK HW;go_wp2_with fail;clear x0 x1 x2 x3 y0 y1 y2 y3 S7 Kg;try go_step3
   try go_wp2_with fail
   go_loopw [10] (λi wr=>∃k:Nat,k<=m/\i= .int .i64 k/\Hid (Fr NoT w1 wr)/\Hid (r=(eqP p (t.procs.drop k) (u.procs.drop k)&&eqS p t.main u.main))) (λi _=>m - (intOf i).toNat);case atStart=>exact⟨0,Nat.zero_le _,rfl,Gv.out,Mw.out⟩
   case round=>
    clear Gv Mw hk Hr;obtain⟨k,hk,rfl,HK,Ha⟩:=hrel;obtain⟨x0,x1,x2,x3,S7⟩:=bk4 (Np.1.fr0 HK.out);obtain⟨y0,y1,y2,y3,Kg⟩:=bk4 (Np.2.fr0 HK.out);have HW:=hdq (Hn.trans HK.out);by_cases Hr:k < m
    ·obtain⟨⟨a0,a1,a2,a3⟩,ar,hd⟩:=zac (show k < t.procs.length from by rw[XG.1];exact Hr);obtain⟨⟨b0,b1,b2,b3⟩,br,Fj⟩:=zac (show k < u.procs.length from by rw[<-XG.2];exact Hr);obtain⟨b,o,rfl,Hd⟩:=(HX wr HW.out).procs.2.2 (by rw[XG.1];omega);obtain⟨b',o',rfl,Fp⟩:=(HY wr HW.out).procs.2.2 (by rw[<-XG.2];omega);have Hb:=Hd.drop k;have GT:=Fp.drop k;rw[hd.1]at Hb;rw[Fj.1]at GT;obtain⟨⟨Hf,_,_,c0,c3⟩,⟨A1,q1,c1,s1⟩,⟨A2,q2,c2,s2⟩,_⟩:=Hb;obtain⟨⟨J6,_,_,d0,d3⟩,⟨D1,r1,d1,t1⟩,⟨D2,r2,d2,t2⟩,_⟩:=GT;have Gf:b < wr.heap.size:=ltq (HS.1 _ Hf) HW.size;have Qv:b' < wr.heap.size:=ltq (HS.2 _ J6) HW.size;have Hl:(k:Int) < (m:Int):=by omega
     have Fb:(0:Int)<=(k:Int):=by omega
     have Hq:=Ha.out;rw[zlj hd Fj]at Hq;simp only at c0 c1 c2 c3 d0 d1 d2 d3 s1 s2 t1 t2 Hq;have K1:=hdq (λ(W:World)(h:Fr NoT wr W)=>zjE p a1 b1 W S S' Z Z' A1 D1 q1 r1 (λb hb=>ltq (HS.1 b hb) (HW.trans h).size) (λb hb=>ltq (HS.2 b hb) (HW.trans h).size) (s1.imp λ_ _ hx=>VaR.keep (h.same λb hb=>⟨ltq (HS.1 b hb) HW.size,id⟩) hx) (t1.imp λ_ _ hx=>VaR.keep (h.same λb hb=>⟨ltq (HS.2 b hb) HW.size,id⟩) hx));have FZ:=hdq (λ(W:World)(h:Fr NoT wr W)=>zjF p a2 b2 W S S' Z Z' A2 D2 q2 r2 (λb hb=>ltq (HS.1 b hb) (HW.trans h).size) (λb hb=>ltq (HS.2 b hb) (HW.trans h).size) (s2.imp λ_ _ hx=>StR.keep (h.same λb hb=>⟨ltq (HS.1 b hb) HW.size,id⟩) hx) (t2.imp λ_ _ hx=>StR.keep (h.same λb hb=>⟨ltq (HS.2 b hb) HW.size,id⟩) hx));obtain⟨v1,FF⟩:=nmq (eqV p a1 b1);obtain⟨v2,JZ⟩:=nmq (eqS p a2 b2);rw[<-FF]at K1 Hq;rw[<-JZ]at FZ Hq;have Hj:=hdq Hq;clear hd Fj Hd Fp Hq Ha Hf J6 s1 s2 t1 t2 FF JZ
     go_upto_region 12 with fail
     go_cut [11,12] (λs8 s9 wx=>∃P Q:Nat,s8= .pointer (some ⟨P,0,none⟩)/\s9= .pointer (some ⟨Q,0,none⟩)/\Fr NoT wr wx/\P < wx.heap.size/\Q < wx.heap.size/\wx.cell? ⟨P,0,none⟩=some (.string a0)/\wx.cell? ⟨P,1,none⟩=some (.slice A1 a1.length q1)/\wx.cell? ⟨P,2,none⟩=some (.slice A2 a2.len q2)/\wx.cell? ⟨P,3,none⟩=some (.int .i64 a3)/\wx.cell? ⟨Q,0,none⟩=some (.string b0)/\wx.cell? ⟨Q,1,none⟩=some (.slice D1 b1.length r1)/\wx.cell? ⟨Q,2,none⟩=some (.slice D2 b2.len r2)/\wx.cell? ⟨Q,3,none⟩=some (.int .i64 b3));case first=>
      go_region
      all_goals
       go_wp2_with fail
       go_meet
       refine⟨_,_,rfl,rfl,Fr.drew (((Fr.refl _ _).alloc _).alloc _),by simp<;>omega,by simp<;>omega,?_⟩;simp
     case rest=>
      obtain⟨P,Q,rfl,rfl,GZ,hP,hQ,p0,p1,p2,p3,g0,g1,g2,g3⟩:=hcut;have GC:=hdq GZ;clear GZ c0 d0 c1 d1 c2 d2 c3 d3 x0 x1 x2 x3 y0 y1 y2 y3;cases e0:a0.toList==b0.toList
      ·have e0':(a0.toList != b0.toList)=true:=by rw[bne,e0];rfl
       have HF:=hdq (show r=false from by rw[Hj.out,e0];simp);clear Hj;go_wp2_with fail;go_ret;exact⟨by rw[HF.out];rfl,HW.trans GC.out⟩
      have e0':(a0.toList != b0.toList)=false:=by rw[bne,e0];rfl
      have NJ:p=false\/(p=true/\(a3==b3)=true)\/(p=true/\(a3==b3)=false):=by cases p<;>cases a3==b3<;>simp
      rcases NJ with rfl|⟨rfl,e3⟩|⟨rfl,e3⟩;rotate_right
      ·have e3':(a3 != b3)=true:=by rw[bne,e3];rfl
       have HF:=hdq (show r=false from by rw[Hj.out,e0,e3];simp);clear Hj;go_wp2_with fail;go_ret;exact⟨by rw[HF.out];rfl,HW.trans GC.out⟩
      all_goals
       try have e3':(a3 != b3)=false:=by rw[bne,e3];rfl
       cases v1
       ·have HF:=hdq (show r=false from by rw[Hj.out];simp);clear Hj;go_wp2_with (go_at_call 97;refine(K1 _ GC.out).mono ?_;rintro _ y1 ⟨rfl,K7⟩;have Hu:=hdq (Fr.trans GC.out K7);have Rw:=ltq hP K7.size;have Wa:=ltq hQ K7.size;have p2_0:=(K7.cell (p:=⟨P,2,none⟩) hP id).trans p2;have g2_0:=(K7.cell (p:=⟨Q,2,none⟩) hQ id).trans g2;clear K7);go_ret;exact⟨by rw[HF.out];rfl,HW.trans Hu.out⟩
       cases v2
       ·have HF:=hdq (show r=false from by rw[Hj.out];simp);clear Hj;go_wp2_with (first|(go_at_call 97;refine(K1 _ GC.out).mono ?_;rintro _ y1 ⟨rfl,K7⟩;have Hu:=hdq (Fr.trans GC.out K7);have Rw:=ltq hP K7.size;have Wa:=ltq hQ K7.size;have p2_0:=(K7.cell (p:=⟨P,2,none⟩) hP id).trans p2;have g2_0:=(K7.cell (p:=⟨Q,2,none⟩) hQ id).trans g2;clear K7)|(go_at_call 98;refine(FZ _ Hu.out).mono ?_;rintro _ y2 ⟨rfl,JX⟩;have Jy:=hdq (Fr.trans Hu.out JX);have Wb:=ltq Rw JX.size;have Wc:=ltq Wa JX.size;clear JX));go_ret;exact⟨by rw[HF.out];rfl,HW.trans Jy.out⟩
       have hn:=Hj.out;try simp only[e3]at hn
       simp only[e0,Bool.true_and,Bool.and_true,Bool.not_false,Bool.not_true,Bool.true_or,Bool.false_or]at hn;have HN:=hdq hn;clear hn;clear Hj;go_wp2_with (first|(go_at_call 97;refine(K1 _ GC.out).mono ?_;rintro _ y1 ⟨rfl,K7⟩;have Hu:=hdq (Fr.trans GC.out K7);have Rw:=ltq hP K7.size;have Wa:=ltq hQ K7.size;have p2_0:=(K7.cell (p:=⟨P,2,none⟩) hP id).trans p2;have g2_0:=(K7.cell (p:=⟨Q,2,none⟩) hQ id).trans g2;clear K7)|(go_at_call 98;refine(FZ _ Hu.out).mono ?_;rintro _ y2 ⟨rfl,JX⟩;have Jy:=hdq (Fr.trans Hu.out JX);have Wb:=ltq Rw JX.size;have Wc:=ltq Wa JX.size;clear JX));go_roundw;case rel=>exact⟨k+1,by omega,by go_num,HK.trans Jy.out,HN⟩
       case measure=>simp[intOf];omega
    ·have Hq:r=s:=by rw[Ha.out,List.drop_eq_nil_of_le (by rw[XG.1];omega),List.drop_eq_nil_of_le (by rw[<-XG.2];omega),VL.out];rfl
     have Q2:=hdq Hq;clear Hq Ha;go_wp2_with fail;refine(HM _ HW.out).mono ?_;rintro _ y ⟨rfl,hy⟩;have HB:=hdq (HW.trans hy);clear hy;go_wp2_with fail;go_ret;exact⟨by rw[Q2.out];rfl,HB.out⟩
theorem zgH (t u:Tre)(w:World)(S S':Nat->Prop)(Z Z':Prop)(Av Aa Ap Am Bv Ba Bp Bm:Option Addr)(cv ca cp cm dv da dp dm:Nat)(hS:∀b,S b->b < w.heap.size)(Ly:∀b,S' b->b < w.heap.size)
  (hx:TrR w S Z t Av Aa Ap Am cv ca cp cm) (hy:TrR w S' Z' u Bv Ba Bp Bm dv da dp dm):
  Calls Tryz.prog 11 #[trV t Av Aa Ap Am cv ca cp cm,trV u Bv Ba Bp Bm dv da dp dm] w (zae (eqT false t u) w):=by
 have HC:=hdq (λ(W:World)(h:Fr NoT w W)=>zmF false t u W S S' Z Z' Av Aa Ap Am Bv Ba Bp Bm cv ca cp cm dv da dp dm (λb hb=>ltq (hS b hb) h.size) (λb hb=>ltq (Ly b hb) h.size) (hx.keep (h.same λb hb=>⟨hS b hb,id⟩)) (hy.keep (h.same λb hb=>⟨Ly b hb,id⟩)));clear hx hy hS Ly;unfold trV at*;go_enter Tryz.func11,Tryz.ntmps11;go_wp2_with fail;refine(HC _ (((Fr.refl _ _).alloc _).alloc _)).mono ?_;rintro _ y ⟨rfl,hy⟩;have HB:=hdq ((((Fr.refl NoT w).alloc _).alloc _).trans hy);clear hy;go_wp2_with fail;go_ret;exact⟨rfl,HB.out⟩
