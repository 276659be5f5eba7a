/-
  ref11: expr, exprs.
-/
import Derived.Test.YtmopichdofgndaaGreatDoorJgRmT
import Derived.Test.YtmopichdofgndaaGreatDoorJnCkF
set_option linter.unusedVariables false
set_option linter.unusedSimpArgs false
set_option maxHeartbeats 3200000
set_option maxRecDepth 100000
namespace Go.Proofs.YtmopichdofgndaaGreatDoor
open Go.RowKit Go.Shelf

def exsI (ws:Wl):Exs→Int×Int
  | .nil =>(0,0)
  | .cons k nm n args at_ r=>
    if(if k=2 then(at_,isI nm 1 ws)else if k=3∧isI nm 2 ws≠0 then(at_,isI nm 2 ws)else exsI ws args).2 =0 then exsI ws r
    else(if k=2 then(at_,isI nm 1 ws)else if k=3∧isI nm 2 ws≠0 then(at_,isI nm 2 ws)else exsI ws args)
def exI (ws:Wl) (k:Int) (nm:ByteArray) (args:Exs) (at_:Int):Int×Int:=if k=2 then(at_,isI nm 1 ws)else if k=3∧isI nm 2 ws≠0 then(at_,isI nm 2 ws)else exsI ws args
theorem exsI_step {ws:Wl} {xs:Exs} {i:Nat} {a0 a1 a2 a3 a4 ar} (hd:Exs.drop i xs= .cons a0 a1 a2 a3 a4 ar):exsI ws (Exs.drop i xs)=if(exI ws a0 a1 a3 a4).2 =0 then exsI ws (Exs.drop (i+1) xs)else exI ws a0 a1 a3 a4:=by
  rw[Exs.drop_succ i xs hd,hd];rfl
theorem rex_one (ws:Wl) (k:Int) (nm:ByteArray) (n:Int) (args:Exs) (at_:Int) (A:Option Addr) (l c:Nat) (w:World) (An Ak Am:Option Addr) (cn ck cm:Nat) (hw:WdR w ws An Ak Am cn ck cm)
    (hc:∀W,Fr NoT w W→Calls Tryz.prog 156 #[wdV ws An Ak Am cn ck cm,.slice A l c] W (AtE (exsI ws args) W)):
    Calls Tryz.prog 193 #[wdV ws An Ak Am cn ck cm,.agg #[.int .u8 k,.string nm,.int .i64 n,.slice A l c,.int .i64 at_]] w (AtE (exI ws k nm args at_) w):=by
  have h1:=fun(W:World) (kind:Int) (hf:Fr NoT w W)=>ris_any ws nm kind W An Ak Am cn ck cm (hw.keep hf)
  obtain⟨R,hR⟩:=nmq (exI ws k nm args at_)
  rw[←hR]
  unfold exI at hR
  obtain⟨E,hE⟩:=nmq (exsI ws args)
  rw[←hE]at hR hc
  unfold wdV at hc h1 ⊢
  obtain⟨m,hm⟩:=nmq ws.length
  rw[←hm]at hc h1 ⊢
  obtain⟨w1,hw1⟩:=nmq ((w.alloc (.cells #[.slice An m cn,.slice Ak m ck,.slice Am m cm] 164)).alloc (.cells #[.int .u8 k,.string nm,.int .i64 n,.slice A l c,.int .i64 at_] 41))
  have HK1:=hdq (show Bk w1 w.heap.size 164 #[.slice An m cn,.slice Ak m ck,.slice Am m cm]from by rw[hw1];exact(Bk.new _ _ _).fr0 ((Fr.refl _ _).alloc _))
  have HK2:=hdq (show Bk w1 (w.heap.size+1) 41 #[.int .u8 k,.string nm,.int .i64 n,.slice A l c,.int .i64 at_]from by rw[hw1];have:=Bk.new (w.alloc (.cells #[.slice An m cn,.slice Ak m ck,.slice Am m cm] 164)) 41 #[.int .u8 k,.string nm,.int .i64 n,.slice A l c,.int .i64 at_];simpa using this)
  have HF1:=hdq (show Fr NoT w w1 from by rw[hw1];exact((Fr.refl _ _).alloc _).alloc _)
  have HW1:=hdq hw1
  have H1:=hdq h1
  have HC:=hdq hc
  clear hw hc h1 hm hw1 hE
  by_cases hk:k=2
  · subst hk
    rw[if_pos rfl]at hR
    obtain⟨v,hv⟩:=nmq (isI nm 1 ws)
    have h:=fun W (hf:Fr NoT w W)=>H1.out W 1 hf
    rw[←hv]at h hR
    have HI:=hdq h
    have HR:=hdq hR
    clear h hv H1 hR
    go_enter Tryz.func193,Tryz.ntmps193
    go_wp2_with fail
    rw[←HW1.out]
    have a0:=HK1.out.cell 0
    have a1:=HK1.out.cell 1
    have a2:=HK1.out.cell 2
    have b0:=HK2.out.cell 0
    have b1:=HK2.out.cell 1
    have b3:=HK2.out.cell 3
    have b4:=HK2.out.cell 4
    have l1:=HK1.out.lt
    have l2:=HK2.out.lt
    simp only[getsL]at a0 a1 a2 b0 b1 b3 b4
    go_region_law
      (go_simp
       go_at_call 192
       with_reducible refine(HI.out _ (by exact HF1.out.drew)).mono ?_
       rintro _ w5 ⟨rfl,hb⟩
       have HF5:=hdq (HF1.out.drew.trans hb)
       have b4':=(HK2.out.fr0 ((Fr.refl NoT w1).drew.trans hb)).cell 4
       have l2':=(HK2.out.fr0 ((Fr.refl NoT w1).drew.trans hb)).lt
       simp only[getsL]at b4'
       clear hb
       dsimp only)
    all_goals
      go_wp2_with fail
      go_ret2
      exact⟨by rw[HR.out];rfl,HF5.out⟩
  rw[if_neg hk]at hR
  have g2:(k==2)=false:=by simpa using hk
  by_cases hk3:k=3
  · subst hk3
    obtain⟨v,hv⟩:=nmq (isI nm 2 ws)
    have h:=fun W (hf:Fr NoT w W)=>H1.out W 2 hf
    rw[←hv]at h hR
    have HI:=hdq h
    clear h hv H1 hk g2
    by_cases hv0:v=0
    · rw[if_neg (fun h=>h.2 hv0)]at hR
      subst hv0
      obtain⟨e1,e2⟩:=E
      have HR:=hdq hR
      clear hR
      go_enter Tryz.func193,Tryz.ntmps193
      go_wp2_with fail
      rw[←HW1.out]
      refine(HI.out _ HF1.out).mono ?_
      rintro _ w2 ⟨rfl,hb⟩
      have hk1:=HK1.out.fr0 hb
      have hk2:=HK2.out.fr0 hb
      have HF2:=hdq (HF1.out.trans hb)
      have a0:=hk1.cell 0
      have a1:=hk1.cell 1
      have a2:=hk1.cell 2
      have b0:=hk2.cell 0
      have b1:=hk2.cell 1
      have b3:=hk2.cell 3
      have b4:=hk2.cell 4
      have l1:=hk1.lt
      have l2:=hk2.lt
      simp only[getsL]at a0 a1 a2 b0 b1 b3 b4
      clear hb hk1 hk2
      go_wp2_with fail
      refine(HC.out _ HF2.out).mono ?_
      rintro _ w3 ⟨rfl,hb⟩
      have HF3:=hdq (HF2.out.trans hb)
      clear hb
      go_wp2_with fail
      go_ret2
      exact⟨by rw[HR.out];rfl,HF3.out⟩
    · rw[if_pos ⟨rfl,hv0⟩]at hR
      have HR:=hdq hR
      have e1:(v != 0)=true:=by simpa using hv0
      clear hR hv0
      go_enter Tryz.func193,Tryz.ntmps193
      go_wp2_with fail
      rw[←HW1.out]
      refine(HI.out _ HF1.out).mono ?_
      rintro _ w2 ⟨rfl,hb⟩
      have hk2:=HK2.out.fr0 hb
      have HF2:=hdq (HF1.out.trans hb)
      have b4:=hk2.cell 4
      have l2:=hk2.lt
      simp only[getsL]at b4
      clear hb hk2
      go_wp2_with fail
      go_ret2
      exact⟨by rw[HR.out];rfl,HF2.out⟩
  · rw[if_neg (fun h=>hk3 h.1)]at hR
    have g3:(k==3)=false:=by simpa using hk3
    obtain⟨e1,e2⟩:=E
    have HR:=hdq hR
    clear hR hk hk3 H1
    go_enter Tryz.func193,Tryz.ntmps193
    go_wp2_with fail
    rw[←HW1.out]
    refine(HC.out _ HF1.out).mono ?_
    rintro _ w3 ⟨rfl,hb⟩
    have HF3:=hdq (HF1.out.trans hb)
    clear hb
    go_wp2_with fail
    go_ret2
    exact⟨by rw[HR.out];rfl,HF3.out⟩
def RxC (ws:Wl) (An Ak Am:Option Addr) (cn ck cm:Nat) (xs:Exs):Prop:=∀(W:World) (S:Nat→Prop) (Z:Prop) (A:Option Addr) (c:Nat),WdR W ws An Ak Am cn ck cm→(∀b,S b→b < W.heap.size)→SlR (fun b o=>ExR W S Z xs b o) xs.len 64 A c→
  Calls Tryz.prog 156 #[wdV ws An Ak Am cn ck cm,.slice A xs.len c] W (AtE (exsI ws xs) W)
def RxI (ws:Wl) (An Ak Am:Option Addr) (cn ck cm:Nat) (xs:Exs):Prop:=∀(i:Nat) (a0:Int) (a1:ByteArray) (a2:Int) (a3:Exs) (a4:Int) (ar:Exs),Exs.drop i xs= .cons a0 a1 a2 a3 a4 ar→RxC ws An Ak Am cn ck cm a3
theorem rx_one (ws:Wl) (An Ak Am:Option Addr) (cn ck cm:Nat) (xs:Exs) (hall0:RxI ws An Ak Am cn ck cm xs):RxC ws An Ak Am cn ck cm xs:=by
  intro w S Z A c hw hS hx
  have hl:xs.len≤9223372036854775807:=leq9 hx.1 hx.2.1.1
  have HA:=hdq hall0
  have HX:=hdq hx
  have HS:=hdq hS
  have HW:=hdq hw
  obtain⟨m,hm⟩:=nmq xs.len
  rw[←hm]at hl ⊢
  have HM:=hdq hm
  obtain⟨F,hF⟩:=nmq (exsI ws xs)
  rw[←hF]
  have HF:=hdq hF
  have hone:=fun(k:Int) (nm:ByteArray) (n:Int) (args:Exs) (at_:Int) (A:Option Addr) (l c:Nat) (W:World) (hf:Fr NoT w W)=>rex_one ws k nm n args at_ A l c W An Ak Am cn ck cm (hw.keep hf)
  unfold wdV at hone ⊢
  obtain⟨nw,hnw⟩:=nmq ws.length
  rw[←hnw]at hone ⊢
  have HO:=hdq hone
  have HNW:=hdq hnw
  obtain⟨w1,hw1⟩:=nmq (w.alloc (.cells #[.slice An nw cn,.slice Ak nw ck,.slice Am nw cm] 164))
  have HK1:=hdq (show Bk w1 w.heap.size 164 #[.slice An nw cn,.slice Ak nw ck,.slice Am nw cm]from by rw[hw1];exact Bk.new _ _ _)
  have HF1:=hdq (show Fr NoT w w1 from by rw[hw1];exact(Fr.refl _ _).alloc _)
  have HW1:=hdq hw1
  clear hall0 hx hS hm hF hw hone hnw hw1
  go_enter Tryz.func156,Tryz.ntmps156
  go_wp2_with fail
  rw[←HW1.out]
  go_loopw [6] (fun i wr=>∃k:Nat,k≤m∧i= .int .i64 k∧Hid (Fr NoT w1 wr)∧Hid (F=exsI ws (Exs.drop k xs))) (fun i _=>m - (intOf i).toNat)
  case atStart=>exact⟨0,Nat.zero_le _,rfl,Fr.refl _ _,HF.out⟩
  case round=>
    clear HF
    obtain⟨k,hk,rfl,hb1,hall⟩:=hrel
    have hkk:=HK1.out.fr0 hb1.out
    have x0:=hkk.cell 0
    have x1:=hkk.cell 1
    have x2:=hkk.cell 2
    have hl1:=hkk.lt
    simp only[getsL]at x0 x1 x2
    have hb:Fr NoT w wr:=HF1.out.trans hb1.out
    have HB1:=hdq hb1.out
    clear hkk hb1
    by_cases hlt:k < m
    · obtain⟨a0,a1,a2,a3,a4,ar,hd⟩:=Exs.drop_cons (show k < xs.len from by rw[←HM.out];exact hlt)
      obtain⟨b,o,rfl,hat⟩:=HX.out.2.2 (by rw[←HM.out];omega)
      have hat1:=(ExR.keep (hb.same fun b hb=>⟨HS.out b hb,id⟩) hat).drop k
      rw[hd]at hat1
      obtain⟨⟨hbS,_,r0,r1,_,c0,c1,c2,c4⟩,⟨A3,q3,c3,s3⟩,_⟩:=hat1
      have hxr:b < wr.heap.size:=ltq (HS.out _ hbS) hb.size
      have hlt':(k:Int) < (m:Int):=by omega
      have hge:(0:Int)≤(k:Int):=by omega
      have hSr:∀b,S b→b < wr.heap.size:=fun b h=>ltq (HS.out b h) hb.size
      have hcall:=HO.out a0 a1 a2 a3 a4 A3 a3.len q3 wr.drew (hb.trans (Fr.refl NoT wr).drew) (fun W hf=>by
        have hfw:=(Fr.refl NoT wr).drew.trans hf
        have:=HA.out k a0 a1 a2 a3 a4 ar hd W S Z A3 q3 (HW.out.keep (hb.trans hfw)) (fun b h=>ltq (hSr b h) hfw.size) (s3.imp fun _ _ hx=>ExR.keep (hfw.same fun b hb=>⟨hSr b hb,id⟩) hx)
        unfold wdV at this
        rw[←HNW.out]at this
        exact this)
      have hst:=hall.out.trans (exsI_step hd)
      obtain⟨⟨v1,v2⟩,hv⟩:=nmq (exI ws a0 a1 a3 a4)
      rw[←hv]at hst hcall
      simp only at hst
      obtain⟨l3,hl3⟩:=nmq a3.len
      rw[←hl3]at hcall c3
      have H1:=hdq hcall
      have HST:=hdq hst
      have HB:=hdq hb
      clear hd hat hall hb hbS s3 r0 r1 hcall hst hv hSr hl3
      go_wp2_with fail
      go_region_law
        (go_simp
         go_at_call 193
         with_reducible refine H1.out.mono ?_
         rintro _ w5 ⟨rfl,hb⟩
         have HF5:=hdq ((Fr.refl NoT wr).drew.trans hb)
         clear hb
         dsimp only)
      all_goals
        clear x0 x1 x2 hl1 c0 c1 c2 c3 c4 hxr
        by_cases hv0:v2=0
        · subst hv0
          have HN:=hdq (show F=exsI ws (Exs.drop (k+1) xs)from by rw[HST.out,if_pos rfl])
          clear HST
          go_wp2_with fail
          go_roundw
          case rel=>exact⟨k+1,by omega,by go_num,HB1.out.trans HF5.out,HN.out⟩
          case measure=>simp[intOf];omega
        · have HN:=hdq (show F=(v1,v2)from by rw[HST.out,if_neg hv0])
          have e1:(v2 != 0)=true:=by simpa using hv0
          clear HST hv0
          go_wp2_with fail
          go_ret2
          exact⟨by rw[HN.out];rfl,HB.out.trans HF5.out⟩
    · have HN:=hdq (show F=(0,0)from by rw[hall.out,Exs.drop_nil (by rw[←HM.out];omega)];rfl)
      have hlt':¬(k:Int) < (m:Int):=by omega
      have HB:=hdq hb
      clear hall hb
      go_wp2_with fail
      go_ret2
      exact⟨by rw[HN.out];rfl,HB.out⟩
theorem rxi_all (ws:Wl) (An Ak Am:Option Addr) (cn ck cm:Nat):∀xs:Exs,RxI ws An Ak Am cn ck cm xs
  | .nil =>fun i _ _ _ _ _ _ hd=>by cases i<;>simp[Exs.drop]at hd
  | .cons k nm n args at_ r=>fun i _ _ _ _ _ _ hd=>by
    cases i with
    |zero=>
      simp only[Exs.drop]at hd
      injection hd with e0 e1 e2 e3 e4 e5
      subst e0 e1 e2 e3 e4 e5
      exact rx_one ws An Ak Am cn ck cm args (rxi_all ws An Ak Am cn ck cm args)
    |succ i=>
      simp only[Exs.drop]at hd
      exact rxi_all ws An Ak Am cn ck cm r i _ _ _ _ _ _ hd
theorem rexprs_any (ws:Wl) (An Ak Am:Option Addr) (cn ck cm:Nat) (xs:Exs):RxC ws An Ak Am cn ck cm xs:=rx_one ws An Ak Am cn ck cm xs (rxi_all ws An Ak Am cn ck cm xs)

def cdsI (ws:Wl):Cds→Int×Int
  | .nil =>(0,0)
  | .cons _ args of_ _ r=>if(exsI ws args).2 =0 then(if(cdsI ws of_).2 =0 then cdsI ws r else cdsI ws of_)else exsI ws args
theorem cdsI_step {ws:Wl} {xs:Cds} {i:Nat} {a0 a1 a2 a3 ar} (hd:Cds.drop i xs= .cons a0 a1 a2 a3 ar):cdsI ws (Cds.drop i xs)=if(exsI ws a1).2 =0 then(if(cdsI ws a2).2 =0 then cdsI ws (Cds.drop (i+1) xs)else cdsI ws a2)else exsI ws a1:=by
  rw[Cds.drop_succ i xs hd,hd];rfl
def RcC (ws:Wl) (An Ak Am:Option Addr) (cn ck cm:Nat) (xs:Cds):Prop:=∀(W:World) (S:Nat→Prop) (Z:Prop) (A:Option Addr) (c:Nat),WdR W ws An Ak Am cn ck cm→(∀b,S b→b < W.heap.size)→SlR (fun b o=>CdR W S Z xs b o) xs.len 64 A c→
  Calls Tryz.prog 157 #[wdV ws An Ak Am cn ck cm,.slice A xs.len c] W (AtE (cdsI ws xs) W)
def RcI (ws:Wl) (An Ak Am:Option Addr) (cn ck cm:Nat) (xs:Cds):Prop:=∀(i:Nat) (a0:Int) (a1:Exs) (a2:Cds) (a3:Int) (ar:Cds),Cds.drop i xs= .cons a0 a1 a2 a3 ar→RcC ws An Ak Am cn ck cm a2
theorem rc_one (ws:Wl) (An Ak Am:Option Addr) (cn ck cm:Nat) (xs:Cds) (hall0:RcI ws An Ak Am cn ck cm xs):RcC ws An Ak Am cn ck cm xs:=by
  intro w S Z A c hw hS hx
  have hl:xs.len≤9223372036854775807:=leq9 hx.1 hx.2.1.1
  have HA:=hdq hall0
  have HX:=hdq hx
  have HS:=hdq hS
  have HW:=hdq hw
  obtain⟨m,hm⟩:=nmq xs.len
  rw[←hm]at hl ⊢
  have HM:=hdq hm
  obtain⟨F,hF⟩:=nmq (cdsI ws xs)
  rw[←hF]
  have HF:=hdq hF
  unfold wdV
  obtain⟨nw,hnw⟩:=nmq ws.length
  rw[←hnw]
  have HNW:=hdq hnw
  obtain⟨w1,hw1⟩:=nmq (w.alloc (.cells #[.slice An nw cn,.slice Ak nw ck,.slice Am nw cm] 164))
  have HK1:=hdq (show Bk w1 w.heap.size 164 #[.slice An nw cn,.slice Ak nw ck,.slice Am nw cm]from by rw[hw1];exact Bk.new _ _ _)
  have HF1:=hdq (show Fr NoT w w1 from by rw[hw1];exact(Fr.refl _ _).alloc _)
  have HW1:=hdq hw1
  clear hall0 hx hS hm hF hw hnw hw1
  go_enter Tryz.func157,Tryz.ntmps157
  go_wp2_with fail
  rw[←HW1.out]
  go_loopw [6] (fun i wr=>∃k:Nat,k≤m∧i= .int .i64 k∧Hid (Fr NoT w1 wr)∧Hid (F=cdsI ws (Cds.drop k xs))) (fun i _=>m - (intOf i).toNat)
  case atStart=>exact⟨0,Nat.zero_le _,rfl,Fr.refl _ _,HF.out⟩
  case round=>
    clear HF
    obtain⟨k,hk,rfl,hb1,hall⟩:=hrel
    have hkk:=HK1.out.fr0 hb1.out
    have x0:=hkk.cell 0
    have x1:=hkk.cell 1
    have x2:=hkk.cell 2
    have hl1:=hkk.lt
    simp only[getsL]at x0 x1 x2
    have hb:Fr NoT w wr:=HF1.out.trans hb1.out
    have HB1:=hdq hb1.out
    clear hkk hb1
    by_cases hlt:k < m
    · obtain⟨a0,a1,a2,a3,ar,hd⟩:=Cds.drop_cons (show k < xs.len from by rw[←HM.out];exact hlt)
      obtain⟨b,o,rfl,hat⟩:=HX.out.2.2 (by rw[←HM.out];omega)
      have hat1:=(CdR.keep (hb.same fun b hb=>⟨HS.out b hb,id⟩) hat).drop k
      rw[hd]at hat1
      obtain⟨⟨hbS,_,r0,r1,c0,c3⟩,⟨A1,q1,c1,s1⟩,⟨A2,q2,c2,s2⟩,_⟩:=hat1
      have hxr:b < wr.heap.size:=ltq (HS.out _ hbS) hb.size
      have hlt':(k:Int) < (m:Int):=by omega
      have hge:(0:Int)≤(k:Int):=by omega
      have hSr:∀b,S b→b < wr.heap.size:=fun b h=>ltq (HS.out b h) hb.size
      have hc1:=fun(W:World) (hf:Fr NoT wr W)=>rexprs_any ws An Ak Am cn ck cm a1 W S Z A1 q1 (HW.out.keep (hb.trans hf)) (fun b h=>ltq (hSr b h) hf.size) (s1.imp fun _ _ hx=>ExR.keep (hf.same fun b hb=>⟨hSr b hb,id⟩) hx)
      have hc2:=fun(W:World) (hf:Fr NoT wr W)=>HA.out k a0 a1 a2 a3 ar hd W S Z A2 q2 (HW.out.keep (hb.trans hf)) (fun b h=>ltq (hSr b h) hf.size) (s2.imp fun _ _ hx=>CdR.keep (hf.same fun b hb=>⟨hSr b hb,id⟩) hx)
      have hst:=hall.out.trans (cdsI_step hd)
      obtain⟨⟨u1,u2⟩,hu⟩:=nmq (exsI ws a1)
      obtain⟨⟨v1,v2⟩,hv⟩:=nmq (cdsI ws a2)
      rw[←hu]at hst hc1
      rw[←hv]at hst hc2
      simp only at hst
      obtain⟨l1,hl1'⟩:=nmq a1.len
      obtain⟨l2,hl2'⟩:=nmq a2.len
      rw[←hl1']at hc1 c1
      rw[←hl2']at hc2 c2
      unfold wdV at hc1 hc2
      rw[←HNW.out]at hc1 hc2
      have H1:=hdq hc1
      have H2:=hdq hc2
      have HST:=hdq hst
      have HB:=hdq hb
      have HC2:=hdq (aiq hxr c2)
      clear hd hat hall hb hbS s1 s2 r0 r1 hc1 hc2 hst hv hu hSr hl1' hl2'
      go_wp2_with fail
      go_region_law
        (go_simp
         go_at_call 156
         with_reducible refine(H1.out _ (by exact(Fr.refl NoT wr).drew)).mono ?_
         rintro _ w5 ⟨rfl,hb⟩
         have HF5:=hdq ((Fr.refl NoT wr).drew.trans hb)
         clear hb
         dsimp only)
      all_goals
        clear x0 x1 x2 hl1 c0 c1 c2 c3 hxr
        have hk5:=HK1.out.fr0 (HB1.out.trans HF5.out)
        have x0:=hk5.cell 0
        have x1:=hk5.cell 1
        have x2:=hk5.cell 2
        have hl1:=hk5.lt
        have c2:=(HF5.out.cell (p:=⟨b,o+k*4+2,none⟩) HC2.out.1 id).trans HC2.out.2
        have hxr:=ltq HC2.out.1 HF5.out.size
        simp only[getsL]at x0 x1 x2
        clear hk5
        by_cases hu0:u2=0
        rotate_left
        · have HN:=hdq (show F=(u1,u2)from by rw[HST.out,if_neg hu0])
          have e1:(u2 != 0)=true:=by simpa using hu0
          clear HST hu0
          go_wp2_with fail
          go_ret2
          exact⟨by rw[HN.out];rfl,HB.out.trans HF5.out⟩
        subst hu0
        have HST2:=hdq (HST.out.trans (if_pos rfl))
        clear HST
        go_wp2_with fail
        go_region_law
          (go_simp
           go_at_call 157
           with_reducible refine(H2.out _ (by exact HF5.out.drew)).mono ?_
           rintro _ w6 ⟨rfl,hb⟩
           have HF6:=hdq (HF5.out.drew.trans hb)
           clear hb
           dsimp only)
        all_goals
          clear x0 x1 x2 hl1 c2 hxr
          by_cases hv0:v2=0
          · subst hv0
            have HN:=hdq (show F=cdsI ws (Cds.drop (k+1) xs)from by rw[HST2.out,if_pos rfl])
            clear HST2
            go_wp2_with fail
            go_roundw
            case rel=>exact⟨k+1,by omega,by go_num,HB1.out.trans HF6.out,HN.out⟩
            case measure=>simp[intOf];omega
          · have HN:=hdq (show F=(v1,v2)from by rw[HST2.out,if_neg hv0])
            have e1:(v2 != 0)=true:=by simpa using hv0
            clear HST2 hv0
            go_wp2_with fail
            go_ret2
            exact⟨by rw[HN.out];rfl,HB.out.trans HF6.out⟩
    · have HN:=hdq (show F=(0,0)from by rw[hall.out,Cds.drop_nil (by rw[←HM.out];omega)];rfl)
      have hlt':¬(k:Int) < (m:Int):=by omega
      have HB:=hdq hb
      clear hall hb
      go_wp2_with fail
      go_ret2
      exact⟨by rw[HN.out];rfl,HB.out⟩
theorem rci_all (ws:Wl) (An Ak Am:Option Addr) (cn ck cm:Nat):∀xs:Cds,RcI ws An Ak Am cn ck cm xs
  | .nil =>fun i _ _ _ _ _ hd=>by cases i<;>simp[Cds.drop]at hd
  | .cons k args of_ at_ r=>fun i _ _ _ _ _ hd=>by
    cases i with
    |zero=>
      simp only[Cds.drop]at hd
      injection hd with e0 e1 e2 e3 e4
      subst e0 e1 e2 e3 e4
      exact rc_one ws An Ak Am cn ck cm of_ (rci_all ws An Ak Am cn ck cm of_)
    |succ i=>
      simp only[Cds.drop]at hd
      exact rci_all ws An Ak Am cn ck cm r i _ _ _ _ _ hd
theorem rconds_any (ws:Wl) (An Ak Am:Option Addr) (cn ck cm:Nat) (xs:Cds):RcC ws An Ak Am cn ck cm xs:=rc_one ws An Ak Am cn ck cm xs (rci_all ws An Ak Am cn ck cm xs)
end Go.Proofs.YtmopichdofgndaaGreatDoor
