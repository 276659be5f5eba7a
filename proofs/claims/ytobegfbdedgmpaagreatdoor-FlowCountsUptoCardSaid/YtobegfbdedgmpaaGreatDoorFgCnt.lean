/-
  law13: counted. How many statements of a kind there are.
-/
import Derived.Test.YtobegfbdedgmpaaGreatDoorFgCntP
import Derived.Deep.RegionHeld2
set_option linter.unusedVariables false
set_option linter.unusedSimpArgs false
namespace Go.Proofs.YtobegfbdedgmpaaGreatDoor
open Go.RowKit Go.Shelf

theorem cntK_step {kd:Int} {xs:Sts} {i:Nat} {a0 a1 a2 a3 a4 a5 a6 ar} (hd:Sts.drop i xs= .cons a0 a1 a2 a3 a4 a5 a6 ar):
  cntK kd (Sts.drop i xs)=(if a0=kd then 1 else 0)+cntK kd a4+cntK kd a5+cntK kd (Sts.drop (i+1) xs):=by
 rw[Sts.drop_succ i xs hd,hd]
 simp only[cntK]
def CtC (kd:Int) (xs:Sts):Prop:=∀(W:World) (S:Nat→Prop) (Z:Prop) (A:Option Addr) (c:Nat),(∀x,S x→x < W.heap.size)→cntK kd xs≤1099511627776→SlR (fun b o=>StR W S Z xs b o) xs.len 128 A c→
 Calls Tryz.prog 23 #[.slice A xs.len c,.int .u8 kd] W (fun e w'=>e= .returned (.int .i64 (cntK kd xs:Nat))∧Fr NoT W w')
def CtI (kd:Int) (xs:Sts):Prop:=∀(i:Nat) (a0:Int) (a1:ByteArray) (a2:Exs) (a3:Cds) (a4 a5:Sts) (a6:Int) (ar:Sts),Sts.drop i xs= .cons a0 a1 a2 a3 a4 a5 a6 ar→CtC kd a4∧CtC kd a5
set_option maxRecDepth 100000 in
set_option maxHeartbeats 3200000 in
theorem ct_one (kd:Int) (xs:Sts) (hall0:CtI kd xs):CtC kd xs:=by
 intro w S Z A c hS hbig hx
 have hl:xs.len≤9223372036854775807:=Nat.le_trans hx.1 hx.2.1.1
 have HA:=hdq hall0
 have HX:=hdq hx
 have HS:=hdq hS
 obtain⟨m,hm⟩:=nmq xs.len
 rw[←hm]at hl ⊢
 have HM:=hdq hm
 obtain⟨N,hN⟩:=nmq (cntK kd xs)
 rw[←hN]at hbig ⊢
 have HN:=hdq hN
 clear hall0 hx hS hm hN
 go_enter Tryz.func23,Tryz.ntmps23
 go_wp2_with fail
 go_loopw [5,6] (fun n i wr=>∃(k q:Nat),k≤m∧i= .int .i64 k∧n= .int .i64 q∧Hid (N=q+cntK kd (Sts.drop k xs))∧Hid (Fr NoT w wr)) (fun _ i _=>m - (intOf i).toNat)
 case atStart=>exact⟨0,0,Nat.zero_le _,rfl,rfl,hdq (by rw[HN.out];simp[Sts.drop]),hdq (Fr.refl _ _)⟩
 case round=>
  obtain⟨k,q,hk,rfl,rfl,hall,hbw⟩:=hrel
  by_cases hlt:k < m
  ·obtain⟨a0,a1,a2,a3,a4,a5,a6,ar,hd⟩:=Sts.drop_cons (show k < xs.len from by rw[←HM.out];exact hlt)
   obtain⟨B,o,rfl,hat⟩:=HX.out.2.2 (by rw[←HM.out];omega)
   have hat1:=(StR.keep (hbw.out.same fun b hb=>⟨HS.out b hb,id⟩) hat).drop k
   rw[hd]at hat1
   obtain⟨⟨hbS,_,r0,r1,c0,c1,c6⟩,⟨A2,q2,c2,s2⟩,⟨A3,q3,c3,s3⟩,⟨A4,q4,c4,s4⟩,⟨A5,q5,c5,s5⟩,_⟩:=hat1
   have hxr:B < wr.heap.size:=Nat.lt_of_lt_of_le (HS.out _ hbS) hbw.out.size
   have hlt':(k:Int) < (m:Int):=by omega
   have hge:(0:Int)≤(k:Int):=by omega
   obtain⟨hr4,hr5⟩:=HA.out k a0 a1 a2 a3 a4 a5 a6 ar hd
   have hs1:=cntK_step (kd:=kd) hd
   have hall1:=hall.out
   rw[hs1]at hall1
   have H4:=fun(W:World) (h:Fr NoT wr W)=>hr4 W S Z A4 q4 (fun b hb=>Nat.lt_of_lt_of_le (HS.out b hb) (hbw.out.trans h).size) (by omega) (s4.imp fun _ _ hx=>StR.keep (h.same fun b hb=>⟨Nat.lt_of_lt_of_le (HS.out b hb) hbw.out.size,id⟩) hx)
   have H5:=fun(W:World) (h:Fr NoT wr W)=>hr5 W S Z A5 q5 (fun b hb=>Nat.lt_of_lt_of_le (HS.out b hb) (hbw.out.trans h).size) (by omega) (s5.imp fun _ _ hx=>StR.keep (h.same fun b hb=>⟨Nat.lt_of_lt_of_le (HS.out b hb) hbw.out.size,id⟩) hx)
   obtain⟨n4,hn4⟩:=nmq (cntK kd a4)
   obtain⟨n5,hn5⟩:=nmq (cntK kd a5)
   rw[←hn4,←hn5]at hall1
   rw[←hn4]at H4
   rw[←hn5]at H5
   obtain⟨Q,hQ⟩:=nmq (q+(if a0=kd then 1 else 0))
   have hq:Q+n4+n5 < 1099511627777:=by omega
   have hall2:N=Q+n4+n5+cntK kd (Sts.drop (k+1) xs):=by omega
   have HQ:=hdq hQ
   have HA2:=hdq hall2
   have H4:=hdq H4
   have H5:=hdq H5
   have HBW:=hdq hbw.out
   have HXR:=hdq hxr
   have HC:=hdq (And.intro c4 c5)
   clear hQ hd hat hall hall1 hall2 hbw hbS s2 s3 s4 s5 r0 r1 hr4 hr5 hs1 hn4 hn5 c1 c2 c3 c6 hbig
   have hways:(a0=kd∧Q=q+1)∨(a0≠kd∧Q=q):=by
    by_cases he:a0=kd
    ·exact .inl ⟨he,by rw[HQ.out,if_pos he]⟩
    ·exact .inr ⟨he,by rw[HQ.out,if_neg he];rfl⟩
   rcases hways with⟨he,hQ1⟩|⟨he,hQ1⟩
   ·have e9:(a0==kd)=true:=by simpa using he
    go_wp2_with fail
    go_region_held2 (fun W'=>W'.cell? ⟨B,o+k*7+4,none⟩=some (.slice A4 a4.len q4)∧W'.cell? ⟨B,o+k*7+5,none⟩=some (.slice A5 a5.len q5))
     (first
     |(refine⟨?_,?_⟩<;>with_reducible assumption)
     |(with_reducible refine⟨(Fr.cell (T:=NoT) (w:=wr) (Fr.drew (Fr.refl _ _)) hxr id).trans c4,(Fr.cell (T:=NoT) (w:=wr) (Fr.drew (Fr.refl _ _)) hxr id).trans c5⟩))
     (first
     |(go_at_call 23
       with_reducible refine(H4.out _ (by exact(Fr.refl NoT wr).drew)).mono ?_
       rintro _ wa ⟨rfl,hb⟩
       have HFwa:=hdq ((Fr.refl NoT wr).drew.trans hb)
       have c4wa:=(((Fr.refl NoT wr).drew.trans hb).cell (p:=⟨B,o+k*7+4,none⟩) HXR.out id).trans HC.out.1
       have c5wa:=(((Fr.refl NoT wr).drew.trans hb).cell (p:=⟨B,o+k*7+5,none⟩) HXR.out id).trans HC.out.2
       clear hb
       dsimp only)
     |(go_at_call 23
       with_reducible refine(H5.out _ (by exact HFwa.out)).mono ?_
       rintro _ wb ⟨rfl,hb⟩
       have HFwb:=hdq (HFwa.out.trans hb)
       have c4wb:=((HFwa.out.trans hb).cell (p:=⟨B,o+k*7+4,none⟩) HXR.out id).trans HC.out.1
       have c5wb:=((HFwa.out.trans hb).cell (p:=⟨B,o+k*7+5,none⟩) HXR.out id).trans HC.out.2
       clear hb
       dsimp only))
    all_goals
     go_wp2_with fail
     go_roundw
     case rel=>exact⟨k+1,Q+n4+n5,by omega,by go_num,by rw[IntWalk.i64_in ((q:Int)+1+n4) (by omega),IntWalk.i64_in _ (by omega)];congr 1<;>omega,hdq HA2.out,hdq (HBW.out.trans HFwb.out)⟩
     case measure=>simp[intOf];omega
   ·have e9:(a0==kd)=false:=by simpa using he
    subst hQ1
    go_wp2_with fail
    go_region_held2 (fun W'=>W'.cell? ⟨B,o+k*7+4,none⟩=some (.slice A4 a4.len q4)∧W'.cell? ⟨B,o+k*7+5,none⟩=some (.slice A5 a5.len q5))
     (first
     |(refine⟨?_,?_⟩<;>with_reducible assumption)
     |(with_reducible refine⟨(Fr.cell (T:=NoT) (w:=wr) (Fr.drew (Fr.refl _ _)) hxr id).trans c4,(Fr.cell (T:=NoT) (w:=wr) (Fr.drew (Fr.refl _ _)) hxr id).trans c5⟩))
     (first
     |(go_at_call 23
       with_reducible refine(H4.out _ (by exact(Fr.refl NoT wr).drew)).mono ?_
       rintro _ wa ⟨rfl,hb⟩
       have HFwa:=hdq ((Fr.refl NoT wr).drew.trans hb)
       have c4wa:=(((Fr.refl NoT wr).drew.trans hb).cell (p:=⟨B,o+k*7+4,none⟩) HXR.out id).trans HC.out.1
       have c5wa:=(((Fr.refl NoT wr).drew.trans hb).cell (p:=⟨B,o+k*7+5,none⟩) HXR.out id).trans HC.out.2
       clear hb
       dsimp only)
     |(go_at_call 23
       with_reducible refine(H5.out _ (by exact HFwa.out)).mono ?_
       rintro _ wb ⟨rfl,hb⟩
       have HFwb:=hdq (HFwa.out.trans hb)
       have c4wb:=((HFwa.out.trans hb).cell (p:=⟨B,o+k*7+4,none⟩) HXR.out id).trans HC.out.1
       have c5wb:=((HFwa.out.trans hb).cell (p:=⟨B,o+k*7+5,none⟩) HXR.out id).trans HC.out.2
       clear hb
       dsimp only))
    all_goals
     go_wp2_with fail
     go_roundw
     case rel=>exact⟨k+1,Q+n4+n5,by omega,by go_num,by rw[IntWalk.i64_in ((Q:Int)+n4) (by omega),IntWalk.i64_in _ (by omega)];congr 1<;>omega,hdq HA2.out,hdq (HBW.out.trans HFwb.out)⟩
     case measure=>simp[intOf];omega
  ·have hlt':¬(k:Int) < (m:Int):=by omega
   have e1:=hdq (show N=q from by rw[hall.out,Sts.drop_nil (by rw[←HM.out];omega)];simp[cntK])
   have HBW:=hdq hbw.out
   clear hall hbig hbw
   go_wp2_with fail
   go_ret
   exact⟨by rw[e1.out];rfl,HBW.out⟩
theorem ct_all (kd:Int):∀xs:Sts,CtI kd xs
 | .nil =>fun i _ _ _ _ _ _ _ _ hd=>by cases i<;>simp[Sts.drop]at hd
 | .cons k0 k1 k2 k3 k4 k5 k6 kr=>fun i _ _ _ _ _ _ _ _ hd=>by
  cases i with
  |zero=>
   simp only[Sts.drop]at hd
   injection hd with e0 e1 e2 e3 e4 e5 e6 e7
   subst e0 e1 e2 e3 e4 e5 e6 e7
   exact⟨ct_one kd k4 (ct_all kd k4),ct_one kd k5 (ct_all kd k5)⟩
  |succ i=>
   simp only[Sts.drop]at hd
   exact ct_all kd kr i _ _ _ _ _ _ _ _ hd
theorem fcnt_any (kd:Int) (xs:Sts):CtC kd xs:=ct_one kd xs (ct_all kd xs)
end Go.Proofs.YtobegfbdedgmpaaGreatDoor
