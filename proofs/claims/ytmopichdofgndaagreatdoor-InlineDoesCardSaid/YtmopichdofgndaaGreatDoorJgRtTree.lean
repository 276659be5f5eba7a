/-
  ref11.Tree.
-/
import Derived.Test.YtmopichdofgndaaGreatDoorJnRtL
import Derived.Test.YtmopichdofgndaaGreatDoorBaTr
import Derived.Test.YtmopichdofgndaaGreatDoorJnCq
import Derived.Test.YtmopichdofgndaaGreatDoorJgRqSameT
set_option linter.unusedVariables false
set_option linter.unusedSimpArgs false
namespace Go.Proofs.YtmopichdofgndaaGreatDoor
open Go.RowKit Go.Shelf

set_option maxRecDepth 100000 in
set_option maxHeartbeats 3200000 in
theorem rtree_any (t:Tre) (w:World) (S:Nat→Prop) (Z:Prop) (Av Aa Ap Am:Option Addr) (cv ca cp cm:Nat) (hS:∀b,S b→b < w.heap.size) (hsz:SzT t) (hx:TrR w S Z t Av Aa Ap Am cv ca cp cm):
  Calls Tryz.prog 31 #[trV t Av Aa Ap Am cv ca cp cm] w (AtE (treeC t) w):=by
 rw[treeC_is]
 obtain⟨Q,hQ⟩:=nmq (rtI (okTr t) (fewT t) t)
 rw[←hQ]
 have hf1:Fr NoT w (w.alloc (.cells #[.slice Av t.vars.length cv,.slice Aa t.arrays.length ca,.slice Ap t.procs.length cp,.slice Am t.main.len cm] 27)):=(Fr.refl _ _).alloc _
 have hX:=fun(W:World) (hf:Fr NoT w W)=>hx.keep (hf.same fun b hb=>⟨hS b hb,id⟩)
 have hSW:=fun(W:World) (hf:Fr NoT w W) b (hb:S b)=>ltq (hS b hb) hf.size
 have h1:=rmay_any t _ S Z Av Aa Ap Am cv ca cp cm (hSW _ hf1) hsz (hX _ hf1)
 have h2:=fun(hf:fewT t=true) (W:World) (h:Fr NoT w W)=>rdeclared_any t W S Z Av Aa Ap Am cv ca cp cm (hSW _ h) (hX _ h) (by have:=fewT_few hf;omega)
 have h3:=fun(hf:fewT t=true) (W:World) (h:Fr NoT w W) (An Ak Am':Option Addr) (cn ck cm':Nat) (hw:WdR W (rdT t).1 An Ak Am' cn ck cm')=>rprocs_any t (rdT t).1 W S Z Av Aa Ap Am An Ak Am' cv ca cp cm cn ck cm' (hSW _ h) (hX _ h) hw (by have:=fewT_few hf;have:=rdT_len t;omega)
 have h4:=fun(W:World) (h:Fr NoT w W) (An Ak Am':Option Addr) (cn ck cm':Nat) (hw:WdR W (rdT t).1 An Ak Am' cn ck cm')=>rstmts_any (rdT t).1 An Ak Am' cn ck cm' t.main W S Z Am cm hw (hSW _ h) ((hX _ h).main)
 have l1:t.vars.length≤9223372036854775807:=leq9 hx.vars.1 hx.vars.2.1.1
 have l2:t.arrays.length≤9223372036854775807:=leq9 hx.arrays.1 hx.arrays.2.1.1
 have l3:t.procs.length≤9223372036854775807:=leq9 hx.procs.1 hx.procs.2.1.1
 unfold rtI at hQ
 have hfw:fewT t=(decide ((t.vars.length:Int)≤12)&&decide ((t.arrays.length:Int)≤4)&&decide ((t.procs.length:Int)≤8)):=rfl
 obtain⟨R,hR⟩:=nmq (rdT t)
 rw[←hR]at hQ h2 h3 h4
 obtain⟨P,hP⟩:=nmq (rpP ((t.vars.length:Int)+t.arrays.length) R.1 t.procs 0)
 rw[←hP]at hQ h3
 obtain⟨M,hM⟩:=nmq (stsI R.1 t.main)
 rw[←hM]at hQ h4
 unfold trV at h1 h2 h3 ⊢
 obtain⟨n1,hn1⟩:=nmq t.vars.length
 obtain⟨n2,hn2⟩:=nmq t.arrays.length
 obtain⟨n3,hn3⟩:=nmq t.procs.length
 obtain⟨n4,hn4⟩:=nmq t.main.len
 rw[←hn1]at l1 hfw
 rw[←hn2]at l2 hfw
 rw[←hn3]at l3 hfw
 rw[←hn1,←hn2,←hn3,←hn4]at h1 h2 h3 hf1 ⊢
 rw[←hn4]at h4
 have HK1:=hdq (Bk.new w 27 #[.slice Av n1 cv,.slice Aa n2 ca,.slice Ap n3 cp,.slice Am n4 cm])
 have H1:=hdq h1
 have H2:=hdq h2
 have H3:=hdq h3
 have H4:=hdq h4
 have HF1:=hdq hf1
 have HQ:=hdq hQ
 have HFW:=hdq hfw
 obtain⟨ok,hok⟩:=nmq (okTr t)
 rw[←hok]at H1 HQ
 obtain⟨few,hfew⟩:=nmq (fewT t)
 rw[←hfew]at H2 H3 HQ HFW
 clear hX hSW h1 h2 h3 h4 hx hsz hS hf1 hQ hfw hn1 hn2 hn3 hn4 hok hfew hR hP hM
 go_enter Tryz.func31,Tryz.ntmps31
 go_wp2_with fail
 refine H1.out.mono ?_
 rintro _ w2 ⟨rfl,hf⟩
 have HF2:=hdq (HF1.out.trans hf)
 have HK2:=hdq (HK1.out.fr0 hf)
 obtain⟨x0,x1,x2,x3,hl1⟩:=bk4 (HK1.out.fr0 hf)
 clear hf
 cases ok
 ·have HN:=hdq (show Q=(0,8)from HQ.out)
  go_wp2_with fail
  go_ret2
  exact⟨by rw[HN.out];rfl,HF2.out⟩
 have HQ2:=hdq (show Q=if few=true then(if R.2.2=0 then if P.2=0 then M else P else R.2)else(0,4)from HQ.out)
 clear HQ
 cases few
 ·have HN:=hdq (show Q=(0,4)from HQ2.out)
  have hfw:=HFW.out
  have hcase2:(decide ((12:Int) < n1)=true)∨(decide ((12:Int) < n1)=false∧decide ((4:Int) < n2)=true)∨(decide ((12:Int) < n1)=false∧decide ((4:Int) < n2)=false∧decide ((8:Int) < n3)=true):=by
   have hfw:=hfw.symm
   simp only[Bool.and_eq_false_iff,decide_eq_false_iff_not,decide_eq_true_eq]at hfw ⊢
   omega
  clear hfw HQ2
  rcases hcase2 with e1|⟨e1,e2⟩|⟨e1,e2,e3⟩
  all_goals
   go_wp2_with fail
   go_ret2
   exact⟨by rw[HN.out];rfl,HF2.out⟩
 have hall:decide ((12:Int) < n1)=false∧decide ((4:Int) < n2)=false∧decide ((8:Int) < n3)=false:=by
  have hfw:=HFW.out.symm
  simp only[Bool.and_eq_true,decide_eq_false_iff_not,decide_eq_true_eq]at hfw ⊢
  omega
 obtain⟨e1,e2,e3⟩:=hall
 have HQ:=hdq (show Q=if R.2.2=0 then if P.2=0 then M else P else R.2 from HQ2.out)
 clear HQ2
 go_wp2_with fail
 refine(H2.out trivial _ HF2.out).mono ?_
 rintro _ w3 ⟨An,Ak,Am',cn,ck,cm',rfl,hwd,hf⟩
 have HF3:=hdq (HF2.out.trans hf)
 have HWD:=hdq hwd
 have HK3:=hdq (HK2.out.fr0 hf)
 obtain⟨ws,z1,z2⟩:=R
 simp only at HQ H3 H4 HWD
 unfold wdV at H3 H4 ⊢
 obtain⟨m,hm⟩:=nmq ws.length
 rw[←hm]at H3 H4 ⊢
 clear x0 x1 x2 x3 hl1 hf hwd hm e1 e2 e3
 obtain⟨w4,hw4⟩:=nmq (w3.alloc (.cells #[.slice An m cn,.slice Ak m ck,.slice Am' m cm'] 164))
 have hk5:Bk w4 w3.heap.size 164 #[.slice An m cn,.slice Ak m ck,.slice Am' m cm']:=by rw[hw4];exact Bk.new _ _ _
 have hf4:Fr NoT w3 w4:=by rw[hw4];exact(Fr.refl _ _).alloc _
 have HF4:=hdq (HF3.out.trans hf4)
 have HW4':=hdq (HWD.out.keep hf4)
 have HK5:=hdq hk5
 have HK4:=hdq (HK3.out.fr0 hf4)
 have HW4:=hdq hw4
 obtain⟨x0,x1,x2,x3,hl1⟩:=bk4 HK3.out
 clear hk5 hf4 hw4
 by_cases hz:z2=0
 rotate_left
 ·have HN:=hdq (show Q=(z1,z2)from by rw[HQ.out,if_neg hz])
  have e1:(z2 != 0)=true:=by simpa using hz
  clear HQ hz
  go_wp2_with fail
  go_ret2
  exact⟨by rw[HN.out];rfl,by rw[←HW4.out];exact HF4.out⟩
 have HQ2:=hdq (show Q=if P.2=0 then M else P from by rw[HQ.out,if_pos hz])
 have e1:(z2 != 0)=false:=by simpa using hz
 subst hz
 have H5:=hdq (H3.out trivial _ HF4.out An Ak Am' cn ck cm' HW4'.out)
 clear HQ H3
 go_wp2_with fail
 rw[←HW4.out]
 refine H5.out.mono ?_
 rintro _ w5 ⟨rfl,hf⟩
 obtain⟨p1,p2⟩:=P
 have HF5:=hdq (HF4.out.trans hf)
 have hk5:=HK5.out.fr0 hf
 clear x0 x1 x2 x3 hl1
 obtain⟨x0,x1,x2,x3,hl1⟩:=bk4 (HK4.out.fr0 hf)
 have y0:=hk5.cell 0
 have y1:=hk5.cell 1
 have y2:=hk5.cell 2
 have hl2:=hk5.lt
 simp only[getsL]at y0 y1 y2
 have H6:=hdq (H4.out _ HF5.out An Ak Am' cn ck cm' (HW4'.out.keep hf))
 clear hf hk5
 by_cases hz:p2=0
 rotate_left
 ·have HN:=hdq (show Q=(p1,p2)from by rw[HQ2.out,if_neg hz])
  have e1:(p2 != 0)=true:=by simpa using hz
  clear HQ2 hz
  go_wp2_with fail
  go_ret2
  exact⟨by rw[HN.out];rfl,HF5.out⟩
 have HN:=hdq (show Q=M from by rw[HQ2.out,if_pos hz])
 have e1:(p2 != 0)=false:=by simpa using hz
 subst hz
 clear HQ2
 go_wp2_with fail
 refine H6.out.mono ?_
 rintro _ w6 ⟨rfl,hf⟩
 obtain⟨m1,m2⟩:=M
 go_wp2_with fail
 go_ret2
 exact⟨by rw[HN.out];rfl,HF5.out.trans hf⟩

def TruePost (W:World) (e:Ending) (w':World):Prop:=e= .returned (.bool true)∧Below W.heap.size W w'
theorem bareX_bare:∀xs:Exs,xs.bare.bare=xs.bare
 | .nil =>rfl
 | .cons _ _ _ args _ r=>by simp only[Exs.bare,bareX_bare args,bareX_bare r]
theorem bareC_bare:∀xs:Cds,xs.bare.bare=xs.bare
 | .nil =>rfl
 | .cons _ args of_ _ r=>by simp only[Cds.bare,bareX_bare args,bareC_bare of_,bareC_bare r]
theorem bareS_bare:∀xs:Sts,xs.bare.bare=xs.bare
 | .nil =>rfl
 | .cons _ _ args cond body els _ r=>by simp only[Sts.bare,bareX_bare args,bareC_bare cond,bareS_bare body,bareS_bare els,bareS_bare r]
theorem bareT_bare (t:Tre):t.bare.bare=t.bare:=by
 simp only[Tre.bare,List.map_map,bareS_bare]
 congr 1
 ·refine List.map_congr_left fun x _=>?_
  simp only[Function.comp,Prc.bare,List.map_map,bareS_bare]
  congr 1
end Go.Proofs.YtmopichdofgndaaGreatDoor

