/-
  facetroomref13.MayExpr: which expressions may be in a graph.
-/
import Derived.Test.YtphlnpaikpjakaaJnCk3
set_option linter.unusedVariables false
set_option linter.unusedSimpArgs false
set_option maxHeartbeats 1600000
set_option maxRecDepth 100000
namespace Go.Proofs.Ytphlnpaikpjakaa
open Go.RowKit Go.Shelf

def RMay (vars:Int) (Aa:Option Addr) (na ca:Nat) (nodes start last:Int) (Ae:Option Addr) (ne ce B:Nat) (xs:Exs):Prop:=
 ∀(i:Nat) (k:Int) (nm:ByteArray) (n:Int) (args:Exs) (at_:Int) (rest:Exs),Exs.drop i xs= .cons k nm n args at_ rest→in8 k→
  ∀(W:World) (A:Option Addr) (c:Nat),B≤W.heap.size→ExSl W B args A c→
   Calls Try.prog 66 #[.agg #[.int .i64 vars,.slice Aa na ca,.int .i64 nodes,.int .i64 start,.int .i64 last,.slice Ae ne ce],.agg #[.int .u8 k,.string nm,.int .i64 n,.slice A args.len c,.int .i64 at_]] W (BoolPost (mayK vars na k n args.len&&mayX vars na args) W)
theorem mayX_drop {vars arrs:Int} {xs:Exs} {i:Nat} {k:Int} {nm:ByteArray} {n:Int} {args:Exs} {at_:Int} {rest:Exs} (hd:Exs.drop i xs= .cons k nm n args at_ rest) (hb:(mayK vars arrs k n args.len&&mayX vars arrs args)=true)
  (h:mayX vars arrs xs=mayX vars arrs (Exs.drop i xs)):mayX vars arrs xs=mayX vars arrs (Exs.drop (i+1) xs):=by
 rw[h,Exs.drop_succ i xs hd,hd]
 simp only[mayX,hb,Bool.true_and]
theorem mayX_no {vars arrs:Int} {xs:Exs} {i:Nat} {k:Int} {nm:ByteArray} {n:Int} {args:Exs} {at_:Int} {rest:Exs} (hd:Exs.drop i xs= .cons k nm n args at_ rest) (hb:(mayK vars arrs k n args.len&&mayX vars arrs args)=false)
  (h:mayX vars arrs xs=mayX vars arrs (Exs.drop i xs)):mayX vars arrs xs=false:=by
 rw[h,hd]
 simp only[mayX,hb,Bool.false_and]

theorem rmay_k2 (vars:Int) (na:Nat) (nm:ByteArray) (n:Int) (args:Exs) (at_:Int) (A Aa:Option Addr) (c ca:Nat) (nodes start last:Int) (Ae:Option Addr) (ne ce B:Nat) (w:World) (hB:B≤w.heap.size) (hx:ExSl w B args A c) (hna:na≤9223372036854775807)
  (hall:RMay vars Aa na ca nodes start last Ae ne ce B args):
  Calls Try.prog 66 #[grV vars Aa na ca nodes start last Ae ne ce,exV 2 nm n A args.len c at_] w (BoolPost (mayK vars na 2 n args.len&&mayX vars na args) w):=by
 have hl:args.len≤9223372036854775807:=leq9 hx.1 hx.2.1
 obtain⟨l,hll⟩:=nmq args.len
 have HL:=hdq hll
 have HX:=hdq hx
 have HXX:=hdq hall
 rw[←hll]at hl ⊢
 clear hll hx hall
 unfold grV exV
 have hbb:∀c0 c1:Array Value,Below w.heap.size w ((w.alloc (.cells c0 25)).alloc (.cells c1 63)):=fun _ _=>((Below.refl _ _).alloc (lrq _) _).alloc (by simp) _
 have HBB:=hdq hbb
 clear hbb
 by_cases hn0:n < 0
 ·have HF:=hdq (show(mayK vars na 2 n l&&mayX vars na args)=false from by simp[mayK,rightN,show ¬0≤n from by omega])
  go_enter Try.func66,Try.ntmps66
  go_wp2_with fail
  all_goals
   go_ret
   exact⟨by rw[HF.out];rfl,HBB.out _ _⟩
 by_cases hn1:vars≤n
 ·have HF:=hdq (show(mayK vars na 2 n l&&mayX vars na args)=false from by simp[mayK,rightN,show ¬n < vars from by omega])
  go_enter Try.func66,Try.ntmps66
  go_wp2_with fail
  all_goals
   go_ret
   exact⟨by rw[HF.out];rfl,HBB.out _ _⟩
 by_cases hl0:l=0
 ·subst hl0
  have HMK:=hdq (show mayK vars na 2 n 0=true from by simp[mayK,rightN,argc,show 0≤n from by omega,show n < vars from by omega])
  go_enter Try.func66,Try.ntmps66
  go_wp2_with fail
  go_loopw [6] (fun i wr=>∃j:Nat,j≤0∧i= .int .i64 j∧Hid (Below w.heap.size w wr∧Below (w.heap.size+2) ((w.alloc (.cells #[.int .i64 vars,.slice Aa na ca,.int .i64 nodes,.int .i64 start,.int .i64 last,.slice Ae ne ce] 25)).alloc (.cells #[.int .u8 2,.string nm,.int .i64 n,.slice A 0 c,.int .i64 at_] 63)) wr)∧Hid (mayX vars na args=mayX vars na (Exs.drop j args))) (fun i _=>0 - (intOf i).toNat)
  case atStart=>exact⟨0,Nat.zero_le _,rfl,⟨HBB.out _ _,by have:=Below.refl ((w.alloc (.cells #[.int .i64 vars,.slice Aa na ca,.int .i64 nodes,.int .i64 start,.int .i64 last,.slice Ae ne ce] 25)).alloc (.cells #[.int .u8 2,.string nm,.int .i64 n,.slice A 0 c,.int .i64 at_] 63)).heap.size ((w.alloc (.cells #[.int .i64 vars,.slice Aa na ca,.int .i64 nodes,.int .i64 start,.int .i64 last,.slice Ae ne ce] 25)).alloc (.cells #[.int .u8 2,.string nm,.int .i64 n,.slice A 0 c,.int .i64 at_] 63));exact this.mono (by simp)⟩,rfl⟩
  case round=>
   obtain⟨j,hj,rfl,hbs,hmx⟩:=hrel
   obtain⟨hb1,hb2⟩:=hbs.out
   have g0:=(hb2.cell (p:=⟨w.heap.size,0,none⟩) (by simp)).trans (cells2 w _ _ _ _ 0).1
   have g1:=(hb2.cell (p:=⟨w.heap.size,1,none⟩) (by simp)).trans (cells2 w _ _ _ _ 1).1
   have g2:=(hb2.cell (p:=⟨w.heap.size,2,none⟩) (by simp)).trans (cells2 w _ _ _ _ 2).1
   have g3:=(hb2.cell (p:=⟨w.heap.size,3,none⟩) (by simp)).trans (cells2 w _ _ _ _ 3).1
   have g4:=(hb2.cell (p:=⟨w.heap.size,4,none⟩) (by simp)).trans (cells2 w _ _ _ _ 4).1
   have g5:=(hb2.cell (p:=⟨w.heap.size,5,none⟩) (by simp)).trans (cells2 w _ _ _ _ 5).1
   have x3:=(hb2.cell (p:=⟨w.heap.size+1,3,none⟩) (by simp)).trans (cells2 w _ _ _ _ 3).2
   simp only[List.getElem?_toArray,List.getElem?_cons_succ,List.getElem?_cons_zero]at g0 g1 g2 g3 g4 g5 x3
   by_cases hlt:j < 0
   ·exact absurd hlt (Nat.not_lt_zero _)
   ·have HF:=hdq (show mayX vars na args=true from by rw[hmx.out,Exs.drop_nil (by rw[←HL.out];omega)];rfl)
    have HN:=hdq hb1
    clear hmx hb1 hb2
    go_wp2_with fail
    go_ret
    exact⟨by rw[HMK.out,HF.out];rfl,HN.out⟩
 ·have HF:=hdq (show(mayK vars na 2 n l&&mayX vars na args)=false from by simp[mayK,rightN,argc];omega)
  have hl1:((l:Int)==0)=false:=by simp;omega
  go_enter Try.func66,Try.ntmps66
  go_wp2_with fail
  all_goals
   go_ret
   exact⟨by rw[HF.out];rfl,HBB.out _ _⟩

theorem rmay_k3 (vars:Int) (na:Nat) (nm:ByteArray) (n:Int) (args:Exs) (at_:Int) (A Aa:Option Addr) (c ca:Nat) (nodes start last:Int) (Ae:Option Addr) (ne ce B:Nat) (w:World) (hB:B≤w.heap.size) (hx:ExSl w B args A c) (hna:na≤9223372036854775807)
  (hall:RMay vars Aa na ca nodes start last Ae ne ce B args):
  Calls Try.prog 66 #[grV vars Aa na ca nodes start last Ae ne ce,exV 3 nm n A args.len c at_] w (BoolPost (mayK vars na 3 n args.len&&mayX vars na args) w):=by
 have hl:args.len≤9223372036854775807:=leq9 hx.1 hx.2.1
 obtain⟨l,hll⟩:=nmq args.len
 have HL:=hdq hll
 have HX:=hdq hx
 have HXX:=hdq hall
 rw[←hll]at hl ⊢
 clear hll hx hall
 unfold grV exV
 have hbb:∀c0 c1:Array Value,Below w.heap.size w ((w.alloc (.cells c0 25)).alloc (.cells c1 63)):=fun _ _=>((Below.refl _ _).alloc (lrq _) _).alloc (by simp) _
 have HBB:=hdq hbb
 clear hbb
 by_cases hn0:n < 0
 ·have HF:=hdq (show(mayK vars na 3 n l&&mayX vars na args)=false from by simp[mayK,rightN,show ¬0≤n from by omega])
  go_enter Try.func66,Try.ntmps66
  go_wp2_with fail
  all_goals
   go_ret
   exact⟨by rw[HF.out];rfl,HBB.out _ _⟩
 by_cases hn1:(na:Int)≤n
 ·have HF:=hdq (show(mayK vars na 3 n l&&mayX vars na args)=false from by simp[mayK,rightN,show ¬n < (na:Int)from by omega])
  go_enter Try.func66,Try.ntmps66
  go_wp2_with fail
  all_goals
   go_ret
   exact⟨by rw[HF.out];rfl,HBB.out _ _⟩
 by_cases hl0:l=1
 ·subst hl0
  have HMK:=hdq (show mayK vars na 3 n 1=true from by simp[mayK,rightN,argc,show 0≤n from by omega,show n < (na:Int)from by omega])
  go_enter Try.func66,Try.ntmps66
  go_wp2_with fail
  go_loopw [6] (fun i wr=>∃j:Nat,j≤1∧i= .int .i64 j∧Hid (Below w.heap.size w wr∧Below (w.heap.size+2) ((w.alloc (.cells #[.int .i64 vars,.slice Aa na ca,.int .i64 nodes,.int .i64 start,.int .i64 last,.slice Ae ne ce] 25)).alloc (.cells #[.int .u8 3,.string nm,.int .i64 n,.slice A 1 c,.int .i64 at_] 63)) wr)∧Hid (mayX vars na args=mayX vars na (Exs.drop j args))) (fun i _=>1 - (intOf i).toNat)
  case atStart=>exact⟨0,Nat.zero_le _,rfl,⟨HBB.out _ _,by have:=Below.refl ((w.alloc (.cells #[.int .i64 vars,.slice Aa na ca,.int .i64 nodes,.int .i64 start,.int .i64 last,.slice Ae ne ce] 25)).alloc (.cells #[.int .u8 3,.string nm,.int .i64 n,.slice A 1 c,.int .i64 at_] 63)).heap.size ((w.alloc (.cells #[.int .i64 vars,.slice Aa na ca,.int .i64 nodes,.int .i64 start,.int .i64 last,.slice Ae ne ce] 25)).alloc (.cells #[.int .u8 3,.string nm,.int .i64 n,.slice A 1 c,.int .i64 at_] 63));exact this.mono (by simp)⟩,rfl⟩
  case round=>
   obtain⟨j,hj,rfl,hbs,hmx⟩:=hrel
   obtain⟨hb1,hb2⟩:=hbs.out
   have g0:=(hb2.cell (p:=⟨w.heap.size,0,none⟩) (by simp)).trans (cells2 w _ _ _ _ 0).1
   have g1:=(hb2.cell (p:=⟨w.heap.size,1,none⟩) (by simp)).trans (cells2 w _ _ _ _ 1).1
   have g2:=(hb2.cell (p:=⟨w.heap.size,2,none⟩) (by simp)).trans (cells2 w _ _ _ _ 2).1
   have g3:=(hb2.cell (p:=⟨w.heap.size,3,none⟩) (by simp)).trans (cells2 w _ _ _ _ 3).1
   have g4:=(hb2.cell (p:=⟨w.heap.size,4,none⟩) (by simp)).trans (cells2 w _ _ _ _ 4).1
   have g5:=(hb2.cell (p:=⟨w.heap.size,5,none⟩) (by simp)).trans (cells2 w _ _ _ _ 5).1
   have x3:=(hb2.cell (p:=⟨w.heap.size+1,3,none⟩) (by simp)).trans (cells2 w _ _ _ _ 3).2
   simp only[List.getElem?_toArray,List.getElem?_cons_succ,List.getElem?_cons_zero]at g0 g1 g2 g3 g4 g5 x3
   by_cases hlt:j < 1
   ·obtain⟨a0,a1,a2,a3,a4,a5,hd⟩:=Exs.drop_cons (show j < args.len from by rw[←HL.out];exact hlt)
    obtain⟨b,o,rfl,hat⟩:=HX.out.2.2 (by rw[←HL.out];omega)
    obtain⟨hbB,c0,c1,c2,⟨A',c',c3,hsl⟩,c4,r0,r1,r2⟩:=(hat.keep (Same.of hb1 hB)).at_ hd
    have hBr:=leq9 hB hb1.size
    have HC:=hdq (fun W h1 h2=>HXX.out j a0 a1 a2 a3 a4 a5 hd r0 W A' c' h1 h2)
    have HS:=hdq hsl
    have HD:=hdq hd
    have HB1:=hdq hb1
    have HB2:=hdq hb2
    clear hd hsl hat r0 r1 r2 hb1 hb2
    go_wp2_with fail
    refine wp_region_still_tail 6 (by kernel_rfl) (by kernel_rfl) ?_
    simp only[List.take_succ_cons,List.take_zero,List.drop_succ_cons,List.drop_zero]
    repeat still_step
    try refine wpStill_nil ?_
    go_wp2_with fail
    have hbd:Below wr.heap.size wr wr.drew:=(Below.refl _ _).drew
    refine(HC.out wr.drew (leq9 hBr hbd.size) (HS.out.keep (Same.of hbd hBr))).mono ?_
    rintro _ w1 ⟨rfl,hb3⟩
    have hn1:=HB1.out.trans ((hbd.trans hb3).mono HB1.out.size)
    have hsz:w.heap.size+2≤wr.heap.size:=by have:=HB2.out.size;simp at this;omega
    have hn2:=HB2.out.trans ((hbd.trans hb3).mono hsz)
    cases hp:(mayK vars na a0 a2 a3.len&&mayX vars na a3)
    ·have HF:=hdq (mayX_no HD.out hp hmx.out)
     have HN:=hdq hn1
     clear hp hmx HC c0 c1 c2 c3 c4 hb3 hbd hn1 hn2 g0 g1 g2 g3 g4 g5 x3
     go_wp2_with fail
     go_ret
     exact⟨by rw[HF.out];simp,HN.out⟩
    ·have HM:=hdq (mayX_drop HD.out hp hmx.out)
     have HN:=hdq (aiq hn1 hn2)
     clear hp hmx HC c0 c1 c2 c3 c4 hb3 hbd hn1 hn2 g0 g1 g2 g3 g4 g5 x3
     go_wp2_with fail
     go_roundw
     case rel=>exact⟨j+1,by omega,by go_num,HN,HM⟩
     case measure=>simp[intOf];omega
   ·have HF:=hdq (show mayX vars na args=true from by rw[hmx.out,Exs.drop_nil (by rw[←HL.out];omega)];rfl)
    have HN:=hdq hb1
    clear hmx hb1 hb2
    go_wp2_with fail
    go_ret
    exact⟨by rw[HMK.out,HF.out];rfl,HN.out⟩
 ·have HF:=hdq (show(mayK vars na 3 n l&&mayX vars na args)=false from by simp[mayK,rightN,argc];omega)
  have hl1:((l:Int)==1)=false:=by simp;omega
  go_enter Try.func66,Try.ntmps66
  go_wp2_with fail
  all_goals
   go_ret
   exact⟨by rw[HF.out];rfl,HBB.out _ _⟩

theorem rmay_k1 (vars:Int) (na:Nat) (nm:ByteArray) (n:Int) (args:Exs) (at_:Int) (A Aa:Option Addr) (c ca:Nat) (nodes start last:Int) (Ae:Option Addr) (ne ce B:Nat) (w:World) (hB:B≤w.heap.size) (hx:ExSl w B args A c) (hna:na≤9223372036854775807)
  (hall:RMay vars Aa na ca nodes start last Ae ne ce B args):
  Calls Try.prog 66 #[grV vars Aa na ca nodes start last Ae ne ce,exV 1 nm n A args.len c at_] w (BoolPost (mayK vars na 1 n args.len&&mayX vars na args) w):=by
 have hl:args.len≤9223372036854775807:=leq9 hx.1 hx.2.1
 obtain⟨l,hll⟩:=nmq args.len
 have HL:=hdq hll
 have HX:=hdq hx
 have HXX:=hdq hall
 rw[←hll]at hl ⊢
 clear hll hx hall
 unfold grV exV
 have hbb:∀c0 c1:Array Value,Below w.heap.size w ((w.alloc (.cells c0 25)).alloc (.cells c1 63)):=fun _ _=>((Below.refl _ _).alloc (lrq _) _).alloc (by simp) _
 have HBB:=hdq hbb
 clear hbb
 by_cases hn0:n < 0
 ·have HF:=hdq (show(mayK vars na 1 n l&&mayX vars na args)=false from by simp[mayK,rightN,show ¬0≤n from by omega])
  go_enter Try.func66,Try.ntmps66
  go_wp2_with fail
  all_goals
   go_ret
   exact⟨by rw[HF.out];rfl,HBB.out _ _⟩
 by_cases hl0:l=0
 ·subst hl0
  have HMK:=hdq (show mayK vars na 1 n 0=true from by simp[mayK,rightN,argc,show 0≤n from by omega])
  go_enter Try.func66,Try.ntmps66
  go_wp2_with fail
  go_loopw [6] (fun i wr=>∃j:Nat,j≤0∧i= .int .i64 j∧Hid (Below w.heap.size w wr∧Below (w.heap.size+2) ((w.alloc (.cells #[.int .i64 vars,.slice Aa na ca,.int .i64 nodes,.int .i64 start,.int .i64 last,.slice Ae ne ce] 25)).alloc (.cells #[.int .u8 1,.string nm,.int .i64 n,.slice A 0 c,.int .i64 at_] 63)) wr)∧Hid (mayX vars na args=mayX vars na (Exs.drop j args))) (fun i _=>0 - (intOf i).toNat)
  case atStart=>exact⟨0,Nat.zero_le _,rfl,⟨HBB.out _ _,by have:=Below.refl ((w.alloc (.cells #[.int .i64 vars,.slice Aa na ca,.int .i64 nodes,.int .i64 start,.int .i64 last,.slice Ae ne ce] 25)).alloc (.cells #[.int .u8 1,.string nm,.int .i64 n,.slice A 0 c,.int .i64 at_] 63)).heap.size ((w.alloc (.cells #[.int .i64 vars,.slice Aa na ca,.int .i64 nodes,.int .i64 start,.int .i64 last,.slice Ae ne ce] 25)).alloc (.cells #[.int .u8 1,.string nm,.int .i64 n,.slice A 0 c,.int .i64 at_] 63));exact this.mono (by simp)⟩,rfl⟩
  case round=>
   obtain⟨j,hj,rfl,hbs,hmx⟩:=hrel
   obtain⟨hb1,hb2⟩:=hbs.out
   have g0:=(hb2.cell (p:=⟨w.heap.size,0,none⟩) (by simp)).trans (cells2 w _ _ _ _ 0).1
   have g1:=(hb2.cell (p:=⟨w.heap.size,1,none⟩) (by simp)).trans (cells2 w _ _ _ _ 1).1
   have g2:=(hb2.cell (p:=⟨w.heap.size,2,none⟩) (by simp)).trans (cells2 w _ _ _ _ 2).1
   have g3:=(hb2.cell (p:=⟨w.heap.size,3,none⟩) (by simp)).trans (cells2 w _ _ _ _ 3).1
   have g4:=(hb2.cell (p:=⟨w.heap.size,4,none⟩) (by simp)).trans (cells2 w _ _ _ _ 4).1
   have g5:=(hb2.cell (p:=⟨w.heap.size,5,none⟩) (by simp)).trans (cells2 w _ _ _ _ 5).1
   have x3:=(hb2.cell (p:=⟨w.heap.size+1,3,none⟩) (by simp)).trans (cells2 w _ _ _ _ 3).2
   simp only[List.getElem?_toArray,List.getElem?_cons_succ,List.getElem?_cons_zero]at g0 g1 g2 g3 g4 g5 x3
   by_cases hlt:j < 0
   ·exact absurd hlt (Nat.not_lt_zero _)
   ·have HF:=hdq (show mayX vars na args=true from by rw[hmx.out,Exs.drop_nil (by rw[←HL.out];omega)];rfl)
    have HN:=hdq hb1
    clear hmx hb1 hb2
    go_wp2_with fail
    go_ret
    exact⟨by rw[HMK.out,HF.out];rfl,HN.out⟩
 ·have HF:=hdq (show(mayK vars na 1 n l&&mayX vars na args)=false from by simp[mayK,rightN,argc];omega)
  have hl1:((l:Int)==0)=false:=by simp;omega
  go_enter Try.func66,Try.ntmps66
  go_wp2_with fail
  all_goals
   go_ret
   exact⟨by rw[HF.out];rfl,HBB.out _ _⟩

theorem rmay_k4 (vars:Int) (na:Nat) (nm:ByteArray) (n:Int) (args:Exs) (at_:Int) (A Aa:Option Addr) (c ca:Nat) (nodes start last:Int) (Ae:Option Addr) (ne ce B:Nat) (w:World) (hB:B≤w.heap.size) (hx:ExSl w B args A c) (hna:na≤9223372036854775807)
  (hall:RMay vars Aa na ca nodes start last Ae ne ce B args):
  Calls Try.prog 66 #[grV vars Aa na ca nodes start last Ae ne ce,exV 4 nm n A args.len c at_] w (BoolPost (mayK vars na 4 n args.len&&mayX vars na args) w):=by
 have hl:args.len≤9223372036854775807:=leq9 hx.1 hx.2.1
 obtain⟨l,hll⟩:=nmq args.len
 have HL:=hdq hll
 have HX:=hdq hx
 have HXX:=hdq hall
 rw[←hll]at hl ⊢
 clear hll hx hall
 unfold grV exV
 have hbb:∀c0 c1:Array Value,Below w.heap.size w ((w.alloc (.cells c0 25)).alloc (.cells c1 63)):=fun _ _=>((Below.refl _ _).alloc (lrq _) _).alloc (by simp) _
 have HBB:=hdq hbb
 clear hbb
 by_cases hl0:l=1
 ·subst hl0
  by_cases hn0:n=0
  ·subst hn0
   have HMK:=hdq (show mayK vars na 4 0 1=true from by simp[mayK,rightN,argc])
   go_enter Try.func66,Try.ntmps66
   go_wp2_with fail
   go_loopw [6] (fun i wr=>∃j:Nat,j≤1∧i= .int .i64 j∧Hid (Below w.heap.size w wr∧Below (w.heap.size+2) ((w.alloc (.cells #[.int .i64 vars,.slice Aa na ca,.int .i64 nodes,.int .i64 start,.int .i64 last,.slice Ae ne ce] 25)).alloc (.cells #[.int .u8 4,.string nm,.int .i64 0,.slice A 1 c,.int .i64 at_] 63)) wr)∧Hid (mayX vars na args=mayX vars na (Exs.drop j args))) (fun i _=>1 - (intOf i).toNat)
   case atStart=>exact⟨0,Nat.zero_le _,rfl,⟨HBB.out _ _,by have:=Below.refl ((w.alloc (.cells #[.int .i64 vars,.slice Aa na ca,.int .i64 nodes,.int .i64 start,.int .i64 last,.slice Ae ne ce] 25)).alloc (.cells #[.int .u8 4,.string nm,.int .i64 0,.slice A 1 c,.int .i64 at_] 63)).heap.size ((w.alloc (.cells #[.int .i64 vars,.slice Aa na ca,.int .i64 nodes,.int .i64 start,.int .i64 last,.slice Ae ne ce] 25)).alloc (.cells #[.int .u8 4,.string nm,.int .i64 0,.slice A 1 c,.int .i64 at_] 63));exact this.mono (by simp)⟩,rfl⟩
   case round=>
    obtain⟨j,hj,rfl,hbs,hmx⟩:=hrel
    obtain⟨hb1,hb2⟩:=hbs.out
    have g0:=(hb2.cell (p:=⟨w.heap.size,0,none⟩) (by simp)).trans (cells2 w _ _ _ _ 0).1
    have g1:=(hb2.cell (p:=⟨w.heap.size,1,none⟩) (by simp)).trans (cells2 w _ _ _ _ 1).1
    have g2:=(hb2.cell (p:=⟨w.heap.size,2,none⟩) (by simp)).trans (cells2 w _ _ _ _ 2).1
    have g3:=(hb2.cell (p:=⟨w.heap.size,3,none⟩) (by simp)).trans (cells2 w _ _ _ _ 3).1
    have g4:=(hb2.cell (p:=⟨w.heap.size,4,none⟩) (by simp)).trans (cells2 w _ _ _ _ 4).1
    have g5:=(hb2.cell (p:=⟨w.heap.size,5,none⟩) (by simp)).trans (cells2 w _ _ _ _ 5).1
    have x3:=(hb2.cell (p:=⟨w.heap.size+1,3,none⟩) (by simp)).trans (cells2 w _ _ _ _ 3).2
    simp only[List.getElem?_toArray,List.getElem?_cons_succ,List.getElem?_cons_zero]at g0 g1 g2 g3 g4 g5 x3
    by_cases hlt:j < 1
    ·obtain⟨a0,a1,a2,a3,a4,a5,hd⟩:=Exs.drop_cons (show j < args.len from by rw[←HL.out];exact hlt)
     obtain⟨b,o,rfl,hat⟩:=HX.out.2.2 (by rw[←HL.out];omega)
     obtain⟨hbB,c0,c1,c2,⟨A',c',c3,hsl⟩,c4,r0,r1,r2⟩:=(hat.keep (Same.of hb1 hB)).at_ hd
     have hBr:=leq9 hB hb1.size
     have HC:=hdq (fun W h1 h2=>HXX.out j a0 a1 a2 a3 a4 a5 hd r0 W A' c' h1 h2)
     have HS:=hdq hsl
     have HD:=hdq hd
     have HB1:=hdq hb1
     have HB2:=hdq hb2
     clear hd hsl hat r0 r1 r2 hb1 hb2
     go_wp2_with fail
     refine wp_region_still_tail 6 (by kernel_rfl) (by kernel_rfl) ?_
     simp only[List.take_succ_cons,List.take_zero,List.drop_succ_cons,List.drop_zero]
     repeat still_step
     try refine wpStill_nil ?_
     go_wp2_with fail
     have hbd:Below wr.heap.size wr wr.drew:=(Below.refl _ _).drew
     refine(HC.out wr.drew (leq9 hBr hbd.size) (HS.out.keep (Same.of hbd hBr))).mono ?_
     rintro _ w1 ⟨rfl,hb3⟩
     have hn1:=HB1.out.trans ((hbd.trans hb3).mono HB1.out.size)
     have hsz:w.heap.size+2≤wr.heap.size:=by have:=HB2.out.size;simp at this;omega
     have hn2:=HB2.out.trans ((hbd.trans hb3).mono hsz)
     cases hp:(mayK vars na a0 a2 a3.len&&mayX vars na a3)
     ·have HF:=hdq (mayX_no HD.out hp hmx.out)
      have HN:=hdq hn1
      clear hp hmx HC c0 c1 c2 c3 c4 hb3 hbd hn1 hn2 g0 g1 g2 g3 g4 g5 x3
      go_wp2_with fail
      go_ret
      exact⟨by rw[HF.out];simp,HN.out⟩
     ·have HM:=hdq (mayX_drop HD.out hp hmx.out)
      have HN:=hdq (aiq hn1 hn2)
      clear hp hmx HC c0 c1 c2 c3 c4 hb3 hbd hn1 hn2 g0 g1 g2 g3 g4 g5 x3
      go_wp2_with fail
      go_roundw
      case rel=>exact⟨j+1,by omega,by go_num,HN,HM⟩
      case measure=>simp[intOf];omega
    ·have HF:=hdq (show mayX vars na args=true from by rw[hmx.out,Exs.drop_nil (by rw[←HL.out];omega)];rfl)
     have HN:=hdq hb1
     clear hmx hb1 hb2
     go_wp2_with fail
     go_ret
     exact⟨by rw[HMK.out,HF.out];rfl,HN.out⟩
  ·have hn:(n==0)=false:=by simpa using hn0
   have HF:=hdq (show(mayK vars na 4 n 1&&mayX vars na args)=false from by simp[mayK,rightN,argc,hn0])
   clear hn0
   go_enter Try.func66,Try.ntmps66
   go_wp2_with fail
   all_goals
    go_ret
    exact⟨by rw[HF.out];rfl,HBB.out _ _⟩
 ·have HF:=hdq (show(mayK vars na 4 n l&&mayX vars na args)=false from by simp[mayK,rightN,argc];omega)
  have hl1:((l:Int)==1)=false:=by simp;omega
  go_enter Try.func66,Try.ntmps66
  go_wp2_with fail
  all_goals
   go_ret
   exact⟨by rw[HF.out];rfl,HBB.out _ _⟩

theorem rmay_kx (vars:Int) (na:Nat) (k:Int) (nm:ByteArray) (n:Int) (args:Exs) (at_:Int) (A Aa:Option Addr) (c ca:Nat) (nodes start last:Int) (Ae:Option Addr) (ne ce B:Nat) (w:World) (hB:B≤w.heap.size) (hx:ExSl w B args A c) (hna:na≤9223372036854775807) (hk:in8 k) (h1:¬k=1) (h2:¬k=2) (h3:¬k=3) (h4:¬k=4)
  (hall:RMay vars Aa na ca nodes start last Ae ne ce B args):
  Calls Try.prog 66 #[grV vars Aa na ca nodes start last Ae ne ce,exV k nm n A args.len c at_] w (BoolPost (mayK vars na k n args.len&&mayX vars na args) w):=by
 have hl:args.len≤9223372036854775807:=leq9 hx.1 hx.2.1
 obtain⟨l,hll⟩:=nmq args.len
 have HL:=hdq hll
 have HX:=hdq hx
 have HXX:=hdq hall
 rw[←hll]at hl ⊢
 clear hll hx hall
 unfold grV exV
 have hbb:∀c0 c1:Array Value,Below w.heap.size w ((w.alloc (.cells c0 25)).alloc (.cells c1 63)):=fun _ _=>((Below.refl _ _).alloc (lrq _) _).alloc (by simp) _
 have HBB:=hdq hbb
 clear hbb
 have b1:(k==1)=false:=by simpa using h1
 have b2:(k==2)=false:=by simpa using h2
 have b3:(k==3)=false:=by simpa using h3
 have b4:(k==4)=false:=by simpa using h4
 by_cases hr1:k < 1
 ·have HF:=hdq (show(mayK vars na k n l&&mayX vars na args)=false from by simp[mayK,show ¬1≤k from by omega])
  clear h1 h2 h3 h4
  go_enter Try.func66,Try.ntmps66
  go_wp2_with fail
  all_goals
   go_ret
   exact⟨by rw[HF.out];rfl,HBB.out _ _⟩
 by_cases hr2:11 < k
 ·have HF:=hdq (show(mayK vars na k n l&&mayX vars na args)=false from by simp[mayK,show ¬k≤11 from by omega])
  clear h1 h2 h3 h4
  go_enter Try.func66,Try.ntmps66
  go_wp2_with fail
  all_goals
   go_ret
   exact⟨by rw[HF.out];rfl,HBB.out _ _⟩
 have hr3:decide (3 < k)=true:=by unfold in8 at hk;simp;omega
 by_cases hl0:l=2
 ·subst hl0
  by_cases hn0:n=0
  ·subst hn0
   have HMK:=hdq (show mayK vars na k 0 2=true from by simp[mayK,rightN,argc,h1,h2,h3,h4];unfold in8 at hk;omega)
   clear h1 h2 h3 h4
   go_enter Try.func66,Try.ntmps66
   go_wp2_with fail
   go_loopw [6] (fun i wr=>∃j:Nat,j≤2∧i= .int .i64 j∧Hid (Below w.heap.size w wr∧Below (w.heap.size+2) ((w.alloc (.cells #[.int .i64 vars,.slice Aa na ca,.int .i64 nodes,.int .i64 start,.int .i64 last,.slice Ae ne ce] 25)).alloc (.cells #[.int .u8 k,.string nm,.int .i64 0,.slice A 2 c,.int .i64 at_] 63)) wr)∧Hid (mayX vars na args=mayX vars na (Exs.drop j args))) (fun i _=>2 - (intOf i).toNat)
   case atStart=>exact⟨0,Nat.zero_le _,rfl,⟨HBB.out _ _,by have:=Below.refl ((w.alloc (.cells #[.int .i64 vars,.slice Aa na ca,.int .i64 nodes,.int .i64 start,.int .i64 last,.slice Ae ne ce] 25)).alloc (.cells #[.int .u8 k,.string nm,.int .i64 0,.slice A 2 c,.int .i64 at_] 63)).heap.size ((w.alloc (.cells #[.int .i64 vars,.slice Aa na ca,.int .i64 nodes,.int .i64 start,.int .i64 last,.slice Ae ne ce] 25)).alloc (.cells #[.int .u8 k,.string nm,.int .i64 0,.slice A 2 c,.int .i64 at_] 63));exact this.mono (by simp)⟩,rfl⟩
   case round=>
    obtain⟨j,hj,rfl,hbs,hmx⟩:=hrel
    obtain⟨hb1,hb2⟩:=hbs.out
    have g0:=(hb2.cell (p:=⟨w.heap.size,0,none⟩) (by simp)).trans (cells2 w _ _ _ _ 0).1
    have g1:=(hb2.cell (p:=⟨w.heap.size,1,none⟩) (by simp)).trans (cells2 w _ _ _ _ 1).1
    have g2:=(hb2.cell (p:=⟨w.heap.size,2,none⟩) (by simp)).trans (cells2 w _ _ _ _ 2).1
    have g3:=(hb2.cell (p:=⟨w.heap.size,3,none⟩) (by simp)).trans (cells2 w _ _ _ _ 3).1
    have g4:=(hb2.cell (p:=⟨w.heap.size,4,none⟩) (by simp)).trans (cells2 w _ _ _ _ 4).1
    have g5:=(hb2.cell (p:=⟨w.heap.size,5,none⟩) (by simp)).trans (cells2 w _ _ _ _ 5).1
    have x3:=(hb2.cell (p:=⟨w.heap.size+1,3,none⟩) (by simp)).trans (cells2 w _ _ _ _ 3).2
    simp only[List.getElem?_toArray,List.getElem?_cons_succ,List.getElem?_cons_zero]at g0 g1 g2 g3 g4 g5 x3
    by_cases hlt:j < 2
    ·obtain⟨a0,a1,a2,a3,a4,a5,hd⟩:=Exs.drop_cons (show j < args.len from by rw[←HL.out];exact hlt)
     obtain⟨b,o,rfl,hat⟩:=HX.out.2.2 (by rw[←HL.out];omega)
     obtain⟨hbB,c0,c1,c2,⟨A',c',c3,hsl⟩,c4,r0,r1,r2⟩:=(hat.keep (Same.of hb1 hB)).at_ hd
     have hBr:=leq9 hB hb1.size
     have HC:=hdq (fun W h1 h2=>HXX.out j a0 a1 a2 a3 a4 a5 hd r0 W A' c' h1 h2)
     have HS:=hdq hsl
     have HD:=hdq hd
     have HB1:=hdq hb1
     have HB2:=hdq hb2
     clear hd hsl hat r0 r1 r2 hb1 hb2
     go_wp2_with fail
     refine wp_region_still_tail 6 (by kernel_rfl) (by kernel_rfl) ?_
     simp only[List.take_succ_cons,List.take_zero,List.drop_succ_cons,List.drop_zero]
     repeat still_step
     try refine wpStill_nil ?_
     go_wp2_with fail
     have hbd:Below wr.heap.size wr wr.drew:=(Below.refl _ _).drew
     refine(HC.out wr.drew (leq9 hBr hbd.size) (HS.out.keep (Same.of hbd hBr))).mono ?_
     rintro _ w1 ⟨rfl,hb3⟩
     have hn1:=HB1.out.trans ((hbd.trans hb3).mono HB1.out.size)
     have hsz:w.heap.size+2≤wr.heap.size:=by have:=HB2.out.size;simp at this;omega
     have hn2:=HB2.out.trans ((hbd.trans hb3).mono hsz)
     cases hp:(mayK vars na a0 a2 a3.len&&mayX vars na a3)
     ·have HF:=hdq (mayX_no HD.out hp hmx.out)
      have HN:=hdq hn1
      clear hp hmx HC c0 c1 c2 c3 c4 hb3 hbd hn1 hn2 g0 g1 g2 g3 g4 g5 x3
      go_wp2_with fail
      go_ret
      exact⟨by rw[HF.out];simp,HN.out⟩
     ·have HM:=hdq (mayX_drop HD.out hp hmx.out)
      have HN:=hdq (aiq hn1 hn2)
      clear hp hmx HC c0 c1 c2 c3 c4 hb3 hbd hn1 hn2 g0 g1 g2 g3 g4 g5 x3
      go_wp2_with fail
      go_roundw
      case rel=>exact⟨j+1,by omega,by go_num,HN,HM⟩
      case measure=>simp[intOf];omega
    ·have HF:=hdq (show mayX vars na args=true from by rw[hmx.out,Exs.drop_nil (by rw[←HL.out];omega)];rfl)
     have HN:=hdq hb1
     clear hmx hb1 hb2
     go_wp2_with fail
     go_ret
     exact⟨by rw[HMK.out,HF.out];rfl,HN.out⟩
  ·have hn:(n==0)=false:=by simpa using hn0
   have HF:=hdq (show(mayK vars na k n 2&&mayX vars na args)=false from by simp[mayK,rightN,argc,h1,h2,h3,h4,hn0])
   clear hn0 h1 h2 h3 h4
   go_enter Try.func66,Try.ntmps66
   go_wp2_with fail
   all_goals
    go_ret
    exact⟨by rw[HF.out];rfl,HBB.out _ _⟩
 ·have HF:=hdq (show(mayK vars na k n l&&mayX vars na args)=false from by simp only[mayK,argc,if_neg h1,if_neg h2,if_neg h3,if_neg h4];simp;omega)
  have hl1:((l:Int)==2)=false:=by simp;omega
  clear h1 h2 h3 h4
  go_enter Try.func66,Try.ntmps66
  go_wp2_with fail
  all_goals
   go_ret
   exact⟨by rw[HF.out];rfl,HBB.out _ _⟩

theorem rmay_one (vars:Int) (na:Nat) (k:Int) (nm:ByteArray) (n:Int) (args:Exs) (at_:Int) (A Aa:Option Addr) (c ca:Nat) (nodes start last:Int) (Ae:Option Addr) (ne ce B:Nat) (w:World) (hB:B≤w.heap.size) (hx:ExSl w B args A c) (hna:na≤9223372036854775807) (hk:in8 k)
  (hall:RMay vars Aa na ca nodes start last Ae ne ce B args):
  Calls Try.prog 66 #[grV vars Aa na ca nodes start last Ae ne ce,exV k nm n A args.len c at_] w (BoolPost (mayK vars na k n args.len&&mayX vars na args) w):=by
 by_cases h1:k=1
 ·subst h1;exact rmay_k1 vars na nm n args at_ A Aa c ca nodes start last Ae ne ce B w hB hx hna hall
 by_cases h2:k=2
 ·subst h2;exact rmay_k2 vars na nm n args at_ A Aa c ca nodes start last Ae ne ce B w hB hx hna hall
 by_cases h3:k=3
 ·subst h3;exact rmay_k3 vars na nm n args at_ A Aa c ca nodes start last Ae ne ce B w hB hx hna hall
 by_cases h4:k=4
 ·subst h4;exact rmay_k4 vars na nm n args at_ A Aa c ca nodes start last Ae ne ce B w hB hx hna hall
 exact rmay_kx vars na k nm n args at_ A Aa c ca nodes start last Ae ne ce B w hB hx hna hk h1 h2 h3 h4 hall
theorem rmay_all (vars:Int) (Aa:Option Addr) (na ca:Nat) (nodes start last:Int) (Ae:Option Addr) (ne ce B:Nat) (hna:na≤9223372036854775807):∀xs:Exs,RMay vars Aa na ca nodes start last Ae ne ce B xs
 | .nil =>fun i _ _ _ _ _ _ hd=>by cases i<;>simp[Exs.drop]at hd
 | .cons k nm n args at_ rest=>fun i k' nm' n' args' at' rest' hd hk W A c hB hs=>by
  cases i with
  |zero=>
   simp only[Exs.drop]at hd
   injection hd with e1 e2 e3 e4 e5 e6
   subst e1 e2 e3 e4 e5 e6
   exact rmay_one vars na k nm n args at_ A Aa c ca nodes start last Ae ne ce B W hB hs hna hk (rmay_all vars Aa na ca nodes start last Ae ne ce B hna args)
  |succ i=>
   simp only[Exs.drop]at hd
   exact rmay_all vars Aa na ca nodes start last Ae ne ce B hna rest i k' nm' n' args' at' rest' hd hk W A c hB hs
end Go.Proofs.Ytphlnpaikpjakaa
