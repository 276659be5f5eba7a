/-
  facetroomref13.mayDo: which deeds may be.
-/
import Derived.Test.YtphlnpaikpjakaaFlRMay
set_option linter.unusedVariables false
set_option linter.unusedSimpArgs false
set_option maxHeartbeats 3200000
set_option maxRecDepth 100000
namespace Go.Proofs.Ytphlnpaikpjakaa
open Go.RowKit Go.Shelf
def doI (k n cmp:Int) (A:Option Addr) (l c:Nat):Value:= .agg #[.int .u8 k,.int .i64 n,.int .u8 cmp,.slice A l c]

theorem rdo_k3 (vars:Int) (na:Nat) (n cmp:Int) (args:Exs) (A Aa:Option Addr) (c ca:Nat) (nodes start last:Int) (Ae:Option Addr) (ne ce B:Nat) (w:World) (hB:B≤w.heap.size) (hx:ExSl w B args A c) (hna:na≤9223372036854775807) (hc8:in8 cmp):
  Calls Try.prog 41 #[grV vars Aa na ca nodes start last Ae ne ce,doI 3 n cmp A args.len c] w (BoolPost (mayD vars na 3 n cmp args) w):=by
 have hl:args.len≤9223372036854775807:=leq9 hx.1 hx.2.1
 obtain⟨l,hll⟩:=nmq args.len
 have HL:=hdq hll
 have HX:=hdq hx
 have HXX:=hdq (rmay_all vars Aa na ca nodes start last Ae ne ce B hna args)
 rw[←hll]at hl ⊢
 clear hll hx
 unfold grV doI
 have hbb:∀(c0 c1:Array Value) (q:Nat),Below w.heap.size w (((w.alloc (.cells c0 25)).alloc (.cells c1 44)).drewN q):=fun _ _ _=>below_drewN' (((Below.refl _ _).alloc (lrq _) _).alloc (by simp) _) _
 have hbc:∀(c0 c1:Array Value),Below w.heap.size w ((w.alloc (.cells c0 25)).alloc (.cells c1 44)):=fun _ _=>((Below.refl _ _).alloc (lrq _) _).alloc (by simp) _
 have HBB:=hdq hbb
 have HBC:=hdq hbc
 clear hbb hbc
 by_cases hn0:n < 0
 ·have HF:=hdq (mayD_head (vars:=vars) (arrs:=na) (k:=3) (n:=n) (cmp:=cmp) HL.out (by simp[headD,mostD,argsD,show ¬0≤n from by omega]))
  go_enter Try.func41,Try.ntmps41
  go_wp2_with fail
  go_quiet (fail)
  go_wp2_with fail
  go_ret
  exact⟨by rw[HF.out];rfl,HBB.out _ _ _⟩
 by_cases hn1:vars≤n
 ·have HF:=hdq (mayD_head (vars:=vars) (arrs:=na) (k:=3) (n:=n) (cmp:=cmp) HL.out (by simp[headD,mostD,argsD,show ¬n < vars from by omega]))
  go_enter Try.func41,Try.ntmps41
  go_wp2_with fail
  go_quiet (fail)
  go_wp2_with fail
  go_ret
  exact⟨by rw[HF.out];rfl,HBB.out _ _ _⟩
 by_cases hl0:l=1
 case neg=>
  have HF:=hdq (mayD_head (vars:=vars) (arrs:=na) (k:=3) (n:=n) (cmp:=cmp) HL.out (by simp[headD,mostD,argsD];omega))
  have hl1:((l:Int)==1)=false:=by simp;omega
  have hl2:((l:Int) != 1)=true:=by simp;omega
  go_enter Try.func41,Try.ntmps41
  go_wp2_with fail
  go_quiet (fail)
  go_wp2_with fail
  go_ret
  exact⟨by rw[HF.out];rfl,HBB.out _ _ _⟩
 subst hl0
 have hh:headD vars na 3 n 1=true:=by simp[headD,mostD,argsD,show 0≤n from by omega,show n < vars from by omega]
 by_cases c0:cmp=0
 case neg=>
  have HF:=hdq (mayD_cmp (vars:=vars) (arrs:=na) (k:=3) (n:=n) (args:=args) (show cmpD 3 cmp=false from by simp[cmpD,c0]))
  have c0':(cmp==0)=false:=by simpa using c0
  have c1':(cmp != 0)=true:=by simpa using c0
  clear hh c0
  by_cases c3:3≤cmp
  ·by_cases c8:cmp≤8
   ·have c3':decide (3≤cmp)=true:=by simp;omega
    have c8':decide (cmp≤8)=true:=by simp;omega
    clear c3 c8
    go_enter Try.func41,Try.ntmps41
    go_wp2_with fail
    go_quiet (fail)
    go_wp2_with fail
    go_ret
    exact⟨by rw[HF.out];rfl,HBB.out _ _ _⟩
   ·have c3':decide (3≤cmp)=true:=by simp;omega
    have c8':decide (cmp≤8)=false:=by simp;omega
    clear c3 c8
    go_enter Try.func41,Try.ntmps41
    go_wp2_with fail
    go_quiet (fail)
    go_wp2_with fail
    go_ret
    exact⟨by rw[HF.out];rfl,HBB.out _ _ _⟩
  ·have c3':decide (3≤cmp)=false:=by simp;omega
   clear c3
   go_enter Try.func41,Try.ntmps41
   go_wp2_with fail
   go_quiet (fail)
   go_wp2_with fail
   go_ret
   exact⟨by rw[HF.out];rfl,HBB.out _ _ _⟩
 subst c0
 have HG:=hdq (mayD_good HL.out hh (show cmpD 3 0=true from by simp[cmpD]))
 clear hh
 go_enter Try.func41,Try.ntmps41
 go_wp2_with fail
 go_quiet (fail)
 go_wp2_with fail
 go_loopw [8] (fun i wr=>∃j:Nat,j≤1∧i= .int .i64 j∧Hid (Below w.heap.size w wr∧Below (w.heap.size+2) ((w.alloc (.cells #[.int .i64 vars,.slice Aa na ca,.int .i64 nodes,.int .i64 start,.int .i64 last,.slice Ae ne ce] 25)).alloc (.cells #[.int .u8 3,.int .i64 n,.int .u8 0,.slice A 1 c] 44)) wr)∧Hid (mayX vars na args=mayX vars na (Exs.drop j args))) (fun i _=>1 - (intOf i).toNat)
 case atStart=>exact⟨0,Nat.zero_le _,rfl,⟨HBB.out _ _ _,by have:=Below.refl ((w.alloc (.cells #[.int .i64 vars,.slice Aa na ca,.int .i64 nodes,.int .i64 start,.int .i64 last,.slice Ae ne ce] 25)).alloc (.cells #[.int .u8 3,.int .i64 n,.int .u8 0,.slice A 1 c] 44)).heap.size ((w.alloc (.cells #[.int .i64 vars,.slice Aa na ca,.int .i64 nodes,.int .i64 start,.int .i64 last,.slice Ae ne ce] 25)).alloc (.cells #[.int .u8 3,.int .i64 n,.int .u8 0,.slice A 1 c] 44));exact below_drewN' (this.mono (by simp)) _⟩,rfl⟩
 case round=>
  obtain⟨j,hj,rfl,hbs,hmx⟩:=hrel
  obtain⟨hb1,hb2⟩:=hbs.out
  have g0:=(hb2.cell (p:=⟨w.heap.size,0,none⟩) (by simp)).trans (cells2 w _ _ _ _ 0).1
  have g1:=(hb2.cell (p:=⟨w.heap.size,1,none⟩) (by simp)).trans (cells2 w _ _ _ _ 1).1
  have g2:=(hb2.cell (p:=⟨w.heap.size,2,none⟩) (by simp)).trans (cells2 w _ _ _ _ 2).1
  have g3:=(hb2.cell (p:=⟨w.heap.size,3,none⟩) (by simp)).trans (cells2 w _ _ _ _ 3).1
  have g4:=(hb2.cell (p:=⟨w.heap.size,4,none⟩) (by simp)).trans (cells2 w _ _ _ _ 4).1
  have g5:=(hb2.cell (p:=⟨w.heap.size,5,none⟩) (by simp)).trans (cells2 w _ _ _ _ 5).1
  have x3:=(hb2.cell (p:=⟨w.heap.size+1,3,none⟩) (by simp)).trans (cells2 w _ _ _ _ 3).2
  simp only[List.getElem?_toArray,List.getElem?_cons_succ,List.getElem?_cons_zero]at g0 g1 g2 g3 g4 g5 x3
  by_cases hlt:j < 1
  ·obtain⟨a0,a1,a2,a3,a4,a5,hd⟩:=Exs.drop_cons (show j < args.len from by rw[←HL.out];exact hlt)
   obtain⟨b,o,rfl,hat⟩:=HX.out.2.2 (by rw[←HL.out];omega)
   obtain⟨hbB,c0,c1,c2,⟨A',c',c3,hsl⟩,c4,r0,r1,r2⟩:=(hat.keep (Same.of hb1 hB)).at_ hd
   have hBr:=leq9 hB hb1.size
   have HC:=hdq (fun W h1 h2=>HXX.out j a0 a1 a2 a3 a4 a5 hd r0 W A' c' h1 h2)
   have HS:=hdq hsl
   have HD:=hdq hd
   have HB1:=hdq hb1
   have HB2:=hdq hb2
   clear hd hsl hat r0 r1 r2 hb1 hb2
   go_wp2_with fail
   refine wp_region_still_tail 6 (by kernel_rfl) (by kernel_rfl) ?_
   simp only[List.take_succ_cons,List.take_zero,List.drop_succ_cons,List.drop_zero]
   repeat still_step
   try refine wpStill_nil ?_
   go_wp2_with fail
   have hbd:Below wr.heap.size wr wr.drew:=(Below.refl _ _).drew
   refine(HC.out wr.drew (leq9 hBr hbd.size) (HS.out.keep (Same.of hbd hBr))).mono ?_
   rintro _ w1 ⟨rfl,hb3⟩
   have hn1:=HB1.out.trans ((hbd.trans hb3).mono HB1.out.size)
   have hsz:w.heap.size+2≤wr.heap.size:=by have:=HB2.out.size;simp at this;omega
   have hn2:=HB2.out.trans ((hbd.trans hb3).mono hsz)
   cases hp:(mayK vars na a0 a2 a3.len&&mayX vars na a3)
   ·have HF:=hdq (mayX_no HD.out hp hmx.out)
    have HN:=hdq hn1
    clear hp hmx HC c0 c1 c2 c3 c4 hb3 hbd hn1 hn2 g0 g1 g2 g3 g4 g5 x3
    go_wp2_with fail
    go_ret
    exact⟨by rw[HG.out,HF.out];rfl,HN.out⟩
   ·have HM:=hdq (mayX_drop HD.out hp hmx.out)
    have HN:=hdq (aiq hn1 hn2)
    clear hp hmx HC c0 c1 c2 c3 c4 hb3 hbd hn1 hn2 g0 g1 g2 g3 g4 g5 x3
    go_wp2_with fail
    go_roundw
    case rel=>exact⟨j+1,by omega,by go_num,HN,HM⟩
    case measure=>simp[intOf];omega
  ·have HF:=hdq (show mayX vars na args=true from by rw[hmx.out,Exs.drop_nil (by rw[←HL.out];omega)];rfl)
   have HN:=hdq hb1
   clear hmx hb1 hb2
   go_wp2_with fail
   go_ret
   exact⟨by rw[HG.out,HF.out];rfl,HN.out⟩

theorem rdo_k5 (vars:Int) (na:Nat) (n cmp:Int) (args:Exs) (A Aa:Option Addr) (c ca:Nat) (nodes start last:Int) (Ae:Option Addr) (ne ce B:Nat) (w:World) (hB:B≤w.heap.size) (hx:ExSl w B args A c) (hna:na≤9223372036854775807) (hc8:in8 cmp):
  Calls Try.prog 41 #[grV vars Aa na ca nodes start last Ae ne ce,doI 5 n cmp A args.len c] w (BoolPost (mayD vars na 5 n cmp args) w):=by
 have hl:args.len≤9223372036854775807:=leq9 hx.1 hx.2.1
 obtain⟨l,hll⟩:=nmq args.len
 have HL:=hdq hll
 have HX:=hdq hx
 have HXX:=hdq (rmay_all vars Aa na ca nodes start last Ae ne ce B hna args)
 rw[←hll]at hl ⊢
 clear hll hx
 unfold grV doI
 have hbb:∀(c0 c1:Array Value) (q:Nat),Below w.heap.size w (((w.alloc (.cells c0 25)).alloc (.cells c1 44)).drewN q):=fun _ _ _=>below_drewN' (((Below.refl _ _).alloc (lrq _) _).alloc (by simp) _) _
 have hbc:∀(c0 c1:Array Value),Below w.heap.size w ((w.alloc (.cells c0 25)).alloc (.cells c1 44)):=fun _ _=>((Below.refl _ _).alloc (lrq _) _).alloc (by simp) _
 have HBB:=hdq hbb
 have HBC:=hdq hbc
 clear hbb hbc
 by_cases hn0:n < 0
 ·have HF:=hdq (mayD_head (vars:=vars) (arrs:=na) (k:=5) (n:=n) (cmp:=cmp) HL.out (by simp[headD,mostD,argsD,show ¬0≤n from by omega]))
  go_enter Try.func41,Try.ntmps41
  go_wp2_with fail
  go_ret
  exact⟨by rw[HF.out];rfl,HBC.out _ _⟩
 by_cases hn1:vars≤n
 ·have HF:=hdq (mayD_head (vars:=vars) (arrs:=na) (k:=5) (n:=n) (cmp:=cmp) HL.out (by simp[headD,mostD,argsD,show ¬n < vars from by omega]))
  go_enter Try.func41,Try.ntmps41
  go_wp2_with fail
  go_ret
  exact⟨by rw[HF.out];rfl,HBC.out _ _⟩
 by_cases hl0:l=0
 case neg=>
  have HF:=hdq (mayD_head (vars:=vars) (arrs:=na) (k:=5) (n:=n) (cmp:=cmp) HL.out (by simp[headD,mostD,argsD];omega))
  have hl1:((l:Int)==0)=false:=by simp;omega
  have hl2:((l:Int) != 0)=true:=by simp;omega
  go_enter Try.func41,Try.ntmps41
  go_wp2_with fail
  go_ret
  exact⟨by rw[HF.out];rfl,HBC.out _ _⟩
 subst hl0
 have hh:headD vars na 5 n 0=true:=by simp[headD,mostD,argsD,show 0≤n from by omega,show n < vars from by omega]
 by_cases c0:cmp=0
 case neg=>
  have HF:=hdq (mayD_cmp (vars:=vars) (arrs:=na) (k:=5) (n:=n) (args:=args) (show cmpD 5 cmp=false from by simp[cmpD,c0]))
  have c0':(cmp==0)=false:=by simpa using c0
  have c1':(cmp != 0)=true:=by simpa using c0
  clear hh c0
  by_cases c3:3≤cmp
  ·by_cases c8:cmp≤8
   ·have c3':decide (3≤cmp)=true:=by simp;omega
    have c8':decide (cmp≤8)=true:=by simp;omega
    clear c3 c8
    go_enter Try.func41,Try.ntmps41
    go_wp2_with fail
    go_ret
    exact⟨by rw[HF.out];rfl,HBC.out _ _⟩
   ·have c3':decide (3≤cmp)=true:=by simp;omega
    have c8':decide (cmp≤8)=false:=by simp;omega
    clear c3 c8
    go_enter Try.func41,Try.ntmps41
    go_wp2_with fail
    go_ret
    exact⟨by rw[HF.out];rfl,HBC.out _ _⟩
  ·have c3':decide (3≤cmp)=false:=by simp;omega
   clear c3
   go_enter Try.func41,Try.ntmps41
   go_wp2_with fail
   go_ret
   exact⟨by rw[HF.out];rfl,HBC.out _ _⟩
 subst c0
 have HG:=hdq (mayD_good HL.out hh (show cmpD 5 0=true from by simp[cmpD]))
 clear hh
 go_enter Try.func41,Try.ntmps41
 go_wp2_with fail
 go_loopw [8] (fun i wr=>∃j:Nat,j≤0∧i= .int .i64 j∧Hid (Below w.heap.size w wr∧Below (w.heap.size+2) ((w.alloc (.cells #[.int .i64 vars,.slice Aa na ca,.int .i64 nodes,.int .i64 start,.int .i64 last,.slice Ae ne ce] 25)).alloc (.cells #[.int .u8 5,.int .i64 n,.int .u8 0,.slice A 0 c] 44)) wr)∧Hid (mayX vars na args=mayX vars na (Exs.drop j args))) (fun i _=>0 - (intOf i).toNat)
 case atStart=>exact⟨0,Nat.zero_le _,rfl,⟨HBC.out _ _,by have:=Below.refl ((w.alloc (.cells #[.int .i64 vars,.slice Aa na ca,.int .i64 nodes,.int .i64 start,.int .i64 last,.slice Ae ne ce] 25)).alloc (.cells #[.int .u8 5,.int .i64 n,.int .u8 0,.slice A 0 c] 44)).heap.size ((w.alloc (.cells #[.int .i64 vars,.slice Aa na ca,.int .i64 nodes,.int .i64 start,.int .i64 last,.slice Ae ne ce] 25)).alloc (.cells #[.int .u8 5,.int .i64 n,.int .u8 0,.slice A 0 c] 44));exact this.mono (by simp)⟩,rfl⟩
 case round=>
  obtain⟨j,hj,rfl,hbs,hmx⟩:=hrel
  obtain⟨hb1,hb2⟩:=hbs.out
  have g0:=(hb2.cell (p:=⟨w.heap.size,0,none⟩) (by simp)).trans (cells2 w _ _ _ _ 0).1
  have g1:=(hb2.cell (p:=⟨w.heap.size,1,none⟩) (by simp)).trans (cells2 w _ _ _ _ 1).1
  have g2:=(hb2.cell (p:=⟨w.heap.size,2,none⟩) (by simp)).trans (cells2 w _ _ _ _ 2).1
  have g3:=(hb2.cell (p:=⟨w.heap.size,3,none⟩) (by simp)).trans (cells2 w _ _ _ _ 3).1
  have g4:=(hb2.cell (p:=⟨w.heap.size,4,none⟩) (by simp)).trans (cells2 w _ _ _ _ 4).1
  have g5:=(hb2.cell (p:=⟨w.heap.size,5,none⟩) (by simp)).trans (cells2 w _ _ _ _ 5).1
  have x3:=(hb2.cell (p:=⟨w.heap.size+1,3,none⟩) (by simp)).trans (cells2 w _ _ _ _ 3).2
  simp only[List.getElem?_toArray,List.getElem?_cons_succ,List.getElem?_cons_zero]at g0 g1 g2 g3 g4 g5 x3
  by_cases hlt:j < 0
  ·exact absurd hlt (Nat.not_lt_zero _)
  ·have HF:=hdq (show mayX vars na args=true from by rw[hmx.out,Exs.drop_nil (by rw[←HL.out];omega)];rfl)
   have HN:=hdq hb1
   clear hmx hb1 hb2
   go_wp2_with fail
   go_ret
   exact⟨by rw[HG.out,HF.out];rfl,HN.out⟩

theorem rdo_k4 (vars:Int) (na:Nat) (n cmp:Int) (args:Exs) (A Aa:Option Addr) (c ca:Nat) (nodes start last:Int) (Ae:Option Addr) (ne ce B:Nat) (w:World) (hB:B≤w.heap.size) (hx:ExSl w B args A c) (hna:na≤9223372036854775807) (hc8:in8 cmp):
  Calls Try.prog 41 #[grV vars Aa na ca nodes start last Ae ne ce,doI 4 n cmp A args.len c] w (BoolPost (mayD vars na 4 n cmp args) w):=by
 have hl:args.len≤9223372036854775807:=leq9 hx.1 hx.2.1
 obtain⟨l,hll⟩:=nmq args.len
 have HL:=hdq hll
 have HX:=hdq hx
 have HXX:=hdq (rmay_all vars Aa na ca nodes start last Ae ne ce B hna args)
 rw[←hll]at hl ⊢
 clear hll hx
 unfold grV doI
 have hbb:∀(c0 c1:Array Value) (q:Nat),Below w.heap.size w (((w.alloc (.cells c0 25)).alloc (.cells c1 44)).drewN q):=fun _ _ _=>below_drewN' (((Below.refl _ _).alloc (lrq _) _).alloc (by simp) _) _
 have hbc:∀(c0 c1:Array Value),Below w.heap.size w ((w.alloc (.cells c0 25)).alloc (.cells c1 44)):=fun _ _=>((Below.refl _ _).alloc (lrq _) _).alloc (by simp) _
 have HBB:=hdq hbb
 have HBC:=hdq hbc
 clear hbb hbc
 by_cases hn0:n < 0
 ·have HF:=hdq (mayD_head (vars:=vars) (arrs:=na) (k:=4) (n:=n) (cmp:=cmp) HL.out (by simp[headD,mostD,argsD,show ¬0≤n from by omega]))
  go_enter Try.func41,Try.ntmps41
  go_wp2_with fail
  go_quiet (fail)
  go_wp2_with fail
  go_ret
  exact⟨by rw[HF.out];rfl,HBB.out _ _ _⟩
 by_cases hn1:(na:Int)≤n
 ·have HF:=hdq (mayD_head (vars:=vars) (arrs:=na) (k:=4) (n:=n) (cmp:=cmp) HL.out (by simp[headD,mostD,argsD,show ¬n < (na:Int)from by omega]))
  go_enter Try.func41,Try.ntmps41
  go_wp2_with fail
  go_quiet (fail)
  go_wp2_with fail
  go_ret
  exact⟨by rw[HF.out];rfl,HBB.out _ _ _⟩
 by_cases hl0:l=2
 case neg=>
  have HF:=hdq (mayD_head (vars:=vars) (arrs:=na) (k:=4) (n:=n) (cmp:=cmp) HL.out (by simp[headD,mostD,argsD];omega))
  have hl1:((l:Int)==2)=false:=by simp;omega
  have hl2:((l:Int) != 2)=true:=by simp;omega
  go_enter Try.func41,Try.ntmps41
  go_wp2_with fail
  go_quiet (fail)
  go_wp2_with fail
  go_ret
  exact⟨by rw[HF.out];rfl,HBB.out _ _ _⟩
 subst hl0
 have hh:headD vars na 4 n 2=true:=by simp[headD,mostD,argsD,show 0≤n from by omega,show n < (na:Int)from by omega]
 by_cases c0:cmp=0
 case neg=>
  have HF:=hdq (mayD_cmp (vars:=vars) (arrs:=na) (k:=4) (n:=n) (args:=args) (show cmpD 4 cmp=false from by simp[cmpD,c0]))
  have c0':(cmp==0)=false:=by simpa using c0
  have c1':(cmp != 0)=true:=by simpa using c0
  clear hh c0
  by_cases c3:3≤cmp
  ·by_cases c8:cmp≤8
   ·have c3':decide (3≤cmp)=true:=by simp;omega
    have c8':decide (cmp≤8)=true:=by simp;omega
    clear c3 c8
    go_enter Try.func41,Try.ntmps41
    go_wp2_with fail
    go_quiet (fail)
    go_wp2_with fail
    go_ret
    exact⟨by rw[HF.out];rfl,HBB.out _ _ _⟩
   ·have c3':decide (3≤cmp)=true:=by simp;omega
    have c8':decide (cmp≤8)=false:=by simp;omega
    clear c3 c8
    go_enter Try.func41,Try.ntmps41
    go_wp2_with fail
    go_quiet (fail)
    go_wp2_with fail
    go_ret
    exact⟨by rw[HF.out];rfl,HBB.out _ _ _⟩
  ·have c3':decide (3≤cmp)=false:=by simp;omega
   clear c3
   go_enter Try.func41,Try.ntmps41
   go_wp2_with fail
   go_quiet (fail)
   go_wp2_with fail
   go_ret
   exact⟨by rw[HF.out];rfl,HBB.out _ _ _⟩
 subst c0
 have HG:=hdq (mayD_good HL.out hh (show cmpD 4 0=true from by simp[cmpD]))
 clear hh
 go_enter Try.func41,Try.ntmps41
 go_wp2_with fail
 go_quiet (fail)
 go_wp2_with fail
 go_loopw [8] (fun i wr=>∃j:Nat,j≤2∧i= .int .i64 j∧Hid (Below w.heap.size w wr∧Below (w.heap.size+2) ((w.alloc (.cells #[.int .i64 vars,.slice Aa na ca,.int .i64 nodes,.int .i64 start,.int .i64 last,.slice Ae ne ce] 25)).alloc (.cells #[.int .u8 4,.int .i64 n,.int .u8 0,.slice A 2 c] 44)) wr)∧Hid (mayX vars na args=mayX vars na (Exs.drop j args))) (fun i _=>2 - (intOf i).toNat)
 case atStart=>exact⟨0,Nat.zero_le _,rfl,⟨HBB.out _ _ _,by have:=Below.refl ((w.alloc (.cells #[.int .i64 vars,.slice Aa na ca,.int .i64 nodes,.int .i64 start,.int .i64 last,.slice Ae ne ce] 25)).alloc (.cells #[.int .u8 4,.int .i64 n,.int .u8 0,.slice A 2 c] 44)).heap.size ((w.alloc (.cells #[.int .i64 vars,.slice Aa na ca,.int .i64 nodes,.int .i64 start,.int .i64 last,.slice Ae ne ce] 25)).alloc (.cells #[.int .u8 4,.int .i64 n,.int .u8 0,.slice A 2 c] 44));exact below_drewN' (this.mono (by simp)) _⟩,rfl⟩
 case round=>
  obtain⟨j,hj,rfl,hbs,hmx⟩:=hrel
  obtain⟨hb1,hb2⟩:=hbs.out
  have g0:=(hb2.cell (p:=⟨w.heap.size,0,none⟩) (by simp)).trans (cells2 w _ _ _ _ 0).1
  have g1:=(hb2.cell (p:=⟨w.heap.size,1,none⟩) (by simp)).trans (cells2 w _ _ _ _ 1).1
  have g2:=(hb2.cell (p:=⟨w.heap.size,2,none⟩) (by simp)).trans (cells2 w _ _ _ _ 2).1
  have g3:=(hb2.cell (p:=⟨w.heap.size,3,none⟩) (by simp)).trans (cells2 w _ _ _ _ 3).1
  have g4:=(hb2.cell (p:=⟨w.heap.size,4,none⟩) (by simp)).trans (cells2 w _ _ _ _ 4).1
  have g5:=(hb2.cell (p:=⟨w.heap.size,5,none⟩) (by simp)).trans (cells2 w _ _ _ _ 5).1
  have x3:=(hb2.cell (p:=⟨w.heap.size+1,3,none⟩) (by simp)).trans (cells2 w _ _ _ _ 3).2
  simp only[List.getElem?_toArray,List.getElem?_cons_succ,List.getElem?_cons_zero]at g0 g1 g2 g3 g4 g5 x3
  by_cases hlt:j < 2
  ·obtain⟨a0,a1,a2,a3,a4,a5,hd⟩:=Exs.drop_cons (show j < args.len from by rw[←HL.out];exact hlt)
   obtain⟨b,o,rfl,hat⟩:=HX.out.2.2 (by rw[←HL.out];omega)
   obtain⟨hbB,c0,c1,c2,⟨A',c',c3,hsl⟩,c4,r0,r1,r2⟩:=(hat.keep (Same.of hb1 hB)).at_ hd
   have hBr:=leq9 hB hb1.size
   have HC:=hdq (fun W h1 h2=>HXX.out j a0 a1 a2 a3 a4 a5 hd r0 W A' c' h1 h2)
   have HS:=hdq hsl
   have HD:=hdq hd
   have HB1:=hdq hb1
   have HB2:=hdq hb2
   clear hd hsl hat r0 r1 r2 hb1 hb2
   go_wp2_with fail
   refine wp_region_still_tail 6 (by kernel_rfl) (by kernel_rfl) ?_
   simp only[List.take_succ_cons,List.take_zero,List.drop_succ_cons,List.drop_zero]
   repeat still_step
   try refine wpStill_nil ?_
   go_wp2_with fail
   have hbd:Below wr.heap.size wr wr.drew:=(Below.refl _ _).drew
   refine(HC.out wr.drew (leq9 hBr hbd.size) (HS.out.keep (Same.of hbd hBr))).mono ?_
   rintro _ w1 ⟨rfl,hb3⟩
   have hn1:=HB1.out.trans ((hbd.trans hb3).mono HB1.out.size)
   have hsz:w.heap.size+2≤wr.heap.size:=by have:=HB2.out.size;simp at this;omega
   have hn2:=HB2.out.trans ((hbd.trans hb3).mono hsz)
   cases hp:(mayK vars na a0 a2 a3.len&&mayX vars na a3)
   ·have HF:=hdq (mayX_no HD.out hp hmx.out)
    have HN:=hdq hn1
    clear hp hmx HC c0 c1 c2 c3 c4 hb3 hbd hn1 hn2 g0 g1 g2 g3 g4 g5 x3
    go_wp2_with fail
    go_ret
    exact⟨by rw[HG.out,HF.out];rfl,HN.out⟩
   ·have HM:=hdq (mayX_drop HD.out hp hmx.out)
    have HN:=hdq (aiq hn1 hn2)
    clear hp hmx HC c0 c1 c2 c3 c4 hb3 hbd hn1 hn2 g0 g1 g2 g3 g4 g5 x3
    go_wp2_with fail
    go_roundw
    case rel=>exact⟨j+1,by omega,by go_num,HN,HM⟩
    case measure=>simp[intOf];omega
  ·have HF:=hdq (show mayX vars na args=true from by rw[hmx.out,Exs.drop_nil (by rw[←HL.out];omega)];rfl)
   have HN:=hdq hb1
   clear hmx hb1 hb2
   go_wp2_with fail
   go_ret
   exact⟨by rw[HG.out,HF.out];rfl,HN.out⟩

theorem rdo_k6 (vars:Int) (na:Nat) (n cmp:Int) (args:Exs) (A Aa:Option Addr) (c ca:Nat) (nodes start last:Int) (Ae:Option Addr) (ne ce B:Nat) (w:World) (hB:B≤w.heap.size) (hx:ExSl w B args A c) (hna:na≤9223372036854775807) (hc8:in8 cmp):
  Calls Try.prog 41 #[grV vars Aa na ca nodes start last Ae ne ce,doI 6 n cmp A args.len c] w (BoolPost (mayD vars na 6 n cmp args) w):=by
 have hl:args.len≤9223372036854775807:=leq9 hx.1 hx.2.1
 obtain⟨l,hll⟩:=nmq args.len
 have HL:=hdq hll
 have HX:=hdq hx
 have HXX:=hdq (rmay_all vars Aa na ca nodes start last Ae ne ce B hna args)
 rw[←hll]at hl ⊢
 clear hll hx
 unfold grV doI
 have hbb:∀(c0 c1:Array Value) (q:Nat),Below w.heap.size w (((w.alloc (.cells c0 25)).alloc (.cells c1 44)).drewN q):=fun _ _ _=>below_drewN' (((Below.refl _ _).alloc (lrq _) _).alloc (by simp) _) _
 have hbc:∀(c0 c1:Array Value),Below w.heap.size w ((w.alloc (.cells c0 25)).alloc (.cells c1 44)):=fun _ _=>((Below.refl _ _).alloc (lrq _) _).alloc (by simp) _
 have HBB:=hdq hbb
 have HBC:=hdq hbc
 clear hbb hbc
 by_cases hn0:n < 0
 ·have HF:=hdq (mayD_head (vars:=vars) (arrs:=na) (k:=6) (n:=n) (cmp:=cmp) HL.out (by simp[headD,mostD,argsD,show ¬0≤n from by omega]))
  go_enter Try.func41,Try.ntmps41
  go_wp2_with fail
  go_ret
  exact⟨by rw[HF.out];rfl,HBC.out _ _⟩
 by_cases hn1:1≤n
 ·have HF:=hdq (mayD_head (vars:=vars) (arrs:=na) (k:=6) (n:=n) (cmp:=cmp) HL.out (by simp[headD,mostD,argsD,show ¬n < 1 from by omega]))
  go_enter Try.func41,Try.ntmps41
  go_wp2_with fail
  go_ret
  exact⟨by rw[HF.out];rfl,HBC.out _ _⟩
 by_cases hl0:l=2
 case neg=>
  have HF:=hdq (mayD_head (vars:=vars) (arrs:=na) (k:=6) (n:=n) (cmp:=cmp) HL.out (by simp[headD,mostD,argsD];omega))
  have hl1:((l:Int)==2)=false:=by simp;omega
  have hl2:((l:Int) != 2)=true:=by simp;omega
  go_enter Try.func41,Try.ntmps41
  go_wp2_with fail
  go_ret
  exact⟨by rw[HF.out];rfl,HBC.out _ _⟩
 subst hl0
 have hh:headD vars na 6 n 2=true:=by simp[headD,mostD,argsD,show 0≤n from by omega,show n < 1 from by omega]
 by_cases c3:cmp < 3
 ·have HF:=hdq (mayD_cmp (vars:=vars) (arrs:=na) (n:=n) (args:=args) (show cmpD 6 cmp=false from by simp[cmpD];omega))
  have c3':decide (3≤cmp)=false:=by simp;omega
  clear hh
  go_enter Try.func41,Try.ntmps41
  go_wp2_with fail
  go_ret
  exact⟨by rw[HF.out];rfl,HBC.out _ _⟩
 by_cases c8:8 < cmp
 ·have HF:=hdq (mayD_cmp (vars:=vars) (arrs:=na) (n:=n) (args:=args) (show cmpD 6 cmp=false from by simp[cmpD];omega))
  have c3':decide (3≤cmp)=true:=by simp;omega
  have c8':decide (cmp≤8)=false:=by simp;omega
  clear hh c3 c8
  go_enter Try.func41,Try.ntmps41
  go_wp2_with fail
  go_ret
  exact⟨by rw[HF.out];rfl,HBC.out _ _⟩
 have HG:=hdq (mayD_good HL.out hh (show cmpD 6 cmp=true from by simp[cmpD];omega))
 have c3':decide (3≤cmp)=true:=by simp;omega
 have c8':decide (cmp≤8)=true:=by simp;omega
 clear hh c3 c8
 go_enter Try.func41,Try.ntmps41
 go_wp2_with fail
 go_loopw [8] (fun i wr=>∃j:Nat,j≤2∧i= .int .i64 j∧Hid (Below w.heap.size w wr∧Below (w.heap.size+2) ((w.alloc (.cells #[.int .i64 vars,.slice Aa na ca,.int .i64 nodes,.int .i64 start,.int .i64 last,.slice Ae ne ce] 25)).alloc (.cells #[.int .u8 6,.int .i64 n,.int .u8 cmp,.slice A 2 c] 44)) wr)∧Hid (mayX vars na args=mayX vars na (Exs.drop j args))) (fun i _=>2 - (intOf i).toNat)
 case atStart=>exact⟨0,Nat.zero_le _,rfl,⟨HBC.out _ _,by have:=Below.refl ((w.alloc (.cells #[.int .i64 vars,.slice Aa na ca,.int .i64 nodes,.int .i64 start,.int .i64 last,.slice Ae ne ce] 25)).alloc (.cells #[.int .u8 6,.int .i64 n,.int .u8 cmp,.slice A 2 c] 44)).heap.size ((w.alloc (.cells #[.int .i64 vars,.slice Aa na ca,.int .i64 nodes,.int .i64 start,.int .i64 last,.slice Ae ne ce] 25)).alloc (.cells #[.int .u8 6,.int .i64 n,.int .u8 cmp,.slice A 2 c] 44));exact this.mono (by simp)⟩,rfl⟩
 case round=>
  obtain⟨j,hj,rfl,hbs,hmx⟩:=hrel
  obtain⟨hb1,hb2⟩:=hbs.out
  have g0:=(hb2.cell (p:=⟨w.heap.size,0,none⟩) (by simp)).trans (cells2 w _ _ _ _ 0).1
  have g1:=(hb2.cell (p:=⟨w.heap.size,1,none⟩) (by simp)).trans (cells2 w _ _ _ _ 1).1
  have g2:=(hb2.cell (p:=⟨w.heap.size,2,none⟩) (by simp)).trans (cells2 w _ _ _ _ 2).1
  have g3:=(hb2.cell (p:=⟨w.heap.size,3,none⟩) (by simp)).trans (cells2 w _ _ _ _ 3).1
  have g4:=(hb2.cell (p:=⟨w.heap.size,4,none⟩) (by simp)).trans (cells2 w _ _ _ _ 4).1
  have g5:=(hb2.cell (p:=⟨w.heap.size,5,none⟩) (by simp)).trans (cells2 w _ _ _ _ 5).1
  have x3:=(hb2.cell (p:=⟨w.heap.size+1,3,none⟩) (by simp)).trans (cells2 w _ _ _ _ 3).2
  simp only[List.getElem?_toArray,List.getElem?_cons_succ,List.getElem?_cons_zero]at g0 g1 g2 g3 g4 g5 x3
  by_cases hlt:j < 2
  ·obtain⟨a0,a1,a2,a3,a4,a5,hd⟩:=Exs.drop_cons (show j < args.len from by rw[←HL.out];exact hlt)
   obtain⟨b,o,rfl,hat⟩:=HX.out.2.2 (by rw[←HL.out];omega)
   obtain⟨hbB,c0,c1,c2,⟨A',c',c3,hsl⟩,c4,r0,r1,r2⟩:=(hat.keep (Same.of hb1 hB)).at_ hd
   have hBr:=leq9 hB hb1.size
   have HC:=hdq (fun W h1 h2=>HXX.out j a0 a1 a2 a3 a4 a5 hd r0 W A' c' h1 h2)
   have HS:=hdq hsl
   have HD:=hdq hd
   have HB1:=hdq hb1
   have HB2:=hdq hb2
   clear hd hsl hat r0 r1 r2 hb1 hb2
   go_wp2_with fail
   refine wp_region_still_tail 6 (by kernel_rfl) (by kernel_rfl) ?_
   simp only[List.take_succ_cons,List.take_zero,List.drop_succ_cons,List.drop_zero]
   repeat still_step
   try refine wpStill_nil ?_
   go_wp2_with fail
   have hbd:Below wr.heap.size wr wr.drew:=(Below.refl _ _).drew
   refine(HC.out wr.drew (leq9 hBr hbd.size) (HS.out.keep (Same.of hbd hBr))).mono ?_
   rintro _ w1 ⟨rfl,hb3⟩
   have hn1:=HB1.out.trans ((hbd.trans hb3).mono HB1.out.size)
   have hsz:w.heap.size+2≤wr.heap.size:=by have:=HB2.out.size;simp at this;omega
   have hn2:=HB2.out.trans ((hbd.trans hb3).mono hsz)
   cases hp:(mayK vars na a0 a2 a3.len&&mayX vars na a3)
   ·have HF:=hdq (mayX_no HD.out hp hmx.out)
    have HN:=hdq hn1
    clear hp hmx HC c0 c1 c2 c3 c4 hb3 hbd hn1 hn2 g0 g1 g2 g3 g4 g5 x3
    go_wp2_with fail
    go_ret
    exact⟨by rw[HG.out,HF.out];rfl,HN.out⟩
   ·have HM:=hdq (mayX_drop HD.out hp hmx.out)
    have HN:=hdq (aiq hn1 hn2)
    clear hp hmx HC c0 c1 c2 c3 c4 hb3 hbd hn1 hn2 g0 g1 g2 g3 g4 g5 x3
    go_wp2_with fail
    go_roundw
    case rel=>exact⟨j+1,by omega,by go_num,HN,HM⟩
    case measure=>simp[intOf];omega
  ·have HF:=hdq (show mayX vars na args=true from by rw[hmx.out,Exs.drop_nil (by rw[←HL.out];omega)];rfl)
   have HN:=hdq hb1
   clear hmx hb1 hb2
   go_wp2_with fail
   go_ret
   exact⟨by rw[HG.out,HF.out];rfl,HN.out⟩

theorem rdo_kx (vars:Int) (na:Nat) (k:Int) (n cmp:Int) (args:Exs) (A Aa:Option Addr) (c ca:Nat) (nodes start last:Int) (Ae:Option Addr) (ne ce B:Nat) (w:World) (hB:B≤w.heap.size) (hx:ExSl w B args A c) (hna:na≤9223372036854775807) (hc8:in8 cmp) (hk:in8 k) (h3:¬k=3) (h4:¬k=4) (h5:¬k=5) (h6:¬k=6):
  Calls Try.prog 41 #[grV vars Aa na ca nodes start last Ae ne ce,doI k n cmp A args.len c] w (BoolPost (mayD vars na k n cmp args) w):=by
 have hl:args.len≤9223372036854775807:=leq9 hx.1 hx.2.1
 obtain⟨l,hll⟩:=nmq args.len
 have HL:=hdq hll
 have HX:=hdq hx
 have HXX:=hdq (rmay_all vars Aa na ca nodes start last Ae ne ce B hna args)
 rw[←hll]at hl ⊢
 clear hll hx
 unfold grV doI
 have hbb:∀(c0 c1:Array Value) (q:Nat),Below w.heap.size w (((w.alloc (.cells c0 25)).alloc (.cells c1 44)).drewN q):=fun _ _ _=>below_drewN' (((Below.refl _ _).alloc (lrq _) _).alloc (by simp) _) _
 have hbc:∀(c0 c1:Array Value),Below w.heap.size w ((w.alloc (.cells c0 25)).alloc (.cells c1 44)):=fun _ _=>((Below.refl _ _).alloc (lrq _) _).alloc (by simp) _
 have HBB:=hdq hbb
 have HBC:=hdq hbc
 clear hbb hbc
 have b3:(k==3)=false:=by simpa using h3
 have b4:(k==4)=false:=by simpa using h4
 have b5:(k==5)=false:=by simpa using h5
 have b6:(k==6)=false:=by simpa using h6
 by_cases hr1:k < 1
 ·have HF:=hdq (mayD_head (vars:=vars) (arrs:=na) (k:=k) (n:=n) (cmp:=cmp) HL.out (by simp[headD,show ¬1≤k from by omega]))
  clear h3 h4 h5 h6
  go_enter Try.func41,Try.ntmps41
  go_wp2_with fail
  go_ret
  exact⟨by rw[HF.out];rfl,HBC.out _ _⟩
 by_cases hr2:8 < k
 ·have HF:=hdq (mayD_head (vars:=vars) (arrs:=na) (k:=k) (n:=n) (cmp:=cmp) HL.out (by simp[headD,show ¬k≤8 from by omega]))
  clear h3 h4 h5 h6
  go_enter Try.func41,Try.ntmps41
  go_wp2_with fail
  go_ret
  exact⟨by rw[HF.out];rfl,HBC.out _ _⟩
 have hk1:1≤k:=by omega
 have hk8:k≤8:=by omega
 by_cases hn0:n < 0
 ·have HF:=hdq (mayD_head (vars:=vars) (arrs:=na) (k:=k) (n:=n) (cmp:=cmp) HL.out (by simp[headD,mostD,argsD,h3,h4,h5,h6,hk1,hk8,show ¬0≤n from by omega]))
  clear h3 h4 h5 h6
  go_enter Try.func41,Try.ntmps41
  go_wp2_with fail
  go_ret
  exact⟨by rw[HF.out];rfl,HBC.out _ _⟩
 by_cases hn1:1≤n
 ·have HF:=hdq (mayD_head (vars:=vars) (arrs:=na) (k:=k) (n:=n) (cmp:=cmp) HL.out (by simp[headD,mostD,argsD,h3,h4,h5,h6,hk1,hk8,show ¬n < 1 from by omega]))
  clear h3 h4 h5 h6
  go_enter Try.func41,Try.ntmps41
  go_wp2_with fail
  go_ret
  exact⟨by rw[HF.out];rfl,HBC.out _ _⟩
 by_cases hl0:l=0
 case neg=>
  have HF:=hdq (mayD_head (vars:=vars) (arrs:=na) (k:=k) (n:=n) (cmp:=cmp) HL.out (by simp[headD,mostD,argsD,h3,h4,h5,h6,hk1,hk8];omega))
  have hl1:((l:Int)==0)=false:=by simp;omega
  have hl2:((l:Int) != 0)=true:=by simp;omega
  clear h3 h4 h5 h6
  go_enter Try.func41,Try.ntmps41
  go_wp2_with fail
  go_ret
  exact⟨by rw[HF.out];rfl,HBC.out _ _⟩
 subst hl0
 have hh:headD vars na k n 0=true:=by simp[headD,mostD,argsD,h3,h4,h5,h6,hk1,hk8,show 0≤n from by omega,show n < 1 from by omega]
 by_cases c0:cmp=0
 case neg=>
  have HF:=hdq (mayD_cmp (vars:=vars) (arrs:=na) (k:=k) (n:=n) (args:=args) (show cmpD k cmp=false from by simp[cmpD,c0,h6]))
  have c0':(cmp==0)=false:=by simpa using c0
  have c1':(cmp != 0)=true:=by simpa using c0
  clear hh c0
  clear h3 h4 h5 h6
  by_cases c3:3≤cmp
  ·by_cases c8:cmp≤8
   ·have c3':decide (3≤cmp)=true:=by simp;omega
    have c8':decide (cmp≤8)=true:=by simp;omega
    clear c3 c8
    go_enter Try.func41,Try.ntmps41
    go_wp2_with fail
    go_ret
    exact⟨by rw[HF.out];rfl,HBC.out _ _⟩
   ·have c3':decide (3≤cmp)=true:=by simp;omega
    have c8':decide (cmp≤8)=false:=by simp;omega
    clear c3 c8
    go_enter Try.func41,Try.ntmps41
    go_wp2_with fail
    go_ret
    exact⟨by rw[HF.out];rfl,HBC.out _ _⟩
  ·have c3':decide (3≤cmp)=false:=by simp;omega
   clear c3
   go_enter Try.func41,Try.ntmps41
   go_wp2_with fail
   go_ret
   exact⟨by rw[HF.out];rfl,HBC.out _ _⟩
 subst c0
 have HG:=hdq (mayD_good HL.out hh (show cmpD k 0=true from by simp[cmpD,h6]))
 clear hh
 clear h3 h4 h5 h6
 go_enter Try.func41,Try.ntmps41
 go_wp2_with fail
 go_loopw [8] (fun i wr=>∃j:Nat,j≤0∧i= .int .i64 j∧Hid (Below w.heap.size w wr∧Below (w.heap.size+2) ((w.alloc (.cells #[.int .i64 vars,.slice Aa na ca,.int .i64 nodes,.int .i64 start,.int .i64 last,.slice Ae ne ce] 25)).alloc (.cells #[.int .u8 k,.int .i64 n,.int .u8 0,.slice A 0 c] 44)) wr)∧Hid (mayX vars na args=mayX vars na (Exs.drop j args))) (fun i _=>0 - (intOf i).toNat)
 case atStart=>exact⟨0,Nat.zero_le _,rfl,⟨HBC.out _ _,by have:=Below.refl ((w.alloc (.cells #[.int .i64 vars,.slice Aa na ca,.int .i64 nodes,.int .i64 start,.int .i64 last,.slice Ae ne ce] 25)).alloc (.cells #[.int .u8 k,.int .i64 n,.int .u8 0,.slice A 0 c] 44)).heap.size ((w.alloc (.cells #[.int .i64 vars,.slice Aa na ca,.int .i64 nodes,.int .i64 start,.int .i64 last,.slice Ae ne ce] 25)).alloc (.cells #[.int .u8 k,.int .i64 n,.int .u8 0,.slice A 0 c] 44));exact this.mono (by simp)⟩,rfl⟩
 case round=>
  obtain⟨j,hj,rfl,hbs,hmx⟩:=hrel
  obtain⟨hb1,hb2⟩:=hbs.out
  have g0:=(hb2.cell (p:=⟨w.heap.size,0,none⟩) (by simp)).trans (cells2 w _ _ _ _ 0).1
  have g1:=(hb2.cell (p:=⟨w.heap.size,1,none⟩) (by simp)).trans (cells2 w _ _ _ _ 1).1
  have g2:=(hb2.cell (p:=⟨w.heap.size,2,none⟩) (by simp)).trans (cells2 w _ _ _ _ 2).1
  have g3:=(hb2.cell (p:=⟨w.heap.size,3,none⟩) (by simp)).trans (cells2 w _ _ _ _ 3).1
  have g4:=(hb2.cell (p:=⟨w.heap.size,4,none⟩) (by simp)).trans (cells2 w _ _ _ _ 4).1
  have g5:=(hb2.cell (p:=⟨w.heap.size,5,none⟩) (by simp)).trans (cells2 w _ _ _ _ 5).1
  have x3:=(hb2.cell (p:=⟨w.heap.size+1,3,none⟩) (by simp)).trans (cells2 w _ _ _ _ 3).2
  simp only[List.getElem?_toArray,List.getElem?_cons_succ,List.getElem?_cons_zero]at g0 g1 g2 g3 g4 g5 x3
  by_cases hlt:j < 0
  ·exact absurd hlt (Nat.not_lt_zero _)
  ·have HF:=hdq (show mayX vars na args=true from by rw[hmx.out,Exs.drop_nil (by rw[←HL.out];omega)];rfl)
   have HN:=hdq hb1
   clear hmx hb1 hb2
   go_wp2_with fail
   go_ret
   exact⟨by rw[HG.out,HF.out];rfl,HN.out⟩

theorem rdo_any (vars:Int) (na:Nat) (k n cmp:Int) (args:Exs) (A Aa:Option Addr) (c ca:Nat) (nodes start last:Int) (Ae:Option Addr) (ne ce B:Nat) (w:World) (hB:B≤w.heap.size) (hx:ExSl w B args A c) (hna:na≤9223372036854775807) (hc8:in8 cmp) (hk:in8 k):
  Calls Try.prog 41 #[grV vars Aa na ca nodes start last Ae ne ce,doI k n cmp A args.len c] w (BoolPost (mayD vars na k n cmp args) w):=by
 by_cases h3:k=3
 ·subst h3;exact rdo_k3 vars na n cmp args A Aa c ca nodes start last Ae ne ce B w hB hx hna hc8
 by_cases h4:k=4
 ·subst h4;exact rdo_k4 vars na n cmp args A Aa c ca nodes start last Ae ne ce B w hB hx hna hc8
 by_cases h5:k=5
 ·subst h5;exact rdo_k5 vars na n cmp args A Aa c ca nodes start last Ae ne ce B w hB hx hna hc8
 by_cases h6:k=6
 ·subst h6;exact rdo_k6 vars na n cmp args A Aa c ca nodes start last Ae ne ce B w hB hx hna hc8
 exact rdo_kx vars na k n cmp args A Aa c ca nodes start last Ae ne ce B w hB hx hna hc8 hk h3 h4 h5 h6
end Go.Proofs.Ytphlnpaikpjakaa
