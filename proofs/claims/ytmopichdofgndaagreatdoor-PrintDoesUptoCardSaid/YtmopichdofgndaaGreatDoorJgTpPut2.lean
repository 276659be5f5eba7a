/-
  ref10's text: letters, a token more. Printed by wip/gen_tp/tp1.py.
-/
import Derived.Test.YtmopichdofgndaaGreatDoorJnPnG
set_option linter.unusedVariables false
set_option linter.unusedSimpArgs false
namespace Go.Proofs.YtmopichdofgndaaGreatDoor
open Go.RowKit Go.Shelf

def glueB (o t:List UInt8):Bool:=decide (0 < o.length)&&(decide (0 < t.length)&&(isWd (o.getLastD 0)&&isWd (t.headD 0)))
def putA (o t:ByteArray):ByteArray:=if glueB o.data.toList t.data.toList then o++⟨#[32]⟩++t else o++t
def ba (l:List UInt8):ByteArray:=⟨l.toArray⟩
def putsA (o:ByteArray) (ts:Tx):ByteArray:=ts.foldl (fun o t=>putA o (ba t)) o
theorem putsA_app (o:ByteArray) (a b:Tx):putsA o (a++b)=putsA (putsA o a) b:=List.foldl_append ..
theorem putsA_cons (o:ByteArray) (t:List UInt8) (r:Tx):putsA o (t::r)=putsA (putA o (ba t)) r:=rfl
theorem putA_size (o t:ByteArray):(putA o t).size ≤o.size+(t.size+1):=by
 unfold putA
 split
 ·simp only[ByteArray.size_append]
  show o.size+1+t.size≤_
  omega
 ·simp only[ByteArray.size_append]
  omega
theorem ba_size (l:List UInt8):(ba l).size =l.length:=rfl
theorem putsA_size:∀(ts:Tx) (o:ByteArray),(putsA o ts).size ≤o.size+sumT ts
 | [],o=>lrq _
 |t::r,o=>by
  have h:=putsA_size r (putA o (ba t))
  have h2:=putA_size o (ba t)
  rw[ba_size]at h2
  rw[putsA_cons]
  simp only[sumT]
  omega
def wdR (c:Int):Bool:=letR c || digR c
theorem tletter_any (c:Int) (w:World):Calls Tryz.prog 172 #[.int .u8 c] w fun e w'=>e= .returned (.bool (wdR c))∧w=w':=by
 by_cases h1:97≤c
 ·by_cases h2:c≤122
  ·have HF:Hid (wdR c=true):=by show _=_;simp only[wdR,letR,digR];simp[*]
   go_enter Tryz.func172,Tryz.ntmps172
   go_wp2
   go_ret
   exact⟨by rw[HF.out];rfl,rfl⟩
  ·skip
   by_cases h3:65≤c
   ·by_cases h4:c≤90
    ·have HF:Hid (wdR c=true):=by show _=_;simp only[wdR,letR,digR];simp[*]
     go_enter Tryz.func172,Tryz.ntmps172
     go_wp2
     go_ret
     exact⟨by rw[HF.out];rfl,rfl⟩
    ·skip
     cases h5:(c==95)
     ·skip
      by_cases h6:48≤c
      ·by_cases h7:c≤57
       ·have HF:Hid (wdR c=true):=by show _=_;simp only[wdR,letR,digR];simp[*]
        go_enter Tryz.func172,Tryz.ntmps172
        go_wp2
        go_ret
        exact⟨by rw[HF.out];rfl,rfl⟩
       ·have HF:Hid (wdR c=false):=by show _=_;simp only[wdR,letR,digR];simp[*]
        go_enter Tryz.func172,Tryz.ntmps172
        go_wp2
        go_ret
        exact⟨by rw[HF.out];rfl,rfl⟩
      ·have HF:Hid (wdR c=false):=by show _=_;simp only[wdR,letR,digR];simp[*]
       go_enter Tryz.func172,Tryz.ntmps172
       go_wp2
       go_ret
       exact⟨by rw[HF.out];rfl,rfl⟩
     ·have HF:Hid (wdR c=true):=by show _=_;simp only[wdR,letR,digR];simp[*]
      go_enter Tryz.func172,Tryz.ntmps172
      go_wp2
      go_ret
      exact⟨by rw[HF.out];rfl,rfl⟩
   ·skip
    cases h5:(c==95)
    ·skip
     by_cases h6:48≤c
     ·by_cases h7:c≤57
      ·have HF:Hid (wdR c=true):=by show _=_;simp only[wdR,letR,digR];simp[*]
       go_enter Tryz.func172,Tryz.ntmps172
       go_wp2
       go_ret
       exact⟨by rw[HF.out];rfl,rfl⟩
      ·have HF:Hid (wdR c=false):=by show _=_;simp only[wdR,letR,digR];simp[*]
       go_enter Tryz.func172,Tryz.ntmps172
       go_wp2
       go_ret
       exact⟨by rw[HF.out];rfl,rfl⟩
     ·have HF:Hid (wdR c=false):=by show _=_;simp only[wdR,letR,digR];simp[*]
      go_enter Tryz.func172,Tryz.ntmps172
      go_wp2
      go_ret
      exact⟨by rw[HF.out];rfl,rfl⟩
    ·have HF:Hid (wdR c=true):=by show _=_;simp only[wdR,letR,digR];simp[*]
     go_enter Tryz.func172,Tryz.ntmps172
     go_wp2
     go_ret
     exact⟨by rw[HF.out];rfl,rfl⟩
 ·skip
  by_cases h3:65≤c
  ·by_cases h4:c≤90
   ·have HF:Hid (wdR c=true):=by show _=_;simp only[wdR,letR,digR];simp[*]
    go_enter Tryz.func172,Tryz.ntmps172
    go_wp2
    go_ret
    exact⟨by rw[HF.out];rfl,rfl⟩
   ·skip
    cases h5:(c==95)
    ·skip
     by_cases h6:48≤c
     ·by_cases h7:c≤57
      ·have HF:Hid (wdR c=true):=by show _=_;simp only[wdR,letR,digR];simp[*]
       go_enter Tryz.func172,Tryz.ntmps172
       go_wp2
       go_ret
       exact⟨by rw[HF.out];rfl,rfl⟩
      ·have HF:Hid (wdR c=false):=by show _=_;simp only[wdR,letR,digR];simp[*]
       go_enter Tryz.func172,Tryz.ntmps172
       go_wp2
       go_ret
       exact⟨by rw[HF.out];rfl,rfl⟩
     ·have HF:Hid (wdR c=false):=by show _=_;simp only[wdR,letR,digR];simp[*]
      go_enter Tryz.func172,Tryz.ntmps172
      go_wp2
      go_ret
      exact⟨by rw[HF.out];rfl,rfl⟩
    ·have HF:Hid (wdR c=true):=by show _=_;simp only[wdR,letR,digR];simp[*]
     go_enter Tryz.func172,Tryz.ntmps172
     go_wp2
     go_ret
     exact⟨by rw[HF.out];rfl,rfl⟩
  ·skip
   cases h5:(c==95)
   ·skip
    by_cases h6:48≤c
    ·by_cases h7:c≤57
     ·have HF:Hid (wdR c=true):=by show _=_;simp only[wdR,letR,digR];simp[*]
      go_enter Tryz.func172,Tryz.ntmps172
      go_wp2
      go_ret
      exact⟨by rw[HF.out];rfl,rfl⟩
     ·have HF:Hid (wdR c=false):=by show _=_;simp only[wdR,letR,digR];simp[*]
      go_enter Tryz.func172,Tryz.ntmps172
      go_wp2
      go_ret
      exact⟨by rw[HF.out];rfl,rfl⟩
    ·have HF:Hid (wdR c=false):=by show _=_;simp only[wdR,letR,digR];simp[*]
     go_enter Tryz.func172,Tryz.ntmps172
     go_wp2
     go_ret
     exact⟨by rw[HF.out];rfl,rfl⟩
   ·have HF:Hid (wdR c=true):=by show _=_;simp only[wdR,letR,digR];simp[*]
    go_enter Tryz.func172,Tryz.ntmps172
    go_wp2
    go_ret
    exact⟨by rw[HF.out];rfl,rfl⟩
theorem wdR_wd (b:UInt8):wdR (b.toNat:Int)=isWd b:=by
 rw[Bool.eq_iff_iff]
 unfold wdR letR digR isWd isLet isDig
 simp only[Bool.or_eq_true,Bool.and_eq_true,decide_eq_true_eq,beq_iff_eq]
 constructor<;>intro h<;>omega
theorem last_at (x:ByteArray) (h:0 < x.size):x.data.toList.getLastD 0=x[x.size - 1]'(by omega):=by
 have:=byte_at x (x.size - 1) (by omega)
 rw[List.getLastD_eq_getLast?,List.getLast?_eq_getElem?,Array.length_toList]
 have e:x.data.size=x.size:=rfl
 rw[e,this]
 rfl

theorem tput_any (o t:ByteArray) (h:o.size+t.size+1≤9223372036854775807) (w:World):Calls Tryz.prog 107 #[.string o,.string t] w fun e w'=>e= .returned (.string (putA o t))∧w=w':=by
 have ho:o.data.toList.length=o.size:=by rw[Array.length_toList];rfl
 have ht:t.data.toList.length=t.size:=by rw[Array.length_toList];rfl
 have n1:¬9223372036854775807 < o.size+1+t.size:=by omega
 have n2:¬9223372036854775807 < o.size+t.size:=by omega
 have n3:¬9223372036854775807 < o.size+1:=by omega
 by_cases h1:0 < o.size
 ·have e1:(0:Int) < (o.size:Int):=by omega
  by_cases h2:0 < t.size
  ·have e2:(0:Int) < (t.size:Int):=by omega
   have hl:=last_at o h1
   have hh:=head_at t h2
   have hg:glueB o.data.toList t.data.toList=(wdR ((o[o.size - 1]'(by omega)).toNat :Int)&&wdR ((t[0]'h2).toNat :Int)):=by
    unfold glueB
    rw[ho,ht,hl,hh,wdR_wd,wdR_wd]
    simp[h1,h2]
   have q1:(Int.toNat ((o.size:Int) - 1))=o.size - 1:=by omega
   have q2:(0:Int)≤(o.size:Int) - 1:=by omega
   have q3:IntKind.i64.wrap ((o.size:Int) - 1)=(o.size:Int) - 1:=IntWalk.i64_in _ (by omega)
   have q4:(o.size:Int) - 1 < (o.size:Int):=by omega
   have q5:o.size - 1 < o.size:=by omega
   have L1:=hdq (tletter_any ((o[o.size - 1]'(by omega)).toNat :Int) w)
   have L2:=hdq (tletter_any ((t[0]'h2).toNat :Int) w)
   cases a1:wdR ((o[o.size - 1]'(by omega)).toNat :Int)
   ·have HF:Hid (putA o t=o++t):=by show _=_;unfold putA;rw[hg,a1];rfl
    rw[a1]at L1
    clear hg a1 hl hh ho ht h
    go_enter Tryz.func107,Tryz.ntmps107
    go_wp2_with fail
    go_at_call 172
    refine L1.out.mono ?_
    rintro _ _ ⟨rfl,rfl⟩
    go_wp2_with fail
    go_ret
    exact⟨by rw[HF.out];rfl,rfl⟩
   ·cases a2:wdR ((t[0]'h2).toNat :Int)
    ·have HF:Hid (putA o t=o++t):=by show _=_;unfold putA;rw[hg,a1,a2];rfl
     rw[a1]at L1
     rw[a2]at L2
     clear hg a1 a2 hl hh ho ht h
     go_enter Tryz.func107,Tryz.ntmps107
     go_wp2_with fail
     go_at_call 172
     refine L1.out.mono ?_
     rintro _ _ ⟨rfl,rfl⟩
     go_wp2_with fail
     go_at_call 172
     refine L2.out.mono ?_
     rintro _ _ ⟨rfl,rfl⟩
     go_wp2_with fail
     go_ret
     exact⟨by rw[HF.out];rfl,rfl⟩
    ·have HF:Hid (putA o t=o++⟨#[32]⟩++t):=by show _=_;unfold putA;rw[hg,a1,a2];rfl
     rw[a1]at L1
     rw[a2]at L2
     clear hg a1 a2 hl hh ho ht h
     go_enter Tryz.func107,Tryz.ntmps107
     go_wp2_with fail
     go_at_call 172
     refine L1.out.mono ?_
     rintro _ _ ⟨rfl,rfl⟩
     go_wp2_with fail
     go_at_call 172
     refine L2.out.mono ?_
     rintro _ _ ⟨rfl,rfl⟩
     go_wp2_with fail
     go_ret
     exact⟨by rw[HF.out];rfl,rfl⟩
  ·have e2:¬(0:Int) < (t.size:Int):=by omega
   have HF:Hid (putA o t=o++t):=by show _=_;unfold putA glueB;rw[ht];simp[h2]
   clear ho ht h
   go_enter Tryz.func107,Tryz.ntmps107
   go_wp2_with fail
   go_ret
   exact⟨by rw[HF.out];rfl,rfl⟩
 ·have e1:¬(0:Int) < (o.size:Int):=by omega
  have HF:Hid (putA o t=o++t):=by show _=_;unfold putA glueB;rw[ho];simp[h1]
  clear ho ht h
  go_enter Tryz.func107,Tryz.ntmps107
  go_wp2_with fail
  go_ret
  exact⟨by rw[HF.out];rfl,rfl⟩
theorem tput_q (o t:ByteArray) (h:o.size+t.size+1≤9223372036854775807) (w:World):Calls Tryz.prog 107 #[.string o,.string t] w fun e w'=>e= .returned (.string (putA o t))∧w'=w:=
 (tput_any o t h w).mono fun e w' h=>⟨h.1,h.2.symm⟩
end Go.Proofs.YtmopichdofgndaaGreatDoor
