/-
  A variable of the library stays what it is. No program.
-/
import Derived.Lib.SmallJoins
import Derived.Laws.Rows
import Derived.Laws.Tables
import Derived.Test.YtfomomaomggpbaaGreatDoorJnLxF
import Derived.Test.YtfomomaomggpbaaGreatDoorShelf
import Derived.Test.YtfomomaomggpbaaGreatDoorJgCk3
import Derived.Test.YtfomomaomggpbaaGreatDoorJgLxNum
set_option linter.unusedVariables false
set_option linter.unusedSimpArgs false
set_option maxHeartbeats 1600000
set_option maxRecDepth 100000
namespace Go.Proofs.YtfomomaomggpbaaGreatDoor
open Go.RowKit

theorem var_keep {P:Program} {w w':World} {n:String} {cs:Array Value} (h:Below w.heap.size w w') (hv:w.var? P n=some cs):w'.var? P n=some cs:=by
 unfold World.var? at hv ⊢
 cases hg:P.globalNamed n with
 |none=>rw[hg]at hv;cases hv
 |some g=>
  rw[hg]at hv
  simp only[Option.bind_some]at hv ⊢
  have hlt:g < w.heap.size:=by
   rcases Nat.lt_or_ge g w.heap.size with hlt|hge
   ·exact hlt
   ·rw[Array.getElem?_eq_none hge]at hv;cases hv
  rw[h.block g hlt]
  exact hv
theorem below_setRow {B:Nat} {a w:World} (h:Below B a w) {g:Nat} (hg:B≤g) (cs:Array Value):Below B a (w.setRow g cs):=
 ⟨h.os,h.tape,h.output,by rw[setRow_size];exact h.size,fun i hi=>(setRow_other _ _ i _ (by omega)).trans (h.block i hi)⟩

open Go.RowKit Go.Shelf

def kwB:List UInt8:= [118,97,114,32,97,114,114,97,121,32,112,114,111,99,32,109,97,105,110,32,115,107,105,112,32,105,110,112,117,116,32,97,115,115,117,109,101]++ [32,97,115,115,101,114,116,32,105,102,32,101,108,115,101,32,119,104,105,108,101,32,99,97,108,108,32,116,114,117,101,32,102,97,108,115,101]
def kwL:List (List UInt8):= [[118,97,114], [97,114,114,97,121], [112,114,111,99], [109,97,105,110], [115,107,105,112], [105,110,112,117,116], [97,115,115,117,109,101], [97,115,115,101,114,116], [105,102], [101,108,115,101], [119,104,105,108,101], [99,97,108,108], [116,114,117,101], [102,97,108,115,101]]
theorem kw_fields:Lib.fields kwB=kwL:=by decide+kernel
theorem kw_ascii:kwB.all (fun b=>decide (b.toNat < 128))=true:=by decide+kernel
def keyB (l:List UInt8):Bool:=kwL.contains l
def nameB (l:List UInt8):Bool:=(runB isWd l==l.length)&&decide (0 < runB isWd l)&&decide (runB isWd l≤16)&& !(isDig (l.headD 0))&& !keyB l
structure SpEnv (w:World):Prop where
 sp:Lib.TabIs Tryz.prog w "strings.asciiSpace" .u8 Lib.asciiSpaceTab
theorem SpEnv.keep {w w':World} (h:SpEnv w) (hb:Below w.heap.size w w'):SpEnv w':=
 ⟨by have:=h.sp;unfold Lib.TabIs at this ⊢;exact var_keep hb this⟩
theorem contains_key (s:ByteArray):Lib.containsS (kwL.map fun l=>(⟨l.toArray⟩:ByteArray)) s=keyB s.data.toList:=by
 unfold keyB
 rw[Bool.eq_iff_iff,Lib.containsS_iff,List.contains_iff_mem,List.mem_map]
 constructor
 ·rintro⟨l,hl,rfl⟩
  exact hl
 ·intro h
  exact⟨_,h,(tx_eq rfl).symm⟩
theorem keyword_sp (s:ByteArray) (w:World) (he:SpEnv w):Calls Tryz.prog 161 #[.string s] w fun e w'=>e= .returned (.bool (keyB s.data.toList))∧Below w.heap.size w w':=by
 have h1:=Tryz.strings_Fields ⟨kwB.toArray⟩ w (by decide+kernel) (fun j b hj=>by
  have:=List.all_eq_true.1 kw_ascii b (List.mem_of_getElem? hj)
  simpa using this) he.sp
 have h2:=Tryz.slices_Contains_string w.heap.size 0 14 14 (kwL.map fun l=>(⟨l.toArray⟩:ByteArray)) s (w.alloc (.cells ((kwL).map fun l=>Value.string ⟨l.toArray⟩).toArray 9)) (by decide) (by decide) (fun j hj=>by
  have hj':j < kwL.length:=by simpa using hj
  rw[Nat.zero_add,newCell]
  simp[hj'])
 rw[List.take_of_length_le (by decide),contains_key]at h2
 simp only[show(⟨kwB.toArray⟩:ByteArray).data.toList =kwB from rfl]at h1
 rw[kw_fields]at h1
 have hl:kwL.length=14:=rfl
 rw[hl]at h1
 have H1:=hdq h1
 have H2:=hdq h2
 clear h1 h2 hl
 go_enter Tryz.func161,Tryz.ntmps161
 go_wp2_with fail
 refine H1.out.mono ?_
 rintro _ w1 ⟨rfl,rfl⟩
 go_wp2_with fail
 refine H2.out.mono ?_
 rintro _ w1 ⟨rfl,rfl⟩
 go_wp2_with fail
 go_ret
 exact⟨rfl,(Below.refl _ _).alloc (lrq _) _⟩

theorem name_sp (s:ByteArray) (hs:s.size≤9223372036854775807) (w:World) (he:SpEnv w):Calls Tryz.prog 91 #[.string s] w fun e w'=>e= .returned (.bool (nameB s.data.toList))∧Below w.heap.size w w':=by
 have h1:Calls Tryz.prog 126 #[.string s,.func (.func 158) #[] #[]] w (RunPost (runB isWd s.data.toList) w):=run_any _ _ _ asks_w2 s hs w
 have hle:=runB_le isWd s.data.toList
 rw[size_len]at hle
 obtain⟨n,hn⟩:=nmq (runB isWd s.data.toList)
 rw[←hn]at h1 hle
 have H1:=hdq h1
 have HE:=hdq he
 have hnb:nameB s.data.toList=((n==s.size)&&decide (0 < n)&&decide (n≤16)&& !(isDig (s.data.toList.headD 0))&& !keyB s.data.toList):=by unfold nameB;rw[←hn,size_len]
 have HNB:=hdq hnb
 clear h1 he hn hnb
 by_cases c1:n=s.size
 ·by_cases c2:0 < n
  ·by_cases c3:n≤16
   ·have hp:0 < s.size:=by omega
    have hb:=byte_at s 0 hp
    obtain⟨b,hbb⟩:=nmq (s[0])
    have hh:s.data.toList.headD 0=b:=by
     rw[←hbb]at hb
     cases hl:s.data.toList with
     |nil=>rw[hl]at hb;simp at hb
     |cons a r=>rw[hl]at hb;simpa using hb
    have e1:((n:Int)==(s.size:Int))=true:=by simp;omega
    have e2:decide ((0:Int) < (n:Int))=true:=by simp;omega
    have hlt:=UInt8.toNat_lt (s[0]'hp)
    have hlow:=low_d (s[0]'hp)
    rw[←hbb]at hlow
    have HH:=hdq hh
    cases hd:isDig b
    ·rw[hd]at hlow
     have hdg:∀W:World,Calls Tryz.prog 160 #[.int .i32 ((s[0]'hp).toNat :Int)] W fun e w'=>e= .returned (.bool false)∧W=w':=fun W=>by
      have:=digit_any ((s[0]'hp).toNat :Int) W
      rw[←hbb,hlow]at this
      rw[←hbb]
      exact this
     have HD:=hdq hdg
     cases hk:keyB s.data.toList
     ·have HF:Hid (nameB s.data.toList=true):=by show _=_;rw[HNB.out,HH.out,hd,hk];simp[c1,c2,c3];omega
      have hkw:∀W,Below w.heap.size w W→Calls Tryz.prog 161 #[.string s] W fun e w'=>e= .returned (.bool false)∧Below W.heap.size W w':=fun W h=>by
       have:=keyword_sp s W (HE.out.keep h)
       rw[hk]at this
       exact this
      have HK:=hdq hkw
      clear hd hlow hdg hk hkw hb hbb hh
      go_enter Tryz.func91,Tryz.ntmps91
      go_wp2_with fail
      refine H1.out.mono ?_
      rintro _ w1 ⟨rfl,hb⟩
      go_wp2_with fail
      refine(HD.out _).mono ?_
      rintro _ w2 ⟨rfl,rfl⟩
      go_wp2_with fail
      refine(HK.out _ hb).mono ?_
      rintro _ w2 ⟨rfl,hb2⟩
      go_wp2_with fail
      go_ret
      exact⟨by rw[HF.out];rfl,hb.trans (hb2.mono hb.size)⟩
     ·have HF:Hid (nameB s.data.toList=false):=by show _=_;rw[HNB.out,hk];simp
      have hkw:∀W,Below w.heap.size w W→Calls Tryz.prog 161 #[.string s] W fun e w'=>e= .returned (.bool true)∧Below W.heap.size W w':=fun W h=>by
       have:=keyword_sp s W (HE.out.keep h)
       rw[hk]at this
       exact this
      have HK:=hdq hkw
      clear hd hlow hdg hk hkw hb hbb hh
      go_enter Tryz.func91,Tryz.ntmps91
      go_wp2_with fail
      refine H1.out.mono ?_
      rintro _ w1 ⟨rfl,hb⟩
      go_wp2_with fail
      refine(HD.out _).mono ?_
      rintro _ w2 ⟨rfl,rfl⟩
      go_wp2_with fail
      refine(HK.out _ hb).mono ?_
      rintro _ w2 ⟨rfl,hb2⟩
      go_wp2_with fail
      go_ret
      exact⟨by rw[HF.out];rfl,hb.trans (hb2.mono hb.size)⟩
    ·rw[hd]at hlow
     have hdg:∀W:World,Calls Tryz.prog 160 #[.int .i32 ((s[0]'hp).toNat :Int)] W fun e w'=>e= .returned (.bool true)∧W=w':=fun W=>by
      have:=digit_any ((s[0]'hp).toNat :Int) W
      rw[←hbb,hlow]at this
      rw[←hbb]
      exact this
     have HD:=hdq hdg
     have HF:Hid (nameB s.data.toList=false):=by show _=_;rw[HNB.out,HH.out,hd];simp
     clear hd hlow hdg hb hbb hh
     go_enter Tryz.func91,Tryz.ntmps91
     go_wp2_with fail
     refine H1.out.mono ?_
     rintro _ w1 ⟨rfl,hb⟩
     go_wp2_with fail
     refine(HD.out _).mono ?_
     rintro _ w2 ⟨rfl,rfl⟩
     go_wp2_with fail
     go_ret
     exact⟨by rw[HF.out];rfl,hb⟩
   ·have HF:Hid (nameB s.data.toList=false):=by show _=_;rw[HNB.out];simp[c3]
    have e1:((n:Int)==(s.size:Int))=true:=by simp;omega
    have e2:decide ((0:Int) < (n:Int))=true:=by simp;omega
    have e3:decide ((n:Int)≤16)=false:=by simp;omega
    clear c1
    go_enter Tryz.func91,Tryz.ntmps91
    go_wp2_with fail
    refine H1.out.mono ?_
    rintro _ w1 ⟨rfl,hb⟩
    go_wp2_with fail
    go_ret
    exact⟨by rw[HF.out];rfl,hb⟩
  ·have HF:Hid (nameB s.data.toList=false):=by show _=_;rw[HNB.out];simp[c2]
   have e1:((n:Int)==(s.size:Int))=true:=by simp;omega
   have e2:decide ((0:Int) < (n:Int))=false:=by simp;omega
   clear c1
   go_enter Tryz.func91,Tryz.ntmps91
   go_wp2_with fail
   refine H1.out.mono ?_
   rintro _ w1 ⟨rfl,hb⟩
   go_wp2_with fail
   go_ret
   exact⟨by rw[HF.out];rfl,hb⟩
 ·have HF:Hid (nameB s.data.toList=false):=by show _=_;rw[HNB.out];simp[c1]
  have e1:((n:Int)==(s.size:Int))=false:=by simp;omega
  clear c1
  go_enter Tryz.func91,Tryz.ntmps91
  go_wp2_with fail
  refine H1.out.mono ?_
  rintro _ w1 ⟨rfl,hb⟩
  go_wp2_with fail
  go_ret
  exact⟨by rw[HF.out];rfl,hb⟩

structure LexEnv (w:World):Prop where
 er:∃tp p,w.var? Tryz.prog "strconv.ErrRange" =some #[.iface tp p]
 tab:Lib.TabIs Tryz.prog w "internal/strconv.uint64pow10" .u64 Lib.pow10Tab
theorem LexEnv.keep {w w':World} (h:LexEnv w) (hb:Below w.heap.size w w'):LexEnv w':=by
 obtain⟨tp,p,he⟩:=h.er
 exact⟨⟨tp,p,var_keep hb he⟩,by have:=h.tab;unfold Lib.TabIs at this ⊢;exact var_keep hb this⟩

theorem below_bytes (w:World) (e:TypeId) (t:ByteArray):Below w.heap.size w (Lib.bytesWorld w e t):=Go.Joins.below_bytesWorld _ _ _ _ (lrq _)
theorem below_grow (w:World) (k:Nat) (os:Array Obj):Below w.heap.size w (Go.Sort.grow (w.drewN k) os):=by
 refine⟨rfl,rfl,rfl,by simp[Go.Sort.grow],fun i hi=>?_⟩
 show(w.heap++os)[i]?=w.heap[i]?
 rw[Array.getElem?_append_left hi]

theorem pint_ok (s:ByteArray) (hs:s.size≤4096) (hd:allDig s.data.toList) (hn:s.data.toList≠ []) (hv:decV s.data.toList≤9223372036854775807) (w:World):
  Calls Tryz.prog 196 #[.string s,.int .i64 10,.int .i64 64] w fun e w'=>e= .returned (.tuple #[.int .i64 (decV s.data.toList),.nilIface])∧Below w.heap.size w w':=by
 refine(Tryz.strconv_ParseInt_10_at64_ok s (by omega) (decV s.data.toList) (by rw[parseInt_dig _ hd hn,if_pos hv]) w).mono ?_
 rintro e w' ⟨rfl,h⟩
 refine⟨rfl,?_⟩
 rcases h with rfl|⟨t,rfl⟩
 ·exact Below.refl _ _
 ·exact below_bytes _ _ _
theorem pint_no (s:ByteArray) (hs:s.size≤4096) (hd:allDig s.data.toList) (hn:s.data.toList≠ []) (hv:¬decV s.data.toList≤9223372036854775807) (w:World) (he:LexEnv w):
  Calls Tryz.prog 196 #[.string s,.int .i64 10,.int .i64 64] w fun e w'=>∃n t p,e= .returned (.tuple #[.int .i64 n,.iface t p])∧Below w.heap.size w w':=by
 obtain⟨tp,p,hvar⟩:=he.er
 refine(Tryz.strconv_ParseInt_10_at64_range_var s (by omega) (by rw[parseInt_dig _ hd hn,if_neg hv]) tp p w hvar).mono ?_
 rintro e w' ⟨N,rfl,_,_,hb⟩
 exact⟨_,_,_,rfl,hb⟩
theorem fint_any (n:Nat) (hn:n≤9223372036854775807) (w:World) (he:LexEnv w):
  Calls Tryz.prog 197 #[.int .i64 n,.int .i64 10] w fun e w'=>e= .returned (.string ⟨(Lib.itoa (n:Int)).toArray⟩)∧Below w.heap.size w w':=by
 refine(Tryz.strconv_FormatInt_10 (n:Int) (by omega) (by omega) w he.tab).mono ?_
 rintro e w' ⟨rfl,k,os,rfl⟩
 exact⟨rfl,below_grow _ _ _⟩
end Go.Proofs.YtfomomaomggpbaaGreatDoor
