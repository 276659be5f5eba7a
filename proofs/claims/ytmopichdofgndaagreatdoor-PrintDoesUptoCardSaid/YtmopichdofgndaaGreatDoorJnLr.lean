/-
  ref08's small functions: letter, digit.
-/
import Derived.Test.YtmopichdofgndaaGreatDoorJnLxE
set_option linter.unusedVariables false
set_option linter.unusedSimpArgs false
set_option maxHeartbeats 3200000
set_option maxRecDepth 100000
namespace Go.Proofs.YtmopichdofgndaaGreatDoor
open Go.RowKit Go.Shelf

theorem rdigit_any (c:Int) (w:World):Calls Tryz.prog 171 #[.int .u8 c] w fun e w'=>e= .returned (.bool (digR c))∧w=w':=by
 by_cases h:48≤c
 ·have HF:Hid (digR c=decide (c≤57)):=by show _=_;simp[digR,h]
  go_enter Tryz.func171,Tryz.ntmps171
  go_wp2
  go_ret
  exact⟨by rw[HF.out];rfl,rfl⟩
 ·have HF:Hid (digR c=false):=by show _=_;simp[digR,h]
  go_enter Tryz.func171,Tryz.ntmps171
  go_wp2
  go_ret
  exact⟨by rw[HF.out];rfl,rfl⟩
theorem rletter_any (c:Int) (w:World):Calls Tryz.prog 169 #[.int .u8 c] w fun e w'=>e= .returned (.bool (letR c))∧w=w':=by
 by_cases h1:97≤c
 ·by_cases h2:c≤122
  ·have HF:Hid (letR c=true):=by show _=_;simp[letR,h1,h2]
   go_enter Tryz.func169,Tryz.ntmps169
   go_wp2
   go_ret
   exact⟨by rw[HF.out];rfl,rfl⟩
  ·have h3:65≤c:=by omega
   have h4:¬c≤90:=by omega
   have h5:(c==95)=false:=by simp;omega
   have HF:Hid (letR c=false):=by show _=_;simp only[letR];simp[h2,h4,h5]
   go_enter Tryz.func169,Tryz.ntmps169
   go_wp2
   go_ret
   exact⟨by rw[HF.out];rfl,rfl⟩
 ·by_cases h3:65≤c
  ·by_cases h4:c≤90
   ·have HF:Hid (letR c=true):=by show _=_;simp[letR,h3,h4]
    go_enter Tryz.func169,Tryz.ntmps169
    go_wp2
    go_ret
    exact⟨by rw[HF.out];rfl,rfl⟩
   ·have HF:Hid (letR c=(c==95)):=by show _=_;simp only[letR];simp[h1,h4]
    go_enter Tryz.func169,Tryz.ntmps169
    go_wp2
    go_ret
    exact⟨by rw[HF.out];rfl,rfl⟩
  ·have h5:(c==95)=false:=by simp;omega
   have HF:Hid (letR c=false):=by show _=_;simp only[letR];simp[h1,h3,h5]
   go_enter Tryz.func169,Tryz.ntmps169
   go_wp2
   go_ret
   exact⟨by rw[HF.out];rfl,rfl⟩
theorem head_at (x:ByteArray) (h:0 < x.size):x.data.toList.headD 0=x[0]'h:=by
 have:=byte_at x 0 h
 cases hl:x.data.toList with
 |nil=>rw[hl]at this;simp at this
 |cons a r=>rw[hl]at this;simpa using this

theorem rkeyword_any (s:ByteArray) (w:World):Calls Tryz.prog 170 #[.string s] w fun e w'=>e= .returned (.bool (keyB s.data.toList))∧Below w.heap.size w w':=by
 have hr:keyB s.data.toList=(kwL.drop 0).any fun t=>t==s.toList:=by
  rw[ByteArray.toList_eq]
  unfold keyB
  rw[Bool.eq_iff_iff]
  simp only[List.contains_iff_mem,List.drop_zero,List.any_eq_true,beq_iff_eq]
  exact⟨fun h=>⟨_,h,rfl⟩,fun⟨t,h,e⟩=>e▸h⟩
 obtain⟨q,hq⟩:=nmq (keyB s.data.toList)
 rw[←hq]at hr ⊢
 have HR:=hdq hr
 clear hr hq
 go_enter Tryz.func170,Tryz.ntmps170
 go_wp2
 go_loop [4] (fun i=>∃k:Nat,k≤14∧i= .int .i64 k∧Hid (q=(kwL.drop k).any fun t=>t==s.toList)) (fun i=>14 - (intOf i).toNat)
 case atStart=>exact⟨0,by decide,rfl,HR⟩
 case round=>
  obtain⟨k,hk,rfl,hR⟩:=hrel
  obtain rfl|rfl|rfl|rfl|rfl|rfl|rfl|rfl|rfl|rfl|rfl|rfl|rfl|rfl|rfl:k=0∨k=1∨k=2∨k=3∨k=4∨k=5∨k=6∨k=7∨k=8∨k=9∨k=10∨k=11∨k=12∨k=13∨k=14:=by omega
  ·cases hx:(([118,97,114]:List UInt8)==s.toList)
   ·have hn:q=(kwL.drop 1).any fun t=>t==s.toList:=by rw[hR.out];show((([118,97,114]:List UInt8)==s.toList) || _)=_;rw[hx];rfl
    have HN:=hdq hn
    clear hn
    go_wp2
    go_round
    case rel=>exact⟨1,by decide,rfl,HN⟩
    case measure=>simp[intOf]
   ·have hn:q=true:=by rw[hR.out];show((([118,97,114]:List UInt8)==s.toList) || _)=_;rw[hx];rfl
    have HN:=hdq hn
    clear hn
    go_wp2
    go_ret
    exact⟨by rw[HN.out];rfl,(Below.refl _ _).alloc (lrq _) _⟩
  ·cases hx:(([97,114,114,97,121]:List UInt8)==s.toList)
   ·have hn:q=(kwL.drop 2).any fun t=>t==s.toList:=by rw[hR.out];show((([97,114,114,97,121]:List UInt8)==s.toList) || _)=_;rw[hx];rfl
    have HN:=hdq hn
    clear hn
    go_wp2
    go_round
    case rel=>exact⟨2,by decide,rfl,HN⟩
    case measure=>simp[intOf]
   ·have hn:q=true:=by rw[hR.out];show((([97,114,114,97,121]:List UInt8)==s.toList) || _)=_;rw[hx];rfl
    have HN:=hdq hn
    clear hn
    go_wp2
    go_ret
    exact⟨by rw[HN.out];rfl,(Below.refl _ _).alloc (lrq _) _⟩
  ·cases hx:(([112,114,111,99]:List UInt8)==s.toList)
   ·have hn:q=(kwL.drop 3).any fun t=>t==s.toList:=by rw[hR.out];show((([112,114,111,99]:List UInt8)==s.toList) || _)=_;rw[hx];rfl
    have HN:=hdq hn
    clear hn
    go_wp2
    go_round
    case rel=>exact⟨3,by decide,rfl,HN⟩
    case measure=>simp[intOf]
   ·have hn:q=true:=by rw[hR.out];show((([112,114,111,99]:List UInt8)==s.toList) || _)=_;rw[hx];rfl
    have HN:=hdq hn
    clear hn
    go_wp2
    go_ret
    exact⟨by rw[HN.out];rfl,(Below.refl _ _).alloc (lrq _) _⟩
  ·cases hx:(([109,97,105,110]:List UInt8)==s.toList)
   ·have hn:q=(kwL.drop 4).any fun t=>t==s.toList:=by rw[hR.out];show((([109,97,105,110]:List UInt8)==s.toList) || _)=_;rw[hx];rfl
    have HN:=hdq hn
    clear hn
    go_wp2
    go_round
    case rel=>exact⟨4,by decide,rfl,HN⟩
    case measure=>simp[intOf]
   ·have hn:q=true:=by rw[hR.out];show((([109,97,105,110]:List UInt8)==s.toList) || _)=_;rw[hx];rfl
    have HN:=hdq hn
    clear hn
    go_wp2
    go_ret
    exact⟨by rw[HN.out];rfl,(Below.refl _ _).alloc (lrq _) _⟩
  ·cases hx:(([115,107,105,112]:List UInt8)==s.toList)
   ·have hn:q=(kwL.drop 5).any fun t=>t==s.toList:=by rw[hR.out];show((([115,107,105,112]:List UInt8)==s.toList) || _)=_;rw[hx];rfl
    have HN:=hdq hn
    clear hn
    go_wp2
    go_round
    case rel=>exact⟨5,by decide,rfl,HN⟩
    case measure=>simp[intOf]
   ·have hn:q=true:=by rw[hR.out];show((([115,107,105,112]:List UInt8)==s.toList) || _)=_;rw[hx];rfl
    have HN:=hdq hn
    clear hn
    go_wp2
    go_ret
    exact⟨by rw[HN.out];rfl,(Below.refl _ _).alloc (lrq _) _⟩
  ·cases hx:(([105,110,112,117,116]:List UInt8)==s.toList)
   ·have hn:q=(kwL.drop 6).any fun t=>t==s.toList:=by rw[hR.out];show((([105,110,112,117,116]:List UInt8)==s.toList) || _)=_;rw[hx];rfl
    have HN:=hdq hn
    clear hn
    go_wp2
    go_round
    case rel=>exact⟨6,by decide,rfl,HN⟩
    case measure=>simp[intOf]
   ·have hn:q=true:=by rw[hR.out];show((([105,110,112,117,116]:List UInt8)==s.toList) || _)=_;rw[hx];rfl
    have HN:=hdq hn
    clear hn
    go_wp2
    go_ret
    exact⟨by rw[HN.out];rfl,(Below.refl _ _).alloc (lrq _) _⟩
  ·cases hx:(([97,115,115,117,109,101]:List UInt8)==s.toList)
   ·have hn:q=(kwL.drop 7).any fun t=>t==s.toList:=by rw[hR.out];show((([97,115,115,117,109,101]:List UInt8)==s.toList) || _)=_;rw[hx];rfl
    have HN:=hdq hn
    clear hn
    go_wp2
    go_round
    case rel=>exact⟨7,by decide,rfl,HN⟩
    case measure=>simp[intOf]
   ·have hn:q=true:=by rw[hR.out];show((([97,115,115,117,109,101]:List UInt8)==s.toList) || _)=_;rw[hx];rfl
    have HN:=hdq hn
    clear hn
    go_wp2
    go_ret
    exact⟨by rw[HN.out];rfl,(Below.refl _ _).alloc (lrq _) _⟩
  ·cases hx:(([97,115,115,101,114,116]:List UInt8)==s.toList)
   ·have hn:q=(kwL.drop 8).any fun t=>t==s.toList:=by rw[hR.out];show((([97,115,115,101,114,116]:List UInt8)==s.toList) || _)=_;rw[hx];rfl
    have HN:=hdq hn
    clear hn
    go_wp2
    go_round
    case rel=>exact⟨8,by decide,rfl,HN⟩
    case measure=>simp[intOf]
   ·have hn:q=true:=by rw[hR.out];show((([97,115,115,101,114,116]:List UInt8)==s.toList) || _)=_;rw[hx];rfl
    have HN:=hdq hn
    clear hn
    go_wp2
    go_ret
    exact⟨by rw[HN.out];rfl,(Below.refl _ _).alloc (lrq _) _⟩
  ·cases hx:(([105,102]:List UInt8)==s.toList)
   ·have hn:q=(kwL.drop 9).any fun t=>t==s.toList:=by rw[hR.out];show((([105,102]:List UInt8)==s.toList) || _)=_;rw[hx];rfl
    have HN:=hdq hn
    clear hn
    go_wp2
    go_round
    case rel=>exact⟨9,by decide,rfl,HN⟩
    case measure=>simp[intOf]
   ·have hn:q=true:=by rw[hR.out];show((([105,102]:List UInt8)==s.toList) || _)=_;rw[hx];rfl
    have HN:=hdq hn
    clear hn
    go_wp2
    go_ret
    exact⟨by rw[HN.out];rfl,(Below.refl _ _).alloc (lrq _) _⟩
  ·cases hx:(([101,108,115,101]:List UInt8)==s.toList)
   ·have hn:q=(kwL.drop 10).any fun t=>t==s.toList:=by rw[hR.out];show((([101,108,115,101]:List UInt8)==s.toList) || _)=_;rw[hx];rfl
    have HN:=hdq hn
    clear hn
    go_wp2
    go_round
    case rel=>exact⟨10,by decide,rfl,HN⟩
    case measure=>simp[intOf]
   ·have hn:q=true:=by rw[hR.out];show((([101,108,115,101]:List UInt8)==s.toList) || _)=_;rw[hx];rfl
    have HN:=hdq hn
    clear hn
    go_wp2
    go_ret
    exact⟨by rw[HN.out];rfl,(Below.refl _ _).alloc (lrq _) _⟩
  ·cases hx:(([119,104,105,108,101]:List UInt8)==s.toList)
   ·have hn:q=(kwL.drop 11).any fun t=>t==s.toList:=by rw[hR.out];show((([119,104,105,108,101]:List UInt8)==s.toList) || _)=_;rw[hx];rfl
    have HN:=hdq hn
    clear hn
    go_wp2
    go_round
    case rel=>exact⟨11,by decide,rfl,HN⟩
    case measure=>simp[intOf]
   ·have hn:q=true:=by rw[hR.out];show((([119,104,105,108,101]:List UInt8)==s.toList) || _)=_;rw[hx];rfl
    have HN:=hdq hn
    clear hn
    go_wp2
    go_ret
    exact⟨by rw[HN.out];rfl,(Below.refl _ _).alloc (lrq _) _⟩
  ·cases hx:(([99,97,108,108]:List UInt8)==s.toList)
   ·have hn:q=(kwL.drop 12).any fun t=>t==s.toList:=by rw[hR.out];show((([99,97,108,108]:List UInt8)==s.toList) || _)=_;rw[hx];rfl
    have HN:=hdq hn
    clear hn
    go_wp2
    go_round
    case rel=>exact⟨12,by decide,rfl,HN⟩
    case measure=>simp[intOf]
   ·have hn:q=true:=by rw[hR.out];show((([99,97,108,108]:List UInt8)==s.toList) || _)=_;rw[hx];rfl
    have HN:=hdq hn
    clear hn
    go_wp2
    go_ret
    exact⟨by rw[HN.out];rfl,(Below.refl _ _).alloc (lrq _) _⟩
  ·cases hx:(([116,114,117,101]:List UInt8)==s.toList)
   ·have hn:q=(kwL.drop 13).any fun t=>t==s.toList:=by rw[hR.out];show((([116,114,117,101]:List UInt8)==s.toList) || _)=_;rw[hx];rfl
    have HN:=hdq hn
    clear hn
    go_wp2
    go_round
    case rel=>exact⟨13,by decide,rfl,HN⟩
    case measure=>simp[intOf]
   ·have hn:q=true:=by rw[hR.out];show((([116,114,117,101]:List UInt8)==s.toList) || _)=_;rw[hx];rfl
    have HN:=hdq hn
    clear hn
    go_wp2
    go_ret
    exact⟨by rw[HN.out];rfl,(Below.refl _ _).alloc (lrq _) _⟩
  ·cases hx:(([102,97,108,115,101]:List UInt8)==s.toList)
   ·have hn:q=(kwL.drop 14).any fun t=>t==s.toList:=by rw[hR.out];show((([102,97,108,115,101]:List UInt8)==s.toList) || _)=_;rw[hx];rfl
    have HN:=hdq hn
    clear hn
    go_wp2
    go_round
    case rel=>exact⟨14,by decide,rfl,HN⟩
    case measure=>simp[intOf]
   ·have hn:q=true:=by rw[hR.out];show((([102,97,108,115,101]:List UInt8)==s.toList) || _)=_;rw[hx];rfl
    have HN:=hdq hn
    clear hn
    go_wp2
    go_ret
    exact⟨by rw[HN.out];rfl,(Below.refl _ _).alloc (lrq _) _⟩
  ·have HF:Hid (q=false):=by show _=_;rw[hR.out];rfl
   go_wp2
   go_ret
   exact⟨by rw[HF.out];rfl,(Below.refl _ _).alloc (lrq _) _⟩

theorem rname_any (s:ByteArray) (hs:s.size≤9223372036854775807) (w:World):Calls Tryz.prog 106 #[.string s] w fun e w'=>e= .returned (.bool (nameB s.data.toList))∧Below w.heap.size w w':=by
 obtain⟨q,hq⟩:=nmq (nameB s.data.toList)
 have hle:=runB_le isWd s.data.toList
 rw[size_len]at hle
 rw[←hq]
 unfold nameB at hq
 rw[size_len]at hq
 by_cases h1:s.size < 1
 ·have hf:q=false:=by rw[hq,decide_eq_false (show ¬0 < runB isWd s.data.toList by omega)];simp
  clear hq
  have HF:=hdq hf
  clear hf
  go_enter Tryz.func106,Tryz.ntmps106
  go_wp2
  go_ret
  exact⟨by rw[HF.out];rfl,Below.refl _ _⟩
 by_cases h2:16 < s.size
 ·have hf:q=false:=by
   rw[hq]
   by_cases hr:runB isWd s.data.toList=s.size
   ·rw[decide_eq_false (show ¬runB isWd s.data.toList≤16 by omega)];simp
   ·simp[hr]
  clear hq
  have HF:=hdq hf
  clear hf
  go_enter Tryz.func106,Tryz.ntmps106
  go_wp2
  go_ret
  exact⟨by rw[HF.out];rfl,Below.refl _ _⟩
 have h0:0 < s.size:=by omega
 rw[head_at s h0]at hq
 have hL:∀W,Calls Tryz.prog 169 #[.int .u8 (s[0]'h0).toNat] W fun e w'=>e= .returned (.bool (isLet (s[0]'h0)))∧W=w':=fun W=>by
  have:=rletter_any ((s[0]'h0).toNat :Int) W
  rw[low_l]at this;exact this
 have hb0:=byte_at s 0 h0
 cases hl:isLet (s[0]'h0)
 ·have hf:q=false:=by
   rw[hq]
   cases hd:isDig (s[0]'h0)
   ·have:runB isWd s.data.toList=0:=runB_stop hb0 (by unfold isWd;rw[hl,hd];rfl) (Nat.zero_le _)
    rw[this];simp
   ·simp
  rw[hl]at hL
  have HL:=hdq hL
  have HF:=hdq hf
  clear hL hf hq hb0 hl
  go_enter Tryz.func106,Tryz.ntmps106
  go_wp2_with fail
  refine(HL.out _).mono ?_
  rintro _ w1 ⟨rfl,rfl⟩
  go_wp2_with fail
  go_ret
  exact⟨by rw[HF.out];rfl,Below.refl _ _⟩
 ·have hnd:isDig (s[0]'h0)=false:=by
   unfold isLet at hl
   unfold isDig
   simp only[Bool.or_eq_true,Bool.and_eq_true,decide_eq_true_eq,beq_iff_eq]at hl
   simp;omega
  rw[hnd]at hq
  rw[hl]at hL
  have hK:=fun W=>rkeyword_any s W
  cases hk:keyB s.data.toList
  ·rw[hk]at hK hq
   have hq2:q=(runB isWd s.data.toList==s.size):=by
    rw[hq]
    by_cases hr:runB isWd s.data.toList=s.size
    ·rw[hr];simp;omega
    ·rw[show(runB isWd s.data.toList==s.size)=false by simpa using hr];rfl
   have HL:=hdq hL
   have HK:=hdq hK
   have HQ:=hdq hq2
   clear hL hK hq hq2 hb0 hl hnd
   go_enter Tryz.func106,Tryz.ntmps106
   go_wp2_with fail
   refine(HL.out _).mono ?_
   rintro _ w1 ⟨rfl,rfl⟩
   go_wp2_with fail
   refine(HK.out _).mono ?_
   rintro _ w1 ⟨rfl,hb1⟩
   have HB1:=hdq hb1
   clear hb1
   go_wp2_with fail
   go_loop [3] (fun i=>∃k:Nat,k≤runB isWd s.data.toList∧i= .int .i64 k) (fun i=>s.size - (intOf i).toNat)
   case atStart=>exact⟨0,Nat.zero_le _,rfl⟩
   case round=>
    obtain⟨k,hkr,rfl⟩:=hrel
    by_cases hend:k < s.size
    ·have hb:=byte_at s k hend
     have hLk:∀W,Calls Tryz.prog 169 #[.int .u8 (s[k]'hend).toNat] W fun e w'=>e= .returned (.bool (isLet (s[k]'hend)))∧W=w':=fun W=>by
      have:=rletter_any ((s[k]'hend).toNat :Int) W
      rw[low_l]at this;exact this
     have hDk:∀W,Calls Tryz.prog 171 #[.int .u8 (s[k]'hend).toNat] W fun e w'=>e= .returned (.bool (isDig (s[k]'hend)))∧W=w':=fun W=>by
      have:=rdigit_any ((s[k]'hend).toNat :Int) W
      rw[low_d]at this;exact this
     cases hx:isLet (s[k]'hend)
     ·rw[hx]at hLk
      cases hy:isDig (s[k]'hend)
      ·rw[hy]at hDk
       have hfin:runB isWd s.data.toList=k:=runB_stop hb (by unfold isWd;rw[hx,hy];rfl) hkr
       have hf:q=false:=by rw[HQ.out,hfin];simp;omega
       have HF:=hdq hf
       have HL2:=hdq hLk
       have HD2:=hdq hDk
       clear hLk hDk hb hx hy hfin hf
       go_wp2_with fail
       refine(HL2.out _).mono ?_
       rintro _ w2 ⟨rfl,rfl⟩
       go_wp2_with fail
       refine(HD2.out _).mono ?_
       rintro _ w2 ⟨rfl,rfl⟩
       go_wp2_with fail
       go_ret
       exact⟨by rw[HF.out];rfl,HB1.out⟩
      ·rw[hy]at hDk
       have hn:k+1≤runB isWd s.data.toList:=runB_step hb (by unfold isWd;rw[hy];simp) hkr
       have HX:=hdq hn
       have HL2:=hdq hLk
       have HD2:=hdq hDk
       clear hLk hDk hb hx hy hn
       go_wp2_with fail
       refine(HL2.out _).mono ?_
       rintro _ w2 ⟨rfl,rfl⟩
       go_wp2_with fail
       refine(HD2.out _).mono ?_
       rintro _ w2 ⟨rfl,rfl⟩
       go_wp2_with fail
       go_round
       case rel=>exact⟨k+1,HX.out,by simp⟩
       case measure=>simp[intOf];omega
     ·rw[hx]at hLk
      have hn:k+1≤runB isWd s.data.toList:=runB_step hb (by unfold isWd;rw[hx];simp) hkr
      have HX:=hdq hn
      have HL2:=hdq hLk
      clear hLk hDk hb hx hn
      go_wp2_with fail
      refine(HL2.out _).mono ?_
      rintro _ w2 ⟨rfl,rfl⟩
      go_wp2_with fail
      go_round
      case rel=>exact⟨k+1,HX.out,by simp⟩
      case measure=>simp[intOf];omega
    ·have hf:q=true:=by rw[HQ.out];simp;omega
     have HF:=hdq hf
     clear hf
     go_wp2_with fail
     go_ret
     exact⟨by rw[HF.out];rfl,HB1.out⟩
  ·have hf:q=false:=by rw[hq,hk];simp
   rw[hk]at hK
   have HL:=hdq hL
   have HK:=hdq hK
   have HF:=hdq hf
   clear hL hK hq hf hb0 hl hnd
   go_enter Tryz.func106,Tryz.ntmps106
   go_wp2_with fail
   refine(HL.out _).mono ?_
   rintro _ w1 ⟨rfl,rfl⟩
   go_wp2_with fail
   refine(HK.out _).mono ?_
   rintro _ w1 ⟨rfl,hb1⟩
   have HB1:=hdq hb1
   clear hb1
   go_wp2_with fail
   go_ret
   exact⟨by rw[HF.out];rfl,HB1.out⟩
end Go.Proofs.YtmopichdofgndaaGreatDoor
