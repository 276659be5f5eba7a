/- lex.Keyword and lex.Name. -/
import Derived.Test.YtmopichdofgndaaGreatDoorJnLxF
import Derived.Test.YtmopichdofgndaaGreatDoorJgLxNum
import Derived.Test.YtmopichdofgndaaGreatDoorShelf
import Derived.Test.YtmopichdofgndaaGreatDoorJgCk3
set_option linter.all false
set_option maxHeartbeats 3200000
set_option maxRecDepth 100000
namespace Go.Proofs.YtmopichdofgndaaGreatDoor
open Go.RowKit Go.Shelf
def kwB:List UInt8:= [118,97,114,32,97,114,114,97,121,32,112,114,111,99,32,109,97,105,110,32,115,107,105,112,32,105,110,112,117,116,32,97,115,115,117,109,101]++ [32,97,115,115,101,114,116,32,105,102,32,101,108,115,101,32,119,104,105,108,101,32,99,97,108,108,32,116,114,117,101,32,102,97,108,115,101]
def kwL:List (List UInt8):= [[118,97,114], [97,114,114,97,121], [112,114,111,99], [109,97,105,110], [115,107,105,112], [105,110,112,117,116], [97,115,115,117,109,101], [97,115,115,101,114,116], [105,102], [101,108,115,101], [119,104,105,108,101], [99,97,108,108], [116,114,117,101], [102,97,108,115,101]]
theorem ziF:Lib.fields kwB=kwL:=by decide+kernel
theorem zkD:kwB.all (λb=>decide (b.toNat < 128))=true:=by decide+kernel
def keyB (l:List UInt8):Bool:=kwL.contains l
def zak (l:List UInt8):Bool:=(runB isWd l==l.length)&&decide (0 < runB isWd l)&&decide (runB isWd l<=16)&& !(zbz (l.headD 0))&& !keyB l
structure SpEnv (w:World):Prop where
 sp:Lib.TabIs Tryz.prog w "strings.asciiSpace" .u8 Lib.asciiSpaceTab
theorem SpEnv.keep {w w':World}(h:SpEnv w)(hb:Below w.heap.size w w'):SpEnv w':=
 ⟨by have:=h.sp;unfold Lib.TabIs at this ⊢;exact zcp hb this⟩
theorem zfz (s:ByteArray):Lib.containsS (kwL.map λl=>(⟨l.toArray⟩:ByteArray)) s=keyB s.data.toList:=by
 unfold keyB;rw[Bool.eq_iff_iff,Lib.containsS_iff,List.contains_iff_mem,List.mem_map];constructor
 ·rintro⟨l,hl,rfl⟩;exact hl
 ·intro h;exact⟨_,h,(tx_eq rfl).symm⟩
theorem zee (s:ByteArray)(w:World)(he:SpEnv w):Calls Tryz.prog 120 #[.string s] w λe w'=>e= .returned (.bool (keyB s.data.toList))/\Below w.heap.size w w':=by
 have h1:=Tryz.strings_Fields ⟨kwB.toArray⟩ w (by decide+kernel) (λj b hj=>by
  have:=List.all_eq_true.1 zkD b (List.mem_of_getElem? hj);simpa using this) he.sp
 have h2:=Tryz.slices_Contains_string w.heap.size 0 14 14 (kwL.map λl=>(⟨l.toArray⟩:ByteArray)) s (w.alloc (.cells ((kwL).map λl=>Value.string ⟨l.toArray⟩).toArray 9)) (by decide) (by decide) (λj hj=>by
  have zw:j < kwL.length:=by simpa using hj
  rw[Nat.zero_add,ziE];simp[zw])
 rw[List.take_of_length_le (by decide),zfz]at h2;simp only[show(⟨kwB.toArray⟩:ByteArray).data.toList =kwB from rfl]at h1;rw[ziF]at h1;have hl:kwL.length=14:=rfl;rw[hl]at h1;have H1:=hdq h1;have H2:=hdq h2;clear h1 h2 hl;go_enter Tryz.func120,Tryz.ntmps120;go_wp2_with fail;refine H1.mono ?_;rintro _ w1 ⟨rfl,rfl⟩;go_wp2_with fail;refine H2.mono ?_;rintro _ w1 ⟨rfl,rfl⟩;go_wp2_with fail;go_ret;exact⟨rfl,(Below.refl _ _).alloc (lrq _) _⟩
theorem zeR (s:ByteArray)(hs:s.size<=9223372036854775807)(w:World)(he:SpEnv w):Calls Tryz.prog 53 #[.string s] w λe w'=>e= .returned (.bool (zak s.data.toList))/\Below w.heap.size w w':=by
 have h1:Calls Tryz.prog 116 #[.string s,.func (.func 117) #[] #[]] w (ziD (runB isWd s.data.toList) w):=zmv _ _ _ zmu s hs w;have hle:=zgm isWd s.data.toList;rw[zbl]at hle;obtain⟨n,hn⟩:=nmq (runB isWd s.data.toList);rw[<-hn]at h1 hle;have H1:=hdq h1;have HE:=hdq he;have Vw:zak s.data.toList=((n==s.size)&&decide (0 < n)&&decide (n<=16)&& !(zbz (s.data.toList.headD 0))&& !keyB s.data.toList):=by unfold zak;rw[<-hn,zbl]
 have Q1:=hdq Vw;clear h1 he hn Vw;by_cases c1:n=s.size
 ·by_cases c2:0 < n
  ·by_cases c3:n<=16
   ·have hp:0 < s.size:=by omega
    have hb:=zdo s 0 hp;obtain⟨b,LI⟩:=nmq (s[0]);have hh:s.data.toList.headD 0=b:=by
     rw[<-LI]at hb;cases hl:s.data.toList with
     |nil=>rw[hl]at hb;simp at hb
     |cons a r=>rw[hl]at hb;simpa using hb
    have e1:((n:Int)==(s.size:Int))=true:=by simp;omega
    have e2:decide ((0:Int) < (n:Int))=true:=by simp;omega
    have Hr:=UInt8.toNat_lt (s[0]'hp);have Fx:=zmt (s[0]'hp);rw[<-LI]at Fx;have HH:=hdq hh;cases hd:zbz b
    ·rw[hd]at Fx;have Xt:∀W:World,Calls Tryz.prog 119 #[.int .i32 ((s[0]'hp).toNat :Int)] W λe w'=>e= .returned (.bool false)/\W=w':=λW=>by
      have:=zdn ((s[0]'hp).toNat :Int) W;rw[<-LI,Fx]at this;rw[<-LI];exact this
     have HD:=hdq Xt;cases hk:keyB s.data.toList
     ·have HF:Hid (zak s.data.toList=true):=by show _=_;rw[Q1.out,HH.out,hd,hk];simp[c1,c2,c3];omega
      have Xu:∀W,Below w.heap.size w W->Calls Tryz.prog 120 #[.string s] W λe w'=>e= .returned (.bool false)/\Below W.heap.size W w':=λW h=>by
       have:=zee s W (HE.keep h);rw[hk]at this;exact this
      have HK:=hdq Xu;clear hd Fx Xt hk Xu hb LI hh;go_enter Tryz.func53,Tryz.ntmps53;go_wp2_with fail;refine H1.mono ?_;rintro _ w1 ⟨rfl,hb⟩;go_wp2_with fail;refine(HD _).mono ?_;rintro _ w2 ⟨rfl,rfl⟩;go_wp2_with fail;refine(HK _ hb).mono ?_;rintro _ w2 ⟨rfl,FL⟩;go_wp2_with fail;go_ret;exact⟨by rw[HF.out];rfl,hb.trans (FL.mono hb.size)⟩
     ·have HF:Hid (zak s.data.toList=false):=by show _=_;rw[Q1.out,hk];simp
      have Xu:∀W,Below w.heap.size w W->Calls Tryz.prog 120 #[.string s] W λe w'=>e= .returned (.bool true)/\Below W.heap.size W w':=λW h=>by
       have:=zee s W (HE.keep h);rw[hk]at this;exact this
      have HK:=hdq Xu;clear hd Fx Xt hk Xu hb LI hh;go_enter Tryz.func53,Tryz.ntmps53;go_wp2_with fail;refine H1.mono ?_;rintro _ w1 ⟨rfl,hb⟩;go_wp2_with fail;refine(HD _).mono ?_;rintro _ w2 ⟨rfl,rfl⟩;go_wp2_with fail;refine(HK _ hb).mono ?_;rintro _ w2 ⟨rfl,FL⟩;go_wp2_with fail;go_ret;exact⟨by rw[HF.out];rfl,hb.trans (FL.mono hb.size)⟩
    ·rw[hd]at Fx;have Xt:∀W:World,Calls Tryz.prog 119 #[.int .i32 ((s[0]'hp).toNat :Int)] W λe w'=>e= .returned (.bool true)/\W=w':=λW=>by
      have:=zdn ((s[0]'hp).toNat :Int) W;rw[<-LI,Fx]at this;rw[<-LI];exact this
     have HD:=hdq Xt;have HF:Hid (zak s.data.toList=false):=by show _=_;rw[Q1.out,HH.out,hd];simp
     clear hd Fx Xt hb LI hh;go_enter Tryz.func53,Tryz.ntmps53;go_wp2_with fail;refine H1.mono ?_;rintro _ w1 ⟨rfl,hb⟩;go_wp2_with fail;refine(HD _).mono ?_;rintro _ w2 ⟨rfl,rfl⟩;go_wp2_with fail;go_ret;exact⟨by rw[HF.out];rfl,hb⟩
   ·have HF:Hid (zak s.data.toList=false):=by show _=_;rw[Q1.out];simp[c3]
    have e1:((n:Int)==(s.size:Int))=true:=by simp;omega
    have e2:decide ((0:Int) < (n:Int))=true:=by simp;omega
    have e3:decide ((n:Int)<=16)=false:=by simp;omega
    clear c1;go_enter Tryz.func53,Tryz.ntmps53;go_wp2_with fail;refine H1.mono ?_;rintro _ w1 ⟨rfl,hb⟩;go_wp2_with fail;go_ret;exact⟨by rw[HF.out];rfl,hb⟩
  ·have HF:Hid (zak s.data.toList=false):=by show _=_;rw[Q1.out];simp[c2]
   have e1:((n:Int)==(s.size:Int))=true:=by simp;omega
   have e2:decide ((0:Int) < (n:Int))=false:=by simp;omega
   clear c1;go_enter Tryz.func53,Tryz.ntmps53;go_wp2_with fail;refine H1.mono ?_;rintro _ w1 ⟨rfl,hb⟩;go_wp2_with fail;go_ret;exact⟨by rw[HF.out];rfl,hb⟩
 ·have HF:Hid (zak s.data.toList=false):=by show _=_;rw[Q1.out];simp[c1]
  have e1:((n:Int)==(s.size:Int))=false:=by simp;omega
  clear c1;go_enter Tryz.func53,Tryz.ntmps53;go_wp2_with fail;refine H1.mono ?_;rintro _ w1 ⟨rfl,hb⟩;go_wp2_with fail;go_ret;exact⟨by rw[HF.out];rfl,hb⟩
theorem zhF (c:Int)(w:World):Calls Tryz.prog 171 #[.int .u8 c] w λe w'=>e= .returned (.bool (digR c))/\w=w':=by
 by_cases h:48<=c
 ·have HF:Hid (digR c=decide (c<=57)):=by show _=_;simp[digR,h]
  go_enter Tryz.func171,Tryz.ntmps171;go_wp2;go_ret;exact⟨by rw[HF.out];rfl,rfl⟩
 ·have HF:Hid (digR c=false):=by show _=_;simp[digR,h]
  go_enter Tryz.func171,Tryz.ntmps171;go_wp2;go_ret;exact⟨by rw[HF.out];rfl,rfl⟩
theorem zdq (c:Int)(w:World):Calls Tryz.prog 169 #[.int .u8 c] w λe w'=>e= .returned (.bool (letR c))/\w=w':=by
 by_cases h1:97<=c
 ·by_cases h2:c<=122
  ·have HF:Hid (letR c=true):=by show _=_;simp[letR,h1,h2]
   go_enter Tryz.func169,Tryz.ntmps169;go_wp2;go_ret;exact⟨by rw[HF.out];rfl,rfl⟩
  ·have h3:65<=c:=by omega
   have h4:¬c<=90:=by omega
   have h5:(c==95)=false:=by simp;omega
   have HF:Hid (letR c=false):=by show _=_;simp only[letR];simp[h2,h4,h5]
   go_enter Tryz.func169,Tryz.ntmps169;go_wp2;go_ret;exact⟨by rw[HF.out];rfl,rfl⟩
 ·by_cases h3:65<=c
  ·by_cases h4:c<=90
   ·have HF:Hid (letR c=true):=by show _=_;simp[letR,h3,h4]
    go_enter Tryz.func169,Tryz.ntmps169;go_wp2;go_ret;exact⟨by rw[HF.out];rfl,rfl⟩
   ·have HF:Hid (letR c=(c==95)):=by show _=_;simp only[letR];simp[h1,h4]
    go_enter Tryz.func169,Tryz.ntmps169;go_wp2;go_ret;exact⟨by rw[HF.out];rfl,rfl⟩
  ·have h5:(c==95)=false:=by simp;omega
   have HF:Hid (letR c=false):=by show _=_;simp only[letR];simp[h1,h3,h5]
   go_enter Tryz.func169,Tryz.ntmps169;go_wp2;go_ret;exact⟨by rw[HF.out];rfl,rfl⟩
theorem zmw (x:ByteArray)(h:0 < x.size):x.data.toList.headD 0=x[0]'h:=by
 have:=zdo x 0 h;cases hl:x.data.toList with
 |nil=>rw[hl]at this;simp at this
 |cons a r=>rw[hl]at this;simpa using this
theorem zfA (s:ByteArray)(w:World):Calls Tryz.prog 170 #[.string s] w λe w'=>e= .returned (.bool (keyB s.data.toList))/\Below w.heap.size w w':=by
 have hr:keyB s.data.toList=(kwL.drop 0).any λt=>t==s.toList:=by
  rw[ByteArray.toList_eq];unfold keyB;rw[Bool.eq_iff_iff];simp only[List.contains_iff_mem,List.drop_zero,List.any_eq_true,beq_iff_eq];exact⟨λh=>⟨_,h,rfl⟩,fun⟨t,h,e⟩=>e▸h⟩
 obtain⟨q,hq⟩:=nmq (keyB s.data.toList);rw[<-hq]at hr ⊢;have HR:=hdq hr;clear hr hq;go_enter Tryz.func170,Tryz.ntmps170;go_wp2;go_loop [4] (λi=>∃k:Nat,k<=14/\i= .int .i64 k/\Hid (q=(kwL.drop k).any λt=>t==s.toList)) (λi=>14 - (intOf i).toNat);case atStart=>exact⟨0,by decide,rfl,HR⟩
 case round=>
  obtain⟨k,hk,rfl,hR⟩:=hrel;obtain rfl|rfl|rfl|rfl|rfl|rfl|rfl|rfl|rfl|rfl|rfl|rfl|rfl|rfl|rfl:k=0\/k=1\/k=2\/k=3\/k=4\/k=5\/k=6\/k=7\/k=8\/k=9\/k=10\/k=11\/k=12\/k=13\/k=14:=by omega
  ·cases hx:(([118,97,114]:List UInt8)==s.toList)
   ·have hn:q=(kwL.drop 1).any λt=>t==s.toList:=by rw[hR.out];show((([118,97,114]:List UInt8)==s.toList) || _)=_;rw[hx];rfl
    have HN:=hdq hn;clear hn;go_wp2;go_round;case rel=>exact⟨1,by decide,rfl,HN⟩
    case measure=>simp[intOf]
   ·have hn:q=true:=by rw[hR.out];show((([118,97,114]:List UInt8)==s.toList) || _)=_;rw[hx];rfl
    have HN:=hdq hn;clear hn;go_wp2;go_ret;exact⟨by rw[HN.out];rfl,(Below.refl _ _).alloc (lrq _) _⟩
  ·cases hx:(([97,114,114,97,121]:List UInt8)==s.toList)
   ·have hn:q=(kwL.drop 2).any λt=>t==s.toList:=by rw[hR.out];show((([97,114,114,97,121]:List UInt8)==s.toList) || _)=_;rw[hx];rfl
    have HN:=hdq hn;clear hn;go_wp2;go_round;case rel=>exact⟨2,by decide,rfl,HN⟩
    case measure=>simp[intOf]
   ·have hn:q=true:=by rw[hR.out];show((([97,114,114,97,121]:List UInt8)==s.toList) || _)=_;rw[hx];rfl
    have HN:=hdq hn;clear hn;go_wp2;go_ret;exact⟨by rw[HN.out];rfl,(Below.refl _ _).alloc (lrq _) _⟩
  ·cases hx:(([112,114,111,99]:List UInt8)==s.toList)
   ·have hn:q=(kwL.drop 3).any λt=>t==s.toList:=by rw[hR.out];show((([112,114,111,99]:List UInt8)==s.toList) || _)=_;rw[hx];rfl
    have HN:=hdq hn;clear hn;go_wp2;go_round;case rel=>exact⟨3,by decide,rfl,HN⟩
    case measure=>simp[intOf]
   ·have hn:q=true:=by rw[hR.out];show((([112,114,111,99]:List UInt8)==s.toList) || _)=_;rw[hx];rfl
    have HN:=hdq hn;clear hn;go_wp2;go_ret;exact⟨by rw[HN.out];rfl,(Below.refl _ _).alloc (lrq _) _⟩
  ·cases hx:(([109,97,105,110]:List UInt8)==s.toList)
   ·have hn:q=(kwL.drop 4).any λt=>t==s.toList:=by rw[hR.out];show((([109,97,105,110]:List UInt8)==s.toList) || _)=_;rw[hx];rfl
    have HN:=hdq hn;clear hn;go_wp2;go_round;case rel=>exact⟨4,by decide,rfl,HN⟩
    case measure=>simp[intOf]
   ·have hn:q=true:=by rw[hR.out];show((([109,97,105,110]:List UInt8)==s.toList) || _)=_;rw[hx];rfl
    have HN:=hdq hn;clear hn;go_wp2;go_ret;exact⟨by rw[HN.out];rfl,(Below.refl _ _).alloc (lrq _) _⟩
  ·cases hx:(([115,107,105,112]:List UInt8)==s.toList)
   ·have hn:q=(kwL.drop 5).any λt=>t==s.toList:=by rw[hR.out];show((([115,107,105,112]:List UInt8)==s.toList) || _)=_;rw[hx];rfl
    have HN:=hdq hn;clear hn;go_wp2;go_round;case rel=>exact⟨5,by decide,rfl,HN⟩
    case measure=>simp[intOf]
   ·have hn:q=true:=by rw[hR.out];show((([115,107,105,112]:List UInt8)==s.toList) || _)=_;rw[hx];rfl
    have HN:=hdq hn;clear hn;go_wp2;go_ret;exact⟨by rw[HN.out];rfl,(Below.refl _ _).alloc (lrq _) _⟩
  ·cases hx:(([105,110,112,117,116]:List UInt8)==s.toList)
   ·have hn:q=(kwL.drop 6).any λt=>t==s.toList:=by rw[hR.out];show((([105,110,112,117,116]:List UInt8)==s.toList) || _)=_;rw[hx];rfl
    have HN:=hdq hn;clear hn;go_wp2;go_round;case rel=>exact⟨6,by decide,rfl,HN⟩
    case measure=>simp[intOf]
   ·have hn:q=true:=by rw[hR.out];show((([105,110,112,117,116]:List UInt8)==s.toList) || _)=_;rw[hx];rfl
    have HN:=hdq hn;clear hn;go_wp2;go_ret;exact⟨by rw[HN.out];rfl,(Below.refl _ _).alloc (lrq _) _⟩
  ·cases hx:(([97,115,115,117,109,101]:List UInt8)==s.toList)
   ·have hn:q=(kwL.drop 7).any λt=>t==s.toList:=by rw[hR.out];show((([97,115,115,117,109,101]:List UInt8)==s.toList) || _)=_;rw[hx];rfl
    have HN:=hdq hn;clear hn;go_wp2;go_round;case rel=>exact⟨7,by decide,rfl,HN⟩
    case measure=>simp[intOf]
   ·have hn:q=true:=by rw[hR.out];show((([97,115,115,117,109,101]:List UInt8)==s.toList) || _)=_;rw[hx];rfl
    have HN:=hdq hn;clear hn;go_wp2;go_ret;exact⟨by rw[HN.out];rfl,(Below.refl _ _).alloc (lrq _) _⟩
  ·cases hx:(([97,115,115,101,114,116]:List UInt8)==s.toList)
   ·have hn:q=(kwL.drop 8).any λt=>t==s.toList:=by rw[hR.out];show((([97,115,115,101,114,116]:List UInt8)==s.toList) || _)=_;rw[hx];rfl
    have HN:=hdq hn;clear hn;go_wp2;go_round;case rel=>exact⟨8,by decide,rfl,HN⟩
    case measure=>simp[intOf]
   ·have hn:q=true:=by rw[hR.out];show((([97,115,115,101,114,116]:List UInt8)==s.toList) || _)=_;rw[hx];rfl
    have HN:=hdq hn;clear hn;go_wp2;go_ret;exact⟨by rw[HN.out];rfl,(Below.refl _ _).alloc (lrq _) _⟩
  ·cases hx:(([105,102]:List UInt8)==s.toList)
   ·have hn:q=(kwL.drop 9).any λt=>t==s.toList:=by rw[hR.out];show((([105,102]:List UInt8)==s.toList) || _)=_;rw[hx];rfl
    have HN:=hdq hn;clear hn;go_wp2;go_round;case rel=>exact⟨9,by decide,rfl,HN⟩
    case measure=>simp[intOf]
   ·have hn:q=true:=by rw[hR.out];show((([105,102]:List UInt8)==s.toList) || _)=_;rw[hx];rfl
    have HN:=hdq hn;clear hn;go_wp2;go_ret;exact⟨by rw[HN.out];rfl,(Below.refl _ _).alloc (lrq _) _⟩
  ·cases hx:(([101,108,115,101]:List UInt8)==s.toList)
   ·have hn:q=(kwL.drop 10).any λt=>t==s.toList:=by rw[hR.out];show((([101,108,115,101]:List UInt8)==s.toList) || _)=_;rw[hx];rfl
    have HN:=hdq hn;clear hn;go_wp2;go_round;case rel=>exact⟨10,by decide,rfl,HN⟩
    case measure=>simp[intOf]
   ·have hn:q=true:=by rw[hR.out];show((([101,108,115,101]:List UInt8)==s.toList) || _)=_;rw[hx];rfl
    have HN:=hdq hn;clear hn;go_wp2;go_ret;exact⟨by rw[HN.out];rfl,(Below.refl _ _).alloc (lrq _) _⟩
  ·cases hx:(([119,104,105,108,101]:List UInt8)==s.toList)
   ·have hn:q=(kwL.drop 11).any λt=>t==s.toList:=by rw[hR.out];show((([119,104,105,108,101]:List UInt8)==s.toList) || _)=_;rw[hx];rfl
    have HN:=hdq hn;clear hn;go_wp2;go_round;case rel=>exact⟨11,by decide,rfl,HN⟩
    case measure=>simp[intOf]
   ·have hn:q=true:=by rw[hR.out];show((([119,104,105,108,101]:List UInt8)==s.toList) || _)=_;rw[hx];rfl
    have HN:=hdq hn;clear hn;go_wp2;go_ret;exact⟨by rw[HN.out];rfl,(Below.refl _ _).alloc (lrq _) _⟩
  ·cases hx:(([99,97,108,108]:List UInt8)==s.toList)
   ·have hn:q=(kwL.drop 12).any λt=>t==s.toList:=by rw[hR.out];show((([99,97,108,108]:List UInt8)==s.toList) || _)=_;rw[hx];rfl
    have HN:=hdq hn;clear hn;go_wp2;go_round;case rel=>exact⟨12,by decide,rfl,HN⟩
    case measure=>simp[intOf]
   ·have hn:q=true:=by rw[hR.out];show((([99,97,108,108]:List UInt8)==s.toList) || _)=_;rw[hx];rfl
    have HN:=hdq hn;clear hn;go_wp2;go_ret;exact⟨by rw[HN.out];rfl,(Below.refl _ _).alloc (lrq _) _⟩
  ·cases hx:(([116,114,117,101]:List UInt8)==s.toList)
   ·have hn:q=(kwL.drop 13).any λt=>t==s.toList:=by rw[hR.out];show((([116,114,117,101]:List UInt8)==s.toList) || _)=_;rw[hx];rfl
    have HN:=hdq hn;clear hn;go_wp2;go_round;case rel=>exact⟨13,by decide,rfl,HN⟩
    case measure=>simp[intOf]
   ·have hn:q=true:=by rw[hR.out];show((([116,114,117,101]:List UInt8)==s.toList) || _)=_;rw[hx];rfl
    have HN:=hdq hn;clear hn;go_wp2;go_ret;exact⟨by rw[HN.out];rfl,(Below.refl _ _).alloc (lrq _) _⟩
  ·cases hx:(([102,97,108,115,101]:List UInt8)==s.toList)
   ·have hn:q=(kwL.drop 14).any λt=>t==s.toList:=by rw[hR.out];show((([102,97,108,115,101]:List UInt8)==s.toList) || _)=_;rw[hx];rfl
    have HN:=hdq hn;clear hn;go_wp2;go_round;case rel=>exact⟨14,by decide,rfl,HN⟩
    case measure=>simp[intOf]
   ·have hn:q=true:=by rw[hR.out];show((([102,97,108,115,101]:List UInt8)==s.toList) || _)=_;rw[hx];rfl
    have HN:=hdq hn;clear hn;go_wp2;go_ret;exact⟨by rw[HN.out];rfl,(Below.refl _ _).alloc (lrq _) _⟩
  ·have HF:Hid (q=false):=by show _=_;rw[hR.out];rfl
   go_wp2;go_ret;exact⟨by rw[HF.out];rfl,(Below.refl _ _).alloc (lrq _) _⟩
theorem zaE (s:ByteArray)(hs:s.size<=9223372036854775807)(w:World):Calls Tryz.prog 106 #[.string s] w λe w'=>e= .returned (.bool (zak s.data.toList))/\Below w.heap.size w w':=by
 obtain⟨q,hq⟩:=nmq (zak s.data.toList);have hle:=zgm isWd s.data.toList;rw[zbl]at hle;rw[<-hq];unfold zak at hq;rw[zbl]at hq;by_cases h1:s.size < 1
 ·have hf:q=false:=by rw[hq,decide_eq_false (show ¬0 < runB isWd s.data.toList by omega)];simp
  clear hq;have HF:=hdq hf;clear hf;go_enter Tryz.func106,Tryz.ntmps106;go_wp2;go_ret;exact⟨by rw[HF.out];rfl,Below.refl _ _⟩
 by_cases h2:16 < s.size
 ·have hf:q=false:=by
   rw[hq];by_cases hr:runB isWd s.data.toList=s.size
   ·rw[decide_eq_false (show ¬runB isWd s.data.toList<=16 by omega)];simp
   ·simp[hr]
  clear hq;have HF:=hdq hf;clear hf;go_enter Tryz.func106,Tryz.ntmps106;go_wp2;go_ret;exact⟨by rw[HF.out];rfl,Below.refl _ _⟩
 have h0:0 < s.size:=by omega
 rw[zmw s h0]at hq;have hL:∀W,Calls Tryz.prog 169 #[.int .u8 (s[0]'h0).toNat] W λe w'=>e= .returned (.bool (zea (s[0]'h0)))/\W=w':=λW=>by
  have:=zdq ((s[0]'h0).toNat :Int) W;rw[zms]at this;exact this
 have F0:=zdo s 0 h0;cases hl:zea (s[0]'h0)
 ·have hf:q=false:=by
   rw[hq];cases hd:zbz (s[0]'h0)
   ·have:runB isWd s.data.toList=0:=zco F0 (by unfold isWd;rw[hl,hd];rfl) (Nat.zero_le _);rw[this];simp
   ·simp
  rw[hl]at hL;have HL:=hdq hL;have HF:=hdq hf;clear hL hf hq F0 hl;go_enter Tryz.func106,Tryz.ntmps106;go_wp2_with fail;refine(HL _).mono ?_;rintro _ w1 ⟨rfl,rfl⟩;go_wp2_with fail;go_ret;exact⟨by rw[HF.out];rfl,Below.refl _ _⟩
 ·have Fa:zbz (s[0]'h0)=false:=by
   unfold zea at hl;unfold zbz;simp only[Bool.or_eq_true,Bool.and_eq_true,decide_eq_true_eq,beq_iff_eq]at hl;simp;omega
  rw[Fa]at hq;rw[hl]at hL;have hK:=λW=>zfA s W;cases hk:keyB s.data.toList
  ·rw[hk]at hK hq;have vq:q=(runB isWd s.data.toList==s.size):=by
    rw[hq];by_cases hr:runB isWd s.data.toList=s.size
    ·rw[hr];simp;omega
    ·rw[show(runB isWd s.data.toList==s.size)=false by simpa using hr];rfl
   have HL:=hdq hL;have HK:=hdq hK;have HQ:=hdq vq;clear hL hK hq vq F0 hl Fa;go_enter Tryz.func106,Tryz.ntmps106;go_wp2_with fail;refine(HL _).mono ?_;rintro _ w1 ⟨rfl,rfl⟩;go_wp2_with fail;refine(HK _).mono ?_;rintro _ w1 ⟨rfl,Gi⟩;have Hu:=hdq Gi;clear Gi;go_wp2_with fail;go_loop [3] (λi=>∃k:Nat,k<=runB isWd s.data.toList/\i= .int .i64 k) (λi=>s.size - (intOf i).toNat);case atStart=>exact⟨0,Nat.zero_le _,rfl⟩
   case round=>
    obtain⟨k,jk,rfl⟩:=hrel;by_cases Gx:k < s.size
    ·have hb:=zdo s k Gx;have Us:∀W,Calls Tryz.prog 169 #[.int .u8 (s[k]'Gx).toNat] W λe w'=>e= .returned (.bool (zea (s[k]'Gx)))/\W=w':=λW=>by
      have:=zdq ((s[k]'Gx).toNat :Int) W;rw[zms]at this;exact this
     have Vx:∀W,Calls Tryz.prog 171 #[.int .u8 (s[k]'Gx).toNat] W λe w'=>e= .returned (.bool (zbz (s[k]'Gx)))/\W=w':=λW=>by
      have:=zhF ((s[k]'Gx).toNat :Int) W;rw[zmt]at this;exact this
     cases hx:zea (s[k]'Gx)
     ·rw[hx]at Us;cases hy:zbz (s[k]'Gx)
      ·rw[hy]at Vx;have LP:runB isWd s.data.toList=k:=zco hb (by unfold isWd;rw[hx,hy];rfl) jk;have hf:q=false:=by rw[HQ.out,LP];simp;omega
       have HF:=hdq hf;have X0:=hdq Us;have SW:=hdq Vx;clear Us Vx hb hx hy LP hf;go_wp2_with fail;refine(X0 _).mono ?_;rintro _ w2 ⟨rfl,rfl⟩;go_wp2_with fail;refine(SW _).mono ?_;rintro _ w2 ⟨rfl,rfl⟩;go_wp2_with fail;go_ret;exact⟨by rw[HF.out];rfl,Hu.out⟩
      ·rw[hy]at Vx;have hn:k+1<=runB isWd s.data.toList:=zdm hb (by unfold isWd;rw[hy];simp) jk;have HX:=hdq hn;have X0:=hdq Us;have SW:=hdq Vx;clear Us Vx hb hx hy hn;go_wp2_with fail;refine(X0 _).mono ?_;rintro _ w2 ⟨rfl,rfl⟩;go_wp2_with fail;refine(SW _).mono ?_;rintro _ w2 ⟨rfl,rfl⟩;go_wp2_with fail;go_round;case rel=>exact⟨k+1,HX.out,by simp⟩
       case measure=>simp[intOf];omega
     ·rw[hx]at Us;have hn:k+1<=runB isWd s.data.toList:=zdm hb (by unfold isWd;rw[hx];simp) jk;have HX:=hdq hn;have X0:=hdq Us;clear Us Vx hb hx hn;go_wp2_with fail;refine(X0 _).mono ?_;rintro _ w2 ⟨rfl,rfl⟩;go_wp2_with fail;go_round;case rel=>exact⟨k+1,HX.out,by simp⟩
      case measure=>simp[intOf];omega
    ·have hf:q=true:=by rw[HQ.out];simp;omega
     have HF:=hdq hf;clear hf;go_wp2_with fail;go_ret;exact⟨by rw[HF.out];rfl,Hu.out⟩
  ·have hf:q=false:=by rw[hq,hk];simp
   rw[hk]at hK;have HL:=hdq hL;have HK:=hdq hK;have HF:=hdq hf;clear hL hK hq hf F0 hl Fa;go_enter Tryz.func106,Tryz.ntmps106;go_wp2_with fail;refine(HL _).mono ?_;rintro _ w1 ⟨rfl,rfl⟩;go_wp2_with fail;refine(HK _).mono ?_;rintro _ w1 ⟨rfl,Gi⟩;have Hu:=hdq Gi;clear Gi;go_wp2_with fail;go_ret;exact⟨by rw[HF.out];rfl,Hu.out⟩
